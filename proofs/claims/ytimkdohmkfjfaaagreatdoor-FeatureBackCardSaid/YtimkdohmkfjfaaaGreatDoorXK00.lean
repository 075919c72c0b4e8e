/- Parts of the proof: ECore. No condition. -/
import Derived.Calls
import Derived.Tactics
import Derived.Below
namespace Go.Eng
set_option linter.unusedVariables false
set_option linter.unusedSimpArgs false
inductive Ty where
 | int (k:IntKind) | bool | str | nil | cons (a b:Ty) | sl (t:Ty)
 deriving DecidableEq
@[reducible] def Ty.den:Ty->Type
  | .int _=>Int
  | .bool=>Bool
  | .str=>List Int
  | .nil=>Unit
  | .cons a b=>a.den × b.den
  | .sl t=>List t.den
def Ty.dflt:(t:Ty)->t.den
 | .int _=>(0:Int)
 | .bool=>false
 | .str=>([]:List Int)
 | .nil=>()
 | .cons a b=>(a.dflt,b.dflt)
 | .sl t=>([]:List t.den)
def Ty.size:Ty->Nat
 | .nil=>0
 | .cons a b=>a.size+b.size
 | _=>1
def Ty.plain:Ty->Bool
 | .sl _=>false
 | .cons a b=>match a.plain with | true=>b.plain | false=>false
 | _=>true
inductive AV where
 | undef
 | skp
 | int (k:IntKind) (n:Int)
 | bool (b:Bool)
 | kb (b:Bool)
 | str (l:List Int)
 | nilp
 | nilm
 | nils
 | ptr (id off:Nat)
 | imm (t:Ty) (x:List t.den)
 | iptr (t:Ty) (x:List t.den) (i off:Nat)
 | own (id:Nat)
 | view (id off len:Nat)
 | rptr (id i off:Nat)
 | mapv (id:Nat)
 | bview (id off n:Nat) (t:Ty)
 | agg (l:List AV)
 | fn (f:Nat) (first cap:List AV)
 | tup (l:List AV)
 | yv (l:Nat)
 | fnp (f i:Nat)
 | jsl (id:Nat) (t:Ty) (x:List t.den)
 | jptr (id:Nat) (t:Ty) (x:List t.den) (i off:Nat)
 | ai (k:IntKind)
instance:Inhabited AV:=⟨.undef⟩
def Ty.cells:(t:Ty)->t.den->List AV
 | .int k,n=>[.int k n]
 | .bool,b=>[.bool b]
 | .str,s=>[.str s]
 | .nil,_=>[]
 | .cons a b,x=>a.cells x.1++b.cells x.2
 | .sl t,l=>[.imm t l]
structure CastG (t' t:Ty) (x:List t'.den) (K:List t.den->Prop) (r:Prop):Prop where
 go:∀ h:t'=t,K (h ▸ x)->r
def J6_ (t' t:Ty) (x:List t'.den) (K:List t.den->Prop):Prop:=∀ r:Prop,CastG t' t x K r->r
theorem za_ {t:Ty} {x:List t.den} {K:List t.den->Prop} {r:Prop} (h:CastG t t x K r) (k:K x):r:=h.go rfl k
def Ty.ofCells:(t:Ty)->List AV->Option (t.den × List AV)
 | .int k,.int k' n :: r=>match decEq k k' with | isTrue _=>some (n,r) | isFalse _=>none
 | .bool,.bool b :: r=>some (b,r)
 | .bool,.kb b :: r=>some (b,r)
 | .str,.str s :: r=>some (s,r)
 | .nil,r=>some ((),r)
 | .cons a b,l=>
   match a.ofCells l with
   | some (x,r)=>
     match b.ofCells r with
     | some (y,r')=>some ((x,y),r')
     | none=>none
   | none=>none
 | .sl t,.imm t' x :: r=>match decEq t' t with | isTrue h=>some (h ▸ x,r) | isFalse _=>none
 | .sl _,.nils :: r=>some ([],r)
 | _,_=>none
def Ty.ofK:(t:Ty)->List AV->(t.den->List AV->Prop)->Prop
 | .int k,.int k' n :: r,K=>match decEq k k' with | isTrue _=>K n r | isFalse _=>False
 | .bool,.bool b :: r,K=>K b r
 | .bool,.kb b :: r,K=>K b r
 | .str,.str s :: r,K=>K s r
 | .nil,r,K=>K () r
 | .cons a b,l,K=>a.ofK l fun x r=>b.ofK r fun y r=>K (x,y) r
 | .sl t,.imm t' x :: r,K=>J6_ t' t x fun x=>K x r
 | .sl _,.nils :: r,K=>K [] r
 | _,_,_=>False
def Ty.oneQ (t:Ty) (l:List AV) (K:t.den->Prop):Prop:=t.ofK l fun x r=>match r with | []=>K x | _ :: _=>False
def Ty.allK (t:Ty):Nat->List AV->(List t.den->Prop)->Prop
 | 0,[],K=>K []
 | 0,_ :: _,_=>False
 | n+1,l,K=>t.ofK l fun x r=>Ty.allK t n r fun y=>K (x :: y)
def AV.toB:AV->Option Bool
 | .bool b=>some b
 | .kb b=>some b
 | _=>none
def Ve_ (f:Nat) (l c:List AV):Option (List AV):=match l with
 | []=>(match c with
   | [.ptr i o]=>(match o with | 0=>some [.fnp f i] | _+1=>none)
   | _=>none)
 | _ :: _=>none
def AV.flat:AV->Option (List AV)
 | .agg l=>some l
 | .undef=>none
 | .skp=>none
 | .tup _=>none
 | .fn f l c=>Ve_ f l c
 | v=>some [v]
def AV.asFn:AV->AV
 | .fnp f i=>.fn f [] [.ptr i 0]
 | v=>v
inductive Opd where
 | t (i:Nat)
 | c (v:AV)
 | f (i:Nat)
inductive Leaf where
 | int (k:IntKind) | bool | str
 deriving DecidableEq
inductive Obj where
 | dead
 | box (cells:List AV)
 | row (fz:Bool) (t:Ty) (x:List t.den)
 | map (sq:Bool) (kt vt:Ty) (l:List (kt.den × vt.den))
 | iter (s:List Int) (pos:Nat)
 | lrec (r:Go.Loop) (c:Nat)
 | miter (v:AV) (n:Nat) (seen:List Nat)
 | rowp (t:Ty) (x:List t.den) (len cap:Nat)
 | reg (wr kn:Bool)
 | rowm (t:Ty) (x:List t.den) (i:Nat) (L:List AV)
inductive IOp where
 | mov (x:Opd)
 | bin (op:BinOp) (x y:Opd)
 | eqb (neg:Bool) (x y:Opd)
 | eqp (neg:Bool) (x y:Opd)
 | eqn (neg:Bool) (x y:Opd)
 | isnil (neg:Bool) (x:Opd)
 | un (op:UnOp) (x:Opd)
 | conv (k:IntKind) (x:Opd)
 | pick (c x y:Opd)
 | len (x:Opd)
 | slen (x:Opd)
 | minmax (mx:Bool) (x y:Opd)
 | fieldAddr (off:Nat) (a:Opd)
 | indexSl (size:Nat) (a i:Opd)
 | field (n:Option Nat) (off:Nat) (x:Opd)
 | sindex (x i:Opd)
 | build (zero:List AV) (z9_:List (Nat × Nat × Opd))
 | buildAll (tot:Nat) (z9_:List (Nat × Nat × Opd))
 | slice (size:Nat) (x:Opd) (lo hi mx:Option Opd)
 | extract (x:Opd) (i:Nat)
 | nilck (x:Opd)
 | mkfn (f:Nat) (first cap:List Opd)
 | box (zero:List AV)
 | boxv (x:Opd)
 | load (n:Option Nat) (a:Opd)
 | store (n:Nat) (a x:Opd)
 | sliceAll (t:Ty) (n:Nat) (z9_:List (Nat × Nat × Opd))
 | slice0 (t:Ty)
 | mkrow (t:Ty) (bytes:Nat) (zero:t.den) (n c:Opd)
 | append (t:Ty) (bytes:Nat) (x y:Opd)
 | appendz (t:Ty) (bytes:Nat) (zero:t.den) (x n:Opd)
 | s2b (x:Opd)
 | b2s (x:Opd)
 | mkmap (kt vt:Ty)
 | mlen (x:Opd)
 | mget (kt vt:Ty) (zero:vt.den) (ok:Bool) (x k:Opd)
 | mput (kt vt:Ty) (x k v:Opd)
 | call (own:Bool) (f:Opd) (args:List Opd)
 | bad
 | nilrow (t:Ty)
 | rngs (x:Opd)
 | nxts (x:Opd)
 | calln (f:Opd) (args:List Opd)
 | callF (f:Opd) (args:List Opd)
 | callL (f:Opd) (args:List Opd)
 | appendJ (t:Ty) (bytes:Nat) (x y:Opd)
structure IOper where
 dst:Option Nat
 op:IOp
 guard:Option (Nat × Bool)
inductive IR where
 | skip
 | reg (ops:List IOper)
 | regD (ops:List (IOper × List Nat))
 | seq (a b:IR)
 | cond (c:Opd) (a b:IR)
 | block (id:Nat) (a:IR)
 | loop (a:IR)
 | cut (a:IR)
 | keep (l:List Nat) (a:IR)
 | exit (id:Nat)
 | ret
 | scope (a:IR)
 | rng (f:Nat) (ps lv:List Nat) (g:Nat) (asg body gir:IR)
 | yld (pre:List IOper) (d:Option Nat) (y:Opd) (args:List Opd) (lv:List Nat) (suf:List IOper)
abbrev kr (l:List Nat) (o:List IOper):IR:=.keep l (.reg o)
abbrev kd (l:List Nat) (o:List (IOper × List Nat)):IR:=.keep l (.regD o)
abbrev sq (a b:IR):IR:=.seq a b
instance instT (n:Nat):OfNat Opd n:=⟨.t n⟩
abbrev oM (d s:Nat):IOper:=⟨some d,.mov (.t s),none⟩
abbrev oD (d:Nat) (o:IOp):IOper:=⟨some d,o,none⟩
abbrev oN (o:IOp):IOper:=⟨none,o,none⟩
abbrev oT (g d:Nat) (o:IOp):IOper:=⟨some d,o,some (g,true)⟩
abbrev oF (g d:Nat) (o:IOp):IOper:=⟨some d,o,some (g,false)⟩
abbrev oL (d s:Nat):IOper:=⟨some d,.load none (.t s),none⟩
abbrev oA (d f s:Nat):IOper:=⟨some d,.fieldAddr f (.t s),none⟩
abbrev oB (d:Nat) (o:BinOp) (x y:Opd):IOper:=⟨some d,.bin o x y,none⟩
abbrev oC (d f:Nat) (l:List Opd):IOper:=⟨some d,.call false (.f f) l,none⟩
abbrev oX (d s i:Nat):IOper:=⟨some d,.extract (.t s) i,none⟩
abbrev oP (d c:Nat) (x y:Opd):IOper:=⟨some d,.pick (.t c) x y,none⟩
abbrev oK (d n s:Nat):IOper:=⟨some d,.load (some n) (.t s),none⟩
abbrev oS (n a x:Nat):IOper:=⟨none,.store n (.t a) (.t x),none⟩
abbrev oI (d n a i:Nat):IOper:=⟨some d,.indexSl n (.t a) (.t i),none⟩
abbrev oE (d s:Nat):IOper:=⟨some d,.len (.t s),none⟩
abbrev cI (n:Int):Opd:=.c (.int .i64 n)
abbrev cF:Opd:=.c (.kb false)
abbrev cT:Opd:=.c (.kb true)
abbrev zd_:=List (Nat × AV)
abbrev zc_:=List (Nat × Obj)
def zd_.get:zd_->Nat->AV
 | [],_=>.undef
 | (j,v) :: r,i=>match Nat.beq j i with | true=>v | false=>zd_.get r i
def zc_.get:zc_->Nat->Option Obj
 | [],_=>none
 | (j,v) :: r,i=>match Nat.beq j i with | true=>some v | false=>zc_.get r i
def zc_.set:zc_->Nat->Obj->zc_
 | [],i,o=>[(i,o)]
 | (j,v) :: r,i,o=>match Nat.beq j i with | true=>(j,o) :: r | false=>(j,v) :: zc_.set r i o
def zc_.setK:zc_->Nat->Obj->(zc_->Prop)->Prop
 | [],i,o,K=>K [(i,o)]
 | (j,v) :: r,i,o,K=>match Nat.beq j i with | true=>K ((j,o) :: r) | false=>zc_.setK r i o fun r=>K ((j,v) :: r)
theorem zc_.setK_eq:∀ (st:zc_) (i:Nat) (o:Obj) (K:zc_->Prop),st.setK i o K=K (st.set i o)
 | [],_,_,_=>rfl
 | (j,v) :: r,i,o,K=>by
   unfold zc_.setK zc_.set
   cases Nat.beq j i with
   | true=>rfl
   | false=>exact zc_.setK_eq r i o _
def Opd.ev (fr:zd_):Opd->AV
 | .t i=>fr.get i
 | .c v=>v
 | .f i=>.fn i [] []
def X0_ (j:Nat):List AV->List AV
 | []=>[]
 | v :: r=>(match v with | .imm t x=>.jsl j t x | v=>v) :: X0_ j r
def loJL (j:Nat):List AV->List AV
 | []=>[]
 | v :: r=>(match v with | .imm t x=>.jsl j t x | .int k _=>.ai k | _=>.undef) :: loJL j r
def Ws_:AV->(AV->Prop)->Prop
 | .undef,K=>K .undef
 | .skp,K=>K .skp
 | .int k n,K=>K (.int k n)
 | .bool b,K=>K (.bool b)
 | .kb b,K=>K (.kb b)
 | .str l,K=>K (.str l)
 | .nilp,K=>K .nilp
 | .nilm,K=>K .nilm
 | .nils,K=>K .nils
 | .ptr i o,K=>K (.ptr i o)
 | .imm t x,K=>K (.imm t x)
 | .iptr t x i o,K=>K (.iptr t x i o)
 | .own i,K=>K (.own i)
 | .view i o n,K=>K (.view i o n)
 | .rptr i j o,K=>K (.rptr i j o)
 | .mapv i,K=>K (.mapv i)
 | .bview i o n t,K=>K (.bview i o n t)
 | .agg l,K=>K (.agg l)
 | .fn f l c,K=>K (.fn f l c)
 | .tup l,K=>K (.tup l)
 | .yv l,K=>K (.yv l)
 | .fnp f i,K=>K (.fnp f i)
 | .jsl i t x,K=>K (.jsl i t x)
 | .jptr i t x j o,K=>K (.jptr i t x j o)
 | .ai k,K=>K (.ai k)
def Z1_:List AV->(List AV->Prop)->Prop
 | [],K=>K []
 | v :: r,K=>Ws_ v fun v=>Z1_ r fun r=>K (v :: r)
def hM_ (v:AV) (K:AV->Prop):Prop:=match v with
 | .agg l=>Z1_ l fun l=>K (.agg l)
 | v=>Ws_ v K
def jA_:List AV->(List AV->Prop)->Prop
 | [],K=>K []
 | v :: r,K=>hM_ v fun v=>jA_ r fun r=>K (v :: r)
def Wt_ (v:AV) (K:AV->Prop):Prop:=match v with
 | .agg l=>Z1_ l fun l=>K (.agg l)
 | .fn f l c=>jA_ l fun l=>jA_ c fun c=>K (.fn f l c)
 | .tup l=>jA_ l fun l=>K (.tup l)
 | v=>Ws_ v K
theorem yM_ (v:AV) (K:AV->Prop):Ws_ v K=K v:=by cases v<;>rfl
theorem ZG_:∀ (l:List AV) (K:List AV->Prop),Z1_ l K=K l
 | [],_=>rfl
 | v :: r,K=>by unfold Z1_;rw [yM_];exact ZG_ r _
theorem uB_ (v:AV) (K:AV->Prop):hM_ v K=K v:=by
 cases v<;>first | rfl | exact ZG_ _ _
theorem JU_:∀ (l:List AV) (K:List AV->Prop),jA_ l K=K l
 | [],_=>rfl
 | v :: r,K=>by unfold jA_;rw [uB_];exact JU_ r _
theorem Jb_ (v:AV) (K:AV->Prop):Wt_ v K=K v:=by
 cases v with
 | agg l=>exact ZG_ _ _
 | tup l=>exact JU_ _ _
 | fn f l c=>unfold Wt_;simp only [JU_]
 | _=>rfl
def VZ_ (n:Nat) (K:Nat->Prop):Prop:=match Nat.ble 64 n with
 | true=>K n
 | false=>match Nat.ble 32 n with | true=>(match Nat.ble 48 n with | true=>(match Nat.ble 56 n with | true=>(match Nat.ble 60 n with | true=>(match Nat.ble 62 n with | true=>(match Nat.ble 63 n with | true=>(K 63) | false=>(K 62)) | false=>(match Nat.ble 61 n with | true=>(K 61) | false=>(K 60))) | false=>(match Nat.ble 58 n with | true=>(match Nat.ble 59 n with | true=>(K 59) | false=>(K 58)) | false=>(match Nat.ble 57 n with | true=>(K 57) | false=>(K 56)))) | false=>(match Nat.ble 52 n with | true=>(match Nat.ble 54 n with | true=>(match Nat.ble 55 n with | true=>(K 55) | false=>(K 54)) | false=>(match Nat.ble 53 n with | true=>(K 53) | false=>(K 52))) | false=>(match Nat.ble 50 n with | true=>(match Nat.ble 51 n with | true=>(K 51) | false=>(K 50)) | false=>(match Nat.ble 49 n with | true=>(K 49) | false=>(K 48))))) | false=>(match Nat.ble 40 n with | true=>(match Nat.ble 44 n with | true=>(match Nat.ble 46 n with | true=>(match Nat.ble 47 n with | true=>(K 47) | false=>(K 46)) | false=>(match Nat.ble 45 n with | true=>(K 45) | false=>(K 44))) | false=>(match Nat.ble 42 n with | true=>(match Nat.ble 43 n with | true=>(K 43) | false=>(K 42)) | false=>(match Nat.ble 41 n with | true=>(K 41) | false=>(K 40)))) | false=>(match Nat.ble 36 n with | true=>(match Nat.ble 38 n with | true=>(match Nat.ble 39 n with | true=>(K 39) | false=>(K 38)) | false=>(match Nat.ble 37 n with | true=>(K 37) | false=>(K 36))) | false=>(match Nat.ble 34 n with | true=>(match Nat.ble 35 n with | true=>(K 35) | false=>(K 34)) | false=>(match Nat.ble 33 n with | true=>(K 33) | false=>(K 32)))))) | false=>(match Nat.ble 16 n with | true=>(match Nat.ble 24 n with | true=>(match Nat.ble 28 n with | true=>(match Nat.ble 30 n with | true=>(match Nat.ble 31 n with | true=>(K 31) | false=>(K 30)) | false=>(match Nat.ble 29 n with | true=>(K 29) | false=>(K 28))) | false=>(match Nat.ble 26 n with | true=>(match Nat.ble 27 n with | true=>(K 27) | false=>(K 26)) | false=>(match Nat.ble 25 n with | true=>(K 25) | false=>(K 24)))) | false=>(match Nat.ble 20 n with | true=>(match Nat.ble 22 n with | true=>(match Nat.ble 23 n with | true=>(K 23) | false=>(K 22)) | false=>(match Nat.ble 21 n with | true=>(K 21) | false=>(K 20))) | false=>(match Nat.ble 18 n with | true=>(match Nat.ble 19 n with | true=>(K 19) | false=>(K 18)) | false=>(match Nat.ble 17 n with | true=>(K 17) | false=>(K 16))))) | false=>(match Nat.ble 8 n with | true=>(match Nat.ble 12 n with | true=>(match Nat.ble 14 n with | true=>(match Nat.ble 15 n with | true=>(K 15) | false=>(K 14)) | false=>(match Nat.ble 13 n with | true=>(K 13) | false=>(K 12))) | false=>(match Nat.ble 10 n with | true=>(match Nat.ble 11 n with | true=>(K 11) | false=>(K 10)) | false=>(match Nat.ble 9 n with | true=>(K 9) | false=>(K 8)))) | false=>(match Nat.ble 4 n with | true=>(match Nat.ble 6 n with | true=>(match Nat.ble 7 n with | true=>(K 7) | false=>(K 6)) | false=>(match Nat.ble 5 n with | true=>(K 5) | false=>(K 4))) | false=>(match Nat.ble 2 n with | true=>(match Nat.ble 3 n with | true=>(K 3) | false=>(K 2)) | false=>(match Nat.ble 1 n with | true=>(K 1) | false=>(K 0))))))
theorem WR_ (n:Nat) (K:Nat->Prop):VZ_ n K=K n:=by
 by_cases h:64<=n
 ·unfold VZ_;rw [Nat.ble_eq_true_of_le h]
 ·have:n=0\/n=1\/n=2\/n=3\/n=4\/n=5\/n=6\/n=7\/n=8\/n=9\/n=10\/n=11\/n=12\/n=13\/n=14\/n=15\/n=16\/n=17\/n=18\/n=19\/n=20\/n=21\/n=22\/n=23\/n=24\/n=25\/n=26\/n=27\/n=28\/n=29\/n=30\/n=31\/n=32\/n=33\/n=34\/n=35\/n=36\/n=37\/n=38\/n=39\/n=40\/n=41\/n=42\/n=43\/n=44\/n=45\/n=46\/n=47\/n=48\/n=49\/n=50\/n=51\/n=52\/n=53\/n=54\/n=55\/n=56\/n=57\/n=58\/n=59\/n=60\/n=61\/n=62\/n=63:=by omega
  rcases this with rfl | rfl | rfl | rfl | rfl | rfl | rfl | rfl | rfl | rfl | rfl | rfl | rfl | rfl | rfl | rfl | rfl | rfl | rfl | rfl | rfl | rfl | rfl | rfl | rfl | rfl | rfl | rfl | rfl | rfl | rfl | rfl | rfl | rfl | rfl | rfl | rfl | rfl | rfl | rfl | rfl | rfl | rfl | rfl | rfl | rfl | rfl | rfl | rfl | rfl | rfl | rfl | rfl | rfl | rfl | rfl | rfl | rfl | rfl | rfl | rfl | rfl | rfl | rfl<;>rfl
def nrm0 (v:AV) (K:AV->Prop):Prop:=match v with
 | .kb b=>K (.bool b)
 | v=>Ws_ v K
def us_:List AV->(List AV->Prop)->Prop
 | [],K=>K []
 | v :: r,K=>nrm0 v fun v=>us_ r fun r=>K (v :: r)
def nrm1 (v:AV) (K:AV->Prop):Prop:=match v with
 | .agg l=>us_ l fun l=>K (.agg l)
 | v=>nrm0 v K
def gV_:List AV->(List AV->Prop)->Prop
 | [],K=>K []
 | v :: r,K=>nrm1 v fun v=>gV_ r fun r=>K (v :: r)
def BW_ (v:AV) (K:AV->Prop):Prop:=match v with
 | .agg l=>us_ l fun l=>K (.agg l)
 | .fn f l c=>gV_ l fun l=>gV_ c fun c=>K (.fn f l c)
 | .undef=>False
 | .skp=>False
 | .tup _=>False
 | v=>nrm0 v K
def Xr_:List AV->(List AV->Prop)->Prop
 | [],K=>K []
 | v :: r,K=>BW_ v fun v=>Xr_ r fun r=>K (v :: r)
def cnd (b:Bool) (x y:Prop):Prop:=∀ t:Bool,b=t->match t with | true=>x | false=>y
theorem QT_ {b:Bool} {x y:Prop} (h:cnd b x y):(b=true/\x)\/(b=false/\y):=by
 have:=h b rfl
 cases b with
 | true=>exact .inl ⟨rfl,this⟩
 | false=>exact .inr ⟨rfl,this⟩
def need (p q:Prop):Prop:=∀ r:Prop,(p->q->r)->r
theorem kV_ {p q:Prop} (h:p) (h':p->q):need p q:=fun _ k=>k h (h' h)
theorem zj_ {p q:Prop} (h:need p q):p/\q:=h _ fun a b=>⟨a,b⟩
def ari (k:IntKind) (n:Int) (K:Int->Prop):Prop:=∀ r:Prop,((k.min<=n/\n<=k.max->K n->r)/\(K (k.wrap n)->r))->r
def post (p:Prop):Prop:=∀ r:Prop,(p->r)->r
theorem Xp_ {p:Prop} (h:post p):p:=h _ fun a=>a
abbrev Sum:=List AV->List Obj->(AV->List Obj->Prop)->Prop
inductive SumK where
 | ro (S:List AV->List Obj->(AV->Prop)->Prop)
 | rw (S:Sum)
 | nd (S:Sum)
abbrev Env:=List (Nat × SumK)
def Env.get:Env->Nat->Option SumK
 | [],_=>none
 | (j,s) :: r,i=>match Nat.beq j i with | true=>some s | false=>Env.get r i
def kz_ (op:BinOp) (k:IntKind) (a b:Int):Int:=
 let x:=BitVec.ofInt k.bits a
 let y:=BitVec.ofInt k.bits b
 k.wrap (match op with | .and=>(x &&& y).toNat | .or=>(x ||| y).toNat | .xor=>(x ^^^ y).toNat | _=>(x &&& ~~~y).toNat)
def AV.ik:AV->Option IntKind
 | .int k _=>some k
 | .ai k=>some k
 | _=>none
def ky_ (x y:AV) (K:IntKind->Int->Int->Prop):Prop:=match x,y with
 | .int k a,.int k' b=>match decEq k k' with | isTrue _=>K k a b | isFalse _=>False
 | _,_=>False
def kh_ (op:BinOp) (x y:AV) (K:AV->Prop):Prop:=
 match op with
 | .shl=>match x,y with
   | .int k a,.int _ b=>need (0<=b) (ari k (a*2 ^ (min b.toNat k.bits)) fun n=>K (.int k n))
   | _,_=>False
 | .shr=>match x,y with
   | .int k a,.int _ b=>need (0<=b) (K (.int k (a.fdiv (2 ^ (min b.toNat k.bits)))))
   | _,_=>False
 | .add=>match x,y with
   | .str a,.str b=>need (a.length+b.length<=140737488355328) (K (.str (a++b)))
   | .ai k,.int k' _=>match decEq k k' with | isTrue _=>K (.ai k) | isFalse _=>False
   | x,y=>ky_ x y fun k a b=>ari k (a+b) fun n=>K (.int k n)
 | .sub=>ky_ x y fun k a b=>ari k (a - b) fun n=>K (.int k n)
 | .mul=>ky_ x y fun k a b=>ari k (a*b) fun n=>K (.int k n)
 | .quo=>ky_ x y fun k a b=>need (b ≠ 0) (ari k (a.tdiv b) fun n=>K (.int k n))
 | .rem=>ky_ x y fun k a b=>need (b ≠ 0) (K (.int k (a.tmod b)))
 | .and=>ky_ x y fun k a b=>K (.int k (kz_ .and k a b))
 | .or=>ky_ x y fun k a b=>K (.int k (kz_ .or k a b))
 | .xor=>ky_ x y fun k a b=>K (.int k (kz_ .xor k a b))
 | .andNot=>ky_ x y fun k a b=>K (.int k (kz_ .andNot k a b))
 | .eql=>match x,y with
   | .str a,.str b=>K (.bool (decide (a=b)))
   | x,y=>ky_ x y fun _ a b=>K (.bool (decide (a=b)))
 | .neq=>match x,y with
   | .str a,.str b=>K (.bool (!decide (a=b)))
   | x,y=>ky_ x y fun _ a b=>K (.bool (!decide (a=b)))
 | .lss=>ky_ x y fun _ a b=>K (.bool (decide (a < b)))
 | .leq=>ky_ x y fun _ a b=>K (.bool (decide (a<=b)))
 | .gtr=>ky_ x y fun _ a b=>K (.bool (decide (b < a)))
 | .geq=>ky_ x y fun _ a b=>K (.bool (decide (b<=a)))
def eqpK (neg:Bool) (x y:AV) (K:AV->Prop):Prop:=
 match x,y with
 | .nilp,.nilp=>K (.kb (!neg))
 | .ptr _ _,.nilp=>K (.kb neg)
 | .nilp,.ptr _ _=>K (.kb neg)
 | _,_=>False
def evUn (op:UnOp) (x:AV) (K:AV->Prop):Prop:=
 match op,x with
 | .not,.bool b=>K (.bool (!b))
 | .not,.kb b=>K (.kb (match b with | true=>false | false=>true))
 | .neg,.int k n=>ari k (0 - n) fun n=>K (.int k n)
 | .xor,.int k n=>K (.int k (kz_ .xor k (if k.signed then -1 else k.max) n))
 | _,_=>False
def cut (n:Option Nat) (off:Nat) (l:List AV) (K:AV->Prop):Prop:=
 match n with
 | none=>match l.drop off with | v :: _=>Ws_ v K | []=>False
 | some n=>match decide (off+n<=l.length) with | true=>Z1_ ((l.drop off).take n) fun l=>K (.agg l) | false=>False
def put (l:List AV) (off:Nat) (cs:List AV):List AV:=
 match off,l,cs with
 | _,l,[]=>l
 | 0,_ :: l,c :: cs=>c :: put l 0 cs
 | 0,[],_=>[]
 | _+1,[],_=>[]
 | o+1,x :: l,cs=>x :: put l o cs
def fill (fr:zd_):List AV->List (Nat × Nat × Opd)->Option (List AV)
 | l,[]=>some l
 | l,(off,size,x) :: r=>match (x.ev fr).flat with
   | some c=>match decide (c.length=size) && decide (off+size<=l.length) with
     | true=>fill fr (put l off c) r
     | false=>none
   | none=>none
def zad_:List AV->Nat->Bool
 | [],0=>true
 | _ :: r,n+1=>zad_ r n
 | _,_=>false
def U0_ (fr:zd_) (tot:Nat):Nat->List (Nat × Nat × Opd)->(List AV->Prop)->Prop
 | off,[],K=>match Nat.beq off tot with | true=>K [] | false=>False
 | off,(o,size,x) :: r,K=>match Nat.beq o off with
   | true=>match (x.ev fr).flat with
     | some c=>match zad_ c size with
       | true=>Z1_ c fun c=>U0_ fr tot (o+size) r fun l=>Z1_ (c++l) K
       | false=>False
     | none=>False
   | false=>False
def Ty.all (t:Ty):Nat->List AV->Option (List t.den)
 | 0,[]=>some []
 | 0,_=>none
 | n+1,l=>
   match t.ofCells l with
   | some (x,r)=>match Ty.all t n r with | some y=>some (x :: y) | none=>none
   | none=>none
def xP_ (off n:Nat) (t:Ty) (l:List AV) (K:List t.den->Prop):Prop:=match Nat.ble (off+n*t.size) l.length with
 | true=>t.allK n ((l.drop off).take (n*t.size)) K
 | false=>False
def Yg_ (t:Ty) (st:zc_) (v:AV) (K:List t.den->Prop):Prop:=
 match v with
 | .nils=>K []
 | .imm t' x=>J6_ t' t x K
 | .own i=>match st.get i with
   | some (.row _ t' x)=>J6_ t' t x K
   | _=>False
 | .view i off n=>match st.get i with
   | some (.row _ t' x)=>J6_ t' t x fun x=>need (off+n<=x.length) (K ((x.drop off).take n))
   | _=>False
 | .bview i off n t'=>match st.get i with
   | some (.box l)=>xP_ off n t' l fun x=>J6_ t' t x K
   | _=>False
 | .jsl i t' x=>match st.get i with
   | some (.reg _ kn)=>match kn with
     | true=>match t'.plain with | true=>J6_ t' t x K | false=>False
     | false=>False
   | _=>False
 | _=>False
def bK_ (st:zc_) (v:AV) (K:AV->zc_->Prop):Prop:=
 match v with
 | .own i=>match st.get i with
   | some (.row fz t x)=>match fz with | true=>K (.imm t x) st | false=>st.setK i (.row true t x) fun st=>K (.imm t x) st
   | some (.rowm _ _ _ _)=>K (.own i) st
   | _=>False
 | .view i off n=>match st.get i with
   | some (.row fz t x)=>need (off+n<=x.length) (match fz with | true=>K (.imm t ((x.drop off).take n)) st | false=>st.setK i (.row true t x) fun st=>K (.imm t ((x.drop off).take n)) st)
   | _=>False
 | v=>K v st
def v9_ (st:zc_):List AV->(List AV->zc_->Prop)->Prop
 | [],K=>K [] st
 | v :: r,K=>bK_ st v fun v st=>v9_ st r fun r st=>K (v :: r) st
def gs_ (st:zc_):List AV->Bool
 | []=>true
 | v :: r=>match v with
   | .imm _ _=>gs_ st r
   | .int _ _=>gs_ st r
   | .bool _=>gs_ st r
   | .str _=>gs_ st r
   | .own i=>match st.get i with | some (.row _ _ _)=>gs_ st r | _=>false
   | _=>false
def frz1 (st:zc_) (v:AV) (K:AV->zc_->Prop):Prop:=
 match v with
 | .agg l=>v9_ st l fun l st=>K (.agg l) st
 | v=>bK_ st v K
def Xt_ (v:AV) (K:Int->Prop):Prop:=match v with | .int _ n=>K n | _=>False
def gI_ (d:Int) (o:Option Opd) (fr:zd_) (K:Int->Prop):Prop:=match o with | none=>K d | some o=>Xt_ (o.ev fr) K
def Ty.one (t:Ty) (l:List AV):Option t.den:=match t.ofCells l with | some (x,[])=>some x | _=>none
def oneK (t:Ty) (v:AV) (K:t.den->Prop):Prop:=match v.flat with
 | some l=>t.oneQ l K
 | none=>False
def b2_:Ty->Bool | .nil=>true | .cons _ _=>true | _=>false
def AV.isAgg:AV->Bool | .agg _=>true | _=>false
def b5_ (t:Ty) (v:AV) (K:t.den->Prop):Prop:=match (match b2_ t with | true=>v.isAgg | false=>(match v.isAgg with | true=>false | false=>true)) with
 | true=>oneK t v K
 | false=>False
instance Ty.deq:(t:Ty)->DecidableEq t.den
 | .int _=>inferInstanceAs (DecidableEq Int)
 | .bool=>inferInstanceAs (DecidableEq Bool)
 | .str=>inferInstanceAs (DecidableEq (List Int))
 | .nil=>inferInstanceAs (DecidableEq Unit)
 | .cons a b=>have:=Ty.deq a;have:=Ty.deq b;inferInstanceAs (DecidableEq (a.den × b.den))
 | .sl t=>have:=Ty.deq t;inferInstanceAs (DecidableEq (List t.den))
section maps
variable {α β:Type} [DecidableEq α]
def zx_ (l:List (α × β)) (k:α):Option β:=match l with
 | []=>none
 | (a,b) :: r=>if a=k then some b else zx_ r k
def QJ_ (l:List (α × β)) (k:α) (v:β):List (α × β):=match l with
 | []=>[(k,v)]
 | (a,b) :: r=>if a=k then (k,v) :: r else (a,b) :: QJ_ r k v
def ZB_ (l:List (α × β)) (k:α):Nat:=match l with
 | []=>0
 | (a,_) :: r=>if a=k then 0 else ZB_ r k+1
end maps
def za9_ (t:Ty) (x:t.den) (K:AV->Prop):Prop:=match t with
 | .nil=>Z1_ (Ty.cells .nil x) fun l=>K (.agg l)
 | .cons a b=>Z1_ (Ty.cells (.cons a b) x) fun l=>K (.agg l)
 | t=>match t.cells x with | v :: _=>Ws_ v K | []=>False
def v4_ (i:Nat):List Nat->Nat->Option Nat
 | [],_=>none
 | j :: r,n=>match Nat.beq j i with | true=>some n | false=>v4_ i r (n+1)
def wz_ (i:Nat) (ρ:List Nat) (K:Nat->List Nat->Prop):Prop:=match v4_ i ρ 0 with
 | some j=>K j ρ
 | none=>K ρ.length (ρ++[i])
def can0 (v:AV) (ρ:List Nat) (K:AV->List Nat->Prop):Prop:=match v with
 | .ptr i o=>wz_ i ρ fun j ρ=>K (.ptr j o) ρ
 | .own i=>wz_ i ρ fun j ρ=>K (.own j) ρ
 | .view i o n=>wz_ i ρ fun j ρ=>K (.view j o n) ρ
 | .rptr i k o=>wz_ i ρ fun j ρ=>K (.rptr j k o) ρ
 | .mapv i=>wz_ i ρ fun j ρ=>K (.mapv j) ρ
 | .fnp f i=>wz_ i ρ fun j ρ=>K (.fnp f j) ρ
 | .bview i o n t=>wz_ i ρ fun j ρ=>K (.bview j o n t) ρ
 | .jsl i t x=>wz_ i ρ fun j ρ=>K (.jsl j t x) ρ
 | .jptr i t x k o=>wz_ i ρ fun j ρ=>K (.jptr j t x k o) ρ
 | v=>K v ρ
def Yi_:List AV->List Nat->(List AV->List Nat->Prop)->Prop
 | [],ρ,K=>K [] ρ
 | v :: r,ρ,K=>can0 v ρ fun v ρ=>Yi_ r ρ fun r ρ=>K (v :: r) ρ
def bT_ (v:AV) (ρ:List Nat) (K:AV->List Nat->Prop):Prop:=match v with
 | .agg l=>Yi_ l ρ fun l ρ=>K (.agg l) ρ
 | v=>can0 v ρ K
def Yh_:List AV->List Nat->(List AV->List Nat->Prop)->Prop
 | [],ρ,K=>K [] ρ
 | v :: r,ρ,K=>bT_ v ρ fun v ρ=>Yh_ r ρ fun r ρ=>K (v :: r) ρ
def hV_ (v:AV) (ρ:List Nat) (K:AV->List Nat->Prop):Prop:=match v with
 | .fn f l c=>Yh_ l ρ fun l ρ=>Yh_ c ρ fun c ρ=>K (.fn f l c) ρ
 | .tup l=>Yh_ l ρ fun l ρ=>K (.tup l) ρ
 | v=>bT_ v ρ K
def XL_:List AV->List Nat->(List AV->List Nat->Prop)->Prop
 | [],ρ,K=>K [] ρ
 | v :: r,ρ,K=>hV_ v ρ fun v ρ=>XL_ r ρ fun r ρ=>K (v :: r) ρ
def Ww_ (o:Obj) (ρ:List Nat) (K:Obj->List Nat->Prop):Prop:=match o with
 | .box l=>us_ l fun l=>Yi_ l ρ fun l ρ=>K (.box l) ρ
 | .row fz t x=>K (.row fz t x) ρ
 | .map q kt vt l=>K (.map q kt vt l) ρ
 | .dead=>K .dead ρ
 | .iter s p=>K (.iter s p) ρ
 | .lrec r c=>K (.lrec r c) ρ
 | .miter v n s=>can0 v ρ fun v ρ=>K (.miter v n s) ρ
 | .rowp t x l c=>K (.rowp t x l c) ρ
 | .reg wr kn=>K (.reg wr kn) ρ
 | .rowm t x i L=>Yi_ L ρ fun L ρ=>K (.rowm t x i L) ρ
def KH_ (st:zc_):Nat->Nat->List Nat->(List Obj->List Nat->Prop)->Prop
 | 0,_,_,_=>False
 | n+1,j,ρ,K=>match ρ.drop j with
   | []=>K [] ρ
   | i :: _=>match st.get i with
     | some o=>Ww_ o ρ fun o ρ=>KH_ st n (j+1) ρ fun l ρ=>K (o :: l) ρ
     | none=>False
def unI (ρ:List Nat) (nx j:Nat) (K:Nat->Prop):Prop:=match ρ.drop j with | i :: _=>K i | []=>VZ_ (nx+(j - ρ.length)) K
def un0 (ρ:List Nat) (nx:Nat) (v:AV) (K:AV->Prop):Prop:=match v with
 | .ptr i o=>unI ρ nx i fun j=>K (.ptr j o)
 | .own i=>unI ρ nx i fun j=>K (.own j)
 | .view i o n=>unI ρ nx i fun j=>K (.view j o n)
 | .rptr i k o=>unI ρ nx i fun j=>K (.rptr j k o)
 | .mapv i=>unI ρ nx i fun j=>K (.mapv j)
 | .fnp f i=>unI ρ nx i fun j=>K (.fnp f j)
 | .bview i o n t=>unI ρ nx i fun j=>K (.bview j o n t)
 | .jsl i t x=>unI ρ nx i fun j=>K (.jsl j t x)
 | .jptr i t x k o=>unI ρ nx i fun j=>K (.jptr j t x k o)
 | v=>Ws_ v K
def H5_ (ρ:List Nat) (nx:Nat):List AV->(List AV->Prop)->Prop
 | [],K=>K []
 | v :: r,K=>un0 ρ nx v fun v=>H5_ ρ nx r fun r=>K (v :: r)
def un1 (ρ:List Nat) (nx:Nat) (v:AV) (K:AV->Prop):Prop:=match v with
 | .agg l=>H5_ ρ nx l fun l=>K (.agg l)
 | v=>un0 ρ nx v K
def H4_ (ρ:List Nat) (nx:Nat):List AV->(List AV->Prop)->Prop
 | [],K=>K []
 | v :: r,K=>un1 ρ nx v fun v=>H4_ ρ nx r fun r=>K (v :: r)
def un2 (ρ:List Nat) (nx:Nat) (v:AV) (K:AV->Prop):Prop:=match v with
 | .fn f l c=>H4_ ρ nx l fun l=>H4_ ρ nx c fun c=>K (.fn f l c)
 | .tup l=>H4_ ρ nx l fun l=>K (.tup l)
 | v=>un1 ρ nx v K
def gi_ (ρ:List Nat) (nx:Nat) (o:Obj) (K:Obj->Prop):Prop:=match o with
 | .box l=>H5_ ρ nx l fun l=>K (.box l)
 | .row fz t x=>K (.row fz t x)
 | .map q kt vt l=>K (.map q kt vt l)
 | .dead=>K .dead
 | .iter s p=>K (.iter s p)
 | .lrec r c=>K (.lrec r c)
 | .miter v n s=>un0 ρ nx v fun v=>K (.miter v n s)
 | .rowp t x l c=>K (.rowp t x l c)
 | .reg wr kn=>K (.reg wr kn)
 | .rowm t x i L=>H5_ ρ nx L fun L=>K (.rowm t x i L)
def unSt (ρ:List Nat) (nx:Nat):Nat->List Obj->zc_->(zc_->Prop)->Prop
 | _,[],st,K=>K st
 | j,o :: r,st,K=>unI ρ nx j fun i=>gi_ ρ nx o fun o=>st.setK i o fun st=>unSt ρ nx (j+1) r st K
def Kv_ (st:zc_) (v:AV) (js:List Nat) (K:AV->List Nat->Prop):Prop:=match v with
 | .own i=>match st.get i with
   | some (.row _ t x)=>K (.imm t x) (i :: js)
   | _=>False
 | .view i off n=>match st.get i with
   | some (.row _ t x)=>need (off+n<=x.length) (K (.imm t ((x.drop off).take n)) (i :: js))
   | _=>False
 | .bview i off n t=>match st.get i with
   | some (.box l)=>xP_ off n t l fun x=>K (.imm t x) (i :: js)
   | _=>False
 | v=>K v js
def uN_ (st:zc_):List AV->List Nat->(List AV->List Nat->Prop)->Prop
 | [],js,K=>K [] js
 | v :: r,js,K=>Kv_ st v js fun v js=>uN_ st r js fun r js=>K (v :: r) js
def bZ_ (st:zc_) (v:AV) (js:List Nat) (K:AV->List Nat->Prop):Prop:=match v with
 | .agg l=>uN_ st l js fun l js=>K (.agg l) js
 | v=>Kv_ st v js K
def uM_ (st:zc_):List AV->List Nat->(List AV->List Nat->Prop)->Prop
 | [],js,K=>K [] js
 | v :: r,js,K=>bZ_ st v js fun v js=>uM_ st r js fun r js=>K (v :: r) js
def AV.ni0:AV->Bool
 | .imm _ _=>false
 | .iptr _ _ _ _=>false
 | .agg _=>false
 | .fn _ _ _=>false
 | .tup _=>false
 | _=>true
def Kj_ (p:AV->Bool):List AV->Bool
 | []=>true
 | v :: r=>match p v with | true=>Kj_ p r | false=>false
def HG_ (v:AV):Bool:=match v with | .undef=>false | .skp=>false | .tup _=>false | .fn _ _ _=>false | _=>true
def AV.ni1:AV->Bool
 | .agg l=>Kj_ AV.ni0 l
 | v=>v.ni0
def AV.ni:AV->Bool
 | .tup l=>Kj_ AV.ni1 l
 | v=>v.ni1
def Obj.ni:Obj->Bool
 | .box l=>Kj_ AV.ni0 l
 | .row fz t _=>match fz with | true=>false | false=>t.plain
 | .map _ kt vt _=>match kt.plain with | true=>vt.plain | false=>false
 | .dead=>true
 | .iter _ _=>true
 | .lrec _ _=>true
 | .miter v _ _=>v.ni0
 | .rowp t _ _ _=>t.plain
 | .reg _ _=>true
 | .rowm _ _ _ _=>false
def Q7_:List Obj->List Obj->Bool
 | _,[]=>true
 | [],o :: r=>match o with | .reg _ _=>false | _=>Q7_ [] r
 | p :: q,o :: r=>match o with | .reg a _=>(match p with | .reg b _=>(match a,b with | true,true=>Q7_ q r | false,false=>Q7_ q r | _,_=>false) | _=>false) | _=>Q7_ q r
def xg_:List Obj->Bool
 | []=>true
 | o :: r=>match o with | .reg wr _=>(match wr with | true=>false | false=>xg_ r) | _=>xg_ r
def niO:List Obj->Bool
 | []=>true
 | o :: r=>match o.ni with | true=>niO r | false=>false
def V8_ (a b:Bool):Bool:=match a with | true=>b | false=>false
def yL_ (st:zc_):List Nat->(zc_->Prop)->Prop
 | [],K=>K st
 | i :: r,K=>match st.get i with
   | some (.row fz t x)=>match fz with | true=>yL_ st r K | false=>st.setK i (.row true t x) fun st=>yL_ st r K
   | _=>False
def xE_ (i:Nat):List Nat->Bool
 | []=>false
 | j :: r=>match Nat.beq j i with | true=>true | false=>xE_ i r
def XJ_:List Nat->List Nat->Bool
 | [],_=>true
 | i :: r,ρ=>match xE_ i ρ with | true=>false | false=>XJ_ r ρ
def HV_ (ρ js:List Nat) (nx k:Nat) (st:zc_) (v:AV) (objs:List Obj) (K:AV->zc_->Nat->Prop):Prop:=
 match Nat.ble k objs.length with
 | true=>un2 ρ nx v fun v=>unSt ρ nx 0 objs st fun st'=>match js with
   | []=>K v st' (nx+(objs.length - k))
   | _ :: _=>match (V8_ v.ni (niO objs)) with
     | true=>K v st' (nx+(objs.length - k))
     | false=>yL_ st' js fun st'=>K v st' (nx+(objs.length - k))
 | false=>False
def roK (js:List Nat) (nx:Nat) (st:zc_) (v:AV) (objs:List Obj) (K:AV->zc_->Nat->Prop):Prop:=match js with
 | []=>K v st nx
 | _ :: _=>match (V8_ v.ni (niO objs)) with | true=>K v st nx | false=>yL_ st js fun st=>K v st nx
def Vo_ (s:SumK) (args:List AV) (js:List Nat) (st:zc_) (nx:Nat) (K:AV->zc_->Nat->Prop):Prop:=
 XL_ args [] fun args ρ=>KH_ st 1000 0 ρ fun objs ρ=>match V8_ (XJ_ js ρ) (xg_ objs) with
  | true=>match s with
    | .ro S=>S args objs fun v=>un2 ρ nx v fun v=>roK js nx st v objs K
    | .rw S=>S args objs fun v objs'=>match Q7_ objs objs' with
      | true=>HV_ ρ js nx objs.length st v objs' K
      | false=>False
    | .nd _=>False
  | false=>False
def za2_ (S:Sum) (args:List AV) (js:List Nat) (st:zc_) (nx:Nat) (K:AV->zc_->Nat->Prop):Prop:=
 XL_ args [] fun args ρ=>KH_ st 1000 0 ρ fun objs ρ=>match V8_ (XJ_ js ρ) (xg_ objs) with
  | true=>S args objs fun v objs'=>match Q7_ objs objs' with
    | true=>HV_ ρ js nx objs.length st v objs' K
    | false=>False
  | false=>False
def za3_ (s:SumK) (own:Bool) (args:List AV) (st:zc_) (nx:Nat) (K:AV->zc_->Nat->Prop):Prop:=
 match own with
 | true=>Vo_ s args [] st nx K
 | false=>uM_ st args [] fun args js=>Vo_ s args js st nx K
def immB:List AV->Bool
 | []=>true
 | v :: r=>match v with
   | .imm _ _=>immB r
   | .int _ _=>immB r
   | .bool _=>immB r
   | .str _=>immB r
   | _=>false
def zac_ (st:zc_) (v:AV) (K:AV->Prop):Prop:=match v with
 | .jsl i t x=>match st.get i with
   | some (.reg _ kn)=>match kn with | true=>K (.imm t x) | false=>False
   | _=>False
 | .imm t x=>K (.imm t x)
 | .nils=>K .nils
 | .int k n=>K (.int k n)
 | .bool b=>K (.bool b)
 | .kb b=>K (.bool b)
 | .str s=>K (.str s)
 | _=>False
def HF_ (st:zc_):List AV->(List AV->Prop)->Prop
 | [],K=>K []
 | v :: r,K=>zac_ st v fun v=>HF_ st r fun r=>K (v :: r)
def KF_ (s:List Int) (i:Nat):Nat × Nat:=
 let at' (k:Nat):Nat:=(s.getD (i+k) 0).toNat
 let cont (k:Nat):Bool:=i+k < s.length && at' k / 64 == 2
 let b0:=at' 0
 if b0 < 0x80 then (b0,1)
 else if b0 / 32 == 6 && cont 1 then
  let c:=(b0 % 32)*64+at' 1 % 64
  if c >= 0x80 then (c,2) else (Utf8.runeError,1)
 else if b0 / 16 == 14 && cont 1 && cont 2 then
  let c:=(b0 % 16)*4096+(at' 1 % 64)*64+at' 2 % 64
  if c >= 0x800 && Utf8.valid c then (c,3) else (Utf8.runeError,1)
 else if b0 / 8 == 30 && cont 1 && cont 2 && cont 3 then
  let c:=(b0 % 8)*262144+(at' 1 % 64)*4096+(at' 2 % 64)*64+at' 3 % 64
  if c >= 0x10000 && Utf8.valid c then (c,4) else (Utf8.runeError,1)
 else (Utf8.runeError,1)
structure AllC (P Q:Nat->Prop):Prop where
 go:∀ c,P c->Q c
def Ub_ (st:zc_) (i:Nat) (K:zc_->Prop):Prop:=match st.get i with
 | some (.rowm t y k L)=>match L with
   | a :: cs=>match a with
     | .jsl r _ _=>match gs_ st cs with
       | true=>v9_ st cs fun cs st=>t.oneQ cs fun z=>cnd (decide (k+1 < y.length))
          (Z1_ (X0_ r (t.cells (y.getD (k+1) t.dflt))) fun cs'=>st.setK i (.rowm t (y.set k z) (k+1) (.jsl r t [] :: cs')) K)
          (st.setK i (.row false t (y.set k z)) K)
       | false=>K st
     | _=>K st
   | []=>K st
 | _=>K st
def Ua_:List Nat->zc_->(zc_->Prop)->Prop
 | [],st,K=>K st
 | i :: r,st,K=>Ub_ st i fun st=>Ua_ r st K
def zu_ (Γ:Env) (o:IOp) (fr:zd_) (st:zc_) (nx:Nat) (K:AV->zc_->Nat->Prop):Prop:=
 match o with
 | .mov x=>Wt_ (x.ev fr) fun v=>K v st nx
 | .bin op x y=>kh_ op (x.ev fr) (y.ev fr) fun v=>K v st nx
 | .eqb neg x y=>match (x.ev fr).toB,(y.ev fr).toB with
   | some a,some b=>K (.bool (match neg with | true=>!(a == b) | false=>a == b)) st nx
   | _,_=>False
 | .eqp neg x y=>eqpK neg (x.ev fr) (y.ev fr) fun v=>K v st nx
 | .eqn neg x y=>match x.ev fr,y.ev fr with
   | .nilm,.nilm=>K (.kb (!neg)) st nx
   | .mapv _,.nilm=>K (.kb neg) st nx
   | _,_=>False
 | .isnil neg x=>match x.ev fr with
   | .nils=>K (.kb (!neg)) st nx
   | .imm _ l=>∀ b:Bool,(b=true->l=[])->K (.bool (match neg with | true=>!b | false=>b)) st nx
   | .own i=>match st.get i with
     | some (.row _ _ l)=>∀ b:Bool,(b=true->l=[])->K (.bool (match neg with | true=>!b | false=>b)) st nx
     | _=>False
   | .view _ _ n=>∀ b:Bool,(b=true->n=0)->K (.bool (match neg with | true=>!b | false=>b)) st nx
   | .jsl _ _ l=>∀ b:Bool,(b=true->l=[])->K (.bool (match neg with | true=>!b | false=>b)) st nx
   | _=>False
 | .un op x=>evUn op (x.ev fr) fun v=>K v st nx
 | .conv k x=>match x.ev fr with | .int _ n=>ari k n fun n=>K (.int k n) st nx | _=>False
 | .pick c x y=>match c.ev fr with
   | .bool b=>cnd b (Wt_ (x.ev fr) fun v=>K v st nx) (Wt_ (y.ev fr) fun v=>K v st nx)
   | .kb b=>match b with | true=>Wt_ (x.ev fr) fun v=>K v st nx | false=>Wt_ (y.ev fr) fun v=>K v st nx
   | _=>False
 | .len x=>match x.ev fr with
   | .imm _ l=>K (.int .i64 l.length) st nx
   | .nils=>K (.int .i64 0) st nx
   | .own i=>match st.get i with
     | some (.row _ _ l)=>K (.int .i64 l.length) st nx
     | some (.rowm _ l _ _)=>K (.int .i64 l.length) st nx
     | _=>False
   | .view _ _ n=>K (.int .i64 n) st nx
   | .jsl _ _ l=>K (.int .i64 l.length) st nx
   | _=>False
 | .slen x=>match x.ev fr with
   | .str l=>K (.int .i64 l.length) st nx
   | _=>False
 | .minmax mx x y=>ky_ (x.ev fr) (y.ev fr) fun k a b=>K (.int k (match mx with | true=>if b > a then b else a | false=>if b < a then b else a)) st nx
 | .fieldAddr f a=>match a.ev fr with
   | .ptr i off=>K (.ptr i (off+f)) st nx
   | .iptr t x i off=>K (.iptr t x i (off+f)) st nx
   | .rptr j i off=>K (.rptr j i (off+f)) st nx
   | .jptr j t x i off=>K (.jptr j t x i (off+f)) st nx
   | _=>False
 | .indexSl size a i=>match a.ev fr,i.ev fr with
   | .imm t x,.int _ n=>match Nat.beq t.size size with
     | true=>need (0<=n/\n < x.length) (K (.iptr t x n.toNat 0) st nx)
     | false=>False
   | .own j,.int _ n=>match st.get j with
     | some (.row _ t x)=>match Nat.beq t.size size with
       | true=>need (0<=n/\n < x.length) (K (.rptr j n.toNat 0) st nx)
       | false=>False
     | some (.rowm t x _ _)=>match Nat.beq t.size size with
       | true=>need (0<=n/\n < x.length) (K (.rptr j n.toNat 0) st nx)
       | false=>False
     | _=>False
   | .view j off k,.int _ n=>match st.get j with
     | some (.row _ t _)=>match Nat.beq t.size size with
       | true=>need (0<=n/\n < k) (K (.rptr j (off+n.toNat) 0) st nx)
       | false=>False
     | _=>False
   | .jsl j t x,.int _ n=>match Nat.beq t.size size with
     | true=>need (0<=n/\n < x.length) (K (.jptr j t x n.toNat 0) st nx)
     | false=>False
   | _,_=>False
 | .field n off x=>match x.ev fr with | .agg l=>cut n off l fun v=>K v st nx | _=>False
 | .sindex x i=>match x.ev fr,i.ev fr with
   | .str l,.int _ m=>need (0<=m/\m < l.length) (K (.int .u8 (l.getD m.toNat 0)) st nx)
   | _,_=>False
 | .build z ps=>match fill fr z ps with
   | some l=>Z1_ l fun l=>K (.agg l) st nx
   | none=>False
 | .buildAll tot ps=>U0_ fr tot 0 ps fun l=>K (.agg l) st nx
 | .slice size x lo hi mx=>match x.ev fr with
   | .nils=>match lo,hi,mx with
     | none,none,none=>K .nils st nx
     | _,_,_=>False
   | .imm t l=>match Nat.beq t.size size with
     | true=>match mx with
       | some z=>match hi with
         | none=>False
         | some y=>gI_ 0 lo fr fun a=>Xt_ (y.ev fr) fun b=>Xt_ (z.ev fr) fun c=>need (0<=a/\a<=b/\b=c/\b<=l.length) (K (.imm t ((l.take b.toNat).drop a.toNat)) st nx)
       | none=>match lo,hi with
         | none,none=>K (.imm t l) st nx
         | some o,none=>Xt_ (o.ev fr) fun a=>need (0<=a/\a<=l.length) (K (.imm t (l.drop a.toNat)) st nx)
         | none,some o=>Xt_ (o.ev fr) fun b=>need (0<=b/\b<=l.length) (K (.imm t (l.take b.toNat)) st nx)
         | some o,some o'=>Xt_ (o.ev fr) fun a=>Xt_ (o'.ev fr) fun b=>need (0<=a/\a<=b/\b<=l.length) (K (.imm t ((l.take b.toNat).drop a.toNat)) st nx)
     | false=>False
   | .own j=>match st.get j with
     | some (.row _ t l)=>match Nat.beq t.size size with
       | true=>match mx with
         | some z=>match hi with
           | none=>False
           | some y=>gI_ 0 lo fr fun a=>Xt_ (y.ev fr) fun b=>Xt_ (z.ev fr) fun c=>need (0<=a/\a<=b/\b=c/\b<=l.length) (K (.view j a.toNat (b - a).toNat) st nx)
         | none=>match lo,hi with
           | none,none=>K (.own j) st nx
           | lo,hi=>gI_ 0 lo fr fun a=>gI_ l.length hi fr fun b=>need (0<=a/\a<=b/\b<=l.length) (K (.view j a.toNat (b - a).toNat) st nx)
       | false=>False
     | _=>False
   | .view j off n=>match st.get j with
     | some (.row _ t _)=>match Nat.beq t.size size with
       | true=>match mx with
         | some _=>False
         | none=>gI_ 0 lo fr fun a=>gI_ n hi fr fun b=>need (0<=a/\a<=b/\b<=n) (K (.view j (off+a.toNat) (b - a).toNat) st nx)
       | false=>False
     | _=>False
   | _=>False
 | .extract x i=>match x.ev fr with | .tup l=>(match l.drop i with | v :: _=>hM_ v fun v=>K v st nx | []=>False) | _=>False
 | .nilck x=>match x.ev fr with
   | .ptr i o=>K (.ptr i o) st nx
   | .iptr t x i o=>K (.iptr t x i o) st nx
   | .rptr j i o=>K (.rptr j i o) st nx
   | _=>False
 | .mkfn f first cap=>match Kj_ HG_ (first.map (·.ev fr)) && Kj_ HG_ (cap.map (·.ev fr)) with
   | true=>jA_ (first.map (·.ev fr)) fun l=>jA_ (cap.map (·.ev fr)) fun c=>K (.fn f l c) st nx
   | false=>False
 | .box z=>K (.ptr nx 0) ((nx,.box z) :: st) (nx+1)
 | .boxv x=>match (x.ev fr).flat with
   | some c=>Z1_ c fun l=>K (.ptr nx 0) ((nx,.box l) :: st) (nx+1)
   | none=>False
 | .load n a=>match a.ev fr with
   | .ptr i off=>match st.get i with
     | some (.box l)=>cut n off l fun v=>K v st nx
     | _=>False
   | .iptr t x i off=>cut n off (t.cells (x.getD i t.dflt)) fun v=>K v st nx
   | .rptr j i off=>match st.get j with
     | some (.row _ t x)=>need (i < x.length) (cut n off (t.cells (x.getD i t.dflt)) fun v=>K v st nx)
     | some (.rowm t y k L)=>cnd (decide (i=k)) (match L with | _ :: cs=>cut n off cs fun v=>K v st nx | []=>False) (need (i < k) (cut n off (t.cells (y.getD i t.dflt)) fun v=>K v st nx))
     | _=>False
   | .jptr j t x i off=>match st.get j with
     | some (.reg _ kn)=>match kn with
       | true=>cut n off (X0_ j (t.cells (x.getD i t.dflt))) fun v=>K v st nx
       | false=>cut n off (loJL j (t.cells (x.getD i t.dflt))) fun v=>K v st nx
     | _=>False
   | _=>False
 | .store n a x=>match a.ev fr,(x.ev fr).flat with
   | .ptr i off,some c=>match st.get i with
     | some (.box l)=>match Nat.beq c.length n && Nat.ble (off+c.length) l.length with
       | true=>Z1_ (put l off c) fun l=>st.setK i (.box l) fun st=>K .undef st nx
       | false=>False
     | _=>False
   | .rptr j i off,some c=>v9_ st c fun c st=>match st.get j with
     | some (.row false t y)=>match Nat.beq c.length n && Nat.ble (off+c.length) t.size with
       | true=>need (i < y.length) (t.oneQ (put (t.cells (y.getD i t.dflt)) off c) fun z=>st.setK j (.row false t (y.set i z)) fun st=>K .undef st nx)
       | false=>False
     | some (.rowm t y k L)=>match L with
       | a :: cs=>match a with
         | .jsl r _ _=>match Nat.beq c.length n && Nat.ble (off+c.length) t.size with
           | true=>need (i=k) (match immB (put cs off c) with
             | true=>t.oneQ (put cs off c) fun z=>cnd (decide (k+1 < y.length))
                (Z1_ (X0_ r (t.cells (y.getD (k+1) t.dflt))) fun cs'=>st.setK j (.rowm t (y.set k z) (k+1) (.jsl r t [] :: cs')) fun st=>K .undef st nx)
                (st.setK j (.row false t (y.set k z)) fun st=>K .undef st nx)
             | false=>Z1_ (put cs off c) fun cs'=>st.setK j (.rowm t y k (.jsl r t [] :: cs')) fun st=>K .undef st nx)
           | false=>False
         | _=>False
       | []=>False
     | _=>False
   | .jptr j t y i off,some c=>match c with
     | v :: q=>match q with
       | []=>match v.ik with
         | some k=>match (t.cells (y.getD i t.dflt)).drop off with
           | .int k' _ :: _=>match decEq k k' with
             | isTrue _=>match Nat.beq n 1 with
               | true=>match st.get j with
                 | some (.reg wr _)=>match wr with
                   | true=>st.setK j (.reg true false) fun st=>K .undef st nx
                   | false=>False
                 | _=>False
               | false=>False
             | isFalse _=>False
           | _=>False
         | none=>False
       | _ :: _=>False
     | []=>False
   | _,_=>False
 | .sliceAll t n ps=>U0_ fr (n*t.size) 0 ps fun l=>v9_ st l fun l st=>t.allK n l fun x=>K (.imm t x) st nx
 | .slice0 t=>K (.own nx) ((nx,.row false t []) :: st) (nx+1)
 | .mkrow t bytes z n c=>Xt_ (n.ev fr) fun n=>Xt_ (c.ev fr) fun c=>need (0<=n/\n<=c/\c*bytes<=140737488355328/\c<=140737488355328) (K (.own nx) ((nx,.row false t (List.replicate n.toNat z)) :: st) (nx+1))
 | .append t bytes x y=>Yg_ t st (y.ev fr) fun ys=>match x.ev fr with
   | .nils=>need (ys.length*bytes<=140737488355328/\ys.length<=140737488355328) (K (.own nx) ((nx,.row false t ys) :: st) (nx+1))
   | .own i=>match st.get i with
     | some (.row false t' x)=>J6_ t' t x fun x=>need ((x.length+ys.length)*bytes<=140737488355328/\x.length+ys.length<=140737488355328) (st.setK i .dead fun st=>K (.own nx) ((nx,.row false t (x++ys)) :: st) (nx+1))
     | _=>False
   | _=>False
 | .appendz t bytes z x n=>Xt_ (n.ev fr) fun n=>match x.ev fr with
   | .nils=>need (0<=n/\n*bytes<=140737488355328/\n<=140737488355328) (K (.own nx) ((nx,.row false t (List.replicate n.toNat z)) :: st) (nx+1))
   | .own i=>match st.get i with
     | some (.row false t' x)=>J6_ t' t x fun x=>need (0<=n/\(x.length+n)*bytes<=140737488355328/\x.length+n<=140737488355328) (st.setK i .dead fun st=>K (.own nx) ((nx,.row false t (x++List.replicate n.toNat z)) :: st) (nx+1))
     | _=>False
   | _=>False
 | .s2b x=>match x.ev fr with
   | .str l=>K (.own nx) ((nx,.row false (.int .u8) l) :: st) (nx+1)
   | _=>False
 | .b2s x=>Yg_ (.int .u8) st (x.ev fr) fun l=>K (.str l) st nx
 | .mkmap kt vt=>K (.mapv nx) ((nx,.map true kt vt []) :: st) (nx+1)
 | .mlen x=>match x.ev fr with
   | .mapv i=>match st.get i with | some (.map _ _ _ l)=>need (l.length<=140737488355328) (K (.int .i64 l.length) st nx) | _=>False
   | _=>False
 | .mget kt vt z ok x k=>b5_ kt (k.ev fr) fun k=>match x.ev fr with
   | .mapv i=>match st.get i with
     | some (.map q kt' vt' l)=>match decEq kt' kt,decEq vt' vt with
       | isTrue h,isTrue h'=>(fun l:List (kt.den × vt.den)=>match ok with
         | true=>za9_ vt ((zx_ l k).getD z) fun v=>K (.tup [v,.bool (zx_ l k).isSome]) st nx
         | false=>za9_ vt ((zx_ l k).getD z) fun v=>K v st nx) (h ▸ h' ▸ l)
       | _,_=>False
     | _=>False
   | _=>False
 | .mput kt vt x k v=>b5_ kt (k.ev fr) fun k=>b5_ vt (v.ev fr) fun v=>match x.ev fr with
   | .mapv i=>match st.get i with
     | some (.map true kt' vt' l)=>match decEq kt' kt,decEq vt' vt with
       | isTrue h,isTrue h'=>(fun l:List (kt.den × vt.den)=>st.setK i (.map true kt vt (QJ_ l k v)) fun st=>K .undef st nx) (h ▸ h' ▸ l)
       | _,_=>False
     | _=>False
   | _=>False
 | .call own f args=>match (f.ev fr).asFn with
   | .fn f first cap=>Xr_ (first++args.map (·.ev fr)++cap) fun l=>match Γ.get f with
     | some s=>za3_ s own l st nx fun v st nx=>Wt_ v fun v=>K v st nx
     | none=>False
   | _=>False
 | .calln f args=>match (f.ev fr).asFn with
   | .fn f first cap=>Xr_ (first++args.map (·.ev fr)++cap) fun l=>match Γ.get f with
     | some (.nd S)=>za2_ S l [] st nx fun v st nx=>Wt_ v fun v=>K v st nx
     | _=>False
   | _=>False
 | .bad=>False
 | .rngs x=>match x.ev fr with
   | .str l=>K (.ptr nx 0) ((nx,.iter l 0) :: st) (nx+1)
   | _=>False
 | .nxts x=>match x.ev fr with
   | .ptr i off=>match off with
     | 0=>match st.get i with
       | some (.iter s p)=>cnd (decide (p < s.length)) (st.setK i (.iter s (p+(KF_ s p).2)) fun st=>K (.tup [.kb true,.int .i64 (p:Nat),.int .i32 ((KF_ s p).1:Nat)]) st nx) (K (.tup [.kb false]) st nx)
       | _=>False
     | _+1=>False
   | _=>False
 | .nilrow t=>K (.own nx) ((nx,.row false t []) :: st) (nx+1)
 | .callF f args=>match f.ev fr with
   | .fn f l c=>match l,c,args with
     | [],[],[x]=>match x.ev fr with
       | .imm t y=>match Γ.get f with
         | some (.ro S)=>S [.jsl 0 t y] [.reg false true] fun v=>match v with
           | .imm t' z=>K (.jsl nx t' z) ((nx,.reg true true) :: st) (nx+1)
           | _=>False
         | _=>False
       | _=>False
     | _,_,_=>False
   | _=>False
 | .appendJ t bytes x y=>match x.ev fr with
   | .own i=>match st.get i with
     | some (.row fz t' x)=>match fz with
       | true=>False
       | false=>J6_ t' t x fun x=>match y.ev fr with
         | .jsl r t'' ys=>match st.get r with
           | some (.reg _ kn)=>match kn with
             | true=>J6_ t'' t ys fun ys=>need (x.length=0/\ys.length*bytes<=140737488355328/\ys.length<=140737488355328) (cnd (decide (0 < ys.length))
                (Z1_ (X0_ r (t.cells (ys.getD 0 t.dflt))) fun cs=>st.setK i .dead fun st=>K (.own nx) ((nx,.rowm t ys 0 (.jsl r t [] :: cs)) :: st) (nx+1))
                (st.setK i .dead fun st=>K (.own nx) ((nx,.row false t ys) :: st) (nx+1)))
             | false=>False
           | _=>False
         | _=>False
     | _=>False
   | _=>False
 | .callL f args=>match f.ev fr with
   | .fn f l c=>match l,c with
     | [],[]=>HF_ st (args.map (·.ev fr)) fun l=>match Γ.get f with
       | some (.ro S)=>S l [] fun v=>match v with
         | .bool b=>K (.bool b) st nx
         | .int k n=>K (.int k n) st nx
         | _=>False
       | _=>False
     | _,_=>False
   | _=>False
end Go.Eng
