/- Parts of the proof: N2, N3, N4, N5, N6, N7, N8. No condition. -/
import Derived.Test.YtjajlkddpekdjaaGreatDoorProg
import Derived.Test.YtjajlkddpekdjaaGreatDoorXD10
import Derived.KernelRfl
import Derived.Test.YtjajlkddpekdjaaGreatDoorXD15
namespace Go.Eng
open Go.Proofs
set_option linter.unusedVariables false
set_option linter.unusedSimpArgs false
set_option maxRecDepth 100000
set_option maxHeartbeats 1000000
def tb (x:Int) (k:Nat):Bool:=x.toNat.testBit k
def isB (x:Int):Prop:=0<=x/\x<=255
theorem WF_ {x:Int} (h:isB x) (k:Nat):(BitVec.ofInt 8 x).getLsbD k=tb x k:=by
 unfold tb BitVec.getLsbD
 rw [BitVec.toNat_ofInt]
 have:(x % ((2 ^ 8:Nat):Int)).toNat=x.toNat:=by have:=h.1;have:=h.2;omega
 rw [this]
theorem yU_ (op:BinOp) (x y:Int) (z:BitVec 8) (h:zk_ op .u8 x y=IntKind.u8.wrap (z.toNat:Int)):isB (zk_ op .u8 x y)/\∀ k,tb (zk_ op .u8 x y) k=z.getLsbD k:=by
 have hz:=z.isLt
 have e:zk_ op .u8 x y=(z.toNat:Int):=by
  rw [h,GO_];omega
 refine ⟨by rw [e];exact ⟨by omega,by omega⟩,fun k=>?_⟩
 unfold tb BitVec.getLsbD
 rw [e,Int.toNat_natCast]
theorem jz_ {x y:Int} (hx:isB x) (hy:isB y) (k:Nat):tb (zk_ .and .u8 x y) k=(tb x k && tb y k):=by
 rw [(yU_ .and x y (BitVec.ofInt 8 x &&& BitVec.ofInt 8 y) rfl).2 k,BitVec.getLsbD_and,WF_ hx,WF_ hy]
theorem HT_ {x y:Int} (hx:isB x) (hy:isB y) (k:Nat):tb (zk_ .xor .u8 x y) k=(tb x k != tb y k):=by
 rw [(yU_ .xor x y (BitVec.ofInt 8 x ^^^ BitVec.ofInt 8 y) rfl).2 k,BitVec.getLsbD_xor,WF_ hx,WF_ hy]
theorem Va_ {x:Int} (hx:isB x) {k:Nat} (hk:8<=k):tb x k=false:=by
 unfold tb
 refine Nat.testBit_lt_two_pow ?_
 have:2 ^ 8<=2 ^ k:=Nat.pow_le_pow_right (by decide) hk
 have:=hx.2;have:=hx.1;omega
theorem hJ_ {x y:Int} (hx:isB x) (hy:isB y) (k:Nat):tb (zk_ .andNot .u8 x y) k=(tb x k && !tb y k):=by
 rw [(yU_ .andNot x y (BitVec.ofInt 8 x &&& ~~~BitVec.ofInt 8 y) rfl).2 k,BitVec.getLsbD_and,BitVec.getLsbD_not,WF_ hx,WF_ hy]
 by_cases hk:k < 8
 ·rw [decide_eq_true hk,Bool.true_and]
 ·rw [Va_ hx (by omega),Bool.false_and,Bool.false_and]
theorem Kl_ (op:BinOp) (x y:Int) (h:op=.and\/op=.or\/op=.xor\/op=.andNot):isB (zk_ op .u8 x y):=by
 rcases h with rfl | rfl | rfl | rfl
 ·exact (yU_ .and x y _ rfl).1
 ·exact (yU_ .or x y _ rfl).1
 ·exact (yU_ .xor x y _ rfl).1
 ·exact (yU_ .andNot x y _ rfl).1
theorem v9_ {x y:Int} (hx:isB x) (hy:isB y) (h:∀ k,k < 8->tb x k=tb y k):x=y:=by
 have:x.toNat=y.toNat:=Nat.eq_of_testBit_eq fun k=>by
  by_cases hk:k < 8
  ·exact h k hk
  ·have h1:=Va_ hx (k:=k) (by omega)
   have h2:=Va_ hy (k:=k) (by omega)
   unfold tb at h1 h2;rw [h1,h2]
 have:=hx.1;have:=hy.1;omega
theorem GT_ (k:Nat):tb 0 k=false:=by unfold tb;simp
theorem HU_ {k:Nat} (h:k < 8):tb 255 k=true:=by
 have:k=0\/k=1\/k=2\/k=3\/k=4\/k=5\/k=6\/k=7:=by omega
 rcases this with rfl | rfl | rfl | rfl | rfl | rfl | rfl | rfl<;>decide
theorem Xk_ {x:Int} (hx:isB x):x=0 ↔ ∀ k,k < 8->tb x k=false:=
 ⟨fun h k _=>by rw [h];exact GT_ k,fun h=>v9_ hx ⟨by decide,by decide⟩ fun k hk=>by rw [h k hk,GT_]⟩
def vB (o:OV) (i:Nat):Int:=o.2.2.2.2.1.getD i 0
def mB (o:OV) (i:Nat):Int:=if o.2.2.1=true then o.2.2.2.2.2.1.getD i 0 else 255
def lnV (o:OV):Nat:=o.2.2.2.2.1.length
theorem Go_ {l:List Int} (h:∀ z ∈ l,isB z) (i:Nat):isB (l.getD i 0):=by
 by_cases hi:i < l.length
 ·exact h _ (zu_ hi 0)
 ·rw [List.getD_eq_getElem?_getD,List.getElem?_eq_none (by omega)];exact ⟨by decide,by decide⟩
theorem vb {o:OV} (h:qV_ o) (i:Nat):isB (vB o i):=Go_ h.2.1 i
theorem mb {o:OV} (h:qV_ o) (i:Nat):isB (mB o i):=by
 unfold mB;split
 ·exact Go_ h.2.2 i
 ·exact ⟨by decide,by decide⟩
def Zu_ (o x:OV):Bool:=alO o x && !x.2.2.1 && decide (lnV o=lnV x) && (List.range (lnV o)).all fun i=>decide (zk_ .and .u8 (zk_ .xor .u8 (vB o i) (vB x i)) (mB o i)=0)
def zv_ (a b:OV):Bool:=alO a b && (!decide (lnV a=lnV b) || !(List.range (lnV a)).all fun i=>decide (zk_ .and .u8 (zk_ .and .u8 (zk_ .xor .u8 (vB a i) (vB b i)) (mB a i)) (mB b i)=0))
def Zh_ (a b:OV):Bool:=alO a b && decide (lnV a=lnV b) && (List.range (lnV a)).all fun i=>decide (zk_ .andNot .u8 (mB b i) (mB a i)=0) && decide (zk_ .and .u8 (zk_ .xor .u8 (vB a i) (vB b i)) (mB b i)=0)
theorem Hv_ {a b:OV} (ha:qV_ a) (hb:qV_ b):zv_ a b=false ↔ (alO a b=true->lnV a=lnV b/\∀ i k,i < lnV a->k < 8->tb (mB a i) k=true->tb (mB b i) k=true->tb (vB a i) k=tb (vB b i) k):=by
 unfold zv_
 cases hal:alO a b with
 | false=>simp
 | true=>
   rw [Bool.true_and,Bool.or_eq_false_iff,Bool.not_eq_false',decide_eq_true_eq,Bool.not_eq_false',List.all_eq_true]
   refine ⟨fun h _=>⟨h.1,fun i k hi hk h1 h2=>?_⟩,fun h=>⟨(h rfl).1,fun i hi=>?_⟩⟩
   ·have h3:=(Xk_ (Kl_ _ _ _ (.inl rfl))).1 (of_decide_eq_true (h.2 i (List.mem_range.2 hi))) k hk
    rw [jz_ (Kl_ _ _ _ (.inl rfl)) (mb hb i),jz_ (Kl_ _ _ _ (.inr (.inr (.inl rfl)))) (mb ha i),HT_ (vb ha i) (vb hb i),h1,h2,Bool.and_true,Bool.and_true] at h3
    exact bne_eq_false_iff_eq.1 h3
   ·refine decide_eq_true ((Xk_ (Kl_ _ _ _ (.inl rfl))).2 fun k hk=>?_)
    rw [jz_ (Kl_ _ _ _ (.inl rfl)) (mb hb i),jz_ (Kl_ _ _ _ (.inr (.inr (.inl rfl)))) (mb ha i),HT_ (vb ha i) (vb hb i)]
    cases h1:tb (mB a i) k with
    | false=>simp
    | true=>
      cases h2:tb (mB b i) k with
      | false=>simp
      | true=>rw [(h rfl).2 i k (List.mem_range.1 hi) hk h1 h2];simp
theorem zbi_ {n k:Nat}:tb (2 ^ n - 1) k=decide (k < n):=by
 unfold tb
 have e:((2:Int) ^ n - 1).toNat=2 ^ n - 1:=by
  have:(1:Int)<=2 ^ n:=by have:=Nat.one_le_two_pow (n:=n);exact_mod_cast this
  have h2:((2:Int) ^ n)=((2 ^ n:Nat):Int):=by rw [Int.natCast_pow];rfl
  rw [h2];omega
 rw [e,Nat.testBit_two_pow_sub_one]
theorem zas_ {x:Int} (hx:isB x) (n:Nat):x < 2 ^ n ↔ ∀ k,k < 8->n<=k->tb x k=false:=by
 have h0:x=(x.toNat:Int):=by have:=hx.1;omega
 have h2:((2:Int) ^ n)=((2 ^ n:Nat):Int):=by rw [Int.natCast_pow];rfl
 constructor
 ·intro h k _ hk
  unfold tb
  refine Nat.testBit_lt_two_pow ?_
  have h3:x.toNat < 2 ^ n:=by rw [h2] at h;omega
  exact Nat.lt_of_lt_of_le h3 (Nat.pow_le_pow_right (by decide) hk)
 ·intro h
  have:x.toNat < 2 ^ n:=Nat.lt_pow_two_of_testBit _ fun k hk=>by
   by_cases h8:k < 8
   ·exact h k h8 hk
   ·exact Va_ hx (by omega)
  rw [h2];omega
theorem zaC_ {x:Int} (hx:isB x) (n:Nat):x.fdiv (2 ^ n)=0 ↔ x < 2 ^ n:=by
 have hp:(0:Int) < 2 ^ n:=Int.pow_pos (by decide)
 rw [Int.fdiv_eq_ediv_of_nonneg _ (Int.le_of_lt hp)]
 constructor
 ·intro h
  have:=Int.lt_ediv_add_one_mul_self x hp
  rw [h] at this;omega
 ·intro h;exact Int.ediv_eq_zero_of_lt hx.1 h
theorem Xs_:∀ (v:List Int) (s:Int),0<=s->(∀ z ∈ v,isB z)->(zP_ s v=true ↔ ∀ (i k:Nat),i < v.length->k < 8->8 - (s - 8*(i:Int))<=(k:Int)->tb (v.getD i 0) k=false)
 | [],_,_,_=>⟨fun _ i k h=>absurd h (Nat.not_lt_zero _),fun _=>rfl⟩
 | b :: r,s,hs,hb=>by
   have hb0:=hb b (List.mem_cons_self ..)
   have ih:=Xs_ r (s - (if 8 < s then 8 else s)) (by split<;>omega) fun z hz=>hb z (List.mem_cons_of_mem _ hz)
   have hmin:min (8 - (if 8 < s then 8 else s)).toNat 8=(8 - (if 8 < s then 8 else s)).toNat:=by split<;>omega
   have hc:b.fdiv (2 ^ (min (8 - (if 8 < s then 8 else s)).toNat 8))=0 ↔ ∀ k:Nat,k < 8->8 - s<=(k:Int)->tb b k=false:=by
    rw [hmin,zaC_ hb0,zas_ hb0]
    constructor
    ·intro h k hk h2;exact h k hk (by split<;>omega)
    ·intro h k hk h2;exact h k hk (by split at h2<;>omega)
   unfold zP_
   by_cases c:b.fdiv (2 ^ (min (8 - (if 8 < s then 8 else s)).toNat 8))=0
   ·rw [if_pos c,ih]
    constructor
    ·intro h i k hi hk h2
     cases i with
     | zero=>exact hc.1 c k hk (by omega)
     | succ i=>exact h i k (by rw [List.length_cons] at hi;omega) hk (by split<;>omega)
    ·intro h i k hi hk h2
     exact h (i+1) k (by rw [List.length_cons];omega) hk (by split at h2<;>omega)
   ·rw [if_neg c]
    constructor
    ·intro h;cases h
    ·intro h
     exact absurd (hc.2 fun k hk h2=>h 0 k (by rw [List.length_cons];omega) hk (by omega)) c
theorem X0_ {s:Int} {k:Nat} (hk:k < 8):isB (wC_ s)/\tb (wC_ s) k=decide ((k:Int) < 8 - s):=by
 unfold wC_
 by_cases c:0 < s
 ·rw [if_pos c]
  have hcase:s=1\/s=2\/s=3\/s=4\/s=5\/s=6\/s=7\/8<=s:=by omega
  have hk8:k=0\/k=1\/k=2\/k=3\/k=4\/k=5\/k=6\/k=7:=by omega
  have e8:8<=s->(if 8 < s then (8:Int) else s)=8:=fun h=>by split<;>omega
  rcases hcase with rfl | rfl | rfl | rfl | rfl | rfl | rfl | h
  all_goals first
   | (refine ⟨⟨by decide,by decide⟩,?_⟩
      rcases hk8 with rfl | rfl | rfl | rfl | rfl | rfl | rfl | rfl<;>decide)
   | (rw [e8 h]
      refine ⟨⟨by decide,by decide⟩,?_⟩
      rw [decide_eq_false (by omega)]
      rcases hk8 with rfl | rfl | rfl | rfl | rfl | rfl | rfl | rfl<;>decide)
 ·rw [if_neg c]
  refine ⟨⟨by decide,by decide⟩,?_⟩
  rw [HU_ hk,decide_eq_true (by omega)]
theorem vu_:∀ (m:List Int) (s:Int),(∀ z ∈ m,isB z)->(QF_ m s=true ↔ ∀ (i k:Nat),i < m.length->k < 8->tb (m.getD i 0) k=decide ((k:Int) < 8 - (s - 8*(i:Int))))
 | [],_,_=>⟨fun _ i k h=>absurd h (Nat.not_lt_zero _),fun _=>rfl⟩
 | x :: r,s,hb=>by
   have hx:=hb x (List.mem_cons_self ..)
   have ih:=vu_ r (s - 8) fun z hz=>hb z (List.mem_cons_of_mem _ hz)
   have hc:x=wC_ s ↔ ∀ k:Nat,k < 8->tb x k=decide ((k:Int) < 8 - s):=by
    constructor
    ·intro h k hk;rw [h];exact (X0_ hk).2
    ·intro h
     exact v9_ hx (X0_ (k:=0) (by decide)).1 fun k hk=>by rw [h k hk,(X0_ hk).2]
   unfold QF_
   by_cases c:x=wC_ s
   ·rw [if_pos c,ih]
    constructor
    ·intro h i k hi hk
     cases i with
     | zero=>
       have:=hc.1 c k hk
       show tb x k=_
       rw [this];congr 1
       rw [show s - 8*((0:Nat):Int)=s by omega]
     | succ i=>
       have:=h i k (by rw [List.length_cons] at hi;omega) hk
       show tb (r.getD i 0) k=_
       rw [this];congr 1
       rw [show s - 8*((i+1:Nat):Int)=s - 8 - 8*(i:Int) by omega]
    ·intro h i k hi hk
     have:=h (i+1) k (by rw [List.length_cons];omega) hk
     have h9:tb (r.getD i 0) k=decide ((k:Int) < 8 - (s - 8*((i+1:Nat):Int))):=this
     rw [h9];congr 1
     rw [show s - 8*((i+1:Nat):Int)=s - 8 - 8*(i:Int) by omega]
   ·rw [if_neg c]
    constructor
    ·intro h;cases h
    ·intro h
     refine absurd (hc.2 fun k hk=>?_) c
     have:=h 0 k (by rw [List.length_cons];omega) hk
     have h9:tb x k=decide ((k:Int) < 8 - (s - 8*((0:Nat):Int))):=this
     rw [h9,show s - 8*((0:Nat):Int)=s by omega]
def wdO (o:OV):Int:=if o.1=32768 then Zz_ o.2.1 else 8*(lnV o:Int)
def Wt_ (o:OV) (i k:Nat):Prop:=8*((lnV o:Int) - 1 - i)+k < wdO o
structure RgB (o:OV):Prop where
 nh:o.2.2.1=false->o.2.2.2.2.2.1=[]
 ml:o.2.2.1=true->o.2.2.2.2.2.1.length=lnV o
 ins:o.2.2.1=true->∀ i k:Nat,i < lnV o->k < 8->tb (vB o i) k=true->tb (mB o i) k=true
 nf:o.2.2.1=true->∃ i k:Nat,i < lnV o/\k < 8/\Wt_ o i k/\tb (mB o i) k=false
 spv:∀ i k:Nat,i < lnV o->k < 8->¬ Wt_ o i k->tb (vB o i) k=false
 spm:o.2.2.1=true->∀ i k:Nat,i < lnV o->k < 8->¬ Wt_ o i k->tb (mB o i) k=false
theorem bh_:∀ (v m:List Int),jH_ v m=false->∀ i:Nat,i < v.length->i < m.length->zk_ .andNot .u8 (v.getD i 0) (m.getD i 0)=0
 | [],_,_,i,h,_=>absurd h (Nat.not_lt_zero _)
 | _ :: _,[],_,i,_,h=>absurd h (Nat.not_lt_zero _)
 | x :: r,y :: l,h,i,h1,h2=>by
   unfold jH_ at h
   by_cases c:zk_ .andNot .u8 x y=0
   ·rw [if_pos c] at h
    cases i with
    | zero=>exact c
    | succ i=>exact bh_ r l h i (by rw [List.length_cons] at h1;omega) (by rw [List.length_cons] at h2;omega)
   ·rw [if_neg c] at h;cases h
theorem Jl_ {f:Int} {v:List Int} (hv:∀ z ∈ v,isB z) (h:qY_ f v=true):fIs f=true/\(v.length:Int)=ks_ f/\∀ i k:Nat,i < v.length->k < 8->¬ (8*((v.length:Int) - 1 - i)+k < Zz_ f)->tb (v.getD i 0) k=false:=by
 unfold qY_ at h
 split at h
 ·rename_i c
  obtain ⟨c1,c2⟩:=c
  have hf:fIs f=true:=ZG_.2 c1
  have hs:=wt_ f.toNat (by omega)
  rw [Int.toNat_of_nonneg c1.1] at hs
  have hb:Zz_ f=QI_.getD f.toNat 0:=by unfold Zz_;rw [hf];rfl
  refine ⟨hf,c2,fun i k hi hk hn=>(Xs_ v _ hs.2.2.1 hv).1 h i k hi hk ?_⟩
  rw [hb] at hn;omega
 ·cases h
theorem tOf {b:Bool} (h:b=false->False):b=true:=by cases b with | true=>rfl | false=>exact (h rfl).elim
theorem V9_ {o:OV} (h:o.2.2.1=true) (i:Nat):mB o i=o.2.2.2.2.2.1.getD i 0:=if_pos h
theorem zch_ {o:OV} (h:o.2.2.1=false) (i:Nat):mB o i=255:=if_neg (by rw [h];decide)
theorem zbu_ {o:OV} (hr:rgO o=true) (hb:qV_ o):RgB o:=by
 obtain ⟨c,f,h,x,v,m,u⟩:=o
 have hv:∀ z ∈ v,isB z:=hb.2.1
 have hm:∀ z ∈ m,isB z:=hb.2.2
 have hr':z7_ c f h x v m=true:=hr
 unfold z7_ at hr'
 simp only [Bool.and_eq_true,Bool.or_eq_true,decide_eq_true_eq] at hr'
 obtain ⟨⟨⟨⟨⟨⟨a1,a2⟩,a3⟩,a4⟩,a5⟩,a6⟩,a7⟩:=hr'
 have hml:h=true->m.length=v.length:=fun e=>by subst e;exact (by have:=of_decide_eq_true a5;omega)
 have hnh:h=false->m=[]:=fun e=>by subst e;exact List.eq_nil_of_length_eq_zero (of_decide_eq_true a5)
 unfold Kh_ at a7
 by_cases b1:zT_ c=false/\qY_ f v=false
 ·rw [if_pos b1] at a7;omega
 rw [if_neg b1] at a7
 by_cases b2:h=true/\zT_ c=false/\qY_ f m=false
 ·rw [if_pos b2] at a7;omega
 rw [if_neg b2] at a7
 by_cases b3:h=true/\(jx_ m=true\/jI_ m (if zT_ c=true then ((m.length:Int)*8) else qT_ c f)=true)
 ·rw [if_pos b3] at a7;omega
 rw [if_neg b3] at a7
 by_cases b4:h=true/\jH_ v m=true
 ·rw [if_pos b4] at a7;omega
 have hW:(zT_ c=true/\wdO (c,f,h,x,v,m,u)=8*(v.length:Int))\/(zT_ c=false/\wdO (c,f,h,x,v,m,u)=Zz_ f/\qY_ f v=true):=by
  unfold zT_ wdO
  by_cases e:c=65535
  ·left
   refine ⟨decide_eq_true e,if_neg ?_⟩
   show ¬ c=32768;omega
  ·right
   have e2:c=32768:=by
    unfold wK_ at a1
    rw [if_neg e,Bool.and_eq_true,decide_eq_true_eq] at a1
    exact a1.2
   refine ⟨decide_eq_false e,if_pos e2,?_⟩
   have:zT_ c=false:=decide_eq_false e
   exact tOf fun c=>b1 ⟨this,c⟩
 refine ⟨hnh,hml,fun hh i k hi hk ht=>?_,fun hh=>?_,fun i k hi hk hn=>?_,fun hh i k hi hk hn=>?_⟩
 ·have hh':h=true:=hh
  have hno:jH_ v m=false:=Bool.eq_false_iff.2 fun c=>b4 ⟨hh',c⟩
  have h0:=bh_ v m hno i hi (by rw [hml hh'];exact hi)
  have h1:=(Xk_ (Kl_ _ _ _ (.inr (.inr (.inr rfl))))).1 h0 k hk
  rw [hJ_ (Go_ hv i) (Go_ hm i)] at h1
  rw [V9_ hh]
  have ht':tb (v.getD i 0) k=true:=ht
  rw [ht',Bool.true_and,Bool.not_eq_false'] at h1
  exact h1
 ·have hh':h=true:=hh
  have hlen:=hml hh'
  have hno:¬ jI_ m (if zT_ c=true then ((m.length:Int)*8) else qT_ c f)=true:=fun e=>b3 ⟨hh',.inr e⟩
  unfold jI_ at hno
  rw [vu_ m _ hm] at hno
  apply Classical.byContradiction
  intro hex
  refine hno fun i k hi hk=>?_
  have hi':i < lnV (c,f,h,x,v,m,u):=by show i < v.length;omega
  by_cases ho:Wt_ (c,f,h,x,v,m,u) i k
  ·have hmt:tb (m.getD i 0) k=true:=by
    refine tOf fun hf=>?_
    exact hex ⟨i,k,hi',hk,ho,by rw [V9_ hh];exact hf⟩
   rw [hmt]
   refine (decide_eq_true ?_).symm
   unfold Wt_ at ho
   have hl:(lnV (c,f,h,x,v,m,u):Int)=v.length:=rfl
   rw [hl] at ho
   rcases hW with ⟨w1,w2⟩ | ⟨w1,w2,_⟩
   ·rw [if_pos w1];omega
   ·rw [w2] at ho
    rw [if_neg (by rw [w1];decide)]
    unfold qT_
    rw [if_neg (of_decide_eq_false w1)];omega
  ·rcases hW with ⟨w1,w2⟩ | ⟨w1,w2,_⟩
   ·unfold Wt_ at ho
    have hl:(lnV (c,f,h,x,v,m,u):Int)=v.length:=rfl
    rw [hl,w2] at ho
    omega
   ·have hfm:qY_ f m=true:=tOf fun e=>b2 ⟨hh',w1,e⟩
    have h5:=(Jl_ hm hfm).2.2 i k hi hk (by
     unfold Wt_ at ho
     have hl:(lnV (c,f,h,x,v,m,u):Int)=v.length:=rfl
     rw [hl,w2] at ho;omega)
    rw [h5]
    refine (decide_eq_false ?_).symm
    unfold Wt_ at ho
    have hl:(lnV (c,f,h,x,v,m,u):Int)=v.length:=rfl
    rw [hl,w2] at ho
    rw [if_neg (by rw [w1];decide)]
    unfold qT_
    rw [if_neg (of_decide_eq_false w1)];omega
 ·have hl:(lnV (c,f,h,x,v,m,u):Int)=v.length:=rfl
  unfold Wt_ at hn
  rw [hl] at hn
  have hi':i < v.length:=hi
  rcases hW with ⟨w1,w2⟩ | ⟨w1,w2,w3⟩
  ·rw [w2] at hn;omega
  ·rw [w2] at hn
   exact (Jl_ hv w3).2.2 i k hi' hk hn
 ·have hh':h=true:=hh
  have hl:(lnV (c,f,h,x,v,m,u):Int)=v.length:=rfl
  unfold Wt_ at hn
  rw [hl] at hn
  have hi':i < v.length:=hi
  have hlen:=hml hh'
  rw [V9_ hh]
  rcases hW with ⟨w1,w2⟩ | ⟨w1,w2,w3⟩
  ·rw [w2] at hn;omega
  ·rw [w2] at hn
   have hfm:qY_ f m=true:=tOf fun e=>b2 ⟨hh',w1,e⟩
   exact (Jl_ hm hfm).2.2 i k (by omega) hk (by omega)
def wB_ (left:Int):Int:=if left < 8 then 2 ^ (if left < 0 then 0 else left).toNat - 1 else 255
theorem Kw_ {s:Int} {k:Nat} (hk:k < 8):isB (wB_ s)/\tb (wB_ s) k=decide ((k:Int) < s):=by
 unfold wB_
 by_cases c:s < 8
 ·rw [if_pos c]
  have hcase:s < 0\/s=0\/s=1\/s=2\/s=3\/s=4\/s=5\/s=6\/s=7:=by omega
  rw [zbi_]
  refine ⟨?_,?_⟩
  ·rcases hcase with h | rfl | rfl | rfl | rfl | rfl | rfl | rfl | rfl
   ·rw [if_pos h];exact ⟨by decide,by decide⟩
   all_goals exact ⟨by decide,by decide⟩
  ·by_cases h:s < 0
   ·rw [if_pos h,decide_eq_false (by omega),decide_eq_false (by omega)]
   ·rw [if_neg h]
    by_cases h2:(k:Int) < s
    ·rw [decide_eq_true h2,decide_eq_true (by omega)]
    ·rw [decide_eq_false h2,decide_eq_false (by omega)]
 ·rw [if_neg c,HU_ hk,decide_eq_true (by omega)]
  exact ⟨⟨by decide,by decide⟩,rfl⟩
def wdM (c f:Int) (n:Nat):Int:=if c=32768/\fIs f=true then Zz_ f else 8*(n:Int)
def JD_ (c f:Int) (ms:List Int):Bool:=(List.range ms.length).all fun i=>decide (zk_ .and .u8 (ms.getD i 0) (wB_ (wdM c f ms.length - 8*((ms.length:Int) - 1 - i)))=wB_ (wdM c f ms.length - 8*((ms.length:Int) - 1 - i)))
theorem b0_ {c f:Int} {ms:List Int} (hm:∀ z ∈ ms,isB z):JD_ c f ms=true ↔ ∀ i k:Nat,i < ms.length->k < 8->8*((ms.length:Int) - 1 - i)+k < wdM c f ms.length->tb (ms.getD i 0) k=true:=by
 unfold JD_
 rw [List.all_eq_true]
 constructor
 ·intro h i k hi hk ho
  have h1:=of_decide_eq_true (h i (List.mem_range.2 hi))
  have h2:tb (zk_ .and .u8 (ms.getD i 0) (wB_ (wdM c f ms.length - 8*((ms.length:Int) - 1 - i)))) k=tb (wB_ (wdM c f ms.length - 8*((ms.length:Int) - 1 - i))) k:=by rw [h1]
  rw [jz_ (Go_ hm i) (Kw_ hk).1,(Kw_ hk).2,decide_eq_true (by omega),Bool.and_true] at h2
  exact h2
 ·intro h i hi
  refine decide_eq_true (v9_ (Kl_ _ _ _ (.inl rfl)) (Kw_ (k:=0) (by decide)).1 fun k hk=>?_)
  rw [jz_ (Go_ hm i) (Kw_ (k:=0) (by decide)).1,(Kw_ hk).2]
  by_cases ho:(k:Int) < wdM c f ms.length - 8*((ms.length:Int) - 1 - i)
  ·rw [decide_eq_true ho,h i k (List.mem_range.1 hi) hk (by omega)];rfl
  ·rw [decide_eq_false ho,Bool.and_false]
def orV (a b:OV):List Int:=(List.range (lnV a)).map fun i=>zk_ .or .u8 (vB a i) (vB b i)
def orM (a b:OV):List Int:=(List.range (lnV a)).map fun i=>zk_ .or .u8 (mB a i) (mB b i)
def vc_ (a b:OV):Bool:=a.2.2.1 && b.2.2.1 && !JD_ a.1 a.2.1 (orM a b)
def KB_ (a b:OV):OV:=(a.1,a.2.1,vc_ a b,a.2.2.2.1,orV a b,if vc_ a b=true then orM a b else [],())
theorem wv_ {g:Nat->Int} {n i:Nat} (h:i < n):((List.range n).map g).getD i 0=g i:=by
 rw [List.getD_eq_getElem?_getD,List.getElem?_map,List.getElem?_range h];rfl
theorem Bn_ (a b:OV):lnV (KB_ a b)=lnV a:=by unfold lnV KB_ orV;rw [List.length_map,List.length_range];rfl
theorem x8_ (a b:OV):(orM a b).length=lnV a:=by unfold orM;rw [List.length_map,List.length_range]
theorem zcb_ (a b:OV):∀ z ∈ orM a b,isB z:=fun z hz=>by
 obtain ⟨i,_,rfl⟩:=List.mem_map.1 hz
 exact Kl_ _ _ _ (.inr (.inl rfl))
structure Pair (a b:OV):Prop where
 ra:RgB a
 rb:RgB b
 ba:qV_ a
 bb:qV_ b
 al:alO a b=true
 ln:lnV a=lnV b
 oa:a.1=32768->fIs a.2.1=true
 cl:∀ i k:Nat,i < lnV a->k < 8->tb (mB a i) k=true->tb (mB b i) k=true->tb (vB a i) k=tb (vB b i) k
theorem Pair.wd {a b:OV} (P:Pair a b):wdO a=wdO b:=by
 obtain ⟨h1,h2,_⟩:=(Kd_ _ _).1 P.al
 unfold wdO;rw [h1,h2,P.ln]
theorem Pair.own {a b:OV} (P:Pair a b) (i k:Nat):Wt_ a i k ↔ Wt_ b i k:=by unfold Wt_;rw [P.wd,P.ln]
theorem W0_ {a b c:OV} (h1:alO a b=true) (h2:alO b c=true):alO a c=true:=by
 rw [Kd_] at*
 exact ⟨h1.1.trans h2.1,h1.2.1.trans h2.2.1,h1.2.2.trans h2.2.2⟩
theorem W1_ {a b:OV} (h:alO a b=true):alO b a=true:=by
 rw [Kd_] at*
 exact ⟨h.1.symm,h.2.1.symm,h.2.2.symm⟩
def uJ_ (l p:List OV):Bool:=l.all fun o=>p.any fun x=>Zu_ o x
def qc_ (a b:List OV):Bool:=a.any fun x=>b.any fun y=>zv_ x y
def Xi_ (a b:List OV):Bool:=b.all fun y=>a.any fun x=>Zh_ x y
def mgO (b:List OV) (o:OV):OV:=match b.find? (fun y=>alO o y) with | some y=>KB_ o y | none=>o
def mrg (a b:List OV):List OV:=a.map (mgO b)++b.filter fun y=>!a.any fun x=>alO x y
def Sep (l:List OV):Prop:=l.Pairwise fun x y=>alO x y=false
theorem zbn_ {l:List OV} (h:Sep l) {x y:OV} (hx:x ∈ l) (hy:y ∈ l) (e:alO x y=true):x=y:=by
 obtain ⟨i,hi,rfl⟩:=List.mem_iff_getElem.1 hx
 obtain ⟨j,hj,rfl⟩:=List.mem_iff_getElem.1 hy
 have hp:=List.pairwise_iff_getElem.1 h
 by_cases c:i=j
 ·subst c;rfl
 ·by_cases c2:i < j
  ·rw [hp i j hi hj c2] at e;cases e
  ·have:=hp j i hj hi (by omega)
   rw [Bx_ this] at e;cases e
structure Mt (l:List OV):Prop where
 rg:∀ o ∈ l,RgB o
 by':∀ o ∈ l,qV_ o
 ok:∀ o ∈ l,o.1=32768->fIs o.2.1=true
 sp:Sep l
theorem xl_ {l:List OV} (h:rgM l=true) (hb:∀ o ∈ l,qV_ o):Mt l:=by
 unfold rgM at h
 rw [Bool.and_eq_true,Bool.and_eq_true,decide_eq_true_eq,List.all_eq_true] at h
 refine ⟨fun o ho=>zbu_ (h.1.1 o ho) (hb o ho),hb,fun o ho hc=>?_,Hw_ (d:=(0,0,false,0,[],[],())) ((zaH_ _ l).1 h.1.2)⟩
 have h1:=h.1.1 o ho
 unfold rgO z7_ at h1
 simp only [Bool.and_eq_true] at h1
 have h2:=h1.1.1.1.1.1.1
 unfold wK_ at h2
 rw [if_neg (by omega),Bool.and_eq_true] at h2
 exact h2.1
theorem hz_ {a b:List OV} (ha:Mt a) (hb:Mt b) (hap:qc_ a b=false) {x y:OV} (hx:x ∈ a) (hy:y ∈ b) (hal:alO x y=true):Pair x y:=by
 have h1:zv_ x y=false:=by
  unfold qc_ at hap
  rw [List.any_eq_false] at hap
  have:=hap x hx
  rw [Bool.not_eq_true,List.any_eq_false] at this
  exact Bool.eq_false_iff.2 (this y hy)
 obtain ⟨h2,h3⟩:=(Hv_ (ha.by' x hx) (hb.by' y hy)).1 h1 hal
 exact ⟨ha.rg x hx,hb.rg y hy,ha.by' x hx,hb.by' y hy,hal,h2,ha.ok x hx,h3⟩
theorem wQ_ {b:List OV} {o y:OV} (hb:Sep b) (hy:y ∈ b) (h:alO o y=true):mgO b o=KB_ o y:=by
 unfold mgO
 cases e:b.find? (fun y=>alO o y) with
 | none=>
   rw [List.find?_eq_none] at e
   exact absurd h (e y hy)
 | some z=>
   have h1:=List.find?_some e
   have h2:=List.mem_of_find?_eq_some e
   have:z=y:=zbn_ hb h2 hy (W0_ (W1_ h1) h)
   rw [this]
theorem wR_ {b:List OV} {o:OV} (h:∀ y ∈ b,alO o y=false):mgO b o=o:=by
 unfold mgO
 rw [List.find?_eq_none.2 fun y hy=>by rw [h y hy];decide]
theorem bC_ {b:List OV} (o x:OV):alO (mgO b o) x=alO o x:=by
 unfold mgO
 split
 ·rfl
 ·rfl
theorem V6_ {a b:List OV} (hb:Sep b) (z:OV):z ∈ mrg a b ↔ (∃ x ∈ a,∃ y ∈ b,alO x y=true/\z=KB_ x y)\/(z ∈ a/\∀ y ∈ b,alO z y=false)\/(z ∈ b/\∀ x ∈ a,alO x z=false):=by
 unfold mrg
 rw [List.mem_append,List.mem_map,List.mem_filter]
 constructor
 ·rintro (⟨x,hx,rfl⟩ | ⟨h1,h2⟩)
  ·by_cases c:∃ y ∈ b,alO x y=true
   ·obtain ⟨y,hy,h⟩:=c
    exact .inl ⟨x,hx,y,hy,h,wQ_ hb hy h⟩
   ·have hn:∀ y ∈ b,alO x y=false:=fun y hy=>Bool.eq_false_iff.2 fun h=>c ⟨y,hy,h⟩
    rw [wR_ hn];exact .inr (.inl ⟨hx,hn⟩)
  ·rw [Bool.not_eq_true',List.any_eq_false] at h2
   exact .inr (.inr ⟨h1,fun x hx=>Bool.eq_false_iff.2 (h2 x hx)⟩)
 ·rintro (⟨x,hx,y,hy,h,rfl⟩ | ⟨h1,h2⟩ | ⟨h1,h2⟩)
  ·exact .inl ⟨x,hx,wQ_ hb hy h⟩
  ·exact .inl ⟨z,h1,wR_ h2⟩
  ·exact .inr ⟨h1,by rw [Bool.not_eq_true',List.any_eq_false];exact fun x hx=>by rw [h2 x hx];decide⟩
structure Pkt (p:List OV):Prop where
 rg:∀ o ∈ p,RgB o
 by':∀ o ∈ p,qV_ o
 sp:Sep p
theorem bZ_ {l:List Int} {i:Nat} (h:l.length<=i):l.getD i 0=0:=by rw [List.getD_eq_getElem?_getD,List.getElem?_eq_none h];rfl
theorem Jq_ {g:Nat->Bool} {i:Nat} (h:(List.range i).all g=true) (k:g i=true):(List.range (i+1)).all g=true:=by
 rw [List.range_succ,List.all_append,h,List.all_cons,k];rfl
theorem Xh_ {g:Nat->Bool} {i n:Nat} (h:i < n) (k:g i=false):(List.range n).all g=false:=by
 rw [List.all_eq_false]
 exact ⟨i,List.mem_range.2 h,by rw [k];decide⟩
def tkA (o x:OV) (i:Nat):Bool:=decide (zk_ .and .u8 (zk_ .xor .u8 (vB o i) (vB x i)) (mB o i)=0)
def clA (a b:OV) (i:Nat):Bool:=decide (zk_ .and .u8 (zk_ .and .u8 (zk_ .xor .u8 (vB a i) (vB b i)) (mB a i)) (mB b i)=0)
def cvA (a b:OV) (i:Nat):Bool:=decide (zk_ .andNot .u8 (mB b i) (mB a i)=0) && decide (zk_ .and .u8 (zk_ .xor .u8 (vB a i) (vB b i)) (mB b i)=0)
def xV_:IR:=
(sq (kr [0,1] [oD 2 (.boxv 0),
oD 4 (.mov (.c (.int .u8 0)))])
(sq (.block 0
(sq (.reg [oA 6 2 2,
oL 7 6,
oD 8 (.un .not 7),
oM 5 8])
(.cond 5
(sq (kr [] [oD 4 (.mov (.c (.int .u8 255)))])
.ret)
(sq (kr [1,2] [oM 10 1,
oA 11 5 2,
oL 12 11,
oE 13 12,
oB 14 .lss 10 13,
oM 9 14])
(.cond 9
(sq (kr [1,2] [oA 15 5 2,
oL 16 15,
oM 17 1,
oI 18 1 16 17,
oL 19 18,
oM 4 19])
.ret)
.skip)))))
(sq (kr [] [oD 4 (.mov (.c (.int .u8 0)))])
.ret)))
def xH_:List RD:=[.tmp 4 true none]
theorem xN_:zl_ Tryz.prog Tryz.f42 xV_ xH_=true:=by kernel_rfl
def Zx_:List AV->List Obj->Option (Prop × AV)
 | [.agg [.int .i64 c,.int .i64 f,.bool h,.int .u64 x,.imm (.int .u8) v,.imm (.int .u8) m],.int .i64 i],[]=>some ((0<=i,.int .u8 (mB (c,f,h,x,v,m,()) i.toNat)))
 | _,_=>none
theorem qe_:zf_ Tryz.prog 42 (RoF Zx_).sum:=by
 refine zh_ Tryz.func42 xN_ (zd_ _) fun args objs p v e=>?_
 unfold Zx_ at e
 split at e
 ·rename_i c f h x v m i
  cases e
  refine ⟨rfl,fun hw ho hp=>?_⟩
  change List Int at v
  change List Int at m
  clear hw ho
  obtain ⟨i,rfl⟩:=Int.eq_ofNat_of_zero_le hp
  cases h
  ·have e:mB (c,f,false,x,v,m,()) i=255:=rfl
   simp only [Int.toNat_natCast,e]
   repeat'(intro t ht;first|(cases t<;>first|(cases ht;done)|(try simp only[zg_]at ht;try(exfalso;first|contradiction|omega)))|((first|refine za_ ht ?_|refine ht ?_ ?_|refine ht.1 ?_ ?_|refine ht ?_)<;>clear ht))
   all_goals first
    | exact True.intro
    | exact ⟨rfl,by first | rfl | exact True.intro⟩
  ·have e:mB (c,f,true,x,v,m,()) i=m.getD i 0:=rfl
   have e2:=fun h:m.length<=i=>bZ_ h
   simp only [Int.toNat_natCast,e]
   repeat'(intro t ht;first|(cases t<;>first|(cases ht;done)|(try simp only[zg_]at ht;try(exfalso;first|contradiction|omega)))|((first|refine za_ ht ?_|refine ht ?_ ?_|refine ht.1 ?_ ?_|refine ht ?_)<;>clear ht))
   all_goals first
    | exact True.intro
    | omega
    | (constructor<;>omega)
    | exact ⟨rfl,by first | rfl | exact True.intro⟩
    | (rw [e2 (by omega)];exact ⟨rfl,by first | rfl | exact True.intro⟩)
 ·cases e
def WH_:IR:=
(sq (kr [0,1,2] [oD 4 (.mov cF)])
(sq (kd [0,1,2] [(oA 5 4 1,[]),
(oL 6 5,[]),
(oM 7 0,[0,0]),
(oI 8 1 6 7,[]),
(oL 9 8,[]),
(oA 10 4 2,[0,0,0,0,0]),
(oL 11 10,[1,0,0,0,0]),
(oM 12 0,[0,0,0,0,0,0,0]),
(oI 13 1 11 12,[3,0,0,0,0]),
(oL 14 13,[4,0,0,0,0]),
(oB 15 .xor 9 14,[]),
(oK 16 6 1,[0,0,0,0,0,0,0,0,0,0,0]),
(oM 17 0,[0,0,0,0,0,0,0,0,0,0,0,0]),
(oC 18 42 [16,17],[2,0,0,0,0,0,0,0,0,0,0]),
(oB 19 .and 15 18,[]),
(oB 20 .eql 19 (.c (.int .u8 0)),[]),
(oM 4 20,[])])
.ret))
def Wo_:List RD:=[.tmp 4 true none]
theorem Wy_:zl_ Tryz.prog Tryz.f65 WH_ Wo_=true:=by kernel_rfl
def qM_:List AV->List Obj->Option (Prop × AV)
 | [.int .i64 i,.ptr 0 0,.ptr 1 0],[.box [.int .i64 c,.int .i64 f,.bool h,.int .u64 x,.imm (.int .u8) v,.imm (.int .u8) m],.box [.int .i64 c',.int .i64 f',.bool h',.int .u64 x',.imm (.int .u8) v',.imm (.int .u8) m']]=>some ((0<=i/\i < v.length/\i < v'.length,.bool (tkA (c,f,h,x,v,m,()) (c',f',h',x',v',m',()) i.toNat)))
 | _,_=>none
theorem k4_:zf_ Tryz.prog 65 (RoF qM_).sum:=by
 refine zh_ Tryz.func65 Wy_ (zb_ (s:=RoF Zx_) qe_ (zd_ _)) fun args objs p v e=>?_
 unfold qM_ at e
 split at e
 ·rename_i i c f h x v m c' f' h' x' v' m'
  cases e
  refine ⟨rfl,fun hw ho hp=>?_⟩
  change List Int at v
  change List Int at m
  change List Int at v'
  change List Int at m'
  clear hw ho
  obtain ⟨h1,h2,h3⟩:=hp
  repeat'(intro t ht;first|(cases t<;>first|(cases ht;done)|(try simp only[zg_]at ht;try(exfalso;first|contradiction|omega)))|((first|refine za_ ht ?_|refine ht ?_ ?_|refine ht.1 ?_ ?_|refine ht ?_)<;>clear ht))
  all_goals first
   | exact True.intro
   | omega
   | (constructor<;>omega)
   | exact ⟨rfl,by first | rfl | exact True.intro⟩
 ·cases e
def WI_:IR:=
(sq (kr [0,1,2] [oD 4 (.mov cF)])
(sq (kd [0,1,2] [(oA 5 4 1,[]),
(oL 6 5,[]),
(oM 7 0,[0,0]),
(oI 8 1 6 7,[]),
(oL 9 8,[]),
(oA 10 4 2,[0,0,0,0,0]),
(oL 11 10,[1,0,0,0,0]),
(oM 12 0,[0,0,0,0,0,0,0]),
(oI 13 1 11 12,[3,0,0,0,0]),
(oL 14 13,[4,0,0,0,0]),
(oB 15 .xor 9 14,[]),
(oK 16 6 1,[0,0,0,0,0,0,0,0,0,0,0]),
(oM 17 0,[0,0,0,0,0,0,0,0,0,0,0,0]),
(oC 18 42 [16,17],[2,0,0,0,0,0,0,0,0,0,0]),
(oB 19 .and 15 18,[]),
(oK 20 6 2,[0,0,0,0,0,0,0,0,0,0,0,0,0,0,0]),
(oM 21 0,[0,0,0,0,0,0,0,0,0,0,0,0,0,0,0,0]),
(oC 22 42 [20,21],[2,3,0,0,0,0,0,0,0,0,0,0]),
(oB 23 .and 19 22,[]),
(oB 24 .eql 23 (.c (.int .u8 0)),[]),
(oM 4 24,[])])
.ret))
def Wp_:List RD:=[.tmp 4 true none]
theorem Wz_:zl_ Tryz.prog Tryz.f67 WI_ Wp_=true:=by kernel_rfl
def qN_:List AV->List Obj->Option (Prop × AV)
 | [.int .i64 i,.ptr 0 0,.ptr 1 0],[.box [.int .i64 c,.int .i64 f,.bool h,.int .u64 x,.imm (.int .u8) v,.imm (.int .u8) m],.box [.int .i64 c',.int .i64 f',.bool h',.int .u64 x',.imm (.int .u8) v',.imm (.int .u8) m']]=>some ((0<=i/\i < v.length/\i < v'.length,.bool (clA (c,f,h,x,v,m,()) (c',f',h',x',v',m',()) i.toNat)))
 | _,_=>none
theorem k5_:zf_ Tryz.prog 67 (RoF qN_).sum:=by
 refine zh_ Tryz.func67 Wz_ (zb_ (s:=RoF Zx_) qe_ (zd_ _)) fun args objs p v e=>?_
 unfold qN_ at e
 split at e
 ·rename_i i c f h x v m c' f' h' x' v' m'
  cases e
  refine ⟨rfl,fun hw ho hp=>?_⟩
  change List Int at v
  change List Int at m
  change List Int at v'
  change List Int at m'
  clear hw ho
  obtain ⟨h1,h2,h3⟩:=hp
  repeat'(intro t ht;first|(cases t<;>first|(cases ht;done)|(try simp only[zg_]at ht;try(exfalso;first|contradiction|omega)))|((first|refine za_ ht ?_|refine ht ?_ ?_|refine ht.1 ?_ ?_|refine ht ?_)<;>clear ht))
  all_goals first
   | exact True.intro
   | omega
   | (constructor<;>omega)
   | exact ⟨rfl,by first | rfl | exact True.intro⟩
 ·cases e
def wX_:IR:=
(sq (kr [0,1,2] [oD 4 (.mov cF)])
(sq (.reg [oK 6 6 1,
oM 7 0,
oC 8 42 [6,7],
oM 5 8])
(sq (kd [0,1,2,5] [(oM 9 5,[]),
(oK 10 6 2,[0]),
(oM 11 0,[0,0]),
(oC 12 42 [10,11],[2]),
(oB 13 .andNot 9 12,[]),
(oB 14 .eql 13 (.c (.int .u8 0)),[]),
(oM 15 14,[]),
(oT 15 16 (.fieldAddr 4 2),[]),
(oT 15 17 (.load none 16),[]),
(oT 15 18 (.mov 0),[0,0]),
(oT 15 19 (.indexSl 1 17 18),[]),
(oT 15 20 (.load none 19),[]),
(oT 15 21 (.fieldAddr 4 1),[0,0,0,0,0]),
(oT 15 22 (.load none 21),[1,0,0,0,0]),
(oT 15 23 (.mov 0),[0,0,0,0,0,0,0]),
(oT 15 24 (.indexSl 1 22 23),[3,0,0,0,0]),
(oT 15 25 (.load none 24),[4,0,0,0,0]),
(oT 15 26 (.bin .xor 20 25),[]),
(oT 15 27 (.mov 5),[0,0,0,0,0,0,0,0,0,0,0]),
(oT 15 28 (.bin .and 26 27),[]),
(oT 15 29 (.bin .eql 28 (.c (.int .u8 0))),[]),
(oP 30 15 29 cF,[]),
(oM 4 30,[])])
.ret)))
def wy_:List RD:=[.tmp 4 true none]
theorem wH_:zl_ Tryz.prog Tryz.f66 wX_ wy_=true:=by kernel_rfl
def qs_:List AV->List Obj->Option (Prop × AV)
 | [.int .i64 i,.ptr 0 0,.ptr 1 0],[.box [.int .i64 c,.int .i64 f,.bool h,.int .u64 x,.imm (.int .u8) v,.imm (.int .u8) m],.box [.int .i64 c',.int .i64 f',.bool h',.int .u64 x',.imm (.int .u8) v',.imm (.int .u8) m']]=>some ((0<=i/\i < v.length/\i < v'.length,.bool (cvA (c',f',h',x',v',m',()) (c,f,h,x,v,m,()) i.toNat)))
 | _,_=>none
theorem kM_:zf_ Tryz.prog 66 (RoF qs_).sum:=by
 refine zh_ Tryz.func66 wH_ (zb_ (s:=RoF Zx_) qe_ (zd_ _)) fun args objs p v e=>?_
 unfold qs_ at e
 split at e
 ·rename_i i c f h x v m c' f' h' x' v' m'
  cases e
  refine ⟨rfl,fun hw ho hp=>?_⟩
  change List Int at v
  change List Int at m
  change List Int at v'
  change List Int at m'
  clear hw ho
  obtain ⟨h1,h2,h3⟩:=hp
  unfold cvA
  repeat'(intro t ht;first|(cases t<;>first|(cases ht;done)|(try simp only[zg_]at ht;try(exfalso;first|contradiction|omega)))|((first|refine za_ ht ?_|refine ht ?_ ?_|refine ht.1 ?_ ?_|refine ht ?_)<;>clear ht))
  all_goals first
   | exact True.intro
   | omega
   | (constructor<;>omega)
   | (refine ⟨congrArg AV.bool ?_,by first | rfl | exact True.intro⟩
      first
       | (rw [show zk_ .andNot .u8 (mB (c,f,h,x,v,m,()) i.toNat) (mB (c',f',h',x',v',m',()) i.toNat)=0 from ht];rfl)
       | (rw [decide_eq_false ht];rfl)
       | (rw [decide_eq_true ht];rfl))
 ·cases e
def ys_:IR:=
(sq (kr [0,1] [oD 2 (.boxv 0),
oD 4 (.mov cF)])
(sq (sq (.reg [oA 6 4 2,
oL 7 6,
oE 8 7,
oD 9 (.mov (cI 0))])
(.block 0
(.loop
(sq (kr [1,8,9] [oB 10 .lss 9 8])
(sq (.cond 10
.skip
(.exit 0))
(sq (.block 1
(sq (.reg [oM 11 9,
oM 5 11])
(sq (.reg [oM 12 1,
oM 13 5,
oD 14 (.call false 12 [13]),
oD 15 (.un .not 14)])
(.cond 15
(sq (kr [] [oD 4 (.mov cF)])
.ret)
.skip))))
(kr [1,8,9] [oB 16 .add 9 (cI 1),
oM 9 16])))))))
(sq (kr [] [oD 4 (.mov cT)])
.ret)))
def XR_:List RD:=[.tmp 4 true none]
theorem yb_:zl_ Tryz.prog Tryz.f64 ys_ XR_=true:=by kernel_rfl
def qJ_:List AV->List Obj->Option (Prop × AV)
 | [.agg [.int .i64 c,.int .i64 f,.bool h,.int .u64 x,.imm (.int .u8) v,.imm (.int .u8) m],.fn 65 [] [.ptr 0 0,.ptr 1 0]],[.box [.int .i64 a1,.int .i64 a2,.bool a3,.int .u64 a4,.imm (.int .u8) a5,.imm (.int .u8) a6],.box [.int .i64 b1,.int .i64 b2,.bool b3,.int .u64 b4,.imm (.int .u8) b5,.imm (.int .u8) b6]]=>some ((v.length<=a5.length/\v.length<=b5.length/\v.length<=1000000,.bool ((List.range v.length).all (tkA (a1,a2,a3,a4,a5,a6,()) (b1,b2,b3,b4,b5,b6,())))))
 | [.agg [.int .i64 c,.int .i64 f,.bool h,.int .u64 x,.imm (.int .u8) v,.imm (.int .u8) m],.fn 67 [] [.ptr 0 0,.ptr 1 0]],[.box [.int .i64 a1,.int .i64 a2,.bool a3,.int .u64 a4,.imm (.int .u8) a5,.imm (.int .u8) a6],.box [.int .i64 b1,.int .i64 b2,.bool b3,.int .u64 b4,.imm (.int .u8) b5,.imm (.int .u8) b6]]=>some ((v.length<=a5.length/\v.length<=b5.length/\v.length<=1000000,.bool ((List.range v.length).all (clA (a1,a2,a3,a4,a5,a6,()) (b1,b2,b3,b4,b5,b6,())))))
 | [.agg [.int .i64 c,.int .i64 f,.bool h,.int .u64 x,.imm (.int .u8) v,.imm (.int .u8) m],.fn 66 [] [.ptr 0 0,.ptr 1 0]],[.box [.int .i64 a1,.int .i64 a2,.bool a3,.int .u64 a4,.imm (.int .u8) a5,.imm (.int .u8) a6],.box [.int .i64 b1,.int .i64 b2,.bool b3,.int .u64 b4,.imm (.int .u8) b5,.imm (.int .u8) b6]]=>some ((v.length<=a5.length/\v.length<=b5.length/\v.length<=1000000,.bool ((List.range v.length).all (cvA (b1,b2,b3,b4,b5,b6,()) (a1,a2,a3,a4,a5,a6,())))))
 | _,_=>none
theorem km_:zf_ Tryz.prog 64 (RoF qJ_).sum:=by
 refine zh_ Tryz.func64 yb_ (zb_ (s:=RoF qN_) k5_ (zb_ (s:=RoF qs_) kM_ (zb_ (s:=RoF qM_) k4_ (zd_ _)))) fun args objs p v e=>?_
 unfold qJ_ at e
 split at e
 ·rename_i c f h x v m a1 a2 a3 a4 a5 a6 b1 b2 b3 b4 b5 b6
  cases e
  refine ⟨rfl,fun hw ho hp=>?_⟩
  change List Int at v
  change List Int at m
  change List Int at a5
  change List Int at a6
  change List Int at b5
  change List Int at b6
  clear hw ho
  obtain ⟨h1,h2,h3⟩:=hp
  repeat'(intro t ht;first|(cases t<;>first|(cases ht;done)|(try simp only[zg_]at ht;try(exfalso;first|contradiction|omega)))|((first|refine za_ ht ?_|refine ht ?_ ?_|refine ht.1 ?_ ?_|refine ht ?_)<;>clear ht))
  all_goals first
   | exact True.intro
   | (intro r h1 h2;clear h1;refine h2 ⟨[1,8,9],Nat,(fun i=>i<=v.length/\(List.range i).all (tkA (a1,a2,a3,a4,a5,a6,()) (b1,b2,b3,b4,b5,b6,()))=true),fun i=>[.fn 65 [] [.ptr 0 0,.ptr 1 0],.int .i64 v.length,.int .i64 i],fun _=>[.box [.int .i64 a1,.int .i64 a2,.bool a3,.int .u64 a4,.imm (.int .u8) a5,.imm (.int .u8) a6],.box [.int .i64 b1,.int .i64 b2,.bool b3,.int .u64 b4,.imm (.int .u8) b5,.imm (.int .u8) b6]],fun i=>v.length - i,⟨0,⟨Nat.zero_le _,rfl⟩,rfl,rfl⟩,?_⟩;clear h2)
  rintro i ⟨hi,hJ⟩
  have e1:=fun k=>Jq_ (g:=tkA (a1,a2,a3,a4,a5,a6,()) (b1,b2,b3,b4,b5,b6,())) (i:=i) hJ k
  have e2:=fun h k=>Xh_ (g:=tkA (a1,a2,a3,a4,a5,a6,()) (b1,b2,b3,b4,b5,b6,())) (i:=i) (n:=v.length) h k
  repeat'(intro t ht;first|(cases t<;>first|(cases ht;done)|(try simp only[zg_]at ht;try(exfalso;first|contradiction|omega)))|((first|refine za_ ht ?_|refine ht ?_ ?_|refine ht.1 ?_ ?_|refine ht ?_)<;>clear ht))
  all_goals (try simp only [Int.toNat_natCast] at ht ⊢)
  all_goals first
   | exact True.intro
   | omega
   | (refine ⟨?_,?_,?_⟩<;>omega)
   | ((try dsimp only);simp only [zj_];omega)
   | (rw [e2 (by omega) ht];exact ⟨rfl,by first | rfl | exact True.intro⟩)
   | (have e:i=v.length:=by omega
      rw [e] at hJ;rw [hJ];exact ⟨rfl,by first | rfl | exact True.intro⟩)
   | (refine ⟨i+1,⟨by omega,e1 ht⟩,?_,rfl,by first | rfl | exact True.intro⟩
      (try dsimp only);omega)
 ·rename_i c f h x v m a1 a2 a3 a4 a5 a6 b1 b2 b3 b4 b5 b6
  cases e
  refine ⟨rfl,fun hw ho hp=>?_⟩
  change List Int at v
  change List Int at m
  change List Int at a5
  change List Int at a6
  change List Int at b5
  change List Int at b6
  clear hw ho
  obtain ⟨h1,h2,h3⟩:=hp
  repeat'(intro t ht;first|(cases t<;>first|(cases ht;done)|(try simp only[zg_]at ht;try(exfalso;first|contradiction|omega)))|((first|refine za_ ht ?_|refine ht ?_ ?_|refine ht.1 ?_ ?_|refine ht ?_)<;>clear ht))
  all_goals first
   | exact True.intro
   | (intro r h1 h2;clear h1;refine h2 ⟨[1,8,9],Nat,(fun i=>i<=v.length/\(List.range i).all (clA (a1,a2,a3,a4,a5,a6,()) (b1,b2,b3,b4,b5,b6,()))=true),fun i=>[.fn 67 [] [.ptr 0 0,.ptr 1 0],.int .i64 v.length,.int .i64 i],fun _=>[.box [.int .i64 a1,.int .i64 a2,.bool a3,.int .u64 a4,.imm (.int .u8) a5,.imm (.int .u8) a6],.box [.int .i64 b1,.int .i64 b2,.bool b3,.int .u64 b4,.imm (.int .u8) b5,.imm (.int .u8) b6]],fun i=>v.length - i,⟨0,⟨Nat.zero_le _,rfl⟩,rfl,rfl⟩,?_⟩;clear h2)
  rintro i ⟨hi,hJ⟩
  have e1:=fun k=>Jq_ (g:=clA (a1,a2,a3,a4,a5,a6,()) (b1,b2,b3,b4,b5,b6,())) (i:=i) hJ k
  have e2:=fun h k=>Xh_ (g:=clA (a1,a2,a3,a4,a5,a6,()) (b1,b2,b3,b4,b5,b6,())) (i:=i) (n:=v.length) h k
  repeat'(intro t ht;first|(cases t<;>first|(cases ht;done)|(try simp only[zg_]at ht;try(exfalso;first|contradiction|omega)))|((first|refine za_ ht ?_|refine ht ?_ ?_|refine ht.1 ?_ ?_|refine ht ?_)<;>clear ht))
  all_goals (try simp only [Int.toNat_natCast] at ht ⊢)
  all_goals first
   | exact True.intro
   | omega
   | (refine ⟨?_,?_,?_⟩<;>omega)
   | ((try dsimp only);simp only [zj_];omega)
   | (rw [e2 (by omega) ht];exact ⟨rfl,by first | rfl | exact True.intro⟩)
   | (have e:i=v.length:=by omega
      rw [e] at hJ;rw [hJ];exact ⟨rfl,by first | rfl | exact True.intro⟩)
   | (refine ⟨i+1,⟨by omega,e1 ht⟩,?_,rfl,by first | rfl | exact True.intro⟩
      (try dsimp only);omega)
 ·rename_i c f h x v m a1 a2 a3 a4 a5 a6 b1 b2 b3 b4 b5 b6
  cases e
  refine ⟨rfl,fun hw ho hp=>?_⟩
  change List Int at v
  change List Int at m
  change List Int at a5
  change List Int at a6
  change List Int at b5
  change List Int at b6
  clear hw ho
  obtain ⟨h1,h2,h3⟩:=hp
  repeat'(intro t ht;first|(cases t<;>first|(cases ht;done)|(try simp only[zg_]at ht;try(exfalso;first|contradiction|omega)))|((first|refine za_ ht ?_|refine ht ?_ ?_|refine ht.1 ?_ ?_|refine ht ?_)<;>clear ht))
  all_goals first
   | exact True.intro
   | (intro r h1 h2;clear h1;refine h2 ⟨[1,8,9],Nat,(fun i=>i<=v.length/\(List.range i).all (cvA (b1,b2,b3,b4,b5,b6,()) (a1,a2,a3,a4,a5,a6,()))=true),fun i=>[.fn 66 [] [.ptr 0 0,.ptr 1 0],.int .i64 v.length,.int .i64 i],fun _=>[.box [.int .i64 a1,.int .i64 a2,.bool a3,.int .u64 a4,.imm (.int .u8) a5,.imm (.int .u8) a6],.box [.int .i64 b1,.int .i64 b2,.bool b3,.int .u64 b4,.imm (.int .u8) b5,.imm (.int .u8) b6]],fun i=>v.length - i,⟨0,⟨Nat.zero_le _,rfl⟩,rfl,rfl⟩,?_⟩;clear h2)
  rintro i ⟨hi,hJ⟩
  have e1:=fun k=>Jq_ (g:=cvA (b1,b2,b3,b4,b5,b6,()) (a1,a2,a3,a4,a5,a6,())) (i:=i) hJ k
  have e2:=fun h k=>Xh_ (g:=cvA (b1,b2,b3,b4,b5,b6,()) (a1,a2,a3,a4,a5,a6,())) (i:=i) (n:=v.length) h k
  repeat'(intro t ht;first|(cases t<;>first|(cases ht;done)|(try simp only[zg_]at ht;try(exfalso;first|contradiction|omega)))|((first|refine za_ ht ?_|refine ht ?_ ?_|refine ht.1 ?_ ?_|refine ht ?_)<;>clear ht))
  all_goals (try simp only [Int.toNat_natCast] at ht ⊢)
  all_goals first
   | exact True.intro
   | omega
   | (refine ⟨?_,?_,?_⟩<;>omega)
   | ((try dsimp only);simp only [zj_];omega)
   | (rw [e2 (by omega) ht];exact ⟨rfl,by first | rfl | exact True.intro⟩)
   | (have e:i=v.length:=by omega
      rw [e] at hJ;rw [hJ];exact ⟨rfl,by first | rfl | exact True.intro⟩)
   | (refine ⟨i+1,⟨by omega,e1 ht⟩,?_,rfl,by first | rfl | exact True.intro⟩
      (try dsimp only);omega)
 ·cases e
def yr_:IR:=
(sq (kr [0,1] [oD 2 (.boxv 0),
oD 3 (.boxv 1),
oD 4 (.mov cF)])
(sq (sq (kr [2,3] [oK 5 6 2,
oK 6 6 3,
oC 7 60 [5,6],
oD 8 (.un .not 7),
oM 9 8,
oF 9 10 (.fieldAddr 2 3),
oF 9 11 (.load none 10),
oP 12 9 cT 11,
oM 13 12,
oF 13 14 (.fieldAddr 4 2),
oF 13 15 (.load none 14),
oF 13 16 (.len 15),
oF 13 17 (.fieldAddr 4 3),
oF 13 18 (.load none 17),
oF 13 19 (.len 18),
oF 13 20 (.bin .neq 16 19),
oP 21 13 cT 20])
(.cond 21
(sq (kr [] [oD 4 (.mov cF)])
.ret)
.skip))
(sq (kr [2,3] [oK 22 6 2,
oD 23 (.mkfn 65 [] [2,3]),
oC 24 64 [22,23],
oM 4 24])
.ret)))
def XQ_:List RD:=[.tmp 4 true none]
theorem ya_:zl_ Tryz.prog Tryz.f34 yr_ XQ_=true:=by kernel_rfl
def Kq_:List AV->List Obj->Option (Prop × AV)
 | [.agg [.int .i64 c,.int .i64 f,.bool h,.int .u64 x,.imm (.int .u8) v,.imm (.int .u8) m],.agg [.int .i64 c',.int .i64 f',.bool h',.int .u64 x',.imm (.int .u8) v',.imm (.int .u8) m']],[]=>some ((v.length<=1000000,.bool (Zu_ (c,f,h,x,v,m,()) (c',f',h',x',v',m',()))))
 | _,_=>none
theorem xB_:zf_ Tryz.prog 34 (RoF Kq_).sum:=by
 refine zh_ Tryz.func34 ya_ (zb_ (s:=RoF q0_) Q2_ (zb_ (s:=RoF qM_) k4_ (zb_ (s:=RoF qJ_) km_ (zd_ _)))) fun args objs p v e=>?_
 unfold Kq_ at e
 split at e
 ·rename_i c f h x v m c' f' h' x' v' m'
  cases e
  refine ⟨rfl,fun hw ho hp=>?_⟩
  change List Int at v
  change List Int at m
  change List Int at v'
  change List Int at m'
  clear hw ho
  by_cases e:(c=c'/\f=f')/\x=x'
  ·have hal:alO (c,f,h,x,v,m,()) (c',f',h',x',v',m',())=true:=w8_ e
   cases h'
   ·by_cases hl:v.length=v'.length
    ·have hF:Zu_ (c,f,h,x,v,m,()) (c',f',false,x',v',m',())=(List.range v.length).all (tkA (c,f,h,x,v,m,()) (c',f',false,x',v',m',())):=by
      unfold Zu_ lnV
      rw [hal,decide_eq_true hl];rfl
     rw [hF]
     repeat'(intro t ht;first|(cases t<;>first|(cases ht;done)|(try simp only[zg_]at ht;try(exfalso;first|contradiction|omega)))|((first|refine za_ ht ?_|refine ht ?_ ?_|refine ht.1 ?_ ?_|refine ht ?_)<;>clear ht))
     all_goals first
      | exact True.intro
      | exact ⟨rfl,by first | rfl | exact True.intro⟩
      | (refine ⟨?_,?_,?_⟩<;>omega)
      | (exfalso;omega)
    ·have hF:Zu_ (c,f,h,x,v,m,()) (c',f',false,x',v',m',())=false:=by
      unfold Zu_ lnV
      rw [decide_eq_false hl,Bool.and_false,Bool.false_and]
     rw [hF]
     repeat'(intro t ht;first|(cases t<;>first|(cases ht;done)|(try simp only[zg_]at ht;try(exfalso;first|contradiction|omega)))|((first|refine za_ ht ?_|refine ht ?_ ?_|refine ht.1 ?_ ?_|refine ht ?_)<;>clear ht))
     all_goals first
      | exact True.intro
      | exact ⟨rfl,by first | rfl | exact True.intro⟩
      | (refine ⟨?_,?_,?_⟩<;>omega)
      | (exfalso;omega)
   ·have hF:Zu_ (c,f,h,x,v,m,()) (c',f',true,x',v',m',())=false:=by
     unfold Zu_
     rw [hal];rfl
    rw [hF]
    repeat'(intro t ht;first|(cases t<;>first|(cases ht;done)|(try simp only[zg_]at ht;try(exfalso;first|contradiction|omega)))|((first|refine za_ ht ?_|refine ht ?_ ?_|refine ht.1 ?_ ?_|refine ht ?_)<;>clear ht))
    all_goals first
     | exact True.intro
     | exact ⟨rfl,by first | rfl | exact True.intro⟩
     | (refine ⟨?_,?_,?_⟩<;>omega)
     | (exfalso;omega)
  ·have hal:alO (c,f,h,x,v,m,()) (c',f',h',x',v',m',())=false:=Bool.eq_false_iff.2 fun k=>e (by
    obtain ⟨k1,k2,k3⟩:=(Kd_ _ _).1 k
    exact ⟨⟨k1,k2⟩,k3⟩)
   have hF:Zu_ (c,f,h,x,v,m,()) (c',f',h',x',v',m',())=false:=by unfold Zu_;rw [hal];rfl
   rw [hF]
   repeat'(intro t ht;first|(cases t<;>first|(cases ht;done)|(try simp only[zg_]at ht;try(exfalso;first|contradiction|omega)))|((first|refine za_ ht ?_|refine ht ?_ ?_|refine ht.1 ?_ ?_|refine ht ?_)<;>clear ht))
   all_goals first
    | exact True.intro
    | exact ⟨rfl,by first | rfl | exact True.intro⟩
    | (exfalso;omega)
 ·cases e
def yt_:IR:=
(sq (kr [0,1] [oD 2 (.boxv 0),
oD 3 (.boxv 1),
oD 4 (.mov cF)])
(sq (sq (.reg [oK 5 6 2,
oK 6 6 3,
oC 7 60 [5,6],
oD 8 (.un .not 7)])
(.cond 8
(sq (kr [] [oD 4 (.mov cF)])
.ret)
.skip))
(sq (kr [2,3] [oA 9 4 2,
oL 10 9,
oE 11 10,
oA 12 4 3,
oL 13 12,
oE 14 13,
oB 15 .neq 11 14,
oM 16 15,
oF 16 17 (.load (some 6) 2),
oF 16 18 (.mkfn 67 [] [2,3]),
oF 16 19 (.call false (.f 64) [17,18]),
oF 16 20 (.un .not 19),
oP 21 16 cT 20,
oM 4 21])
.ret)))
def XS_:List RD:=[.tmp 4 true none]
theorem yc_:zl_ Tryz.prog Tryz.f39 yt_ XS_=true:=by kernel_rfl
def Kr_:List AV->List Obj->Option (Prop × AV)
 | [.agg [.int .i64 c,.int .i64 f,.bool h,.int .u64 x,.imm (.int .u8) v,.imm (.int .u8) m],.agg [.int .i64 c',.int .i64 f',.bool h',.int .u64 x',.imm (.int .u8) v',.imm (.int .u8) m']],[]=>some ((v.length<=1000000,.bool (zv_ (c,f,h,x,v,m,()) (c',f',h',x',v',m',()))))
 | _,_=>none
theorem xC_:zf_ Tryz.prog 39 (RoF Kr_).sum:=by
 refine zh_ Tryz.func39 yc_ (zb_ (s:=RoF q0_) Q2_ (zb_ (s:=RoF qN_) k5_ (zb_ (s:=RoF qJ_) km_ (zd_ _)))) fun args objs p v e=>?_
 unfold Kr_ at e
 split at e
 ·rename_i c f h x v m c' f' h' x' v' m'
  cases e
  refine ⟨rfl,fun hw ho hp=>?_⟩
  change List Int at v
  change List Int at m
  change List Int at v'
  change List Int at m'
  clear hw ho
  by_cases e:(c=c'/\f=f')/\x=x'
  ·have hal:alO (c,f,h,x,v,m,()) (c',f',h',x',v',m',())=true:=w8_ e
   by_cases hl:v.length=v'.length
   ·have hF:zv_ (c,f,h,x,v,m,()) (c',f',h',x',v',m',())=!(List.range v.length).all (clA (c,f,h,x,v,m,()) (c',f',h',x',v',m',())):=by
     unfold zv_ lnV
     rw [hal,decide_eq_true hl];rfl
    rw [hF]
    repeat'(intro t ht;first|(cases t<;>first|(cases ht;done)|(try simp only[zg_]at ht;try(exfalso;first|contradiction|omega)))|((first|refine za_ ht ?_|refine ht ?_ ?_|refine ht.1 ?_ ?_|refine ht ?_)<;>clear ht))
    all_goals first
     | exact True.intro
     | exact ⟨rfl,by first | rfl | exact True.intro⟩
     | (refine ⟨?_,?_,?_⟩<;>omega)
     | (exfalso;omega)
   ·have hF:zv_ (c,f,h,x,v,m,()) (c',f',h',x',v',m',())=true:=by
     unfold zv_ lnV
     rw [hal,decide_eq_false hl];rfl
    rw [hF]
    repeat'(intro t ht;first|(cases t<;>first|(cases ht;done)|(try simp only[zg_]at ht;try(exfalso;first|contradiction|omega)))|((first|refine za_ ht ?_|refine ht ?_ ?_|refine ht.1 ?_ ?_|refine ht ?_)<;>clear ht))
    all_goals first
     | exact True.intro
     | exact ⟨rfl,by first | rfl | exact True.intro⟩
     | (refine ⟨?_,?_,?_⟩<;>omega)
     | (exfalso;omega)
  ·have hal:alO (c,f,h,x,v,m,()) (c',f',h',x',v',m',())=false:=Bool.eq_false_iff.2 fun k=>e (by
    obtain ⟨k1,k2,k3⟩:=(Kd_ _ _).1 k
    exact ⟨⟨k1,k2⟩,k3⟩)
   have hF:zv_ (c,f,h,x,v,m,()) (c',f',h',x',v',m',())=false:=by unfold zv_;rw [hal];rfl
   rw [hF]
   repeat'(intro t ht;first|(cases t<;>first|(cases ht;done)|(try simp only[zg_]at ht;try(exfalso;first|contradiction|omega)))|((first|refine za_ ht ?_|refine ht ?_ ?_|refine ht.1 ?_ ?_|refine ht ?_)<;>clear ht))
   all_goals first
    | exact True.intro
    | exact ⟨rfl,by first | rfl | exact True.intro⟩
    | (exfalso;omega)
 ·cases e
def xW_:IR:=
(sq (kr [0,1] [oD 2 (.boxv 0),
oD 3 (.boxv 1),
oD 4 (.mov cF)])
(sq (sq (kr [2,3] [oK 5 6 2,
oK 6 6 3,
oC 7 60 [5,6],
oD 8 (.un .not 7),
oM 9 8,
oF 9 10 (.fieldAddr 4 2),
oF 9 11 (.load none 10),
oF 9 12 (.len 11),
oF 9 13 (.fieldAddr 4 3),
oF 9 14 (.load none 13),
oF 9 15 (.len 14),
oF 9 16 (.bin .neq 12 15),
oP 17 9 cT 16])
(.cond 17
(sq (kr [] [oD 4 (.mov cF)])
.ret)
.skip))
(sq (kr [2,3] [oK 18 6 2,
oD 19 (.mkfn 66 [] [3,2]),
oC 20 64 [18,19],
oM 4 20])
.ret)))
def xI_:List RD:=[.tmp 4 true none]
theorem xO_:zl_ Tryz.prog Tryz.f36 xW_ xI_=true:=by kernel_rfl
def kY_:List AV->List Obj->Option (Prop × AV)
 | [.agg [.int .i64 c,.int .i64 f,.bool h,.int .u64 x,.imm (.int .u8) v,.imm (.int .u8) m],.agg [.int .i64 c',.int .i64 f',.bool h',.int .u64 x',.imm (.int .u8) v',.imm (.int .u8) m']],[]=>some ((v.length<=1000000,.bool (Zh_ (c,f,h,x,v,m,()) (c',f',h',x',v',m',()))))
 | _,_=>none
theorem Wj_:zf_ Tryz.prog 36 (RoF kY_).sum:=by
 refine zh_ Tryz.func36 xO_ (zb_ (s:=RoF q0_) Q2_ (zb_ (s:=RoF qs_) kM_ (zb_ (s:=RoF qJ_) km_ (zd_ _)))) fun args objs p v e=>?_
 unfold kY_ at e
 split at e
 ·rename_i c f h x v m c' f' h' x' v' m'
  cases e
  refine ⟨rfl,fun hw ho hp=>?_⟩
  change List Int at v
  change List Int at m
  change List Int at v'
  change List Int at m'
  clear hw ho
  by_cases e:(c=c'/\f=f')/\x=x'
  ·have hal:alO (c,f,h,x,v,m,()) (c',f',h',x',v',m',())=true:=w8_ e
   by_cases hl:v.length=v'.length
   ·have hF:Zh_ (c,f,h,x,v,m,()) (c',f',h',x',v',m',())=(List.range v.length).all (cvA (c,f,h,x,v,m,()) (c',f',h',x',v',m',())):=by
     unfold Zh_ lnV
     rw [hal,decide_eq_true hl];rfl
    rw [hF]
    repeat'(intro t ht;first|(cases t<;>first|(cases ht;done)|(try simp only[zg_]at ht;try(exfalso;first|contradiction|omega)))|((first|refine za_ ht ?_|refine ht ?_ ?_|refine ht.1 ?_ ?_|refine ht ?_)<;>clear ht))
    all_goals first
     | exact True.intro
     | exact ⟨rfl,by first | rfl | exact True.intro⟩
     | (refine ⟨?_,?_,?_⟩<;>omega)
     | (exfalso;omega)
   ·have hF:Zh_ (c,f,h,x,v,m,()) (c',f',h',x',v',m',())=false:=by
     unfold Zh_ lnV
     rw [decide_eq_false hl,Bool.and_false,Bool.false_and]
    rw [hF]
    repeat'(intro t ht;first|(cases t<;>first|(cases ht;done)|(try simp only[zg_]at ht;try(exfalso;first|contradiction|omega)))|((first|refine za_ ht ?_|refine ht ?_ ?_|refine ht.1 ?_ ?_|refine ht ?_)<;>clear ht))
    all_goals first
     | exact True.intro
     | exact ⟨rfl,by first | rfl | exact True.intro⟩
     | (refine ⟨?_,?_,?_⟩<;>omega)
     | (exfalso;omega)
  ·have hal:alO (c,f,h,x,v,m,()) (c',f',h',x',v',m',())=false:=Bool.eq_false_iff.2 fun k=>e (by
    obtain ⟨k1,k2,k3⟩:=(Kd_ _ _).1 k
    exact ⟨⟨k1,k2⟩,k3⟩)
   have hF:Zh_ (c,f,h,x,v,m,()) (c',f',h',x',v',m',())=false:=by unfold Zh_;rw [hal];rfl
   rw [hF]
   repeat'(intro t ht;first|(cases t<;>first|(cases ht;done)|(try simp only[zg_]at ht;try(exfalso;first|contradiction|omega)))|((first|refine za_ ht ?_|refine ht ?_ ?_|refine ht.1 ?_ ?_|refine ht ?_)<;>clear ht))
   all_goals first
    | exact True.intro
    | exact ⟨rfl,by first | rfl | exact True.intro⟩
    | (exfalso;omega)
 ·cases e
def WJ_:IR:=
(sq (kr [0,1] [oD 2 (.boxv 0),
oD 3 (.mov cF)])
(sq (.reg [oK 4 6 1,
oK 5 6 2,
oC 6 34 [4,5],
oM 3 6])
.ret))
def Wq_:List RD:=[.tmp 3 true none]
theorem WA_:zl_ Tryz.prog Tryz.f33 WJ_ Wq_=true:=by kernel_rfl
def ZI_:List AV->List Obj->Option (Prop × AV)
 | [.agg [.int .i64 c',.int .i64 f',.bool h',.int .u64 x',.imm (.int .u8) v',.imm (.int .u8) m'],.ptr 0 0],[.box [.int .i64 c,.int .i64 f,.bool h,.int .u64 x,.imm (.int .u8) v,.imm (.int .u8) m]]=>some ((v.length<=1000000,.bool (Zu_ (c,f,h,x,v,m,()) (c',f',h',x',v',m',()))))
 | _,_=>none
theorem Qc_:zf_ Tryz.prog 33 (RoF ZI_).sum:=by
 refine zh_ Tryz.func33 WA_ (zb_ (s:=RoF Kq_) xB_ (zd_ _)) fun args objs p v e=>?_
 unfold ZI_ at e
 split at e
 ·rename_i c' f' h' x' v' m' c f h x v m
  cases e
  refine ⟨rfl,fun hw ho hp=>?_⟩
  change List Int at v'
  change List Int at m'
  change List Int at v
  change List Int at m
  clear hw ho
  repeat'(intro t ht;first|(cases t<;>first|(cases ht;done)|(try simp only[zg_]at ht;try(exfalso;first|contradiction|omega)))|((first|refine za_ ht ?_|refine ht ?_ ?_|refine ht.1 ?_ ?_|refine ht ?_)<;>clear ht))
  all_goals first
   | exact True.intro
   | exact hp
   | exact ⟨rfl,by first | rfl | exact True.intro⟩
 ·cases e
def JX_:IR:=
(sq (kr [0,1] [oD 2 (.boxv 0),
oD 3 (.mov cF)])
(sq (.reg [oK 4 6 1,
oK 5 6 2,
oC 6 39 [4,5],
oM 3 6])
.ret))
def JO_:List RD:=[.tmp 3 true none]
theorem JR_:zl_ Tryz.prog Tryz.f38 JX_ JO_=true:=by kernel_rfl
def Zs_:List AV->List Obj->Option (Prop × AV)
 | [.agg [.int .i64 c',.int .i64 f',.bool h',.int .u64 x',.imm (.int .u8) v',.imm (.int .u8) m'],.ptr 0 0],[.box [.int .i64 c,.int .i64 f,.bool h,.int .u64 x,.imm (.int .u8) v,.imm (.int .u8) m]]=>some ((v.length<=1000000,.bool (zv_ (c,f,h,x,v,m,()) (c',f',h',x',v',m',()))))
 | _,_=>none
theorem qy_:zf_ Tryz.prog 38 (RoF Zs_).sum:=by
 refine zh_ Tryz.func38 JR_ (zb_ (s:=RoF Kr_) xC_ (zd_ _)) fun args objs p v e=>?_
 unfold Zs_ at e
 split at e
 ·rename_i c' f' h' x' v' m' c f h x v m
  cases e
  refine ⟨rfl,fun hw ho hp=>?_⟩
  change List Int at v'
  change List Int at m'
  change List Int at v
  change List Int at m
  clear hw ho
  repeat'(intro t ht;first|(cases t<;>first|(cases ht;done)|(try simp only[zg_]at ht;try(exfalso;first|contradiction|omega)))|((first|refine za_ ht ?_|refine ht ?_ ?_|refine ht.1 ?_ ?_|refine ht ?_)<;>clear ht))
  all_goals first
   | exact True.intro
   | exact hp
   | exact ⟨rfl,by first | rfl | exact True.intro⟩
 ·cases e
def wY_:IR:=
(sq (kr [0,1] [oD 2 (.boxv 0),
oD 3 (.mov cF)])
(sq (.reg [oK 4 6 2,
oK 5 6 1,
oC 6 36 [4,5],
oM 3 6])
.ret))
def wz_:List RD:=[.tmp 3 true none]
theorem wI_:zl_ Tryz.prog Tryz.f35 wY_ wz_=true:=by kernel_rfl
def Zy_:List AV->List Obj->Option (Prop × AV)
 | [.agg [.int .i64 c',.int .i64 f',.bool h',.int .u64 x',.imm (.int .u8) v',.imm (.int .u8) m'],.ptr 0 0],[.box [.int .i64 c,.int .i64 f,.bool h,.int .u64 x,.imm (.int .u8) v,.imm (.int .u8) m]]=>some ((v'.length<=1000000,.bool (Zh_ (c',f',h',x',v',m',()) (c,f,h,x,v,m,()))))
 | _,_=>none
theorem qQ_:zf_ Tryz.prog 35 (RoF Zy_).sum:=by
 refine zh_ Tryz.func35 wI_ (zb_ (s:=RoF kY_) Wj_ (zd_ _)) fun args objs p v e=>?_
 unfold Zy_ at e
 split at e
 ·rename_i c' f' h' x' v' m' c f h x v m
  cases e
  refine ⟨rfl,fun hw ho hp=>?_⟩
  change List Int at v'
  change List Int at m'
  change List Int at v
  change List Int at m
  clear hw ho
  repeat'(intro t ht;first|(cases t<;>first|(cases ht;done)|(try simp only[zg_]at ht;try(exfalso;first|contradiction|omega)))|((first|refine za_ ht ?_|refine ht ?_ ?_|refine ht.1 ?_ ?_|refine ht ?_)<;>clear ht))
  all_goals first
   | exact True.intro
   | exact hp
   | exact ⟨rfl,by first | rfl | exact True.intro⟩
 ·cases e
def qn_:IR:=
(sq (kr [0,1] [oD 4 (.mov (cI 0))])
(sq (sq (.reg [oM 6 0,
oE 7 6,
oD 8 (.mov (cI 0))])
(.block 0
(.loop
(sq (kr [0,1,7,8] [oB 9 .lss 8 7])
(sq (.cond 9
.skip
(.exit 0))
(sq (.block 1
(sq (.reg [oM 10 8,
oM 5 10])
(sq (kr [0,1,5,7,8] [oM 11 1,
oM 12 0,
oM 13 5,
oI 14 6 12 13,
oK 15 6 14,
oD 16 (.call false 11 [15])])
(.cond 16
(sq (kr [5] [oM 17 5,
oM 4 17])
.ret)
.skip))))
(kr [0,1,7,8] [oB 18 .add 8 (cI 1),
oM 8 18])))))))
(sq (kr [] [oD 4 (.mov (cI (-1)))])
.ret)))
def qg_:List RD:=[.tmp 4 false none]
theorem qi_:zl_ Tryz.prog Tryz.f56 qn_ qg_=true:=by kernel_rfl
def zL_:List AV->List Obj->Option (Prop × AV)
 | [.imm (.cons (.int .i64) (.cons (.int .i64) (.cons .bool (.cons (.int .u64) (.cons (.sl (.int .u8)) (.cons (.sl (.int .u8)) .nil)))))) l,.fn 33 [] [.ptr 0 0]],[.box [.int .i64 c,.int .i64 f,.bool h,.int .u64 x,.imm (.int .u8) v,.imm (.int .u8) m]]=>some ((v.length<=1000000,.int .i64 (qp_ (α:=OV) (Zu_ (c,f,h,x,v,m,())) l 0)))
 | [.imm (.cons (.int .i64) (.cons (.int .i64) (.cons .bool (.cons (.int .u64) (.cons (.sl (.int .u8)) (.cons (.sl (.int .u8)) .nil)))))) l,.fn 38 [] [.ptr 0 0]],[.box [.int .i64 c,.int .i64 f,.bool h,.int .u64 x,.imm (.int .u8) v,.imm (.int .u8) m]]=>some ((v.length<=1000000,.int .i64 (qp_ (α:=OV) (zv_ (c,f,h,x,v,m,())) l 0)))
 | [.imm (.cons (.int .i64) (.cons (.int .i64) (.cons .bool (.cons (.int .u64) (.cons (.sl (.int .u8)) (.cons (.sl (.int .u8)) .nil)))))) l,.fn 35 [] [.ptr 0 0]],[.box [.int .i64 c,.int .i64 f,.bool h,.int .u64 x,.imm (.int .u8) v,.imm (.int .u8) m]]=>some ((allLen l,.int .i64 (qp_ (α:=OV) (fun z=>Zh_ z (c,f,h,x,v,m,())) l 0)))
 | _,_=>none
theorem ZW_:zf_ Tryz.prog 56 (RoF zL_).sum:=by
 refine zh_ Tryz.func56 qi_ (zb_ (s:=RoF Zs_) qy_ (zb_ (s:=RoF ZI_) Qc_ (zb_ (s:=RoF Zy_) qQ_ (zb_ (s:=RoF Zk_) ZU_ (zb_ (s:=RoF Zw_) qd_ (zb_ (s:=RoF qr_) Qb_ (zd_ _))))))) fun args objs p v e=>?_
 unfold zL_ at e
 split at e
 ·rename_i l c f h x v m
  cases e
  refine ⟨rfl,fun hw ho hp=>?_⟩
  change List Int at v
  change List Int at m
  change List OV at l
  have hl:l.length<=maxLen:=(hw (.imm Y1 l) (by simp)).2
  unfold maxLen at hl
  clear hw ho
  repeat'(intro t ht;first|(cases t<;>first|(cases ht;done)|(try simp only[zg_]at ht))|((first|refine za_ ht ?_|refine ht ?_ ?_|refine ht.1 ?_ ?_|refine ht ?_)<;>clear ht))
  all_goals first
   | (intro r h1 h2;clear h1;refine h2 ⟨[0,1,7,8],Nat,(fun i=>i<=l.length/\qp_ (Zu_ (c,f,h,x,v,m,())) l 0=qp_ (Zu_ (c,f,h,x,v,m,())) (l.drop i) i),fun i=>[.imm Y1 l,.fn 33 [] [.ptr 0 0],.int .i64 l.length,.int .i64 i],fun _=>[.box [.int .i64 c,.int .i64 f,.bool h,.int .u64 x,.imm (.int .u8) v,.imm (.int .u8) m]],fun i=>l.length - i,⟨0,⟨Nat.zero_le _,rfl⟩,rfl,rfl⟩,?_⟩;clear h2)
  rintro i ⟨hi,he⟩
  repeat'(intro t ht;first|(cases t<;>first|(cases ht;done)|(try simp only[zg_]at ht;try(exfalso;first|contradiction|omega)))|((first|refine za_ ht ?_|refine ht ?_ ?_|refine ht.1 ?_ ?_|refine ht ?_)<;>clear ht))
  all_goals (try generalize (Ty.dflt Y1)=od at*)
  all_goals first
   | exact True.intro
   | ((try simp only [zq_,zr_,zj_] at*);omega)
   | exact hp
   | (refine ⟨?_,rfl⟩;rw [he,Qm_ (by omega)];done)
   | (refine ⟨?_,rfl⟩;rw [he,kA_ (p:=Zu_ (c,f,h,x,v,m,())) (d:=od) (by omega) ht];done)
   | exact ⟨i+1,⟨by omega,he.trans (kz_ (p:=Zu_ (c,f,h,x,v,m,())) (d:=od) (by omega) ht)⟩,by dsimp only;omega,rfl,rfl⟩
 ·rename_i l c f h x v m
  cases e
  refine ⟨rfl,fun hw ho hp=>?_⟩
  change List Int at v
  change List Int at m
  change List OV at l
  have hl:l.length<=maxLen:=(hw (.imm Y1 l) (by simp)).2
  unfold maxLen at hl
  clear hw ho
  repeat'(intro t ht;first|(cases t<;>first|(cases ht;done)|(try simp only[zg_]at ht))|((first|refine za_ ht ?_|refine ht ?_ ?_|refine ht.1 ?_ ?_|refine ht ?_)<;>clear ht))
  all_goals first
   | (intro r h1 h2;clear h1;refine h2 ⟨[0,1,7,8],Nat,(fun i=>i<=l.length/\qp_ (zv_ (c,f,h,x,v,m,())) l 0=qp_ (zv_ (c,f,h,x,v,m,())) (l.drop i) i),fun i=>[.imm Y1 l,.fn 38 [] [.ptr 0 0],.int .i64 l.length,.int .i64 i],fun _=>[.box [.int .i64 c,.int .i64 f,.bool h,.int .u64 x,.imm (.int .u8) v,.imm (.int .u8) m]],fun i=>l.length - i,⟨0,⟨Nat.zero_le _,rfl⟩,rfl,rfl⟩,?_⟩;clear h2)
  rintro i ⟨hi,he⟩
  repeat'(intro t ht;first|(cases t<;>first|(cases ht;done)|(try simp only[zg_]at ht;try(exfalso;first|contradiction|omega)))|((first|refine za_ ht ?_|refine ht ?_ ?_|refine ht.1 ?_ ?_|refine ht ?_)<;>clear ht))
  all_goals (try generalize (Ty.dflt Y1)=od at*)
  all_goals first
   | exact True.intro
   | ((try simp only [zq_,zr_,zj_] at*);omega)
   | exact hp
   | (refine ⟨?_,rfl⟩;rw [he,Qm_ (by omega)];done)
   | (refine ⟨?_,rfl⟩;rw [he,kA_ (p:=zv_ (c,f,h,x,v,m,())) (d:=od) (by omega) ht];done)
   | exact ⟨i+1,⟨by omega,he.trans (kz_ (p:=zv_ (c,f,h,x,v,m,())) (d:=od) (by omega) ht)⟩,by dsimp only;omega,rfl,rfl⟩
 ·rename_i l c f h x v m
  cases e
  refine ⟨rfl,fun hw ho hp=>?_⟩
  change List Int at v
  change List Int at m
  change List OV at l
  have hl:l.length<=maxLen:=(hw (.imm Y1 l) (by simp)).2
  unfold maxLen at hl
  clear hw ho
  repeat'(intro t ht;first|(cases t<;>first|(cases ht;done)|(try simp only[zg_]at ht))|((first|refine za_ ht ?_|refine ht ?_ ?_|refine ht.1 ?_ ?_|refine ht ?_)<;>clear ht))
  all_goals first
   | (intro r h1 h2;clear h1;refine h2 ⟨[0,1,7,8],Nat,(fun i=>i<=l.length/\qp_ (fun z=>Zh_ z (c,f,h,x,v,m,())) l 0=qp_ (fun z=>Zh_ z (c,f,h,x,v,m,())) (l.drop i) i),fun i=>[.imm Y1 l,.fn 35 [] [.ptr 0 0],.int .i64 l.length,.int .i64 i],fun _=>[.box [.int .i64 c,.int .i64 f,.bool h,.int .u64 x,.imm (.int .u8) v,.imm (.int .u8) m]],fun i=>l.length - i,⟨0,⟨Nat.zero_le _,rfl⟩,rfl,rfl⟩,?_⟩;clear h2)
  rintro i ⟨hi,he⟩
  repeat'(intro t ht;first|(cases t<;>first|(cases ht;done)|(try simp only[zg_]at ht;try(exfalso;first|contradiction|omega)))|((first|refine za_ ht ?_|refine ht ?_ ?_|refine ht.1 ?_ ?_|refine ht ?_)<;>clear ht))
  all_goals (try generalize (Ty.dflt Y1)=od at*)
  all_goals first
   | exact True.intro
   | ((try simp only [zq_,zr_,zj_] at*);omega)
   | exact (ub_ (hp.h _ (zu_ (by omega) od))).1
   | (refine ⟨?_,rfl⟩;rw [he,Qm_ (by omega)];done)
   | (refine ⟨?_,rfl⟩;rw [he,kA_ (p:=fun z=>Zh_ z (c,f,h,x,v,m,())) (d:=od) (by omega) ht];done)
   | exact ⟨i+1,⟨by omega,he.trans (kz_ (p:=fun z=>Zh_ z (c,f,h,x,v,m,())) (d:=od) (by omega) ht)⟩,by dsimp only;omega,rfl,rfl⟩
 ·cases e
def ZQ_:IR:=
(sq (kr [0,1] [oD 4 (.mov cF)])
(sq (kr [0,1] [oM 5 0,
oM 6 1,
oC 7 56 [5,6],
oB 8 .geq 7 (cI 0),
oM 4 8])
.ret))
def ZK_:List RD:=[.tmp 4 false none]
theorem ZN_:zl_ Tryz.prog Tryz.f27 ZQ_ ZK_=true:=by kernel_rfl
def zm_:List AV->List Obj->Option (Prop × AV)
 | [.imm (.cons (.int .i64) (.cons (.int .i64) (.cons .bool (.cons (.int .u64) (.cons (.sl (.int .u8)) (.cons (.sl (.int .u8)) .nil)))))) l,.fn 33 [] [.ptr 0 0]],[.box [.int .i64 c,.int .i64 f,.bool h,.int .u64 x,.imm (.int .u8) v,.imm (.int .u8) m]]=>some ((v.length<=1000000,.bool ((l:List OV).any (Zu_ (c,f,h,x,v,m,())))))
 | [.imm (.cons (.int .i64) (.cons (.int .i64) (.cons .bool (.cons (.int .u64) (.cons (.sl (.int .u8)) (.cons (.sl (.int .u8)) .nil)))))) l,.fn 38 [] [.ptr 0 0]],[.box [.int .i64 c,.int .i64 f,.bool h,.int .u64 x,.imm (.int .u8) v,.imm (.int .u8) m]]=>some ((v.length<=1000000,.bool ((l:List OV).any (zv_ (c,f,h,x,v,m,())))))
 | [.imm (.cons (.int .i64) (.cons (.int .i64) (.cons .bool (.cons (.int .u64) (.cons (.sl (.int .u8)) (.cons (.sl (.int .u8)) .nil)))))) l,.fn 35 [] [.ptr 0 0]],[.box [.int .i64 c,.int .i64 f,.bool h,.int .u64 x,.imm (.int .u8) v,.imm (.int .u8) m]]=>some ((allLen l,.bool ((l:List OV).any (fun z=>Zh_ z (c,f,h,x,v,m,())))))
 | _,_=>none
theorem zw_:zf_ Tryz.prog 27 (RoF zm_).sum:=by
 refine zh_ Tryz.func27 ZN_ (zb_ (s:=RoF zL_) ZW_ (zd_ _)) fun args objs p v e=>?_
 unfold zm_ at e
 split at e
 ·rename_i l c f h x v m
  cases e
  refine ⟨rfl,fun hw ho hp=>?_⟩
  change List Int at v
  change List Int at m
  have h9:=qG_ (p:=Zu_ (c,f,h,x,v,m,())) l 0 (Int.le_refl _)
  repeat'(intro t ht;first|(cases t<;>first|(cases ht;done)|(try simp only[zg_]at ht;try(exfalso;first|contradiction|omega)))|((first|refine za_ ht ?_|refine ht ?_ ?_|refine ht.1 ?_ ?_|refine ht ?_)<;>clear ht))
  all_goals first
   | exact True.intro
   | exact hp
   | exact ⟨congrArg AV.bool h9,rfl⟩
 ·rename_i l c f h x v m
  cases e
  refine ⟨rfl,fun hw ho hp=>?_⟩
  change List Int at v
  change List Int at m
  have h9:=qG_ (p:=zv_ (c,f,h,x,v,m,())) l 0 (Int.le_refl _)
  repeat'(intro t ht;first|(cases t<;>first|(cases ht;done)|(try simp only[zg_]at ht;try(exfalso;first|contradiction|omega)))|((first|refine za_ ht ?_|refine ht ?_ ?_|refine ht.1 ?_ ?_|refine ht ?_)<;>clear ht))
  all_goals first
   | exact True.intro
   | exact hp
   | exact ⟨congrArg AV.bool h9,rfl⟩
 ·rename_i l c f h x v m
  cases e
  refine ⟨rfl,fun hw ho hp=>?_⟩
  change List Int at v
  change List Int at m
  have h9:=qG_ (p:=fun z=>Zh_ z (c,f,h,x,v,m,())) l 0 (Int.le_refl _)
  repeat'(intro t ht;first|(cases t<;>first|(cases ht;done)|(try simp only[zg_]at ht;try(exfalso;first|contradiction|omega)))|((first|refine za_ ht ?_|refine ht ?_ ?_|refine ht.1 ?_ ?_|refine ht ?_)<;>clear ht))
  all_goals first
   | exact True.intro
   | exact hp
   | exact ⟨congrArg AV.bool h9,rfl⟩
 ·cases e
def WK_:IR:=
(sq (kr [0,1] [oD 2 (.boxv 0),
oD 3 (.mov cF)])
(sq (.reg [oL 4 1,
oD 5 (.mkfn 38 [] [2]),
oC 6 27 [4,5],
oM 3 6])
.ret))
def Wr_:List RD:=[.tmp 3 true none]
theorem WB_:zl_ Tryz.prog Tryz.f37 WK_ Wr_=true:=by kernel_rfl
def qO_:List AV->List Obj->Option (Prop × AV)
 | [.agg [.int .i64 c,.int .i64 f,.bool h,.int .u64 x,.imm (.int .u8) v,.imm (.int .u8) m],.ptr 0 0],[.box [.imm (.cons (.int .i64) (.cons (.int .i64) (.cons .bool (.cons (.int .u64) (.cons (.sl (.int .u8)) (.cons (.sl (.int .u8)) .nil)))))) l]]=>some ((v.length<=1000000,.bool ((l:List OV).any (zv_ (c,f,h,x,v,m,())))))
 | _,_=>none
theorem k6_:zf_ Tryz.prog 37 (RoF qO_).sum:=by
 refine zh_ Tryz.func37 WB_ (zb_ (s:=RoF Zs_) qy_ (zb_ (s:=RoF zm_) zw_ (zd_ _))) fun args objs p v e=>?_
 unfold qO_ at e
 split at e
 ·rename_i c f h x v m l
  cases e
  refine ⟨rfl,fun hw ho hp=>?_⟩
  change List Int at v
  change List Int at m
  clear hw ho
  repeat'(intro t ht;first|(cases t<;>first|(cases ht;done)|(try simp only[zg_]at ht;try(exfalso;first|contradiction|omega)))|((first|refine za_ ht ?_|refine ht ?_ ?_|refine ht.1 ?_ ?_|refine ht ?_)<;>clear ht))
  all_goals first
   | exact True.intro
   | exact hp
   | exact ⟨rfl,by first | rfl | exact True.intro⟩
 ·cases e
end Go.Eng
