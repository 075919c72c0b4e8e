/- Parts of the proof: N2, N3, N4, N5. No condition. -/
import Derived.Test.YtjajlkddpekdjaaGreatDoorProg
import Derived.Test.YtjajlkddpekdjaaGreatDoorXC10
import Derived.KernelRfl
import Derived.Test.YtjajlkddpekdjaaGreatDoorXC15
namespace Go.Eng
open Go.Proofs
set_option linter.unusedVariables false
set_option linter.unusedSimpArgs false
set_option maxRecDepth 100000
set_option maxHeartbeats 1000000
def tb (x:Int) (k:Nat):Bool:=x.toNat.testBit k
def isB (x:Int):Prop:=0<=x/\x<=255
theorem jQ_ {x:Int} (h:isB x) (k:Nat):(BitVec.ofInt 8 x).getLsbD k=tb x k:=by
 unfold tb BitVec.getLsbD
 rw [BitVec.toNat_ofInt]
 have:(x % ((2 ^ 8:Nat):Int)).toNat=x.toNat:=by have:=h.1;have:=h.2;omega
 rw [this]
theorem xn_ (op:BinOp) (x y:Int) (z:BitVec 8) (h:zj_ op .u8 x y=IntKind.u8.wrap (z.toNat:Int)):isB (zj_ op .u8 x y)/\∀ k,tb (zj_ op .u8 x y) k=z.getLsbD k:=by
 have hz:=z.isLt
 have e:zj_ op .u8 x y=(z.toNat:Int):=by
  rw [h,bJ_];omega
 refine ⟨by rw [e];exact ⟨by omega,by omega⟩,fun k=>?_⟩
 unfold tb BitVec.getLsbD
 rw [e,Int.toNat_natCast]
theorem Kq_ {x y:Int} (hx:isB x) (hy:isB y) (k:Nat):tb (zj_ .and .u8 x y) k=(tb x k && tb y k):=by
 rw [(xn_ .and x y (BitVec.ofInt 8 x &&& BitVec.ofInt 8 y) rfl).2 k,BitVec.getLsbD_and,jQ_ hx,jQ_ hy]
theorem uo_ {x y:Int} (hx:isB x) (hy:isB y) (k:Nat):tb (zj_ .or .u8 x y) k=(tb x k || tb y k):=by
 rw [(xn_ .or x y (BitVec.ofInt 8 x ||| BitVec.ofInt 8 y) rfl).2 k,BitVec.getLsbD_or,jQ_ hx,jQ_ hy]
theorem Wa_ {x y:Int} (hx:isB x) (hy:isB y) (k:Nat):tb (zj_ .xor .u8 x y) k=(tb x k != tb y k):=by
 rw [(xn_ .xor x y (BitVec.ofInt 8 x ^^^ BitVec.ofInt 8 y) rfl).2 k,BitVec.getLsbD_xor,jQ_ hx,jQ_ hy]
theorem v0_ {x:Int} (hx:isB x) {k:Nat} (hk:8<=k):tb x k=false:=by
 unfold tb
 refine Nat.testBit_lt_two_pow ?_
 have:2 ^ 8<=2 ^ k:=Nat.pow_le_pow_right (by decide) hk
 have:=hx.2;have:=hx.1;omega
theorem Wb_ {x y:Int} (hx:isB x) (hy:isB y) (k:Nat):tb (zj_ .andNot .u8 x y) k=(tb x k && !tb y k):=by
 rw [(xn_ .andNot x y (BitVec.ofInt 8 x &&& ~~~BitVec.ofInt 8 y) rfl).2 k,BitVec.getLsbD_and,BitVec.getLsbD_not,jQ_ hx,jQ_ hy]
 by_cases hk:k < 8
 ·rw [decide_eq_true hk,Bool.true_and]
 ·rw [v0_ hx (by omega),Bool.false_and,Bool.false_and]
theorem Zr_ (op:BinOp) (x y:Int) (h:op=.and\/op=.or\/op=.xor\/op=.andNot):isB (zj_ op .u8 x y):=by
 rcases h with rfl | rfl | rfl | rfl
 ·exact (xn_ .and x y _ rfl).1
 ·exact (xn_ .or x y _ rfl).1
 ·exact (xn_ .xor x y _ rfl).1
 ·exact (xn_ .andNot x y _ rfl).1
theorem vZ_ {x y:Int} (hx:isB x) (hy:isB y) (h:∀ k,k < 8->tb x k=tb y k):x=y:=by
 have:x.toNat=y.toNat:=Nat.eq_of_testBit_eq fun k=>by
  by_cases hk:k < 8
  ·exact h k hk
  ·have h1:=v0_ hx (k:=k) (by omega)
   have h2:=v0_ hy (k:=k) (by omega)
   unfold tb at h1 h2;rw [h1,h2]
 have:=hx.1;have:=hy.1;omega
theorem Gm_ (k:Nat):tb 0 k=false:=by unfold tb;simp
theorem Wc_ {k:Nat} (h:k < 8):tb 255 k=true:=by
 have:k=0\/k=1\/k=2\/k=3\/k=4\/k=5\/k=6\/k=7:=by omega
 rcases this with rfl | rfl | rfl | rfl | rfl | rfl | rfl | rfl<;>decide
theorem Qg_ {x:Int} (hx:isB x):x=0 ↔ ∀ k,k < 8->tb x k=false:=
 ⟨fun h k _=>by rw [h];exact Gm_ k,fun h=>vZ_ hx ⟨by decide,by decide⟩ fun k hk=>by rw [h k hk,Gm_]⟩
def vB (o:OV) (i:Nat):Int:=o.2.2.2.2.1.getD i 0
def mB (o:OV) (i:Nat):Int:=if o.2.2.1=true then o.2.2.2.2.2.1.getD i 0 else 255
def lnV (o:OV):Nat:=o.2.2.2.2.1.length
theorem hC_ {l:List Int} (h:∀ z ∈ l,isB z) (i:Nat):isB (l.getD i 0):=by
 by_cases hi:i < l.length
 ·exact h _ (Zj_ hi 0)
 ·rw [List.getD_eq_getElem?_getD,List.getElem?_eq_none (by omega)];exact ⟨by decide,by decide⟩
theorem vb {o:OV} (h:zT_ o) (i:Nat):isB (vB o i):=hC_ h.2.1 i
theorem mb {o:OV} (h:zT_ o) (i:Nat):isB (mB o i):=by
 unfold mB;split
 ·exact hC_ h.2.2 i
 ·exact ⟨by decide,by decide⟩
def zU_ (o x:OV):Bool:=alO o x && !x.2.2.1 && decide (lnV o=lnV x) && (List.range (lnV o)).all fun i=>decide (zj_ .and .u8 (zj_ .xor .u8 (vB o i) (vB x i)) (mB o i)=0)
def zH_ (a b:OV):Bool:=alO a b && (!decide (lnV a=lnV b) || !(List.range (lnV a)).all fun i=>decide (zj_ .and .u8 (zj_ .and .u8 (zj_ .xor .u8 (vB a i) (vB b i)) (mB a i)) (mB b i)=0))
def zM_ (a b:OV):Bool:=alO a b && decide (lnV a=lnV b) && (List.range (lnV a)).all fun i=>decide (zj_ .andNot .u8 (mB b i) (mB a i)=0) && decide (zj_ .and .u8 (zj_ .xor .u8 (vB a i) (vB b i)) (mB b i)=0)
theorem ZH_ {o x:OV} (ho:zT_ o) (hx:zT_ x):zU_ o x=true ↔ alO o x=true/\x.2.2.1=false/\lnV o=lnV x/\∀ i k,i < lnV o->k < 8->tb (mB o i) k=true->tb (vB o i) k=tb (vB x i) k:=by
 unfold zU_
 rw [Bool.and_eq_true,Bool.and_eq_true,Bool.and_eq_true,Bool.not_eq_true',decide_eq_true_eq,List.all_eq_true,and_assoc,and_assoc]
 refine and_congr_right fun _=>and_congr_right fun _=>and_congr_right fun _=>?_
 constructor
 ·intro h i k hi hk hm
  have h1:=(Qg_ (Zr_ _ _ _ (.inl rfl))).1 (of_decide_eq_true (h i (List.mem_range.2 hi))) k hk
  rw [Kq_ (Zr_ _ _ _ (.inr (.inr (.inl rfl)))) (mb ho i),Wa_ (vb ho i) (vb hx i),hm,Bool.and_true] at h1
  exact bne_eq_false_iff_eq.1 h1
 ·intro h i hi
  refine decide_eq_true ((Qg_ (Zr_ _ _ _ (.inl rfl))).2 fun k hk=>?_)
  rw [Kq_ (Zr_ _ _ _ (.inr (.inr (.inl rfl)))) (mb ho i),Wa_ (vb ho i) (vb hx i)]
  cases hm:tb (mB o i) k with
  | false=>rw [Bool.and_false]
  | true=>rw [h i k (List.mem_range.1 hi) hk hm];simp
theorem Jo_ {a b:OV} (ha:zT_ a) (hb:zT_ b):zH_ a b=false ↔ (alO a b=true->lnV a=lnV b/\∀ i k,i < lnV a->k < 8->tb (mB a i) k=true->tb (mB b i) k=true->tb (vB a i) k=tb (vB b i) k):=by
 unfold zH_
 cases hal:alO a b with
 | false=>simp
 | true=>
   rw [Bool.true_and,Bool.or_eq_false_iff,Bool.not_eq_false',decide_eq_true_eq,Bool.not_eq_false',List.all_eq_true]
   refine ⟨fun h _=>⟨h.1,fun i k hi hk h1 h2=>?_⟩,fun h=>⟨(h rfl).1,fun i hi=>?_⟩⟩
   ·have h3:=(Qg_ (Zr_ _ _ _ (.inl rfl))).1 (of_decide_eq_true (h.2 i (List.mem_range.2 hi))) k hk
    rw [Kq_ (Zr_ _ _ _ (.inl rfl)) (mb hb i),Kq_ (Zr_ _ _ _ (.inr (.inr (.inl rfl)))) (mb ha i),Wa_ (vb ha i) (vb hb i),h1,h2,Bool.and_true,Bool.and_true] at h3
    exact bne_eq_false_iff_eq.1 h3
   ·refine decide_eq_true ((Qg_ (Zr_ _ _ _ (.inl rfl))).2 fun k hk=>?_)
    rw [Kq_ (Zr_ _ _ _ (.inl rfl)) (mb hb i),Kq_ (Zr_ _ _ _ (.inr (.inr (.inl rfl)))) (mb ha i),Wa_ (vb ha i) (vb hb i)]
    cases h1:tb (mB a i) k with
    | false=>simp
    | true=>
      cases h2:tb (mB b i) k with
      | false=>simp
      | true=>rw [(h rfl).2 i k (List.mem_range.1 hi) hk h1 h2];simp
theorem Kk_ {a b:OV} (ha:zT_ a) (hb:zT_ b):zM_ a b=true ↔ alO a b=true/\lnV a=lnV b/\∀ i k,i < lnV a->k < 8->tb (mB b i) k=true->tb (mB a i) k=true/\tb (vB a i) k=tb (vB b i) k:=by
 unfold zM_
 rw [Bool.and_eq_true,Bool.and_eq_true,decide_eq_true_eq,List.all_eq_true,and_assoc]
 refine and_congr_right fun _=>and_congr_right fun _=>?_
 constructor
 ·intro h i k hi hk hm
  have h0:=h i (List.mem_range.2 hi)
  rw [Bool.and_eq_true,decide_eq_true_eq,decide_eq_true_eq] at h0
  have h1:=(Qg_ (Zr_ _ _ _ (.inr (.inr (.inr rfl))))).1 h0.1 k hk
  have h2:=(Qg_ (Zr_ _ _ _ (.inl rfl))).1 h0.2 k hk
  rw [Wb_ (mb hb i) (mb ha i),hm,Bool.true_and,Bool.not_eq_false'] at h1
  rw [Kq_ (Zr_ _ _ _ (.inr (.inr (.inl rfl)))) (mb hb i),Wa_ (vb ha i) (vb hb i),hm,Bool.and_true] at h2
  exact ⟨h1,bne_eq_false_iff_eq.1 h2⟩
 ·intro h i hi
  have hi':=List.mem_range.1 hi
  rw [Bool.and_eq_true,decide_eq_true_eq,decide_eq_true_eq]
  refine ⟨(Qg_ (Zr_ _ _ _ (.inr (.inr (.inr rfl))))).2 fun k hk=>?_,(Qg_ (Zr_ _ _ _ (.inl rfl))).2 fun k hk=>?_⟩
  ·rw [Wb_ (mb hb i) (mb ha i)]
   cases hm:tb (mB b i) k with
   | false=>rfl
   | true=>rw [(h i k hi' hk hm).1];rfl
  ·rw [Kq_ (Zr_ _ _ _ (.inr (.inr (.inl rfl)))) (mb hb i),Wa_ (vb ha i) (vb hb i)]
   cases hm:tb (mB b i) k with
   | false=>rw [Bool.and_false]
   | true=>rw [(h i k hi' hk hm).2];simp
theorem zag_ {n k:Nat}:tb (2 ^ n - 1) k=decide (k < n):=by
 unfold tb
 have e:((2:Int) ^ n - 1).toNat=2 ^ n - 1:=by
  have:(1:Int)<=2 ^ n:=by have:=Nat.one_le_two_pow (n:=n);exact_mod_cast this
  have h2:((2:Int) ^ n)=((2 ^ n:Nat):Int):=by rw [Int.natCast_pow];rfl
  rw [h2];omega
 rw [e,Nat.testBit_two_pow_sub_one]
theorem Bo_ {x:Int} (hx:isB x) (n:Nat):x < 2 ^ n ↔ ∀ k,k < 8->n<=k->tb x k=false:=by
 have h0:x=(x.toNat:Int):=by have:=hx.1;omega
 have h2:((2:Int) ^ n)=((2 ^ n:Nat):Int):=by rw [Int.natCast_pow];rfl
 constructor
 ·intro h k _ hk
  unfold tb
  refine Nat.testBit_lt_two_pow ?_
  have h3:x.toNat < 2 ^ n:=by rw [h2] at h;omega
  exact Nat.lt_of_lt_of_le h3 (Nat.pow_le_pow_right (by decide) hk)
 ·intro h
  have:x.toNat < 2 ^ n:=Nat.lt_pow_two_of_testBit _ fun k hk=>by
   by_cases h8:k < 8
   ·exact h k h8 hk
   ·exact v0_ hx (by omega)
  rw [h2];omega
theorem Bx_ {x:Int} (hx:isB x) (n:Nat):x.fdiv (2 ^ n)=0 ↔ x < 2 ^ n:=by
 have hp:(0:Int) < 2 ^ n:=Int.pow_pos (by decide)
 rw [Int.fdiv_eq_ediv_of_nonneg _ (Int.le_of_lt hp)]
 constructor
 ·intro h
  have:=Int.lt_ediv_add_one_mul_self x hp
  rw [h] at this;omega
 ·intro h;exact Int.ediv_eq_zero_of_lt hx.1 h
theorem Xf_:∀ (v:List Int) (s:Int),0<=s->(∀ z ∈ v,isB z)->(zO_ s v=true ↔ ∀ (i k:Nat),i < v.length->k < 8->8 - (s - 8*(i:Int))<=(k:Int)->tb (v.getD i 0) k=false)
 | [],_,_,_=>⟨fun _ i k h=>absurd h (Nat.not_lt_zero _),fun _=>rfl⟩
 | b :: r,s,hs,hb=>by
   have hb0:=hb b (List.mem_cons_self ..)
   have ih:=Xf_ r (s - (if 8 < s then 8 else s)) (by split<;>omega) fun z hz=>hb z (List.mem_cons_of_mem _ hz)
   have hmin:min (8 - (if 8 < s then 8 else s)).toNat 8=(8 - (if 8 < s then 8 else s)).toNat:=by split<;>omega
   have hc:b.fdiv (2 ^ (min (8 - (if 8 < s then 8 else s)).toNat 8))=0 ↔ ∀ k:Nat,k < 8->8 - s<=(k:Int)->tb b k=false:=by
    rw [hmin,Bx_ hb0,Bo_ hb0]
    constructor
    ·intro h k hk h2;exact h k hk (by split<;>omega)
    ·intro h k hk h2;exact h k hk (by split at h2<;>omega)
   unfold zO_
   by_cases c:b.fdiv (2 ^ (min (8 - (if 8 < s then 8 else s)).toNat 8))=0
   ·rw [if_pos c,ih]
    constructor
    ·intro h i k hi hk h2
     cases i with
     | zero=>exact hc.1 c k hk (by omega)
     | succ i=>exact h i k (by rw [List.length_cons] at hi;omega) hk (by split<;>omega)
    ·intro h i k hi hk h2
     exact h (i+1) k (by rw [List.length_cons];omega) hk (by split at h2<;>omega)
   ·rw [if_neg c]
    constructor
    ·intro h;cases h
    ·intro h
     exact absurd (hc.2 fun k hk h2=>h 0 k (by rw [List.length_cons];omega) hk (by omega)) c
theorem XO_ {s:Int} {k:Nat} (hk:k < 8):isB (wy_ s)/\tb (wy_ s) k=decide ((k:Int) < 8 - s):=by
 unfold wy_
 by_cases c:0 < s
 ·rw [if_pos c]
  have hcase:s=1\/s=2\/s=3\/s=4\/s=5\/s=6\/s=7\/8<=s:=by omega
  have hk8:k=0\/k=1\/k=2\/k=3\/k=4\/k=5\/k=6\/k=7:=by omega
  have e8:8<=s->(if 8 < s then (8:Int) else s)=8:=fun h=>by split<;>omega
  rcases hcase with rfl | rfl | rfl | rfl | rfl | rfl | rfl | h
  all_goals first
   | (refine ⟨⟨by decide,by decide⟩,?_⟩
      rcases hk8 with rfl | rfl | rfl | rfl | rfl | rfl | rfl | rfl<;>decide)
   | (rw [e8 h]
      refine ⟨⟨by decide,by decide⟩,?_⟩
      rw [decide_eq_false (by omega)]
      rcases hk8 with rfl | rfl | rfl | rfl | rfl | rfl | rfl | rfl<;>decide)
 ·rw [if_neg c]
  refine ⟨⟨by decide,by decide⟩,?_⟩
  rw [Wc_ hk,decide_eq_true (by omega)]
theorem vl_:∀ (m:List Int) (s:Int),(∀ z ∈ m,isB z)->(QR_ m s=true ↔ ∀ (i k:Nat),i < m.length->k < 8->tb (m.getD i 0) k=decide ((k:Int) < 8 - (s - 8*(i:Int))))
 | [],_,_=>⟨fun _ i k h=>absurd h (Nat.not_lt_zero _),fun _=>rfl⟩
 | x :: r,s,hb=>by
   have hx:=hb x (List.mem_cons_self ..)
   have ih:=vl_ r (s - 8) fun z hz=>hb z (List.mem_cons_of_mem _ hz)
   have hc:x=wy_ s ↔ ∀ k:Nat,k < 8->tb x k=decide ((k:Int) < 8 - s):=by
    constructor
    ·intro h k hk;rw [h];exact (XO_ hk).2
    ·intro h
     exact vZ_ hx (XO_ (k:=0) (by decide)).1 fun k hk=>by rw [h k hk,(XO_ hk).2]
   unfold QR_
   by_cases c:x=wy_ s
   ·rw [if_pos c,ih]
    constructor
    ·intro h i k hi hk
     cases i with
     | zero=>
       have:=hc.1 c k hk
       show tb x k=_
       rw [this];congr 1
       rw [show s - 8*((0:Nat):Int)=s by omega]
     | succ i=>
       have:=h i k (by rw [List.length_cons] at hi;omega) hk
       show tb (r.getD i 0) k=_
       rw [this];congr 1
       rw [show s - 8*((i+1:Nat):Int)=s - 8 - 8*(i:Int) by omega]
    ·intro h i k hi hk
     have:=h (i+1) k (by rw [List.length_cons];omega) hk
     have h9:tb (r.getD i 0) k=decide ((k:Int) < 8 - (s - 8*((i+1:Nat):Int))):=this
     rw [h9];congr 1
     rw [show s - 8*((i+1:Nat):Int)=s - 8 - 8*(i:Int) by omega]
   ·rw [if_neg c]
    constructor
    ·intro h;cases h
    ·intro h
     refine absurd (hc.2 fun k hk=>?_) c
     have:=h 0 k (by rw [List.length_cons];omega) hk
     have h9:tb x k=decide ((k:Int) < 8 - (s - 8*((0:Nat):Int))):=this
     rw [h9,show s - 8*((0:Nat):Int)=s by omega]
def wdO (o:OV):Int:=if o.1=32768 then Z4_ o.2.1 else 8*(lnV o:Int)
def kx_ (o:OV) (i k:Nat):Prop:=8*((lnV o:Int) - 1 - i)+k < wdO o
structure RgB (o:OV):Prop where
 nh:o.2.2.1=false->o.2.2.2.2.2.1=[]
 ml:o.2.2.1=true->o.2.2.2.2.2.1.length=lnV o
 ins:o.2.2.1=true->∀ i k:Nat,i < lnV o->k < 8->tb (vB o i) k=true->tb (mB o i) k=true
 nf:o.2.2.1=true->∃ i k:Nat,i < lnV o/\k < 8/\kx_ o i k/\tb (mB o i) k=false
 spv:∀ i k:Nat,i < lnV o->k < 8->¬ kx_ o i k->tb (vB o i) k=false
 spm:o.2.2.1=true->∀ i k:Nat,i < lnV o->k < 8->¬ kx_ o i k->tb (mB o i) k=false
theorem Hs_:∀ (v m:List Int),jL_ v m=false->∀ i:Nat,i < v.length->i < m.length->zj_ .andNot .u8 (v.getD i 0) (m.getD i 0)=0
 | [],_,_,i,h,_=>absurd h (Nat.not_lt_zero _)
 | _ :: _,[],_,i,_,h=>absurd h (Nat.not_lt_zero _)
 | x :: r,y :: l,h,i,h1,h2=>by
   unfold jL_ at h
   by_cases c:zj_ .andNot .u8 x y=0
   ·rw [if_pos c] at h
    cases i with
    | zero=>exact c
    | succ i=>exact Hs_ r l h i (by rw [List.length_cons] at h1;omega) (by rw [List.length_cons] at h2;omega)
   ·rw [if_neg c] at h;cases h
theorem WK_ {f:Int} {v:List Int} (hv:∀ z ∈ v,isB z) (h:Qw_ f v=true):fIs f=true/\(v.length:Int)=kC_ f/\∀ i k:Nat,i < v.length->k < 8->¬ (8*((v.length:Int) - 1 - i)+k < Z4_ f)->tb (v.getD i 0) k=false:=by
 unfold Qw_ at h
 split at h
 ·rename_i c
  obtain ⟨c1,c2⟩:=c
  have hf:fIs f=true:=q8_.2 c1
  have hs:=xV_ f.toNat (by omega)
  rw [Int.toNat_of_nonneg c1.1] at hs
  have hb:Z4_ f=kq_.getD f.toNat 0:=by unfold Z4_;rw [hf];rfl
  refine ⟨hf,c2,fun i k hi hk hn=>(Xf_ v _ hs.2.2.1 hv).1 h i k hi hk ?_⟩
  rw [hb] at hn;omega
 ·cases h
theorem tOf {b:Bool} (h:b=false->False):b=true:=by cases b with | true=>rfl | false=>exact (h rfl).elim
theorem VI_ {o:OV} (h:o.2.2.1=true) (i:Nat):mB o i=o.2.2.2.2.2.1.getD i 0:=if_pos h
theorem GG_ {o:OV} (h:o.2.2.1=false) (i:Nat):mB o i=255:=if_neg (by rw [h];decide)
theorem Hm_ {o:OV} (hr:rgO o=true) (hb:zT_ o):RgB o:=by
 obtain ⟨c,f,h,x,v,m,u⟩:=o
 have hv:∀ z ∈ v,isB z:=hb.2.1
 have hm:∀ z ∈ m,isB z:=hb.2.2
 have hr':ZD_ c f h x v m=true:=hr
 unfold ZD_ at hr'
 simp only [Bool.and_eq_true,Bool.or_eq_true,decide_eq_true_eq] at hr'
 obtain ⟨⟨⟨⟨⟨⟨a1,a2⟩,a3⟩,a4⟩,a5⟩,a6⟩,a7⟩:=hr'
 have hml:h=true->m.length=v.length:=fun e=>by subst e;exact (by have:=of_decide_eq_true a5;omega)
 have hnh:h=false->m=[]:=fun e=>by subst e;exact List.eq_nil_of_length_eq_zero (of_decide_eq_true a5)
 unfold KL_ at a7
 by_cases b1:zV_ c=false/\Qw_ f v=false
 ·rw [if_pos b1] at a7;omega
 rw [if_neg b1] at a7
 by_cases b2:h=true/\zV_ c=false/\Qw_ f m=false
 ·rw [if_pos b2] at a7;omega
 rw [if_neg b2] at a7
 by_cases b3:h=true/\(jD_ m=true\/jM_ m (if zV_ c=true then ((m.length:Int)*8) else q4_ c f)=true)
 ·rw [if_pos b3] at a7;omega
 rw [if_neg b3] at a7
 by_cases b4:h=true/\jL_ v m=true
 ·rw [if_pos b4] at a7;omega
 have hW:(zV_ c=true/\wdO (c,f,h,x,v,m,u)=8*(v.length:Int))\/(zV_ c=false/\wdO (c,f,h,x,v,m,u)=Z4_ f/\Qw_ f v=true):=by
  unfold zV_ wdO
  by_cases e:c=65535
  ·left
   refine ⟨decide_eq_true e,if_neg ?_⟩
   show ¬ c=32768;omega
  ·right
   have e2:c=32768:=by
    unfold Wx_ at a1
    rw [if_neg e,Bool.and_eq_true,decide_eq_true_eq] at a1
    exact a1.2
   refine ⟨decide_eq_false e,if_pos e2,?_⟩
   have:zV_ c=false:=decide_eq_false e
   exact tOf fun c=>b1 ⟨this,c⟩
 refine ⟨hnh,hml,fun hh i k hi hk ht=>?_,fun hh=>?_,fun i k hi hk hn=>?_,fun hh i k hi hk hn=>?_⟩
 ·have hh':h=true:=hh
  have hno:jL_ v m=false:=Bool.eq_false_iff.2 fun c=>b4 ⟨hh',c⟩
  have h0:=Hs_ v m hno i hi (by rw [hml hh'];exact hi)
  have h1:=(Qg_ (Zr_ _ _ _ (.inr (.inr (.inr rfl))))).1 h0 k hk
  rw [Wb_ (hC_ hv i) (hC_ hm i)] at h1
  rw [VI_ hh]
  have ht':tb (v.getD i 0) k=true:=ht
  rw [ht',Bool.true_and,Bool.not_eq_false'] at h1
  exact h1
 ·have hh':h=true:=hh
  have hlen:=hml hh'
  have hno:¬ jM_ m (if zV_ c=true then ((m.length:Int)*8) else q4_ c f)=true:=fun e=>b3 ⟨hh',.inr e⟩
  unfold jM_ at hno
  rw [vl_ m _ hm] at hno
  apply Classical.byContradiction
  intro hex
  refine hno fun i k hi hk=>?_
  have hi':i < lnV (c,f,h,x,v,m,u):=by show i < v.length;omega
  by_cases ho:kx_ (c,f,h,x,v,m,u) i k
  ·have hmt:tb (m.getD i 0) k=true:=by
    refine tOf fun hf=>?_
    exact hex ⟨i,k,hi',hk,ho,by rw [VI_ hh];exact hf⟩
   rw [hmt]
   refine (decide_eq_true ?_).symm
   unfold kx_ at ho
   have hl:(lnV (c,f,h,x,v,m,u):Int)=v.length:=rfl
   rw [hl] at ho
   rcases hW with ⟨w1,w2⟩ | ⟨w1,w2,_⟩
   ·rw [if_pos w1];omega
   ·rw [w2] at ho
    rw [if_neg (by rw [w1];decide)]
    unfold q4_
    rw [if_neg (of_decide_eq_false w1)];omega
  ·rcases hW with ⟨w1,w2⟩ | ⟨w1,w2,_⟩
   ·unfold kx_ at ho
    have hl:(lnV (c,f,h,x,v,m,u):Int)=v.length:=rfl
    rw [hl,w2] at ho
    omega
   ·have hfm:Qw_ f m=true:=tOf fun e=>b2 ⟨hh',w1,e⟩
    have h5:=(WK_ hm hfm).2.2 i k hi hk (by
     unfold kx_ at ho
     have hl:(lnV (c,f,h,x,v,m,u):Int)=v.length:=rfl
     rw [hl,w2] at ho;omega)
    rw [h5]
    refine (decide_eq_false ?_).symm
    unfold kx_ at ho
    have hl:(lnV (c,f,h,x,v,m,u):Int)=v.length:=rfl
    rw [hl,w2] at ho
    rw [if_neg (by rw [w1];decide)]
    unfold q4_
    rw [if_neg (of_decide_eq_false w1)];omega
 ·have hl:(lnV (c,f,h,x,v,m,u):Int)=v.length:=rfl
  unfold kx_ at hn
  rw [hl] at hn
  have hi':i < v.length:=hi
  rcases hW with ⟨w1,w2⟩ | ⟨w1,w2,w3⟩
  ·rw [w2] at hn;omega
  ·rw [w2] at hn
   exact (WK_ hv w3).2.2 i k hi' hk hn
 ·have hh':h=true:=hh
  have hl:(lnV (c,f,h,x,v,m,u):Int)=v.length:=rfl
  unfold kx_ at hn
  rw [hl] at hn
  have hi':i < v.length:=hi
  have hlen:=hml hh'
  rw [VI_ hh]
  rcases hW with ⟨w1,w2⟩ | ⟨w1,w2,w3⟩
  ·rw [w2] at hn;omega
  ·rw [w2] at hn
   have hfm:Qw_ f m=true:=tOf fun e=>b2 ⟨hh',w1,e⟩
   exact (WK_ hm hfm).2.2 i k (by omega) hk (by omega)
def wx_ (left:Int):Int:=if left < 8 then 2 ^ (if left < 0 then 0 else left).toNat - 1 else 255
theorem KC_ {s:Int} {k:Nat} (hk:k < 8):isB (wx_ s)/\tb (wx_ s) k=decide ((k:Int) < s):=by
 unfold wx_
 by_cases c:s < 8
 ·rw [if_pos c]
  have hcase:s < 0\/s=0\/s=1\/s=2\/s=3\/s=4\/s=5\/s=6\/s=7:=by omega
  rw [zag_]
  refine ⟨?_,?_⟩
  ·rcases hcase with h | rfl | rfl | rfl | rfl | rfl | rfl | rfl | rfl
   ·rw [if_pos h];exact ⟨by decide,by decide⟩
   all_goals exact ⟨by decide,by decide⟩
  ·by_cases h:s < 0
   ·rw [if_pos h,decide_eq_false (by omega),decide_eq_false (by omega)]
   ·rw [if_neg h]
    by_cases h2:(k:Int) < s
    ·rw [decide_eq_true h2,decide_eq_true (by omega)]
    ·rw [decide_eq_false h2,decide_eq_false (by omega)]
 ·rw [if_neg c,Wc_ hk,decide_eq_true (by omega)]
  exact ⟨⟨by decide,by decide⟩,rfl⟩
def wdM (c f:Int) (n:Nat):Int:=if c=32768/\fIs f=true then Z4_ f else 8*(n:Int)
def xg_ (c f:Int) (ms:List Int):Bool:=(List.range ms.length).all fun i=>decide (zj_ .and .u8 (ms.getD i 0) (wx_ (wdM c f ms.length - 8*((ms.length:Int) - 1 - i)))=wx_ (wdM c f ms.length - 8*((ms.length:Int) - 1 - i)))
theorem H5_ {c f:Int} {ms:List Int} (hm:∀ z ∈ ms,isB z):xg_ c f ms=true ↔ ∀ i k:Nat,i < ms.length->k < 8->8*((ms.length:Int) - 1 - i)+k < wdM c f ms.length->tb (ms.getD i 0) k=true:=by
 unfold xg_
 rw [List.all_eq_true]
 constructor
 ·intro h i k hi hk ho
  have h1:=of_decide_eq_true (h i (List.mem_range.2 hi))
  have h2:tb (zj_ .and .u8 (ms.getD i 0) (wx_ (wdM c f ms.length - 8*((ms.length:Int) - 1 - i)))) k=tb (wx_ (wdM c f ms.length - 8*((ms.length:Int) - 1 - i))) k:=by rw [h1]
  rw [Kq_ (hC_ hm i) (KC_ hk).1,(KC_ hk).2,decide_eq_true (by omega),Bool.and_true] at h2
  exact h2
 ·intro h i hi
  refine decide_eq_true (vZ_ (Zr_ _ _ _ (.inl rfl)) (KC_ (k:=0) (by decide)).1 fun k hk=>?_)
  rw [Kq_ (hC_ hm i) (KC_ (k:=0) (by decide)).1,(KC_ hk).2]
  by_cases ho:(k:Int) < wdM c f ms.length - 8*((ms.length:Int) - 1 - i)
  ·rw [decide_eq_true ho,h i k (List.mem_range.1 hi) hk (by omega)];rfl
  ·rw [decide_eq_false ho,Bool.and_false]
def orV (a b:OV):List Int:=(List.range (lnV a)).map fun i=>zj_ .or .u8 (vB a i) (vB b i)
def orM (a b:OV):List Int:=(List.range (lnV a)).map fun i=>zj_ .or .u8 (mB a i) (mB b i)
def jU_ (a b:OV):Bool:=a.2.2.1 && b.2.2.1 && !xg_ a.1 a.2.1 (orM a b)
def Zn_ (a b:OV):OV:=(a.1,a.2.1,jU_ a b,a.2.2.2.1,orV a b,if jU_ a b=true then orM a b else [],())
theorem wr_ {g:Nat->Int} {n i:Nat} (h:i < n):((List.range n).map g).getD i 0=g i:=by
 rw [List.getD_eq_getElem?_getD,List.getElem?_map,List.getElem?_range h];rfl
theorem w0_ (a b:OV):lnV (Zn_ a b)=lnV a:=by unfold lnV Zn_ orV;rw [List.length_map,List.length_range];rfl
theorem xY_ (a b:OV):(orM a b).length=lnV a:=by unfold orM;rw [List.length_map,List.length_range]
theorem B0_ (a b:OV):∀ z ∈ orM a b,isB z:=fun z hz=>by
 obtain ⟨i,_,rfl⟩:=List.mem_map.1 hz
 exact Zr_ _ _ _ (.inr (.inl rfl))
theorem zaZ_ (a b:OV):∀ z ∈ orV a b,isB z:=fun z hz=>by
 obtain ⟨i,_,rfl⟩:=List.mem_map.1 hz
 exact Zr_ _ _ _ (.inr (.inl rfl))
theorem yM_ {a b:OV} (ha:zT_ a):zT_ (Zn_ a b):=by
 refine ⟨ha.1,fun z hz=>zaZ_ a b z hz,fun z hz=>?_⟩
 have hz':z ∈ (if jU_ a b=true then orM a b else []):=hz
 split at hz'
 ·exact B0_ a b z hz'
 ·cases hz'
theorem g5_ {a b:OV} (ha:zT_ a) (hb:zT_ b) {i k:Nat} (hi:i < lnV a):tb (vB (Zn_ a b) i) k=(tb (vB a i) k || tb (vB b i) k):=by
 have:vB (Zn_ a b) i=zj_ .or .u8 (vB a i) (vB b i):=wr_ hi
 rw [this,uo_ (vb ha i) (vb hb i)]
theorem bp_ {a b:OV} (ha:zT_ a) (hb:zT_ b) {i k:Nat} (hi:i < lnV a) (hk:k < 8):tb (mB (Zn_ a b) i) k=if jU_ a b=true then (tb (mB a i) k || tb (mB b i) k) else true:=by
 by_cases h:jU_ a b=true
 ·have e:mB (Zn_ a b) i=zj_ .or .u8 (mB a i) (mB b i):=by
   rw [VI_ (o:=Zn_ a b) h]
   show (if jU_ a b=true then orM a b else []).getD i 0=_
   rw [if_pos h];exact wr_ hi
  rw [e,if_pos h,uo_ (mb ha i) (mb hb i)]
 ·rw [if_neg h,GG_ (o:=Zn_ a b) (Bool.eq_false_iff.2 h),Wc_ hk]
structure Pair (a b:OV):Prop where
 ra:RgB a
 rb:RgB b
 ba:zT_ a
 bb:zT_ b
 al:alO a b=true
 ln:lnV a=lnV b
 oa:a.1=32768->fIs a.2.1=true
 cl:∀ i k:Nat,i < lnV a->k < 8->tb (mB a i) k=true->tb (mB b i) k=true->tb (vB a i) k=tb (vB b i) k
theorem Pair.wd {a b:OV} (P:Pair a b):wdO a=wdO b:=by
 obtain ⟨h1,h2,_⟩:=(qW_ _ _).1 P.al
 unfold wdO;rw [h1,h2,P.ln]
theorem Pair.own {a b:OV} (P:Pair a b) (i k:Nat):kx_ a i k ↔ kx_ b i k:=by unfold kx_;rw [P.wd,P.ln]
theorem Pair.wm {a b:OV} (P:Pair a b):wdM a.1 a.2.1 (lnV a)=wdO a:=by
 unfold wdM wdO
 by_cases h:a.1=32768
 ·rw [if_pos h,if_pos ⟨h,P.oa h⟩]
 ·rw [if_neg h,if_neg fun c=>h c.1]
theorem BZ_ {o:OV} (R:RgB o) {i k:Nat} (hi:i < lnV o) (hk:k < 8) (h:tb (mB o i) k=false):tb (vB o i) k=false:=by
 cases hh:o.2.2.1 with
 | false=>rw [GG_ hh,Wc_ hk] at h;cases h
 | true=>
   cases hv:tb (vB o i) k with
   | false=>rfl
   | true=>rw [R.ins hh i k hi hk hv] at h;cases h
theorem Pair.m_own {a b:OV} (P:Pair a b) {i k:Nat} (hi:i < lnV a) (hk:k < 8) (ho:kx_ a i k):tb (mB (Zn_ a b) i) k=(tb (mB a i) k || tb (mB b i) k):=by
 rw [bp_ P.ba P.bb hi hk]
 by_cases h:jU_ a b=true
 ·rw [if_pos h]
 ·rw [if_neg h]
  unfold jU_ at h
  cases h1:a.2.2.1 with
  | false=>rw [GG_ h1,Wc_ hk,Bool.true_or]
  | true=>
    cases h2:b.2.2.1 with
    | false=>rw [GG_ (o:=b) h2,Wc_ hk,Bool.or_true]
    | true=>
      rw [h1,h2,Bool.true_and,Bool.true_and,Bool.not_eq_true',Bool.not_eq_false] at h
      have h3:=(H5_ (B0_ a b)).1 h i k (by rw [xY_];exact hi) hk (by rw [xY_,P.wm];exact ho)
      unfold orM at h3
      rw [wr_ hi,uo_ (mb P.ba i) (mb P.bb i)] at h3
      exact h3.symm
theorem Pair.v_a {a b:OV} (P:Pair a b) {i k:Nat} (hi:i < lnV a) (hk:k < 8) (h:tb (mB a i) k=true):tb (vB (Zn_ a b) i) k=tb (vB a i) k:=by
 rw [g5_ P.ba P.bb hi]
 cases h2:tb (mB b i) k with
 | true=>rw [P.cl i k hi hk h h2,Bool.or_self]
 | false=>rw [BZ_ P.rb (by rw [<- P.ln];exact hi) hk h2,Bool.or_false]
theorem Pair.v_b {a b:OV} (P:Pair a b) {i k:Nat} (hi:i < lnV a) (hk:k < 8) (h:tb (mB b i) k=true):tb (vB (Zn_ a b) i) k=tb (vB b i) k:=by
 rw [g5_ P.ba P.bb hi]
 cases h2:tb (mB a i) k with
 | true=>rw [P.cl i k hi hk h2 h,Bool.or_self]
 | false=>rw [BZ_ P.ra hi hk h2,Bool.false_or]
theorem Pair.v_sp {a b:OV} (P:Pair a b) {i k:Nat} (hi:i < lnV a) (hk:k < 8) (ho:¬ kx_ a i k):tb (vB a i) k=false/\tb (vB b i) k=false/\tb (vB (Zn_ a b) i) k=false:=by
 have h1:=P.ra.spv i k hi hk ho
 have h2:=P.rb.spv i k (by rw [<- P.ln];exact hi) hk fun c=>ho ((P.own i k).2 c)
 exact ⟨h1,h2,by rw [g5_ P.ba P.bb hi,h1,h2];rfl⟩
theorem bw_ (a b x:OV):alO (Zn_ a b) x=alO a x:=rfl
theorem k4_ {a b c:OV} (h1:alO a b=true) (h2:alO b c=true):alO a c=true:=by
 rw [qW_] at*
 exact ⟨h1.1.trans h2.1,h1.2.1.trans h2.2.1,h1.2.2.trans h2.2.2⟩
theorem QB_ {a b:OV} (h:alO a b=true):alO b a=true:=by
 rw [qW_] at*
 exact ⟨h.1.symm,h.2.1.symm,h.2.2.symm⟩
theorem g9_ (a:OV):alO a a=true:=(qW_ a a).2 ⟨rfl,rfl,rfl⟩
theorem Pair.takes {a b x:OV} (P:Pair a b) (bx:zT_ x) (rx:RgB x):zU_ (Zn_ a b) x=true ↔ zU_ a x=true/\zU_ b x=true:=by
 rw [ZH_ (yM_ P.ba) bx,ZH_ P.ba bx,ZH_ P.bb bx,w0_,bw_]
 have hw:alO a x=true->lnV a=lnV x->∀ i k:Nat,kx_ a i k ↔ kx_ x i k:=fun h1 h2 i k=>by
  obtain ⟨q1,q2,_⟩:=(qW_ _ _).1 h1
  unfold kx_ wdO;rw [q1,q2,h2]
 constructor
 ·rintro ⟨h1,h2,h3,h4⟩
  have hsp:∀ i k:Nat,i < lnV a->k < 8->¬ kx_ a i k->tb (vB x i) k=false:=fun i k hi hk ho=>rx.spv i k (by rw [<- h3];exact hi) hk fun c=>ho ((hw h1 h3 i k).2 c)
  refine ⟨⟨h1,h2,h3,fun i k hi hk hm=>?_⟩,k4_ (QB_ P.al) h1,h2,P.ln.symm.trans h3,fun i k hi hk hm=>?_⟩
  ·by_cases ho:kx_ a i k
   ·have:=h4 i k hi hk (by rw [P.m_own hi hk ho,hm];rfl)
    rw [P.v_a hi hk hm] at this;exact this
   ·rw [(P.v_sp hi hk ho).1,hsp i k hi hk ho]
  ·rw [<- P.ln] at hi
   by_cases ho:kx_ a i k
   ·have:=h4 i k hi hk (by rw [P.m_own hi hk ho,hm,Bool.or_true])
    rw [P.v_b hi hk hm] at this;exact this
   ·rw [(P.v_sp hi hk ho).2.1,hsp i k hi hk ho]
 ·rintro ⟨⟨h1,h2,h3,h4⟩,g1,g2,g3,g4⟩
  refine ⟨h1,h2,h3,fun i k hi hk hm=>?_⟩
  by_cases ho:kx_ a i k
  ·rw [P.m_own hi hk ho] at hm
   cases hma:tb (mB a i) k with
   | true=>rw [P.v_a hi hk hma];exact h4 i k hi hk hma
   | false=>
     rw [hma,Bool.false_or] at hm
     rw [P.v_b hi hk hm];exact g4 i k (by rw [<- P.ln];exact hi) hk hm
  ·rw [(P.v_sp hi hk ho).2.2,rx.spv i k (by rw [<- h3];exact hi) hk fun c=>ho ((hw h1 h3 i k).2 c)]
theorem Pair.m_spare {a b:OV} (P:Pair a b) {i k:Nat} (hi:i < lnV a) (hk:k < 8) (ho:¬ kx_ a i k) (h:tb (mB a i) k=true\/tb (mB b i) k=true):tb (mB (Zn_ a b) i) k=true:=by
 have hno:jU_ a b=false:=by
  unfold jU_
  rcases h with h | h
  ·cases h1:a.2.2.1 with
   | false=>rfl
   | true=>rw [P.ra.spm h1 i k hi hk ho] at h;cases h
  ·cases h1:b.2.2.1 with
   | false=>rw [Bool.and_false,Bool.false_and]
   | true=>rw [P.rb.spm h1 i k (by rw [<- P.ln];exact hi) hk fun c=>ho ((P.own i k).2 c)] at h;cases h
 rw [bp_ P.ba P.bb hi hk,if_neg (by rw [hno];decide)]
theorem Pair.cov_a {a b:OV} (P:Pair a b):zM_ (Zn_ a b) a=true:=by
 rw [Kk_ (yM_ P.ba) P.ba,w0_]
 refine ⟨g9_ a,rfl,fun i k hi hk hm=>⟨?_,P.v_a hi hk hm⟩⟩
 by_cases ho:kx_ a i k
 ·rw [P.m_own hi hk ho,hm,Bool.true_or]
 ·exact P.m_spare hi hk ho (.inl hm)
theorem Pair.cov_b {a b:OV} (P:Pair a b):zM_ (Zn_ a b) b=true:=by
 rw [Kk_ (yM_ P.ba) P.bb,w0_]
 refine ⟨P.al,P.ln,fun i k hi hk hm=>⟨?_,P.v_b hi hk hm⟩⟩
 by_cases ho:kx_ a i k
 ·rw [P.m_own hi hk ho,hm,Bool.or_true]
 ·exact P.m_spare hi hk ho (.inr hm)
theorem yO_ {x y:Int} (hx:isB x) (hy:isB y):zj_ .or .u8 x y=zj_ .or .u8 y x:=
 vZ_ (Zr_ _ _ _ (.inr (.inl rfl))) (Zr_ _ _ _ (.inr (.inl rfl))) fun k _=>by rw [uo_ hx hy,uo_ hy hx,Bool.or_comm]
theorem vJ_ {a b:OV} (ha:zT_ a) (hb:zT_ b) (h:alO a b=true) (hl:lnV a=lnV b):Zn_ a b=Zn_ b a:=by
 obtain ⟨h1,h2,h3⟩:=(qW_ _ _).1 h
 have e1:orV a b=orV b a:=by
  unfold orV;rw [hl]
  exact List.map_congr_left fun i _=>yO_ (vb ha i) (vb hb i)
 have e2:orM a b=orM b a:=by
  unfold orM;rw [hl]
  exact List.map_congr_left fun i _=>yO_ (mb ha i) (mb hb i)
 have e3:jU_ a b=jU_ b a:=by
  unfold jU_;rw [e2,h1,h2,Bool.and_comm a.2.2.1]
 unfold Zn_;rw [e1,e2,e3,h1,h2,h3]
def Ze_ (l p:List OV):Bool:=l.all fun o=>p.any fun x=>zU_ o x
def Z0_ (a b:List OV):Bool:=a.any fun x=>b.any fun y=>zH_ x y
def ZJ_ (a b:List OV):Bool:=b.all fun y=>a.any fun x=>zM_ x y
def mgO (b:List OV) (o:OV):OV:=match b.find? (fun y=>alO o y) with | some y=>Zn_ o y | none=>o
def mrg (a b:List OV):List OV:=a.map (mgO b)++b.filter fun y=>!a.any fun x=>alO x y
def Sep (l:List OV):Prop:=l.Pairwise fun x y=>alO x y=false
theorem gh_ {l:List OV} (h:Sep l) {x y:OV} (hx:x ∈ l) (hy:y ∈ l) (e:alO x y=true):x=y:=by
 obtain ⟨i,hi,rfl⟩:=List.mem_iff_getElem.1 hx
 obtain ⟨j,hj,rfl⟩:=List.mem_iff_getElem.1 hy
 have hp:=List.pairwise_iff_getElem.1 h
 by_cases c:i=j
 ·subst c;rfl
 ·by_cases c2:i < j
  ·rw [hp i j hi hj c2] at e;cases e
  ·have:=hp j i hj hi (by omega)
   rw [ks_ this] at e;cases e
structure Mt (l:List OV):Prop where
 rg:∀ o ∈ l,RgB o
 by':∀ o ∈ l,zT_ o
 ok:∀ o ∈ l,o.1=32768->fIs o.2.1=true
 sp:Sep l
theorem X6_ {l:List OV} (h:rgM l=true) (hb:∀ o ∈ l,zT_ o):Mt l:=by
 unfold rgM at h
 rw [Bool.and_eq_true,Bool.and_eq_true,decide_eq_true_eq,List.all_eq_true] at h
 refine ⟨fun o ho=>Hm_ (h.1.1 o ho) (hb o ho),hb,fun o ho hc=>?_,hK_ (d:=(0,0,false,0,[],[],())) ((BE_ _ l).1 h.1.2)⟩
 have h1:=h.1.1 o ho
 unfold rgO ZD_ at h1
 simp only [Bool.and_eq_true] at h1
 have h2:=h1.1.1.1.1.1.1
 unfold Wx_ at h2
 rw [if_neg (by omega),Bool.and_eq_true] at h2
 exact h2.1
theorem Km_ {a b:List OV} (ha:Mt a) (hb:Mt b) (hap:Z0_ a b=false) {x y:OV} (hx:x ∈ a) (hy:y ∈ b) (hal:alO x y=true):Pair x y:=by
 have h1:zH_ x y=false:=by
  unfold Z0_ at hap
  rw [List.any_eq_false] at hap
  have:=hap x hx
  rw [Bool.not_eq_true,List.any_eq_false] at this
  exact Bool.eq_false_iff.2 (this y hy)
 obtain ⟨h2,h3⟩:=(Jo_ (ha.by' x hx) (hb.by' y hy)).1 h1 hal
 exact ⟨ha.rg x hx,hb.rg y hy,ha.by' x hx,hb.by' y hy,hal,h2,ha.ok x hx,h3⟩
theorem X8_ {b:List OV} {o y:OV} (hb:Sep b) (hy:y ∈ b) (h:alO o y=true):mgO b o=Zn_ o y:=by
 unfold mgO
 cases e:b.find? (fun y=>alO o y) with
 | none=>
   rw [List.find?_eq_none] at e
   exact absurd h (e y hy)
 | some z=>
   have h1:=List.find?_some e
   have h2:=List.mem_of_find?_eq_some e
   have:z=y:=gh_ hb h2 hy (k4_ (QB_ h1) h)
   rw [this]
theorem X9_ {b:List OV} {o:OV} (h:∀ y ∈ b,alO o y=false):mgO b o=o:=by
 unfold mgO
 rw [List.find?_eq_none.2 fun y hy=>by rw [h y hy];decide]
theorem gB_ {b:List OV} (o x:OV):alO (mgO b o) x=alO o x:=by
 unfold mgO
 split
 ·rfl
 ·rfl
theorem Z3_ {a b:List OV} (hb:Sep b) (z:OV):z ∈ mrg a b ↔ (∃ x ∈ a,∃ y ∈ b,alO x y=true/\z=Zn_ x y)\/(z ∈ a/\∀ y ∈ b,alO z y=false)\/(z ∈ b/\∀ x ∈ a,alO x z=false):=by
 unfold mrg
 rw [List.mem_append,List.mem_map,List.mem_filter]
 constructor
 ·rintro (⟨x,hx,rfl⟩ | ⟨h1,h2⟩)
  ·by_cases c:∃ y ∈ b,alO x y=true
   ·obtain ⟨y,hy,h⟩:=c
    exact .inl ⟨x,hx,y,hy,h,X8_ hb hy h⟩
   ·have hn:∀ y ∈ b,alO x y=false:=fun y hy=>Bool.eq_false_iff.2 fun h=>c ⟨y,hy,h⟩
    rw [X9_ hn];exact .inr (.inl ⟨hx,hn⟩)
  ·rw [Bool.not_eq_true',List.any_eq_false] at h2
   exact .inr (.inr ⟨h1,fun x hx=>Bool.eq_false_iff.2 (h2 x hx)⟩)
 ·rintro (⟨x,hx,y,hy,h,rfl⟩ | ⟨h1,h2⟩ | ⟨h1,h2⟩)
  ·exact .inl ⟨x,hx,X8_ hb hy h⟩
  ·exact .inl ⟨z,h1,X9_ h2⟩
  ·exact .inr ⟨h1,by rw [Bool.not_eq_true',List.any_eq_false];exact fun x hx=>by rw [h2 x hx];decide⟩
theorem GD_ {a b:List OV} (ha:Sep a) (hb:Sep b):Sep (mrg a b):=by
 unfold mrg Sep
 refine List.pairwise_append.2 ⟨?_,List.Pairwise.filter _ hb,fun x hx y hy=>?_⟩
 ·refine List.pairwise_map.2 (ha.imp fun {x y} h=>?_)
  rw [gB_]
  cases e:alO x (mgO b y) with
  | false=>rfl
  | true=>
    have h1:=QB_ e
    rw [gB_] at h1
    rw [ks_ h] at h1;cases h1
 ·obtain ⟨o,ho,rfl⟩:=List.mem_map.1 hx
  have hy2:=(List.mem_filter.1 hy).2
  rw [Bool.not_eq_true',List.any_eq_false] at hy2
  rw [gB_];exact Bool.eq_false_iff.2 (hy2 o ho)
theorem vg_ {l:List OV} (h:Sep l):l.Nodup:=List.Pairwise.imp (fun {x y} h e=>by subst e;rw [g9_] at h;cases h) h
theorem VM_ {l:List OV} (h:Sep l):Sep (isG ltO l):=((wQ_ l).symm.pairwise_iff (fun hxy=>ks_ hxy)).1 h
theorem yf_ {l:List OV} (h:Sep l):(isG ltO l).Pairwise fun x y=>ltO x y=true:=by
 have h1:=HU_ zr_ l
 have h2:=VM_ h
 rw [List.pairwise_iff_getElem] at h1
 unfold Sep at h2
 rw [List.pairwise_iff_getElem] at h2
 rw [List.pairwise_iff_getElem]
 intro i j hi hj hij
 have q1:=h1 i j hi hj hij
 have q2:=h2 i j hi hj hij
 rw [x0_]
 rw [VJ_] at q1
 rw [Bool.eq_false_iff,Ne,qW_] at q2
 omega
theorem HT_ {l m:List OV} (hl:Sep l) (hm:Sep m) (h:∀ z,z ∈ l ↔ z ∈ m):isG ltO l=isG ltO m:=by
 have hp:(isG ltO l).Perm (isG ltO m):=(List.perm_ext_iff_of_nodup (vg_ (VM_ hl)) (vg_ (VM_ hm))).2 fun z=>by rw [kJ_,kJ_,h z]
 exact List.Perm.eq_of_pairwise (le:=fun x y=>ltO x y=true) (fun a b _ _ h1 h2=>by rw [zr_.asy _ _ h1] at h2;cases h2) (yf_ hl) (yf_ hm) hp
theorem yG_ {a b:OV} (ha:zT_ a) (hb:zT_ b):zH_ a b=zH_ b a:=by
 have key:∀ {a b:OV},zT_ a->zT_ b->zH_ a b=false->zH_ b a=false:=fun {a b} ha hb h=>by
  rw [Jo_ ha hb] at h
  rw [Jo_ hb ha]
  intro hal
  obtain ⟨h1,h2⟩:=h (QB_ hal)
  exact ⟨h1.symm,fun i k hi hk q1 q2=>(h2 i k (by rw [h1];exact hi) hk q2 q1).symm⟩
 cases h:zH_ a b with
 | false=>exact (key ha hb h).symm
 | true=>
   cases h2:zH_ b a with
   | true=>rfl
   | false=>rw [key hb ha h2] at h;cases h
theorem g8_ {a b:List OV} (ha:∀ o ∈ a,zT_ o) (hb:∀ o ∈ b,zT_ o):Z0_ a b=Z0_ b a:=by
 rw [Bool.eq_iff_iff]
 unfold Z0_
 simp only [List.any_eq_true]
 constructor
 ·rintro ⟨x,hx,y,hy,h⟩;exact ⟨y,hy,x,hx,by rw [yG_ (hb y hy) (ha x hx)];exact h⟩
 ·rintro ⟨y,hy,x,hx,h⟩;exact ⟨x,hx,y,hy,by rw [yG_ (ha x hx) (hb y hy)];exact h⟩
theorem HC_ {a b:List OV} (ha:Mt a) (hb:Mt b) (hap:Z0_ a b=false):isG ltO (mrg b a)=isG ltO (mrg a b):=by
 refine HT_ (GD_ hb.sp ha.sp) (GD_ ha.sp hb.sp) fun z=>?_
 rw [Z3_ ha.sp,Z3_ hb.sp]
 constructor
 ·rintro (⟨y,hy,x,hx,h,rfl⟩ | ⟨h1,h2⟩ | ⟨h1,h2⟩)
  ·have P:=Km_ ha hb hap hx hy (QB_ h)
   exact .inl ⟨x,hx,y,hy,QB_ h,(vJ_ P.ba P.bb P.al P.ln).symm⟩
  ·exact .inr (.inr ⟨h1,fun x hx=>ks_ (h2 x hx)⟩)
  ·exact .inr (.inl ⟨h1,fun x hx=>ks_ (h2 x hx)⟩)
 ·rintro (⟨x,hx,y,hy,h,rfl⟩ | ⟨h1,h2⟩ | ⟨h1,h2⟩)
  ·have P:=Km_ ha hb hap hx hy h
   exact .inl ⟨y,hy,x,hx,QB_ h,vJ_ P.ba P.bb P.al P.ln⟩
  ·exact .inr (.inr ⟨h1,fun x hx=>ks_ (h2 x hx)⟩)
  ·exact .inr (.inl ⟨h1,fun x hx=>ks_ (h2 x hx)⟩)
theorem gU_ {a:OV} (ha:zT_ a):zM_ a a=true:=(Kk_ ha ha).2 ⟨g9_ a,rfl,fun i k _ _ h=>⟨h,rfl⟩⟩
theorem KM_ {a b:List OV}:ZJ_ a b=true ↔ ∀ y ∈ b,∃ x ∈ a,zM_ x y=true:=by
 unfold ZJ_
 simp only [List.all_eq_true,List.any_eq_true]
theorem Kz_ {l p:List OV}:Ze_ l p=true ↔ ∀ o ∈ l,∃ x ∈ p,zU_ o x=true:=by
 unfold Ze_
 simp only [List.all_eq_true,List.any_eq_true]
theorem GY_ {a:List OV} (ha:∀ o ∈ a,zT_ o):ZJ_ a a=true:=KM_.2 fun y hy=>⟨y,hy,gU_ (ha y hy)⟩
theorem U5_ (a:List OV):ZJ_ a []=true:=rfl
theorem G2_ {x y p:OV} (bx:zT_ x) (by':zT_ y) (bp:zT_ p) (h1:zM_ x y=true) (h2:zU_ x p=true):zU_ y p=true:=by
 obtain ⟨p1,p2,p3⟩:=(Kk_ bx by').1 h1
 obtain ⟨q1,q2,q3,q4⟩:=(ZH_ bx bp).1 h2
 refine (ZH_ by' bp).2 ⟨k4_ (QB_ p1) q1,q2,p2.symm.trans q3,fun i k hi hk hm=>?_⟩
 obtain ⟨r1,r2⟩:=p3 i k (by rw [p2];exact hi) hk hm
 rw [<- r2];exact q4 i k (by rw [p2];exact hi) hk r1
theorem vU_ {a b p:List OV} (ha:∀ o ∈ a,zT_ o) (hb:∀ o ∈ b,zT_ o) (hp:∀ o ∈ p,zT_ o) (h:ZJ_ a b=true) (ht:Ze_ a p=true):Ze_ b p=true:=by
 rw [KM_] at h
 rw [Kz_] at*
 intro y hy
 obtain ⟨x,hx,hc⟩:=h y hy
 obtain ⟨z,hz,h2⟩:=ht x hx
 exact ⟨z,hz,G2_ (ha x hx) (hb y hy) (hp z hz) hc h2⟩
structure Pkt (p:List OV):Prop where
 rg:∀ o ∈ p,RgB o
 by':∀ o ∈ p,zT_ o
 sp:Sep p
theorem UW_ {a b p:List OV} (ha:∀ o ∈ a,zT_ o) (hb:∀ o ∈ b,zT_ o) (hp:Pkt p) (h1:Ze_ a p=true) (h2:Ze_ b p=true):Z0_ a b=false:=by
 rw [Kz_] at h1 h2
 unfold Z0_
 rw [List.any_eq_false]
 intro x hx
 rw [Bool.not_eq_true,List.any_eq_false]
 intro y hy
 rw [Bool.not_eq_true,Jo_ (ha x hx) (hb y hy)]
 intro hal
 obtain ⟨z,hz,q⟩:=h1 x hx
 obtain ⟨z',hz',q'⟩:=h2 y hy
 obtain ⟨a1,a2,a3,a4⟩:=(ZH_ (ha x hx) (hp.by' z hz)).1 q
 obtain ⟨b1,b2,b3,b4⟩:=(ZH_ (hb y hy) (hp.by' z' hz')).1 q'
 have e:z=z':=gh_ hp.sp hz hz' (k4_ (QB_ a1) (k4_ hal b1))
 subst e
 exact ⟨a3.trans b3.symm,fun i k hi hk m1 m2=>(a4 i k hi hk m1).trans (b4 i k (by rw [b3,<- a3];exact hi) hk m2).symm⟩
theorem gD_ {a b p:List OV} (ha:Mt a) (hb:Mt b) (hp:Pkt p) (hap:Z0_ a b=false):Ze_ (isG ltO (mrg a b)) p=(Ze_ a p && Ze_ b p):=by
 rw [Bool.eq_iff_iff,Bool.and_eq_true,Kz_,Kz_,Kz_]
 constructor
 ·intro h
  have h':∀ o ∈ mrg a b,∃ x ∈ p,zU_ o x=true:=fun o ho=>h o (kJ_.2 ho)
  refine ⟨fun x hx=>?_,fun y hy=>?_⟩
  ·by_cases c:∃ y ∈ b,alO x y=true
   ·obtain ⟨y,hy,hal⟩:=c
    obtain ⟨z,hz,q⟩:=h' _ ((Z3_ hb.sp _).2 (.inl ⟨x,hx,y,hy,hal,rfl⟩))
    exact ⟨z,hz,(((Km_ ha hb hap hx hy hal).takes (hp.by' z hz) (hp.rg z hz)).1 q).1⟩
   ·exact h' x ((Z3_ hb.sp x).2 (.inr (.inl ⟨hx,fun y hy=>Bool.eq_false_iff.2 fun h=>c ⟨y,hy,h⟩⟩)))
  ·by_cases c:∃ x ∈ a,alO x y=true
   ·obtain ⟨x,hx,hal⟩:=c
    obtain ⟨z,hz,q⟩:=h' _ ((Z3_ hb.sp _).2 (.inl ⟨x,hx,y,hy,hal,rfl⟩))
    exact ⟨z,hz,(((Km_ ha hb hap hx hy hal).takes (hp.by' z hz) (hp.rg z hz)).1 q).2⟩
   ·exact h' y ((Z3_ hb.sp y).2 (.inr (.inr ⟨hy,fun x hx=>Bool.eq_false_iff.2 fun h=>c ⟨x,hx,h⟩⟩)))
 ·rintro ⟨h1,h2⟩ o ho
  rcases (Z3_ hb.sp o).1 (kJ_.1 ho) with ⟨x,hx,y,hy,hal,rfl⟩ | ⟨hx,_⟩ | ⟨hy,_⟩
  ·obtain ⟨z,hz,q⟩:=h1 x hx
   obtain ⟨z',hz',q'⟩:=h2 y hy
   have a1:=((ZH_ (ha.by' x hx) (hp.by' z hz)).1 q).1
   have b1:=((ZH_ (hb.by' y hy) (hp.by' z' hz')).1 q').1
   have e:z=z':=gh_ hp.sp hz hz' (k4_ (QB_ a1) (k4_ hal b1))
   subst e
   exact ⟨z,hz,((Km_ ha hb hap hx hy hal).takes (hp.by' z hz) (hp.rg z hz)).2 ⟨q,q'⟩⟩
  ·exact h1 o hx
  ·exact h2 o hy
theorem xd_ {a b:List OV} (ha:Mt a) (hb:Mt b) (hap:Z0_ a b=false):ZJ_ (isG ltO (mrg a b)) a=true/\ZJ_ (isG ltO (mrg a b)) b=true:=by
 refine ⟨KM_.2 fun x hx=>?_,KM_.2 fun y hy=>?_⟩
 ·by_cases c:∃ y ∈ b,alO x y=true
  ·obtain ⟨y,hy,hal⟩:=c
   exact ⟨_,kJ_.2 ((Z3_ hb.sp _).2 (.inl ⟨x,hx,y,hy,hal,rfl⟩)),(Km_ ha hb hap hx hy hal).cov_a⟩
  ·exact ⟨x,kJ_.2 ((Z3_ hb.sp x).2 (.inr (.inl ⟨hx,fun y hy=>Bool.eq_false_iff.2 fun h=>c ⟨y,hy,h⟩⟩))),gU_ (ha.by' x hx)⟩
 ·by_cases c:∃ x ∈ a,alO x y=true
  ·obtain ⟨x,hx,hal⟩:=c
   exact ⟨_,kJ_.2 ((Z3_ hb.sp _).2 (.inl ⟨x,hx,y,hy,hal,rfl⟩)),(Km_ ha hb hap hx hy hal).cov_b⟩
  ·exact ⟨y,kJ_.2 ((Z3_ hb.sp y).2 (.inr (.inr ⟨hy,fun x hx=>Bool.eq_false_iff.2 fun h=>c ⟨x,hx,h⟩⟩))),gU_ (hb.by' y hy)⟩
theorem H4_ {l:List Int} {i:Nat} (h:l.length<=i):l.getD i 0=0:=by rw [List.getD_eq_getElem?_getD,List.getElem?_eq_none h];rfl
theorem KH_ {g:Nat->Bool} {i:Nat} (h:(List.range i).all g=true) (k:g i=true):(List.range (i+1)).all g=true:=by
 rw [List.range_succ,List.all_append,h,List.all_cons,k];rfl
theorem Js_ {g:Nat->Bool} {i n:Nat} (h:i < n) (k:g i=false):(List.range n).all g=false:=by
 rw [List.all_eq_false]
 exact ⟨i,List.mem_range.2 h,by rw [k];decide⟩
def tkA (o x:OV) (i:Nat):Bool:=decide (zj_ .and .u8 (zj_ .xor .u8 (vB o i) (vB x i)) (mB o i)=0)
def clA (a b:OV) (i:Nat):Bool:=decide (zj_ .and .u8 (zj_ .and .u8 (zj_ .xor .u8 (vB a i) (vB b i)) (mB a i)) (mB b i)=0)
def cvA (a b:OV) (i:Nat):Bool:=decide (zj_ .andNot .u8 (mB b i) (mB a i)=0) && decide (zj_ .and .u8 (zj_ .xor .u8 (vB a i) (vB b i)) (mB b i)=0)
def xK_:IR:=
(sq (kr [0,1] [oD 2 (.boxv 0),
oD 4 (.mov (.c (.int .u8 0)))])
(sq (.block 0
(sq (.reg [oA 6 2 2,
oL 7 6,
oD 8 (.un .not 7),
oM 5 8])
(.cond 5
(sq (kr [] [oD 4 (.mov (.c (.int .u8 255)))])
.ret)
(sq (kr [1,2] [oM 10 1,
oA 11 5 2,
oL 12 11,
oE 13 12,
oB 14 .lss 10 13,
oM 9 14])
(.cond 9
(sq (kr [1,2] [oA 15 5 2,
oL 16 15,
oM 17 1,
oI 18 1 16 17,
oL 19 18,
oM 4 19])
.ret)
.skip)))))
(sq (kr [] [oD 4 (.mov (.c (.int .u8 0)))])
.ret)))
def xy_:List RD:=[.tmp 4 true none]
theorem xE_:zn_ Tryz.prog Tryz.f42 xK_ xy_=true:=by kernel_rfl
def ZF_:List AV->List Obj->Option (Prop × AV)
 | [.agg [.int .i64 c,.int .i64 f,.bool h,.int .u64 x,.imm (.int .u8) v,.imm (.int .u8) m],.int .i64 i],[]=>some ((0<=i,.int .u8 (mB (c,f,h,x,v,m,()) i.toNat)))
 | _,_=>none
theorem qo_:zf_ Tryz.prog 42 (RoF ZF_).sum:=by
 refine zi_ Tryz.func42 xE_ (ze_ _) fun args objs p v e=>?_
 unfold ZF_ at e
 split at e
 ·rename_i c f h x v m i
  cases e
  refine ⟨rfl,fun hw ho hp=>?_⟩
  change List Int at v
  change List Int at m
  clear hw ho
  obtain ⟨i,rfl⟩:=Int.eq_ofNat_of_zero_le hp
  cases h
  ·have e:mB (c,f,false,x,v,m,()) i=255:=rfl
   simp only [Int.toNat_natCast,e]
   repeat'(intro t ht;first|(cases t<;>first|(cases ht;done)|(try simp only[zg_]at ht;try(exfalso;first|contradiction|omega)))|((first|refine za_ ht ?_|refine ht ?_ ?_|refine ht.1 ?_ ?_|refine ht ?_)<;>clear ht))
   all_goals first
    | exact True.intro
    | exact ⟨rfl,by first | rfl | exact True.intro⟩
  ·have e:mB (c,f,true,x,v,m,()) i=m.getD i 0:=rfl
   have e2:=fun h:m.length<=i=>H4_ h
   simp only [Int.toNat_natCast,e]
   repeat'(intro t ht;first|(cases t<;>first|(cases ht;done)|(try simp only[zg_]at ht;try(exfalso;first|contradiction|omega)))|((first|refine za_ ht ?_|refine ht ?_ ?_|refine ht.1 ?_ ?_|refine ht ?_)<;>clear ht))
   all_goals first
    | exact True.intro
    | omega
    | (constructor<;>omega)
    | exact ⟨rfl,by first | rfl | exact True.intro⟩
    | (rw [e2 (by omega)];exact ⟨rfl,by first | rfl | exact True.intro⟩)
 ·cases e
def WB_:IR:=
(sq (kr [0,1,2] [oD 4 (.mov cF)])
(sq (kd [0,1,2] [(oA 5 4 1,[]),
(oL 6 5,[]),
(oM 7 0,[0,0]),
(oI 8 1 6 7,[]),
(oL 9 8,[]),
(oA 10 4 2,[0,0,0,0,0]),
(oL 11 10,[1,0,0,0,0]),
(oM 12 0,[0,0,0,0,0,0,0]),
(oI 13 1 11 12,[3,0,0,0,0]),
(oL 14 13,[4,0,0,0,0]),
(oB 15 .xor 9 14,[]),
(oK 16 6 1,[0,0,0,0,0,0,0,0,0,0,0]),
(oM 17 0,[0,0,0,0,0,0,0,0,0,0,0,0]),
(oC 18 42 [16,17],[2,0,0,0,0,0,0,0,0,0,0]),
(oB 19 .and 15 18,[]),
(oB 20 .eql 19 (.c (.int .u8 0)),[]),
(oM 4 20,[])])
.ret))
def Wj_:List RD:=[.tmp 4 true none]
theorem Ws_:zn_ Tryz.prog Tryz.f65 WB_ Wj_=true:=by kernel_rfl
def qX_:List AV->List Obj->Option (Prop × AV)
 | [.int .i64 i,.ptr 0 0,.ptr 1 0],[.box [.int .i64 c,.int .i64 f,.bool h,.int .u64 x,.imm (.int .u8) v,.imm (.int .u8) m],.box [.int .i64 c',.int .i64 f',.bool h',.int .u64 x',.imm (.int .u8) v',.imm (.int .u8) m']]=>some ((0<=i/\i < v.length/\i < v'.length,.bool (tkA (c,f,h,x,v,m,()) (c',f',h',x',v',m',()) i.toNat)))
 | _,_=>none
theorem Kb_:zf_ Tryz.prog 65 (RoF qX_).sum:=by
 refine zi_ Tryz.func65 Ws_ (zb_ (s:=RoF ZF_) qo_ (ze_ _)) fun args objs p v e=>?_
 unfold qX_ at e
 split at e
 ·rename_i i c f h x v m c' f' h' x' v' m'
  cases e
  refine ⟨rfl,fun hw ho hp=>?_⟩
  change List Int at v
  change List Int at m
  change List Int at v'
  change List Int at m'
  clear hw ho
  obtain ⟨h1,h2,h3⟩:=hp
  repeat'(intro t ht;first|(cases t<;>first|(cases ht;done)|(try simp only[zg_]at ht;try(exfalso;first|contradiction|omega)))|((first|refine za_ ht ?_|refine ht ?_ ?_|refine ht.1 ?_ ?_|refine ht ?_)<;>clear ht))
  all_goals first
   | exact True.intro
   | omega
   | (constructor<;>omega)
   | exact ⟨rfl,by first | rfl | exact True.intro⟩
 ·cases e
def WC_:IR:=
(sq (kr [0,1,2] [oD 4 (.mov cF)])
(sq (kd [0,1,2] [(oA 5 4 1,[]),
(oL 6 5,[]),
(oM 7 0,[0,0]),
(oI 8 1 6 7,[]),
(oL 9 8,[]),
(oA 10 4 2,[0,0,0,0,0]),
(oL 11 10,[1,0,0,0,0]),
(oM 12 0,[0,0,0,0,0,0,0]),
(oI 13 1 11 12,[3,0,0,0,0]),
(oL 14 13,[4,0,0,0,0]),
(oB 15 .xor 9 14,[]),
(oK 16 6 1,[0,0,0,0,0,0,0,0,0,0,0]),
(oM 17 0,[0,0,0,0,0,0,0,0,0,0,0,0]),
(oC 18 42 [16,17],[2,0,0,0,0,0,0,0,0,0,0]),
(oB 19 .and 15 18,[]),
(oK 20 6 2,[0,0,0,0,0,0,0,0,0,0,0,0,0,0,0]),
(oM 21 0,[0,0,0,0,0,0,0,0,0,0,0,0,0,0,0,0]),
(oC 22 42 [20,21],[2,3,0,0,0,0,0,0,0,0,0,0]),
(oB 23 .and 19 22,[]),
(oB 24 .eql 23 (.c (.int .u8 0)),[]),
(oM 4 24,[])])
.ret))
def Wk_:List RD:=[.tmp 4 true none]
theorem Wt_:zn_ Tryz.prog Tryz.f67 WC_ Wk_=true:=by kernel_rfl
def qY_:List AV->List Obj->Option (Prop × AV)
 | [.int .i64 i,.ptr 0 0,.ptr 1 0],[.box [.int .i64 c,.int .i64 f,.bool h,.int .u64 x,.imm (.int .u8) v,.imm (.int .u8) m],.box [.int .i64 c',.int .i64 f',.bool h',.int .u64 x',.imm (.int .u8) v',.imm (.int .u8) m']]=>some ((0<=i/\i < v.length/\i < v'.length,.bool (clA (c,f,h,x,v,m,()) (c',f',h',x',v',m',()) i.toNat)))
 | _,_=>none
theorem Kc_:zf_ Tryz.prog 67 (RoF qY_).sum:=by
 refine zi_ Tryz.func67 Wt_ (zb_ (s:=RoF ZF_) qo_ (ze_ _)) fun args objs p v e=>?_
 unfold qY_ at e
 split at e
 ·rename_i i c f h x v m c' f' h' x' v' m'
  cases e
  refine ⟨rfl,fun hw ho hp=>?_⟩
  change List Int at v
  change List Int at m
  change List Int at v'
  change List Int at m'
  clear hw ho
  obtain ⟨h1,h2,h3⟩:=hp
  repeat'(intro t ht;first|(cases t<;>first|(cases ht;done)|(try simp only[zg_]at ht;try(exfalso;first|contradiction|omega)))|((first|refine za_ ht ?_|refine ht ?_ ?_|refine ht.1 ?_ ?_|refine ht ?_)<;>clear ht))
  all_goals first
   | exact True.intro
   | omega
   | (constructor<;>omega)
   | exact ⟨rfl,by first | rfl | exact True.intro⟩
 ·cases e
def wS_:IR:=
(sq (kr [0,1,2] [oD 4 (.mov cF)])
(sq (.reg [oK 6 6 1,
oM 7 0,
oC 8 42 [6,7],
oM 5 8])
(sq (kd [0,1,2,5] [(oM 9 5,[]),
(oK 10 6 2,[0]),
(oM 11 0,[0,0]),
(oC 12 42 [10,11],[2]),
(oB 13 .andNot 9 12,[]),
(oB 14 .eql 13 (.c (.int .u8 0)),[]),
(oM 15 14,[]),
(oT 15 16 (.fieldAddr 4 2),[]),
(oT 15 17 (.load none 16),[]),
(oT 15 18 (.mov 0),[0,0]),
(oT 15 19 (.indexSl 1 17 18),[]),
(oT 15 20 (.load none 19),[]),
(oT 15 21 (.fieldAddr 4 1),[0,0,0,0,0]),
(oT 15 22 (.load none 21),[1,0,0,0,0]),
(oT 15 23 (.mov 0),[0,0,0,0,0,0,0]),
(oT 15 24 (.indexSl 1 22 23),[3,0,0,0,0]),
(oT 15 25 (.load none 24),[4,0,0,0,0]),
(oT 15 26 (.bin .xor 20 25),[]),
(oT 15 27 (.mov 5),[0,0,0,0,0,0,0,0,0,0,0]),
(oT 15 28 (.bin .and 26 27),[]),
(oT 15 29 (.bin .eql 28 (.c (.int .u8 0))),[]),
(oP 30 15 29 cF,[]),
(oM 4 30,[])])
.ret)))
def wu_:List RD:=[.tmp 4 true none]
theorem wD_:zn_ Tryz.prog Tryz.f66 wS_ wu_=true:=by kernel_rfl
def qB_:List AV->List Obj->Option (Prop × AV)
 | [.int .i64 i,.ptr 0 0,.ptr 1 0],[.box [.int .i64 c,.int .i64 f,.bool h,.int .u64 x,.imm (.int .u8) v,.imm (.int .u8) m],.box [.int .i64 c',.int .i64 f',.bool h',.int .u64 x',.imm (.int .u8) v',.imm (.int .u8) m']]=>some ((0<=i/\i < v.length/\i < v'.length,.bool (cvA (c',f',h',x',v',m',()) (c,f,h,x,v,m,()) i.toNat)))
 | _,_=>none
theorem kX_:zf_ Tryz.prog 66 (RoF qB_).sum:=by
 refine zi_ Tryz.func66 wD_ (zb_ (s:=RoF ZF_) qo_ (ze_ _)) fun args objs p v e=>?_
 unfold qB_ at e
 split at e
 ·rename_i i c f h x v m c' f' h' x' v' m'
  cases e
  refine ⟨rfl,fun hw ho hp=>?_⟩
  change List Int at v
  change List Int at m
  change List Int at v'
  change List Int at m'
  clear hw ho
  obtain ⟨h1,h2,h3⟩:=hp
  unfold cvA
  repeat'(intro t ht;first|(cases t<;>first|(cases ht;done)|(try simp only[zg_]at ht;try(exfalso;first|contradiction|omega)))|((first|refine za_ ht ?_|refine ht ?_ ?_|refine ht.1 ?_ ?_|refine ht ?_)<;>clear ht))
  all_goals first
   | exact True.intro
   | omega
   | (constructor<;>omega)
   | (refine ⟨congrArg AV.bool ?_,by first | rfl | exact True.intro⟩
      first
       | (rw [show zj_ .andNot .u8 (mB (c,f,h,x,v,m,()) i.toNat) (mB (c',f',h',x',v',m',()) i.toNat)=0 from ht];rfl)
       | (rw [decide_eq_false ht];rfl)
       | (rw [decide_eq_true ht];rfl))
 ·cases e
def yl_:IR:=
(sq (kr [0,1] [oD 2 (.boxv 0),
oD 4 (.mov cF)])
(sq (sq (.reg [oA 6 4 2,
oL 7 6,
oE 8 7,
oD 9 (.mov (cI 0))])
(.block 0
(.loop
(sq (kr [1,8,9] [oB 10 .lss 9 8])
(sq (.cond 10
.skip
(.exit 0))
(sq (.block 1
(sq (.reg [oM 11 9,
oM 5 11])
(sq (.reg [oM 12 1,
oM 13 5,
oD 14 (.call false 12 [13]),
oD 15 (.un .not 14)])
(.cond 15
(sq (kr [] [oD 4 (.mov cF)])
.ret)
.skip))))
(kr [1,8,9] [oB 16 .add 9 (cI 1),
oM 9 16])))))))
(sq (kr [] [oD 4 (.mov cT)])
.ret)))
def XE_:List RD:=[.tmp 4 true none]
theorem XZ_:zn_ Tryz.prog Tryz.f64 yl_ XE_=true:=by kernel_rfl
def qS_:List AV->List Obj->Option (Prop × AV)
 | [.agg [.int .i64 c,.int .i64 f,.bool h,.int .u64 x,.imm (.int .u8) v,.imm (.int .u8) m],.fn 65 [] [.ptr 0 0,.ptr 1 0]],[.box [.int .i64 a1,.int .i64 a2,.bool a3,.int .u64 a4,.imm (.int .u8) a5,.imm (.int .u8) a6],.box [.int .i64 b1,.int .i64 b2,.bool b3,.int .u64 b4,.imm (.int .u8) b5,.imm (.int .u8) b6]]=>some ((v.length<=a5.length/\v.length<=b5.length/\v.length<=1000000,.bool ((List.range v.length).all (tkA (a1,a2,a3,a4,a5,a6,()) (b1,b2,b3,b4,b5,b6,())))))
 | [.agg [.int .i64 c,.int .i64 f,.bool h,.int .u64 x,.imm (.int .u8) v,.imm (.int .u8) m],.fn 67 [] [.ptr 0 0,.ptr 1 0]],[.box [.int .i64 a1,.int .i64 a2,.bool a3,.int .u64 a4,.imm (.int .u8) a5,.imm (.int .u8) a6],.box [.int .i64 b1,.int .i64 b2,.bool b3,.int .u64 b4,.imm (.int .u8) b5,.imm (.int .u8) b6]]=>some ((v.length<=a5.length/\v.length<=b5.length/\v.length<=1000000,.bool ((List.range v.length).all (clA (a1,a2,a3,a4,a5,a6,()) (b1,b2,b3,b4,b5,b6,())))))
 | [.agg [.int .i64 c,.int .i64 f,.bool h,.int .u64 x,.imm (.int .u8) v,.imm (.int .u8) m],.fn 66 [] [.ptr 0 0,.ptr 1 0]],[.box [.int .i64 a1,.int .i64 a2,.bool a3,.int .u64 a4,.imm (.int .u8) a5,.imm (.int .u8) a6],.box [.int .i64 b1,.int .i64 b2,.bool b3,.int .u64 b4,.imm (.int .u8) b5,.imm (.int .u8) b6]]=>some ((v.length<=a5.length/\v.length<=b5.length/\v.length<=1000000,.bool ((List.range v.length).all (cvA (b1,b2,b3,b4,b5,b6,()) (a1,a2,a3,a4,a5,a6,())))))
 | _,_=>none
theorem kv_:zf_ Tryz.prog 64 (RoF qS_).sum:=by
 refine zi_ Tryz.func64 XZ_ (zb_ (s:=RoF qY_) Kc_ (zb_ (s:=RoF qB_) kX_ (zb_ (s:=RoF qX_) Kb_ (ze_ _)))) fun args objs p v e=>?_
 unfold qS_ at e
 split at e
 ·rename_i c f h x v m a1 a2 a3 a4 a5 a6 b1 b2 b3 b4 b5 b6
  cases e
  refine ⟨rfl,fun hw ho hp=>?_⟩
  change List Int at v
  change List Int at m
  change List Int at a5
  change List Int at a6
  change List Int at b5
  change List Int at b6
  clear hw ho
  obtain ⟨h1,h2,h3⟩:=hp
  repeat'(intro t ht;first|(cases t<;>first|(cases ht;done)|(try simp only[zg_]at ht;try(exfalso;first|contradiction|omega)))|((first|refine za_ ht ?_|refine ht ?_ ?_|refine ht.1 ?_ ?_|refine ht ?_)<;>clear ht))
  all_goals first
   | exact True.intro
   | (intro r h1 h2;clear h1;refine h2 ⟨[1,8,9],Nat,(fun i=>i<=v.length/\(List.range i).all (tkA (a1,a2,a3,a4,a5,a6,()) (b1,b2,b3,b4,b5,b6,()))=true),fun i=>[.fn 65 [] [.ptr 0 0,.ptr 1 0],.int .i64 v.length,.int .i64 i],fun _=>[.box [.int .i64 a1,.int .i64 a2,.bool a3,.int .u64 a4,.imm (.int .u8) a5,.imm (.int .u8) a6],.box [.int .i64 b1,.int .i64 b2,.bool b3,.int .u64 b4,.imm (.int .u8) b5,.imm (.int .u8) b6]],fun i=>v.length - i,⟨0,⟨Nat.zero_le _,rfl⟩,rfl,rfl⟩,?_⟩;clear h2)
  rintro i ⟨hi,hJ⟩
  have e1:=fun k=>KH_ (g:=tkA (a1,a2,a3,a4,a5,a6,()) (b1,b2,b3,b4,b5,b6,())) (i:=i) hJ k
  have e2:=fun h k=>Js_ (g:=tkA (a1,a2,a3,a4,a5,a6,()) (b1,b2,b3,b4,b5,b6,())) (i:=i) (n:=v.length) h k
  repeat'(intro t ht;first|(cases t<;>first|(cases ht;done)|(try simp only[zg_]at ht;try(exfalso;first|contradiction|omega)))|((first|refine za_ ht ?_|refine ht ?_ ?_|refine ht.1 ?_ ?_|refine ht ?_)<;>clear ht))
  all_goals (try simp only [Int.toNat_natCast] at ht ⊢)
  all_goals first
   | exact True.intro
   | omega
   | (refine ⟨?_,?_,?_⟩<;>omega)
   | ((try dsimp only);simp only [zm_];omega)
   | (rw [e2 (by omega) ht];exact ⟨rfl,by first | rfl | exact True.intro⟩)
   | (have e:i=v.length:=by omega
      rw [e] at hJ;rw [hJ];exact ⟨rfl,by first | rfl | exact True.intro⟩)
   | (refine ⟨i+1,⟨by omega,e1 ht⟩,?_,rfl,by first | rfl | exact True.intro⟩
      (try dsimp only);omega)
 ·rename_i c f h x v m a1 a2 a3 a4 a5 a6 b1 b2 b3 b4 b5 b6
  cases e
  refine ⟨rfl,fun hw ho hp=>?_⟩
  change List Int at v
  change List Int at m
  change List Int at a5
  change List Int at a6
  change List Int at b5
  change List Int at b6
  clear hw ho
  obtain ⟨h1,h2,h3⟩:=hp
  repeat'(intro t ht;first|(cases t<;>first|(cases ht;done)|(try simp only[zg_]at ht;try(exfalso;first|contradiction|omega)))|((first|refine za_ ht ?_|refine ht ?_ ?_|refine ht.1 ?_ ?_|refine ht ?_)<;>clear ht))
  all_goals first
   | exact True.intro
   | (intro r h1 h2;clear h1;refine h2 ⟨[1,8,9],Nat,(fun i=>i<=v.length/\(List.range i).all (clA (a1,a2,a3,a4,a5,a6,()) (b1,b2,b3,b4,b5,b6,()))=true),fun i=>[.fn 67 [] [.ptr 0 0,.ptr 1 0],.int .i64 v.length,.int .i64 i],fun _=>[.box [.int .i64 a1,.int .i64 a2,.bool a3,.int .u64 a4,.imm (.int .u8) a5,.imm (.int .u8) a6],.box [.int .i64 b1,.int .i64 b2,.bool b3,.int .u64 b4,.imm (.int .u8) b5,.imm (.int .u8) b6]],fun i=>v.length - i,⟨0,⟨Nat.zero_le _,rfl⟩,rfl,rfl⟩,?_⟩;clear h2)
  rintro i ⟨hi,hJ⟩
  have e1:=fun k=>KH_ (g:=clA (a1,a2,a3,a4,a5,a6,()) (b1,b2,b3,b4,b5,b6,())) (i:=i) hJ k
  have e2:=fun h k=>Js_ (g:=clA (a1,a2,a3,a4,a5,a6,()) (b1,b2,b3,b4,b5,b6,())) (i:=i) (n:=v.length) h k
  repeat'(intro t ht;first|(cases t<;>first|(cases ht;done)|(try simp only[zg_]at ht;try(exfalso;first|contradiction|omega)))|((first|refine za_ ht ?_|refine ht ?_ ?_|refine ht.1 ?_ ?_|refine ht ?_)<;>clear ht))
  all_goals (try simp only [Int.toNat_natCast] at ht ⊢)
  all_goals first
   | exact True.intro
   | omega
   | (refine ⟨?_,?_,?_⟩<;>omega)
   | ((try dsimp only);simp only [zm_];omega)
   | (rw [e2 (by omega) ht];exact ⟨rfl,by first | rfl | exact True.intro⟩)
   | (have e:i=v.length:=by omega
      rw [e] at hJ;rw [hJ];exact ⟨rfl,by first | rfl | exact True.intro⟩)
   | (refine ⟨i+1,⟨by omega,e1 ht⟩,?_,rfl,by first | rfl | exact True.intro⟩
      (try dsimp only);omega)
 ·rename_i c f h x v m a1 a2 a3 a4 a5 a6 b1 b2 b3 b4 b5 b6
  cases e
  refine ⟨rfl,fun hw ho hp=>?_⟩
  change List Int at v
  change List Int at m
  change List Int at a5
  change List Int at a6
  change List Int at b5
  change List Int at b6
  clear hw ho
  obtain ⟨h1,h2,h3⟩:=hp
  repeat'(intro t ht;first|(cases t<;>first|(cases ht;done)|(try simp only[zg_]at ht;try(exfalso;first|contradiction|omega)))|((first|refine za_ ht ?_|refine ht ?_ ?_|refine ht.1 ?_ ?_|refine ht ?_)<;>clear ht))
  all_goals first
   | exact True.intro
   | (intro r h1 h2;clear h1;refine h2 ⟨[1,8,9],Nat,(fun i=>i<=v.length/\(List.range i).all (cvA (b1,b2,b3,b4,b5,b6,()) (a1,a2,a3,a4,a5,a6,()))=true),fun i=>[.fn 66 [] [.ptr 0 0,.ptr 1 0],.int .i64 v.length,.int .i64 i],fun _=>[.box [.int .i64 a1,.int .i64 a2,.bool a3,.int .u64 a4,.imm (.int .u8) a5,.imm (.int .u8) a6],.box [.int .i64 b1,.int .i64 b2,.bool b3,.int .u64 b4,.imm (.int .u8) b5,.imm (.int .u8) b6]],fun i=>v.length - i,⟨0,⟨Nat.zero_le _,rfl⟩,rfl,rfl⟩,?_⟩;clear h2)
  rintro i ⟨hi,hJ⟩
  have e1:=fun k=>KH_ (g:=cvA (b1,b2,b3,b4,b5,b6,()) (a1,a2,a3,a4,a5,a6,())) (i:=i) hJ k
  have e2:=fun h k=>Js_ (g:=cvA (b1,b2,b3,b4,b5,b6,()) (a1,a2,a3,a4,a5,a6,())) (i:=i) (n:=v.length) h k
  repeat'(intro t ht;first|(cases t<;>first|(cases ht;done)|(try simp only[zg_]at ht;try(exfalso;first|contradiction|omega)))|((first|refine za_ ht ?_|refine ht ?_ ?_|refine ht.1 ?_ ?_|refine ht ?_)<;>clear ht))
  all_goals (try simp only [Int.toNat_natCast] at ht ⊢)
  all_goals first
   | exact True.intro
   | omega
   | (refine ⟨?_,?_,?_⟩<;>omega)
   | ((try dsimp only);simp only [zm_];omega)
   | (rw [e2 (by omega) ht];exact ⟨rfl,by first | rfl | exact True.intro⟩)
   | (have e:i=v.length:=by omega
      rw [e] at hJ;rw [hJ];exact ⟨rfl,by first | rfl | exact True.intro⟩)
   | (refine ⟨i+1,⟨by omega,e1 ht⟩,?_,rfl,by first | rfl | exact True.intro⟩
      (try dsimp only);omega)
 ·cases e
def yk_:IR:=
(sq (kr [0,1] [oD 2 (.boxv 0),
oD 3 (.boxv 1),
oD 4 (.mov cF)])
(sq (sq (kr [2,3] [oK 5 6 2,
oK 6 6 3,
oC 7 60 [5,6],
oD 8 (.un .not 7),
oM 9 8,
oF 9 10 (.fieldAddr 2 3),
oF 9 11 (.load none 10),
oP 12 9 cT 11,
oM 13 12,
oF 13 14 (.fieldAddr 4 2),
oF 13 15 (.load none 14),
oF 13 16 (.len 15),
oF 13 17 (.fieldAddr 4 3),
oF 13 18 (.load none 17),
oF 13 19 (.len 18),
oF 13 20 (.bin .neq 16 19),
oP 21 13 cT 20])
(.cond 21
(sq (kr [] [oD 4 (.mov cF)])
.ret)
.skip))
(sq (kr [2,3] [oK 22 6 2,
oD 23 (.mkfn 65 [] [2,3]),
oC 24 64 [22,23],
oM 4 24])
.ret)))
def XD_:List RD:=[.tmp 4 true none]
theorem XY_:zn_ Tryz.prog Tryz.f34 yk_ XD_=true:=by kernel_rfl
def Kw_:List AV->List Obj->Option (Prop × AV)
 | [.agg [.int .i64 c,.int .i64 f,.bool h,.int .u64 x,.imm (.int .u8) v,.imm (.int .u8) m],.agg [.int .i64 c',.int .i64 f',.bool h',.int .u64 x',.imm (.int .u8) v',.imm (.int .u8) m']],[]=>some ((v.length<=1000000,.bool (zU_ (c,f,h,x,v,m,()) (c',f',h',x',v',m',()))))
 | _,_=>none
theorem xs_:zf_ Tryz.prog 34 (RoF Kw_).sum:=by
 refine zi_ Tryz.func34 XY_ (zb_ (s:=RoF qh_) qI_ (zb_ (s:=RoF qX_) Kb_ (zb_ (s:=RoF qS_) kv_ (ze_ _)))) fun args objs p v e=>?_
 unfold Kw_ at e
 split at e
 ·rename_i c f h x v m c' f' h' x' v' m'
  cases e
  refine ⟨rfl,fun hw ho hp=>?_⟩
  change List Int at v
  change List Int at m
  change List Int at v'
  change List Int at m'
  clear hw ho
  by_cases e:(c=c'/\f=f')/\x=x'
  ·have hal:alO (c,f,h,x,v,m,()) (c',f',h',x',v',m',())=true:=UX_ e
   cases h'
   ·by_cases hl:v.length=v'.length
    ·have hF:zU_ (c,f,h,x,v,m,()) (c',f',false,x',v',m',())=(List.range v.length).all (tkA (c,f,h,x,v,m,()) (c',f',false,x',v',m',())):=by
      unfold zU_ lnV
      rw [hal,decide_eq_true hl];rfl
     rw [hF]
     repeat'(intro t ht;first|(cases t<;>first|(cases ht;done)|(try simp only[zg_]at ht;try(exfalso;first|contradiction|omega)))|((first|refine za_ ht ?_|refine ht ?_ ?_|refine ht.1 ?_ ?_|refine ht ?_)<;>clear ht))
     all_goals first
      | exact True.intro
      | exact ⟨rfl,by first | rfl | exact True.intro⟩
      | (refine ⟨?_,?_,?_⟩<;>omega)
      | (exfalso;omega)
    ·have hF:zU_ (c,f,h,x,v,m,()) (c',f',false,x',v',m',())=false:=by
      unfold zU_ lnV
      rw [decide_eq_false hl,Bool.and_false,Bool.false_and]
     rw [hF]
     repeat'(intro t ht;first|(cases t<;>first|(cases ht;done)|(try simp only[zg_]at ht;try(exfalso;first|contradiction|omega)))|((first|refine za_ ht ?_|refine ht ?_ ?_|refine ht.1 ?_ ?_|refine ht ?_)<;>clear ht))
     all_goals first
      | exact True.intro
      | exact ⟨rfl,by first | rfl | exact True.intro⟩
      | (refine ⟨?_,?_,?_⟩<;>omega)
      | (exfalso;omega)
   ·have hF:zU_ (c,f,h,x,v,m,()) (c',f',true,x',v',m',())=false:=by
     unfold zU_
     rw [hal];rfl
    rw [hF]
    repeat'(intro t ht;first|(cases t<;>first|(cases ht;done)|(try simp only[zg_]at ht;try(exfalso;first|contradiction|omega)))|((first|refine za_ ht ?_|refine ht ?_ ?_|refine ht.1 ?_ ?_|refine ht ?_)<;>clear ht))
    all_goals first
     | exact True.intro
     | exact ⟨rfl,by first | rfl | exact True.intro⟩
     | (refine ⟨?_,?_,?_⟩<;>omega)
     | (exfalso;omega)
  ·have hal:alO (c,f,h,x,v,m,()) (c',f',h',x',v',m',())=false:=Bool.eq_false_iff.2 fun k=>e (by
    obtain ⟨k1,k2,k3⟩:=(qW_ _ _).1 k
    exact ⟨⟨k1,k2⟩,k3⟩)
   have hF:zU_ (c,f,h,x,v,m,()) (c',f',h',x',v',m',())=false:=by unfold zU_;rw [hal];rfl
   rw [hF]
   repeat'(intro t ht;first|(cases t<;>first|(cases ht;done)|(try simp only[zg_]at ht;try(exfalso;first|contradiction|omega)))|((first|refine za_ ht ?_|refine ht ?_ ?_|refine ht.1 ?_ ?_|refine ht ?_)<;>clear ht))
   all_goals first
    | exact True.intro
    | exact ⟨rfl,by first | rfl | exact True.intro⟩
    | (exfalso;omega)
 ·cases e
def ym_:IR:=
(sq (kr [0,1] [oD 2 (.boxv 0),
oD 3 (.boxv 1),
oD 4 (.mov cF)])
(sq (sq (.reg [oK 5 6 2,
oK 6 6 3,
oC 7 60 [5,6],
oD 8 (.un .not 7)])
(.cond 8
(sq (kr [] [oD 4 (.mov cF)])
.ret)
.skip))
(sq (kr [2,3] [oA 9 4 2,
oL 10 9,
oE 11 10,
oA 12 4 3,
oL 13 12,
oE 14 13,
oB 15 .neq 11 14,
oM 16 15,
oF 16 17 (.load (some 6) 2),
oF 16 18 (.mkfn 67 [] [2,3]),
oF 16 19 (.call false (.f 64) [17,18]),
oF 16 20 (.un .not 19),
oP 21 16 cT 20,
oM 4 21])
.ret)))
def XF_:List RD:=[.tmp 4 true none]
theorem X0_:zn_ Tryz.prog Tryz.f39 ym_ XF_=true:=by kernel_rfl
def Kx_:List AV->List Obj->Option (Prop × AV)
 | [.agg [.int .i64 c,.int .i64 f,.bool h,.int .u64 x,.imm (.int .u8) v,.imm (.int .u8) m],.agg [.int .i64 c',.int .i64 f',.bool h',.int .u64 x',.imm (.int .u8) v',.imm (.int .u8) m']],[]=>some ((v.length<=1000000,.bool (zH_ (c,f,h,x,v,m,()) (c',f',h',x',v',m',()))))
 | _,_=>none
theorem xt_:zf_ Tryz.prog 39 (RoF Kx_).sum:=by
 refine zi_ Tryz.func39 X0_ (zb_ (s:=RoF qh_) qI_ (zb_ (s:=RoF qY_) Kc_ (zb_ (s:=RoF qS_) kv_ (ze_ _)))) fun args objs p v e=>?_
 unfold Kx_ at e
 split at e
 ·rename_i c f h x v m c' f' h' x' v' m'
  cases e
  refine ⟨rfl,fun hw ho hp=>?_⟩
  change List Int at v
  change List Int at m
  change List Int at v'
  change List Int at m'
  clear hw ho
  by_cases e:(c=c'/\f=f')/\x=x'
  ·have hal:alO (c,f,h,x,v,m,()) (c',f',h',x',v',m',())=true:=UX_ e
   by_cases hl:v.length=v'.length
   ·have hF:zH_ (c,f,h,x,v,m,()) (c',f',h',x',v',m',())=!(List.range v.length).all (clA (c,f,h,x,v,m,()) (c',f',h',x',v',m',())):=by
     unfold zH_ lnV
     rw [hal,decide_eq_true hl];rfl
    rw [hF]
    repeat'(intro t ht;first|(cases t<;>first|(cases ht;done)|(try simp only[zg_]at ht;try(exfalso;first|contradiction|omega)))|((first|refine za_ ht ?_|refine ht ?_ ?_|refine ht.1 ?_ ?_|refine ht ?_)<;>clear ht))
    all_goals first
     | exact True.intro
     | exact ⟨rfl,by first | rfl | exact True.intro⟩
     | (refine ⟨?_,?_,?_⟩<;>omega)
     | (exfalso;omega)
   ·have hF:zH_ (c,f,h,x,v,m,()) (c',f',h',x',v',m',())=true:=by
     unfold zH_ lnV
     rw [hal,decide_eq_false hl];rfl
    rw [hF]
    repeat'(intro t ht;first|(cases t<;>first|(cases ht;done)|(try simp only[zg_]at ht;try(exfalso;first|contradiction|omega)))|((first|refine za_ ht ?_|refine ht ?_ ?_|refine ht.1 ?_ ?_|refine ht ?_)<;>clear ht))
    all_goals first
     | exact True.intro
     | exact ⟨rfl,by first | rfl | exact True.intro⟩
     | (refine ⟨?_,?_,?_⟩<;>omega)
     | (exfalso;omega)
  ·have hal:alO (c,f,h,x,v,m,()) (c',f',h',x',v',m',())=false:=Bool.eq_false_iff.2 fun k=>e (by
    obtain ⟨k1,k2,k3⟩:=(qW_ _ _).1 k
    exact ⟨⟨k1,k2⟩,k3⟩)
   have hF:zH_ (c,f,h,x,v,m,()) (c',f',h',x',v',m',())=false:=by unfold zH_;rw [hal];rfl
   rw [hF]
   repeat'(intro t ht;first|(cases t<;>first|(cases ht;done)|(try simp only[zg_]at ht;try(exfalso;first|contradiction|omega)))|((first|refine za_ ht ?_|refine ht ?_ ?_|refine ht.1 ?_ ?_|refine ht ?_)<;>clear ht))
   all_goals first
    | exact True.intro
    | exact ⟨rfl,by first | rfl | exact True.intro⟩
    | (exfalso;omega)
 ·cases e
def xL_:IR:=
(sq (kr [0,1] [oD 2 (.boxv 0),
oD 3 (.boxv 1),
oD 4 (.mov cF)])
(sq (sq (kr [2,3] [oK 5 6 2,
oK 6 6 3,
oC 7 60 [5,6],
oD 8 (.un .not 7),
oM 9 8,
oF 9 10 (.fieldAddr 4 2),
oF 9 11 (.load none 10),
oF 9 12 (.len 11),
oF 9 13 (.fieldAddr 4 3),
oF 9 14 (.load none 13),
oF 9 15 (.len 14),
oF 9 16 (.bin .neq 12 15),
oP 17 9 cT 16])
(.cond 17
(sq (kr [] [oD 4 (.mov cF)])
.ret)
.skip))
(sq (kr [2,3] [oK 18 6 2,
oD 19 (.mkfn 66 [] [3,2]),
oC 20 64 [18,19],
oM 4 20])
.ret)))
def xz_:List RD:=[.tmp 4 true none]
theorem xF_:zn_ Tryz.prog Tryz.f36 xL_ xz_=true:=by kernel_rfl
def k7_:List AV->List Obj->Option (Prop × AV)
 | [.agg [.int .i64 c,.int .i64 f,.bool h,.int .u64 x,.imm (.int .u8) v,.imm (.int .u8) m],.agg [.int .i64 c',.int .i64 f',.bool h',.int .u64 x',.imm (.int .u8) v',.imm (.int .u8) m']],[]=>some ((v.length<=1000000,.bool (zM_ (c,f,h,x,v,m,()) (c',f',h',x',v',m',()))))
 | _,_=>none
theorem Wf_:zf_ Tryz.prog 36 (RoF k7_).sum:=by
 refine zi_ Tryz.func36 xF_ (zb_ (s:=RoF qh_) qI_ (zb_ (s:=RoF qB_) kX_ (zb_ (s:=RoF qS_) kv_ (ze_ _)))) fun args objs p v e=>?_
 unfold k7_ at e
 split at e
 ·rename_i c f h x v m c' f' h' x' v' m'
  cases e
  refine ⟨rfl,fun hw ho hp=>?_⟩
  change List Int at v
  change List Int at m
  change List Int at v'
  change List Int at m'
  clear hw ho
  by_cases e:(c=c'/\f=f')/\x=x'
  ·have hal:alO (c,f,h,x,v,m,()) (c',f',h',x',v',m',())=true:=UX_ e
   by_cases hl:v.length=v'.length
   ·have hF:zM_ (c,f,h,x,v,m,()) (c',f',h',x',v',m',())=(List.range v.length).all (cvA (c,f,h,x,v,m,()) (c',f',h',x',v',m',())):=by
     unfold zM_ lnV
     rw [hal,decide_eq_true hl];rfl
    rw [hF]
    repeat'(intro t ht;first|(cases t<;>first|(cases ht;done)|(try simp only[zg_]at ht;try(exfalso;first|contradiction|omega)))|((first|refine za_ ht ?_|refine ht ?_ ?_|refine ht.1 ?_ ?_|refine ht ?_)<;>clear ht))
    all_goals first
     | exact True.intro
     | exact ⟨rfl,by first | rfl | exact True.intro⟩
     | (refine ⟨?_,?_,?_⟩<;>omega)
     | (exfalso;omega)
   ·have hF:zM_ (c,f,h,x,v,m,()) (c',f',h',x',v',m',())=false:=by
     unfold zM_ lnV
     rw [decide_eq_false hl,Bool.and_false,Bool.false_and]
    rw [hF]
    repeat'(intro t ht;first|(cases t<;>first|(cases ht;done)|(try simp only[zg_]at ht;try(exfalso;first|contradiction|omega)))|((first|refine za_ ht ?_|refine ht ?_ ?_|refine ht.1 ?_ ?_|refine ht ?_)<;>clear ht))
    all_goals first
     | exact True.intro
     | exact ⟨rfl,by first | rfl | exact True.intro⟩
     | (refine ⟨?_,?_,?_⟩<;>omega)
     | (exfalso;omega)
  ·have hal:alO (c,f,h,x,v,m,()) (c',f',h',x',v',m',())=false:=Bool.eq_false_iff.2 fun k=>e (by
    obtain ⟨k1,k2,k3⟩:=(qW_ _ _).1 k
    exact ⟨⟨k1,k2⟩,k3⟩)
   have hF:zM_ (c,f,h,x,v,m,()) (c',f',h',x',v',m',())=false:=by unfold zM_;rw [hal];rfl
   rw [hF]
   repeat'(intro t ht;first|(cases t<;>first|(cases ht;done)|(try simp only[zg_]at ht;try(exfalso;first|contradiction|omega)))|((first|refine za_ ht ?_|refine ht ?_ ?_|refine ht.1 ?_ ?_|refine ht ?_)<;>clear ht))
   all_goals first
    | exact True.intro
    | exact ⟨rfl,by first | rfl | exact True.intro⟩
    | (exfalso;omega)
 ·cases e
end Go.Eng
