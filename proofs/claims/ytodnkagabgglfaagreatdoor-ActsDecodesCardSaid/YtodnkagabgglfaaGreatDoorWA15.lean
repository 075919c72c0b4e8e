/- Parts of the proof: OE, OI, M1, OG, R7, N1, M2. No condition. -/
import Derived.Test.YtodnkagabgglfaaGreatDoorProg
import Derived.Test.YtodnkagabgglfaaGreatDoorWA10
import Derived.KernelRfl
import Derived.Test.YtodnkagabgglfaaGreatDoorWA14
import Derived.Test.YtodnkagabgglfaaGreatDoorWA11
namespace Go.Eng
open Go.Proofs
set_option linter.unusedVariables false
set_option linter.unusedSimpArgs false
set_option maxRecDepth 100000
set_option maxHeartbeats 1000000
theorem zdz_ {n:Nat} (x y:BitVec n):x &&& ~~~y=0#n ↔ x &&& y=x:=by
 constructor
 ·intro h
  refine BitVec.eq_of_getLsbD_eq fun i hi=>?_
  have h1:(x &&& ~~~y).getLsbD i=(0#n).getLsbD i:=by rw [h]
  rw [BitVec.getLsbD_and,BitVec.getLsbD_not,BitVec.getLsbD_zero,decide_eq_true hi,Bool.true_and] at h1
  rw [BitVec.getLsbD_and]
  cases hx:x.getLsbD i<;>cases hy:y.getLsbD i<;>simp_all
 ·intro h
  refine BitVec.eq_of_getLsbD_eq fun i hi=>?_
  have h1:(x &&& y).getLsbD i=x.getLsbD i:=by rw [h]
  rw [BitVec.getLsbD_and] at h1
  rw [BitVec.getLsbD_and,BitVec.getLsbD_not,BitVec.getLsbD_zero,decide_eq_true hi,Bool.true_and]
  cases hx:x.getLsbD i<;>cases hy:y.getLsbD i<;>simp_all
theorem zcx_ {k:IntKind} (hk:k.signed=false) {a:Int} (b:Int) (ha:k.min<=a/\a<=k.max):Zu_ .andNot k a b=0 ↔ Zu_ .and k a b=a:=by
 have hw:∀ v:BitVec k.bits,k.wrap (v.toNat:Int)=v.toNat:=fun v=>by
  refine WM_ ⟨?_,?_⟩
  ·cases k<;>simp_all [IntKind.min,IntKind.signed,IntKind.bits]<;>omega
  ·have:=v.isLt
   cases k<;>simp_all [IntKind.max,IntKind.signed,IntKind.bits]<;>omega
 have hx:((BitVec.ofInt k.bits a).toNat:Int)=a:=by
  rw [BitVec.toNat_ofInt]
  cases k<;>simp_all [IntKind.min,IntKind.max,IntKind.signed,IntKind.bits]<;>omega
 have h:=zdz_ (BitVec.ofInt k.bits a) (BitVec.ofInt k.bits b)
 show k.wrap (((BitVec.ofInt k.bits a) &&& ~~~(BitVec.ofInt k.bits b)).toNat:Int)=0 ↔ k.wrap (((BitVec.ofInt k.bits a) &&& (BitVec.ofInt k.bits b)).toNat:Int)=a
 rw [hw,hw]
 constructor
 ·intro e
  have:(BitVec.ofInt k.bits a) &&& ~~~(BitVec.ofInt k.bits b)=0#k.bits:=BitVec.eq_of_toNat_eq (by rw [BitVec.toNat_zero];omega)
  rw [h.1 this,hx]
 ·intro e
  have:(BitVec.ofInt k.bits a) &&& (BitVec.ofInt k.bits b)=BitVec.ofInt k.bits a:=BitVec.eq_of_toNat_eq (by omega)
  rw [h.2 this,BitVec.toNat_zero];rfl
theorem ion:∀ x < 256,∀ y < 256,(Zu_ .andNot .u8 ((x:Nat):Int) ((y:Nat):Int)=0 ↔ Zu_ .and .u8 ((x:Nat):Int) ((y:Nat):Int)=((x:Nat):Int)):=fun x hx y _=>
 zcx_ rfl _ ⟨by show (0:Int)<=x;omega,by show (x:Int)<=255;omega⟩
theorem zao_:∀ (v m:List Int),(∀ x ∈ v,0<=x/\x<=255)->(∀ x ∈ m,0<=x/\x<=255)->xN_ v m=!inA v m
 | [],_,_,_=>by simp [xN_,inA]
 | _ :: _,[],_,_=>by simp [xN_,inA]
 | x :: r,y :: l,hv,hm=>by
   have hx:=hv x (by simp)
   have hy:=hm y (by simp)
   have ih:=zao_ r l (fun a ha=>hv a (by simp [ha])) (fun a ha=>hm a (by simp [ha]))
   have h:=ion x.toNat (by omega) y.toNat (by omega)
   rw [Int.toNat_of_nonneg hx.1,Int.toNat_of_nonneg hy.1] at h
   unfold xN_ inA
   by_cases h1:Zu_ .andNot .u8 x y=0
   ·rw [if_pos h1,if_pos (h.1 h1),ih]
   ·rw [if_neg h1,if_neg (fun h2=>h1 (h.2 h2))];rfl
theorem gT_ (b:List Int):∀ (f g:Nat) (i:Int),k0_ b (f+g) i=(k0_ b f i && k0_ b g (i+f))
 | 0,g,i=>by rw [Nat.zero_add,show i+((0:Nat):Int)=i by omega];unfold k0_;rfl
 | f+1,g,i=>by
   rw [show f+1+g=(f+g)+1 by omega]
   by_cases h:Zu_ .and .u8 ((b.getD (b.length - 1 - i.tdiv 8:Int).toNat 0).fdiv (2 ^ (min (i.tmod 8).toNat 8))) 1=0
   ·rw [w5_ h,w5_ h,Bool.false_and]
   ·rw [w4_ h,w4_ h,gT_ b f g (i+1),show i+1+(f:Int)=i+((f+1:Nat):Int) by omega]
theorem xI_ (x:Int) (r:List Int):∀ (f:Nat) (i:Int),0<=i->i+f<=8*r.length->k0_ (x :: r) f i=k0_ r f i
 | 0,_,_,_=>rfl
 | f+1,i,h0,h=>by
   have ih:=xI_ x r f (i+1) (by omega) (by omega)
   have e:(x :: r).getD (((x :: r).length:Int) - 1 - i.tdiv 8).toNat 0=r.getD ((r.length:Int) - 1 - i.tdiv 8).toNat 0:=by
    rw [Zw_ h0,List.length_cons,show (((r.length+1:Nat):Int) - 1 - i / 8).toNat=((r.length:Int) - 1 - i / 8).toNat+1 by omega];rfl
   by_cases hc:Zu_ .and .u8 ((r.getD ((r.length:Int) - 1 - i.tdiv 8).toNat 0).fdiv (2 ^ (min (i.tmod 8).toNat 8))) 1=0
   ·rw [w5_ hc,w5_ (by rw [e];exact hc)]
   ·rw [w4_ hc,w4_ (by rw [e];exact hc),ih]
theorem VW_ (x:Int) (r:List Int):∀ (f:Nat) (i:Int),0<=i->i+f<=8->k0_ (x :: r) f (8*r.length+i)=k0_ [x] f i
 | 0,_,_,_=>rfl
 | f+1,i,h0,h=>by
   have ih:=VW_ x r f (i+1) (by omega) (by omega)
   have h8:0<=8*(r.length:Int)+i:=by omega
   have e:(x :: r).getD (((x :: r).length:Int) - 1 - (8*(r.length:Int)+i).tdiv 8).toNat 0=[x].getD ((([x]:List Int).length:Int) - 1 - i.tdiv 8).toNat 0:=by
    rw [Zw_ h8,Zw_ h0,List.length_cons,List.length_cons,List.length_nil,show (((r.length+1:Nat):Int) - 1 - (8*(r.length:Int)+i) / 8).toNat=0 by omega,show (((0+1:Nat):Int) - 1 - i / 8).toNat=0 by omega];rfl
   have e2:(8*(r.length:Int)+i).tmod 8=i.tmod 8:=by rw [Qa_ h8,Qa_ h0];omega
   by_cases hc:Zu_ .and .u8 (([x].getD ((([x]:List Int).length:Int) - 1 - i.tdiv 8).toNat 0).fdiv (2 ^ (min (i.tmod 8).toNat 8))) 1=0
   ·rw [w5_ hc,w5_ (by rw [e,e2];exact hc)]
   ·rw [w4_ hc,w4_ (by rw [e,e2];exact hc),Int.add_assoc,ih]
theorem zdO_:∀ s < 8,∀ x < 256,z4_ (s:Nat) [((x:Nat):Int)]=true->(((x:Nat):Int)=Um_ (s:Nat) ↔ k0_ [((x:Nat):Int)] (8 - s) 0=true):=by decide+kernel
theorem own0:Um_ 0=255:=by decide
theorem xP_:∀ (r:List Int) (s:Int),s<=0->ko_ r s=ko_ r 0
 | [],_,_=>by simp [ko_]
 | x :: r,s,h=>by
   have h1:Um_ s=255:=if_neg (by omega)
   have ih:=xP_ r (s - 8) (by omega)
   have ih0:=xP_ r (0 - 8) (by omega)
   unfold ko_
   rw [h1,own0,ih,ih0]
theorem b9_ {s x:Int} (r:List Int) (hs:s<=8) (h:z4_ s (x :: r)=true):z4_ s [x]=true:=by
 by_cases h1:x.fdiv (2 ^ (min (8 - (if 8 < s then 8 else s)).toNat 8))=0
 ·exact if_pos h1
 ·have e:z4_ s (x :: r)=false:=if_neg h1
  rw [e] at h;cases h
theorem W6_:∀ (m:List Int) (s:Int),(∀ x ∈ m,0<=x/\x<=255)->0<=s->s<=8*m.length->z4_ s m=true->ko_ m s=k0_ m (8*m.length - s).toNat 0
 | [],s,_,h0,h1,_=>by
   have:s=0:=by simp at h1;omega
   subst this;rfl
 | x :: r,s,hm,h0,h1,hs=>by
   have hx:=hm x (by simp)
   have hr:∀ a ∈ r,0<=a/\a<=255:=fun a ha=>hm a (by simp [ha])
   rw [List.length_cons] at h1
   by_cases h8:8<=s
   ·have hsp:x=0/\z4_ (s - 8) r=true:=by
     have h8':(if 8 < s then 8 else s)=8:=by split<;>omega
     have e:z4_ s (x :: r)=if x.fdiv (2 ^ (min (8 - (if 8 < s then 8 else s)).toNat 8))=0 then z4_ (s - (if 8 < s then 8 else s)) r else false:=rfl
     rw [h8',show (min (8 - 8:Int).toNat 8)=0 from rfl,Int.pow_zero,Int.fdiv_one] at e
     rw [e] at hs
     by_cases h9:x=0
     ·rw [if_pos h9] at hs;exact ⟨h9,hs⟩
     ·rw [if_neg h9] at hs;cases hs
    have ho:Um_ s=0:=by
     unfold Um_
     rw [if_pos (by omega)]
     by_cases h9:8 < s
     ·rw [if_pos h9];decide
     ·rw [if_neg h9,show s=8 by omega];decide
    have ih:=W6_ r (s - 8) hr (by omega) (by omega) hsp.2
    have hn:(8*(((x :: r).length:Nat):Int) - s).toNat=(8*(r.length:Int) - (s - 8)).toNat:=by rw [List.length_cons];omega
    unfold ko_
    rw [if_pos (by rw [ho];exact hsp.1),ih,hn,xI_ x r _ 0 (by omega) (by omega)]
   ·have hs1:=b9_ r (by omega) hs
    have h2:=zdO_ s.toNat (by omega) x.toNat (by omega)
    rw [Int.toNat_of_nonneg h0,Int.toNat_of_nonneg hx.1] at h2
    have h3:=h2 hs1
    have hsr:z4_ 0 r=true:=yL_ r hr
    have ih:=W6_ r 0 hr (Int.le_refl _) (by omega) hsr
    have hn:(8*(((x :: r).length:Nat):Int) - s).toNat=8*r.length+(8 - s.toNat):=by rw [List.length_cons];omega
    have hn0:(8*(r.length:Int) - 0).toNat=8*r.length:=by omega
    have hhd:=VW_ x r (8 - s.toNat) 0 (Int.le_refl _) (by omega)
    rw [Int.add_zero] at hhd
    rw [hn0] at ih
    unfold ko_
    rw [hn,gT_,xI_ x r _ 0 (by omega) (by omega),show (0:Int)+((8*r.length:Nat):Int)=8*(r.length:Int) by omega,hhd,xP_ r (s - 8) (by omega),ih]
    by_cases hc:x=Um_ s
    ·rw [if_pos hc,h3.1 hc,Bool.and_true]
    ·rw [if_neg hc,show k0_ [x] (8 - s.toNat) 0=false by
      cases hq:k0_ [x] (8 - s.toNat) 0 with
      | false=>rfl
      | true=>exact absurd (h3.2 hq) hc,Bool.and_false]
theorem Hh_ {f:Int} {m:List Int} (hm:∀ x ∈ m,0<=x/\x<=255) (h:kS_ f m=true):XL_ m (Q0_ f)=k0_ m (qJ_ f).toNat 0:=by
 unfold kS_ at h
 split at h
 ·rename_i hh
  have hi:fIs f=true:=Z7_.2 hh.1
  have hz:=uX_ f.toNat (by omega)
  rw [Int.toNat_of_nonneg hh.1.1] at hz
  have hb:Q0_ f=kq_.getD f.toNat 0:=if_pos hi
  have hbl:=go_ f.toNat (by omega)
  have ho:=W6_ m (m.length*8 - Q0_ f) hm (by omega) (by omega) (by rw [hb,show (m.length:Int)*8 - kq_.getD f.toNat 0=8*kO_ f - kq_.getD f.toNat 0 by omega];exact h)
  unfold XL_
  rw [ho,<- (law8 f).1,show (8*(m.length:Int) - (m.length*8 - Q0_ f))=Q0_ f by omega]
 ·cases h
theorem Hg_ {m:List Int} (hm:∀ x ∈ m,0<=x/\x<=255):XL_ m (m.length*8)=k0_ m (8*(m.length:Int)).toNat 0:=by
 have ho:=W6_ m 0 hm (Int.le_refl _) (by omega) (yL_ m hm)
 unfold XL_
 rw [show (m.length:Int)*8 - m.length*8=0 by omega,ho,Int.sub_zero]
theorem b1_ {c f:Int} {h:Bool} {v m:List Int} (hv:∀ x ∈ v,0<=x/\x<=255) (hm:∀ x ∈ m,0<=x/\x<=255) (hc:c=32768\/c=65535):q9_ f h v m (qM_ c f) (zP_ c)=hZ_ c f h v m:=by
 have hoi:=zao_ v m hv hm
 have hio:(xN_ v m=true)=(inA v m=false):=by rw [hoi];simp
 rcases hc with hc | hc
 ·have he:zP_ c=false:=decide_eq_false (by omega)
  have hb:qM_ c f=Q0_ f:=if_neg (by omega)
  have f1:=hi_ (n:=f) hv
  have f2:=hi_ (n:=f) hm
  unfold q9_ hZ_
  rw [he,hb,f1,f2]
  simp only [hio,hc,true_and,if_true,Bool.false_eq_true,if_false]
  cases h4:Z5_ f m with
  | true=>
    have ho:=Hh_ hm (f2.trans h4)
    rw [ho]
  | false=>
    cases h with
    | true=>simp
    | false=>simp
 ·have he:zP_ c=true:=decide_eq_true hc
  have hn:¬ c=32768:=by omega
  have ho:=Hg_ hm
  unfold q9_ hZ_
  rw [he]
  simp only [hio,hn,false_and,if_true,if_false,reduceCtorEq,ho,and_false]
theorem zu (x:Int) (h0:0<=x):x.fdiv (2 ^ (min (Int.toNat 32) IntKind.u64.bits))=0 ↔ x < 4294967296:=by
 rw [show (2:Int) ^ (min (Int.toNat 32) IntKind.u64.bits)=4294967296 from by decide,Int.fdiv_eq_ediv_of_nonneg _ (by decide)];omega
theorem zc0_ {n:Int} (h:0<=n/\n<=255):zf_ n 1=[n]:=by
 show [(n.fdiv (2 ^ (min (8*((1:Int) - 1 - ((0:Nat):Int))).toNat 64))) % 256]=[n]
 rw [show (min (8*((1:Int) - 1 - ((0:Nat):Int))).toNat 64)=0 from by decide,Int.pow_zero,Int.fdiv_one]
 congr 1;omega
theorem ql_ {c f:Int} {h:Bool} {x:Int} {v m:List Int} (hr:zG_ c f h x v m=true):0<=f/\f<=127/\(c=65535\/c=32768)/\(v.length:Int)<=100/\(m.length:Int)<=100/\0<=z1_ c v m/\z1_ c v m<=204/\z1_ c v m=(J5_ c x v m).length:=by
 obtain ⟨r1,r2,r3,r4,_⟩:=Kz_ hr
 have hof:=V3_ c f
 have hm:(m.length:Int)<=100:=by cases h;have:=r3 rfl;omega;have:=r2 rfl;omega
 have hb:z1_ c v m=(J5_ c x v m).length:=by
  have l4:=zo_ (n:=x) (w:=4) (by decide)
  unfold z1_ J5_
  split
  ·rw [List.length_append,List.length_append];omega
  ·rw [List.length_append,List.length_append,List.length_nil];omega
 have h0:0<=z1_ c v m/\z1_ c v m<=204:=by unfold z1_;split<;>omega
 have hcf:0<=f/\f<=127/\(c=65535\/c=32768):=by
  unfold q0_ at r4
  split at r4
  ·simp at r4;omega
  ·simp at r4;have:=Z7_.1 r4.1;omega
 exact ⟨hcf.1,hcf.2.1,hcf.2.2,by omega,hm,h0.1,h0.2,hb⟩
theorem gg_ {c f:Int} {h:Bool} {x:Int} {v m:List Int} (hr:zG_ c f h x v m=true):Zf_ c f h x v m=Qe_ c f h x v m:=by
 obtain ⟨n1,n2,n3,n4,n5,n6,n7,n8⟩:=ql_ hr
 unfold Zf_ bK_ Qe_
 rw [zc0_ (n:=2*f+if h=true then 1 else 0) (by split<;>omega),zc0_ (n:=z1_ c v m) (by omega),n8]
 unfold J5_
 simp only [List.append_assoc,List.cons_append,List.nil_append]
theorem B7_ {c f:Int} {h:Bool} {x:Int} {v m:List Int}:qR_ c f h x v m=((if zG_ c f h x v m=true then Qe_ c f h x v m else []).length:Int):=by
 unfold qR_
 split
 ·rename_i hr
  obtain ⟨n1,n2,n3,n4,n5,n6,n7,n8⟩:=ql_ hr
  have l2:=zo_ (n:=c) (w:=2) (by decide)
  unfold Qe_
  rw [n8]
  simp only [List.length_append,List.length_cons,List.length_nil];omega
 ·rfl
theorem bO_ {b:List Int} (hb:∀ x ∈ b,0<=x/\x<=255):zR_ b=rE b:=by
 unfold zR_ rE
 split
 ·rfl
 ·split
  ·rfl
  ·rename_i hok
   split
   ·rfl
   ·split
    ·rfl
    ·have hc:zp_ b=32768\/zp_ b=65535:=by
      unfold q0_ at hok
      split at hok
      ·right;assumption
      ·left;by_cases h:zp_ b=32768
       ·exact h
       ·rw [decide_eq_false h,Bool.and_false] at hok;exact absurd rfl hok
     refine b1_ (fun x hx=>?_) (fun x hx=>?_) hc
     ·exact hb x (List.mem_of_mem_take (List.mem_of_mem_drop hx))
     ·unfold Zh_ at hx
      split at hx
      ·exact hb x (List.mem_of_mem_take (List.mem_of_mem_drop hx))
      ·cases hx
def L1:List Int:=[128,0,10,2,8,0,7]
def L2:List Int:=[128,0,11,4,8,0,8,0]
theorem s1:zR_ L1=0/\qe_ L1 (zp_ L1)=32768/\qe_ L1 (zt_ L1)=5/\zT_ L1=false/\qe_ L1 (qp_ L1)=0/\q1_ L1 (Zg_ L1)=[8,0]/\q1_ L1 (Zh_ L1)=[]/\qe_ L1 (Zk_ L1)=6/\zR_ L2=1033:=by decide+kernel
theorem s2:zG_ 32768 5 false 0 [8,0] []=true/\Zf_ 32768 5 false 0 [8,0] []=[128,0,10,2,8,0]:=by decide+kernel
def YI_:IR:=
(sq (kr [0,1] [oD 4 (.mov cF)])
(sq (kr [0,1] [oM 5 0,
oD 6 (.b2s 5),
oM 7 1,
oD 8 (.b2s 7),
oB 9 .eql 6 8,
oM 4 9])
.ret))
def y6_:List RD:=[.tmp 4 true none]
theorem Yp_:zn_ Tryz.prog Tryz.f73 YI_ y6_=true:=by kernel_rfl
def QS_:List AV->List Obj->Option (Prop × AV)
 | [.imm (.int .u8) a,.imm (.int .u8) b],[]=>some ((True,.bool (decide (a=b))))
 | _,_=>none
theorem jC_:ze_ Tryz.prog 73 (RoF QS_).sum:=by
 refine zm_ Tryz.func73 Yp_ (zd_ _) fun args objs p v e=>?_
 unfold QS_ at e
 split at e
 ·rename_i a b
  cases e
  refine ⟨rfl,fun hw ho hp=>?_⟩
  change List Int at a
  change List Int at b
  repeat'(intro t ht;first|(cases t<;>first|(cases ht;done)|(try simp only[zh_]at ht))|((first|refine za_ ht ?_|refine ht ?_ ?_|refine ht.1 ?_ ?_|refine ht ?_)<;>clear ht))
  all_goals first
   | exact True.intro
   | exact ⟨rfl,rfl⟩
 ·cases e
def U1_:IR:=
(sq (kr [0,1] [oD 2 (.boxv 0),
oD 3 (.boxv 1),
oD 4 (.mov cF)])
(sq (kr [2,3] [oA 5 0 2,
oL 6 5,
oA 7 0 3,
oL 8 7,
oB 9 .eql 6 8,
oM 10 9,
oT 10 11 (.fieldAddr 1 2),
oT 10 12 (.load none 11),
oT 10 13 (.fieldAddr 1 3),
oT 10 14 (.load none 13),
oT 10 15 (.bin .eql 12 14),
oP 16 10 15 cF,
oM 17 16,
oT 17 18 (.fieldAddr 3 2),
oT 17 19 (.load none 18),
oT 17 20 (.fieldAddr 3 3),
oT 17 21 (.load none 20),
oT 17 22 (.bin .eql 19 21),
oP 23 17 22 cF,
oM 4 23])
.ret))
def Ud_:List RD:=[.tmp 4 true none]
theorem UC_:zn_ Tryz.prog Tryz.f108 U1_ Ud_=true:=by kernel_rfl
def wg_:List AV->List Obj->Option (Prop × AV)
 | [.agg [.int .i64 c,.int .i64 f,.bool h,.int .u64 x,.imm (.int .u8) v,.imm (.int .u8) m],.agg [.int .i64 c',.int .i64 f',.bool h',.int .u64 x',.imm (.int .u8) v',.imm (.int .u8) m']],[]=>some ((True,.bool (decide (c=c') && decide (f=f') && decide (x=x'))))
 | _,_=>none
theorem vB_:ze_ Tryz.prog 108 (RoF wg_).sum:=by
 refine zm_ Tryz.func108 UC_ (zd_ _) fun args objs p v e=>?_
 unfold wg_ at e
 split at e
 ·rename_i c f h x v m c' f' h' x' v' m'
  cases e
  refine ⟨rfl,fun hw ho hp=>?_⟩
  change List Int at v
  change List Int at m
  change List Int at v'
  change List Int at m'
  repeat'(intro t ht;first|(cases t<;>first|(cases ht;done)|(try simp only[zh_]at ht))|((first|refine za_ ht ?_|refine ht ?_ ?_|refine ht.1 ?_ ?_|refine ht ?_)<;>clear ht))
  all_goals first
   | exact True.intro
   | (simp_all;done)
 ·cases e
def G1_:IR:=
(sq (kr [0,1] [oD 2 (.boxv 0),
oD 3 (.boxv 1),
oD 4 (.mov cF)])
(sq (kr [2,3] [oK 5 6 2,
oK 6 6 3,
oC 7 108 [5,6],
oM 8 7,
oT 8 9 (.fieldAddr 2 2),
oT 8 10 (.load none 9),
oT 8 11 (.fieldAddr 2 3),
oT 8 12 (.load none 11),
oT 8 13 (.eqb false 10 12),
oP 14 8 13 cF,
oM 15 14,
oT 15 16 (.fieldAddr 4 2),
oT 15 17 (.load none 16),
oT 15 18 (.fieldAddr 4 3),
oT 15 19 (.load none 18),
oT 15 20 (.call false (.f 73) [17,19]),
oP 21 15 20 cF,
oM 22 21,
oT 22 23 (.fieldAddr 5 2),
oT 22 24 (.load none 23),
oT 22 25 (.fieldAddr 5 3),
oT 22 26 (.load none 25),
oT 22 27 (.call false (.f 73) [24,26]),
oP 28 22 27 cF,
oM 4 28])
.ret))
def g8_:List RD:=[.tmp 4 true none]
theorem Gu_:zn_ Tryz.prog Tryz.f72 G1_ g8_=true:=by kernel_rfl
def js_:List AV->List Obj->Option (Prop × AV)
 | [.agg [.int .i64 c,.int .i64 f,.bool h,.int .u64 x,.imm (.int .u8) v,.imm (.int .u8) m],.agg [.int .i64 c',.int .i64 f',.bool h',.int .u64 x',.imm (.int .u8) v',.imm (.int .u8) m']],[]=>some ((True,.bool (Qx_ c f h x v m c' f' h' x' v' m')))
 | _,_=>none
theorem WT_:ze_ Tryz.prog 72 (RoF js_).sum:=by
 refine zm_ Tryz.func72 Gu_ (zb_ (s:=RoF wg_) vB_ (zb_ (s:=RoF QS_) jC_ (zd_ _))) fun args objs p v e=>?_
 unfold js_ at e
 split at e
 ·rename_i c f h x v m c' f' h' x' v' m'
  cases e
  refine ⟨rfl,fun hw ho hp=>?_⟩
  change List Int at v
  change List Int at m
  change List Int at v'
  change List Int at m'
  repeat'(intro t ht;first|(cases t<;>first|(cases ht;done)|(try simp only[zh_]at ht))|((first|refine za_ ht ?_|refine ht ?_ ?_|refine ht.1 ?_ ?_|refine ht ?_)<;>clear ht))
  all_goals first
   | exact True.intro
   | (refine ⟨?_,rfl⟩;unfold Qx_;simp_all;done)
   | (refine ⟨?_,rfl⟩;unfold Qx_;cases h<;>cases h'<;>simp_all;done)
   | (refine ⟨?_,rfl⟩;unfold Qx_;rcases ‹(¬c=c'\/¬f=f')\/¬x=x'› with (h1 | h1) | h1<;>rw [decide_eq_false h1]<;>simp)
 ·cases e
def G2_:IR:=
(sq (kr [0] [oD 1 (.boxv 0),
oD 2 (.box [.int .i64 0,.int .i64 0,.kb false,.int .u64 0,.imm (.int .u8) [],.imm (.int .u8) []])])
(sq (kr [1,2] [oA 5 4 1,
oL 6 5,
oE 7 6,
oA 8 5 1,
oL 9 8,
oE 10 9,
oB 11 .add 7 10,
oD 12 (.mkrow (.int .u8) 1 (0:Int) 11 11),
oM 3 12])
(sq (kr [1,2,3] [oM 13 3,
oA 14 4 1,
oL 15 14,
oD 16 (.copy (.int .u8) 13 15),
oM 4 16])
(sq (kd [1,2,3,4] [(oM 17 3,[]),
(oM 18 4,[0]),
(oD 19 (.slice 1 17 (some 18) none none),[]),
(oA 20 5 1,[0,0,0]),
(oL 21 20,[1,0,0]),
(oD 22 (.copy (.int .u8) 19 21),[])])
(sq (kd [1,2,3,4] [(oM 23 3,[]),
(oM 24 4,[0]),
(oM 25 4,[0,0]),
(oD 26 (.slice 1 23 none (some 24) (some 25)),[]),
(oM 27 3,[0,0,0,0]),
(oM 28 4,[0,0,0,0,0]),
(oD 29 (.slice 1 27 (some 28) none none),[2,0,0,0]),
(oA 30 4 1,[0,0,0]),
(oS 1 30 26,[1,0,0]),
(oA 31 5 1,[]),
(oS 1 31 29,[])])
(sq (kr [1,2] [oK 32 6 1,
oS 6 2 32])
.ret))))))
def g9_:List RD:=[.cell 2 (some 6) false []]
theorem Gv_:zn_ Tryz.prog Tryz.f71 G2_ g9_=true:=by kernel_rfl
def WF_:List AV->List Obj->Option (Prop × AV × List Obj)
 | [.agg [.int .i64 c,.int .i64 f,.bool h,.int .u64 x,.imm (.int .u8) v,.imm (.int .u8) m]],[]=>some ((v.length<=100000/\m.length<=100000,.agg [.int .i64 c,.int .i64 f,.bool h,.int .u64 x,.view 0 0 v.length,.view 0 v.length m.length],[.row false (.int .u8) (v++m)]))
 | _,_=>none
theorem uT_:ze_ Tryz.prog 71 (RwF WF_).sum:=by
 refine qS_ Tryz.func71 Gv_ (zd_ _) fun args objs p v o e=>?_
 unfold WF_ at e
 split at e
 ·rename_i c f h x v m
  cases e
  refine ⟨rfl,fun hw ho hp=>?_⟩
  change List Int at v
  change List Int at m
  have k1:((v.length:Int)+m.length).toNat=v.length+m.length:=by omega
  have k2:(List.replicate (v.length+m.length) (0:Int)).length=v.length+m.length:=List.length_replicate
  have k3:v.take (v.length+m.length)=v:=List.take_of_length_le (by omega)
  have k4:(List.replicate (v.length+m.length) (0:Int)).drop v.length=List.replicate m.length 0:=by rw [List.drop_replicate];congr 1;omega
  have k5:min v.length (v.length+m.length)=v.length:=Nat.min_eq_left (by omega)
  have k6:(v++List.replicate m.length (0:Int)).length=v.length+m.length:=by simp
  have k7:(((v.length+m.length:Nat):Int) - (v.length:Int)).toNat=m.length:=by omega
  have k8:(v++List.replicate m.length (0:Int)).take v.length=v:=List.take_left
  have k9:m.take m.length=m:=List.take_length
  have k10:min m.length m.length=m.length:=Nat.min_self _
  have k11:(v++List.replicate m.length (0:Int)).drop (v.length+m.length)=[]:=List.drop_of_length_le (by simp)
  have k12:(v++m).length=v.length+m.length:=List.length_append
  have k13:((v.length:Int) - 0).toNat=v.length:=by omega
  repeat'(intro t ht;first|(cases t<;>first|(cases ht;done)|(try simp only[zh_]at ht))|((first|refine za_ ht ?_|refine ht ?_ ?_|refine ht.1 ?_ ?_|refine ht ?_)<;>clear ht))
  all_goals first
   | exact True.intro
   | (simp only [zA_,k1,k2,k3,k4,k5,k6,k7,k8,k9,k10,k11,k12,k13,List.append_nil,Int.toNat_natCast];first | omega | exact ⟨rfl,by first | rfl | exact True.intro⟩ | (refine ⟨?_,?_,?_,?_⟩<;>first | exact True.intro | omega))
   | omega
   | ((try simp only [zk_,zl_,zi_] at*);omega)
   | exact ⟨rfl,by first | rfl | exact True.intro⟩
 ·cases e
abbrev OV:=Int × Int × Bool × Int × List Int × List Int × Unit
instance:DecidableEq (Int × List Int × List Int × Unit):=inferInstance
instance:DecidableEq OV:=inferInstance
def lenO (o:OV):Prop:=o.2.2.2.2.1.length<=100000/\o.2.2.2.2.2.1.length<=100000
structure allLen (l:List OV):Prop where
 h:∀ o ∈ l,lenO o
theorem zcZ_ {l:List Int} (h:4<=l.length):∃ a b c d r,l=a :: b :: c :: d :: r:=by
 obtain _ | ⟨a0,_ | ⟨a1,_ | ⟨a2,_ | ⟨a3,r⟩⟩⟩⟩:=l
 all_goals first | exact ⟨_,_,_,_,_,rfl⟩ | (simp at h;done)
theorem at2 (n:Int):zf_ n 2=[n.fdiv 256 % 256,n % 256]:=by
 have e:zf_ n 2=[(n.fdiv (2 ^ 8)) % 256,(n.fdiv (2 ^ 0)) % 256]:=rfl
 rw [e,show (2:Int) ^ 8=256 from rfl,Int.pow_zero,Int.fdiv_one]
theorem at4 (n:Int):zf_ n 4=[n.fdiv 16777216 % 256,n.fdiv 65536 % 256,n.fdiv 256 % 256,n % 256]:=by
 have e:zf_ n 4=[(n.fdiv (2 ^ 24)) % 256,(n.fdiv (2 ^ 16)) % 256,(n.fdiv (2 ^ 8)) % 256,(n.fdiv (2 ^ 0)) % 256]:=rfl
 rw [e,show (2:Int) ^ 8=256 from rfl,show (2:Int) ^ 16=65536 from rfl,show (2:Int) ^ 24=16777216 from rfl,Int.pow_zero,Int.fdiv_one]
theorem num2 {n:Int} (h:0<=n/\n<=65535):z9_ (zf_ n 2)=n:=by
 rw [at2,Int.fdiv_eq_ediv_of_nonneg _ (by decide)]
 show (0*256+n / 256 % 256)*256+n % 256=n
 omega
theorem zdQ_ {n:Int} (h:0<=n/\n<=4294967295):z9_ (zf_ n 4)=n:=by
 rw [at4,Int.fdiv_eq_ediv_of_nonneg _ (by decide),Int.fdiv_eq_ediv_of_nonneg _ (by decide),Int.fdiv_eq_ediv_of_nonneg _ (by decide)]
 show (((0*256+n / 16777216 % 256)*256+n / 65536 % 256)*256+n / 256 % 256)*256+n % 256=n
 omega
theorem zd7_ {a b:Int} (ha:0<=a/\a<=255) (hb:0<=b/\b<=255):zf_ (z9_ [a,b]) 2=[a,b]:=by
 have e:z9_ [a,b]=a*256+b:=by show (0*256+a)*256+b=_;omega
 rw [e,at2,Int.fdiv_eq_ediv_of_nonneg _ (by decide),show (a*256+b) / 256 % 256=a by omega,show (a*256+b) % 256=b by omega]
theorem zd6_ {a b c d:Int} (ha:0<=a/\a<=255) (hb:0<=b/\b<=255) (hc:0<=c/\c<=255) (hd:0<=d/\d<=255):zf_ (z9_ [a,b,c,d]) 4=[a,b,c,d]:=by
 have e:z9_ [a,b,c,d]=((a*256+b)*256+c)*256+d:=by show (((0*256+a)*256+b)*256+c)*256+d=_;omega
 rw [e,at4,Int.fdiv_eq_ediv_of_nonneg _ (by decide),Int.fdiv_eq_ediv_of_nonneg _ (by decide),Int.fdiv_eq_ediv_of_nonneg _ (by decide),
  show (((a*256+b)*256+c)*256+d) / 16777216 % 256=a by omega,show (((a*256+b)*256+c)*256+d) / 65536 % 256=b by omega,
  show (((a*256+b)*256+c)*256+d) / 256 % 256=c by omega,show (((a*256+b)*256+c)*256+d) % 256=d by omega]
def hI (h:Bool):Int:=if h=true then 1 else 0
theorem zcp_ {c f:Int} {h:Bool} {x:Int} {v m:List Int} (hr:zG_ c f h x v m=true) (hx:0<=x) (L:List Int) (h0:L.take 4=(Qe_ c f h x v m).take 4):zp_ L=c/\zt_ L=f/\zT_ L=h/\L.getD 3 0=z1_ c v m:=by
 obtain ⟨n1,n2,n3,n4,n5,n6,n7,n8⟩:=ql_ hr
 have hc:0<=c/\c<=65535:=by omega
 have e1:(Qe_ c f h x v m).take 4=[c.fdiv 256 % 256,c % 256,2*f+(if h=true then 1 else 0),z1_ c v m]:=by
  unfold Qe_;rw [at2,<- n8];rfl
 rw [e1] at h0
 have e2:L.take 2=zf_ c 2:=by
  rw [at2,show L.take 2=(L.take 4).take 2 by rw [List.take_take];rfl,h0];rfl
 have e3:∀ k < 4,L.getD k 0=(L.take 4).getD k 0:=fun k hk=>(xB_ hk).symm
 have g2:L.getD 2 0=2*f+(if h=true then 1 else 0):=by rw [e3 2 (by decide),h0];rfl
 have g3:L.getD 3 0=z1_ c v m:=by rw [e3 3 (by decide),h0];rfl
 refine ⟨?_,?_,?_,g3⟩
 ·unfold zp_;rw [e2,num2 hc]
 ·unfold zt_;rw [g2,Zw_ (by split<;>omega)];split<;>omega
 ·unfold zT_;rw [g2,Qa_ (by split<;>omega)]
  cases h with
  | true=>exact decide_eq_true (by simp only [if_true];omega)
  | false=>exact decide_eq_false (by simp only [Bool.false_eq_true,if_false];omega)
theorem zdq_ {c f:Int} {h:Bool} {x:Int} {v m:List Int} (hr:zG_ c f h x v m=true) {L:List Int} (hC:zp_ L=c) (hF:zt_ L=f) (hH:zT_ L=h) (h3:L.getD 3 0=z1_ c v m):zx_ L=v.length/\qN_ L=true:=by
 obtain ⟨n1,n2,n3,n4,n5,n6,n7,n8⟩:=ql_ hr
 obtain ⟨r1,r2,r3,r4,r5,r6,r7,r8⟩:=Kz_ hr
 unfold zx_ qN_
 rw [hC,hF,hH,h3]
 rcases n3 with hc | hc
 ·have he:zP_ c=true:=decide_eq_true hc
  have hz:ZX_ c f=100:=if_pos hc
  have hre:z1_ c v m=v.length+m.length+4:=if_pos hc
  unfold xg_ JL_
  rw [he,hz,hre,if_pos rfl,if_pos rfl]
  cases h with
  | true=>
    have:=r2 rfl
    simp only [if_true,Bool.and_eq_true,decide_eq_true_eq]
    rw [Zw_ (by omega),Qa_ (by omega)];omega
  | false=>
    have:=r3 rfl
    simp only [Bool.false_eq_true,if_false,Bool.and_eq_true,decide_eq_true_eq]
    rw [Zw_ (by omega),Qa_ (by omega)];omega
 ·have he:zP_ c=false:=decide_eq_false (by omega)
  have hz:ZX_ c f=k7_ f:=if_neg (by omega)
  have hre:z1_ c v m=v.length+m.length:=if_neg (by omega)
  have hv:(v.length:Int)=k7_ f:=by
   have hfit:kS_ f v=true:=by
    cases hh:kS_ f v with
    | true=>rfl
    | false=>
      rw [he] at r8
      unfold q9_ at r8;rw [if_pos ⟨rfl,hh⟩] at r8;exact absurd r8 (by decide)
   unfold kS_ at hfit
   split at hfit
   ·rename_i hh
    have hi:fIs f=true:=Z7_.2 hh.1
    rw [hh.2];unfold k7_;rw [hi];rfl
   ·cases hfit
  unfold xg_ JL_
  rw [he,hz,hre]
  cases h with
  | true=>
    have:=r2 rfl
    simp only [Bool.false_eq_true,if_false,if_true,decide_eq_true_eq];omega
  | false=>
    have:=r3 rfl
    simp only [Bool.false_eq_true,if_false,decide_eq_true_eq];omega
theorem mid {p v r:List Int} {A S:Int} (hA:A=p.length) (hS:S=v.length):((p++(v++r)).take (A+S).toNat).drop A.toNat=v:=by
 subst hA hS
 rw [show ((p.length:Int)+v.length).toNat=p.length+v.length by omega,Int.toNat_natCast,<- List.append_assoc,<- List.length_append,List.take_left,List.drop_left]
theorem zcv_ {c f:Int} {h:Bool} {x:Int} {v m b:List Int} (hr:zG_ c f h x v m=true) (hx:0<=x):zR_ (Qe_ c f h x v m++b)=0/\zp_ (Qe_ c f h x v m++b)=c/\zt_ (Qe_ c f h x v m++b)=f/\zT_ (Qe_ c f h x v m++b)=h/\qp_ (Qe_ c f h x v m++b)=x/\Zg_ (Qe_ c f h x v m++b)=v/\Zh_ (Qe_ c f h x v m++b)=m/\Zk_ (Qe_ c f h x v m++b)=(Qe_ c f h x v m).length:=by
 obtain ⟨n1,n2,n3,n4,n5,n6,n7,n8⟩:=ql_ hr
 obtain ⟨r1,r2,r3,r4,r5,r6,r7,r8⟩:=Kz_ hr
 have hl2:=zo_ (n:=c) (w:=2) (by decide)
 have hl4:=zo_ (n:=x) (w:=4) (by decide)
 have hlen:((Qe_ c f h x v m).length:Int)=4+z1_ c v m:=by
  rw [n8];unfold Qe_;simp only [List.length_append,List.length_cons,List.length_nil];omega
 obtain ⟨L,hL⟩:∃ L,L=Qe_ c f h x v m++b:=⟨_,rfl⟩
 have hLl:(L.length:Int)=4+z1_ c v m+b.length:=by rw [hL,List.length_append];omega
 have ht:L.take 4=(Qe_ c f h x v m).take 4:=by rw [hL,List.take_append_of_le_length (by omega)]
 obtain ⟨hC,hF,hH,h3⟩:=zcp_ hr hx L ht
 obtain ⟨hS,hK⟩:=zdq_ hr hC hF hH h3
 rw [<- hL]
 have hsplit:L=(zf_ c 2++[2*f+(if h=true then 1 else 0),((J5_ c x v m).length:Int)]++(if c=65535 then zf_ x 4 else []))++(v++(m++b)):=by
  rw [hL];unfold Qe_;rw [show J5_ c x v m=(if c=65535 then zf_ x 4 else [])++v++m from rfl];simp only [List.append_assoc]
 obtain ⟨p,hp⟩:∃ p,p=zf_ c 2++[2*f+(if h=true then 1 else 0),((J5_ c x v m).length:Int)]++(if c=65535 then zf_ x 4 else []):=⟨_,rfl⟩
 rw [<- hp] at hsplit
 have hA:QE_ L=p.length:=by
  unfold QE_;rw [hC,hp]
  split
  ·simp only [List.length_append,List.length_cons,List.length_nil];omega
  ·simp only [List.length_append,List.length_cons,List.length_nil];omega
 have hX:qp_ L=x:=by
  unfold qp_;rw [hC]
  by_cases hc:c=65535
  ·rw [if_pos hc]
   have hx4:x<=4294967295:=by have:=(zu x hx).1 r7;omega
   have e:(L.drop 4).take 4=zf_ x 4:=by
    rw [hsplit,hp,if_pos hc,at2,at4];rfl
   rw [e,zdQ_ ⟨hx,hx4⟩]
  ·rw [if_neg hc]
   have he:zP_ c=false:=decide_eq_false hc
   rw [he] at r6
   exact (r6.resolve_left (by decide)).symm
 have hV:Zg_ L=v:=by
  unfold Zg_;rw [hA,hS];rw [hsplit];exact mid rfl rfl
 have hM:Zh_ L=m:=by
  unfold Zh_
  cases h with
  | true=>
    rw [hH,if_pos rfl,hA,hS,hsplit,<- List.append_assoc]
    have:=r2 rfl
    exact mid (p:=p++v) (r:=b) (by rw [List.length_append];omega) (by omega)
  | false=>
    rw [hH]
    exact (List.eq_nil_of_length_eq_zero (r3 rfl)).symm
 have hN:Zk_ L=(Qe_ c f h x v m).length:=by
  unfold Zk_;rw [hH,hS]
  have hre:z1_ c v m=(if c=65535 then 4 else 0)+v.length+m.length:=by unfold z1_;split<;>omega
  rw [hlen,hre]
  unfold QE_;rw [hC]
  cases h with
  | true=>have:=r2 rfl;simp only [if_true];split<;>omega
  | false=>have:=r3 rfl;simp only [Bool.false_eq_true,if_false];split<;>omega
 refine ⟨?_,hC,hF,hH,hX,hV,hM,hN⟩
 rw [KB_ (by omega) (by rw [hC,hF];exact r4) (fun hh=>by rw [hC,hF];exact r5 (hH.symm.trans hh)) hK (by rw [h3];omega),hC,hF,hH,hV,hM]
 exact r8
theorem gh_ {b:List Int} (hb:∀ x ∈ b,0<=x/\x<=255) (h0:zR_ b=0):zG_ (zp_ b) (zt_ b) (zT_ b) (qp_ b) (Zg_ b) (Zh_ b)=true/\Qe_ (zp_ b) (zt_ b) (zT_ b) (qp_ b) (Zg_ b) (Zh_ b)=b.take (Zk_ b).toNat/\0<=Zk_ b/\Zk_ b<=b.length:=by
 have hq:=KG_ hb 2
 have hn:=KG_ hb 3
 have hof:=V3_ (zp_ b) (zt_ b)
 unfold zR_ at h0
 by_cases h4:b.length < 4
 ·rw [if_pos h4] at h0;exact absurd h0 (by decide)
 rw [if_neg h4] at h0
 by_cases hok:q0_ (zp_ b) (zt_ b)=false
 ·rw [if_pos hok] at h0;exact absurd h0 (by decide)
 rw [if_neg hok] at h0
 by_cases hmk:zT_ b=true/\ZE_ (zp_ b) (zt_ b)=false
 ·rw [if_pos hmk] at h0;exact absurd h0 (by decide)
 rw [if_neg hmk] at h0
 by_cases hkl:qN_ b=false\/(b.length:Int) - 4 < b.getD 3 0
 ·rw [if_pos hkl] at h0;exact absurd h0 (by decide)
 rw [if_neg hkl] at h0
 have hK:qN_ b=true:=by cases hk:qN_ b with | true=>rfl | false=>exact absurd (.inl hk) hkl
 have hlen:4+b.getD 3 0<=(b.length:Int):=by
  have:¬ (b.length:Int) - 4 < b.getD 3 0:=fun h=>hkl (.inr h)
  omega
 have hok':q0_ (zp_ b) (zt_ b)=true:=by simpa using hok
 obtain ⟨d1,d2,d3⟩:=bN_ hn.1 hof.1 hK
 have hcc:zp_ b=65535\/zp_ b=32768:=by
  unfold q0_ at hok'
  split at hok'
  ·left;assumption
  ·right;simp only [Bool.and_eq_true,decide_eq_true_eq] at hok';exact hok'.2
 have hA0:0<=QE_ b:=by unfold QE_;split<;>decide
 have hVl:((Zg_ b).length:Int)=zx_ b:=zC_ hA0 d1 (by unfold Zk_ at d2;split at d2<;>omega)
 have hMl:((Zh_ b).length:Int)=if zT_ b=true then zx_ b else 0:=by
  unfold Zh_
  by_cases hh:zT_ b=true
  ·rw [if_pos hh,if_pos hh]
   exact zC_ (by omega) d1 (by unfold Zk_ at d2;rw [if_pos hh] at d2;omega)
  ·rw [if_neg hh,if_neg hh];rfl
 have hX:0<=qp_ b/\qp_ b < 4294967296:=by
  unfold qp_
  split
  ·have:=xb_ ((b.drop 4).take 4) fun y hy=>hb y (List.mem_of_mem_drop (List.mem_of_mem_take hy))
   have h2:∀ k ≤ 4,(256:Int) ^ k<=4294967296:=by decide
   have:=h2 ((b.drop 4).take 4).length (by rw [List.length_take];omega)
   omega
  ·decide
 have hR:zG_ (zp_ b) (zt_ b) (zT_ b) (qp_ b) (Zg_ b) (Zh_ b)=true:=by
  unfold zG_
  rw [hok',(zu _ hX.1).2 hX.2,h0,decide_eq_true (show ((Zg_ b).length:Int)<=ZX_ (zp_ b) (zt_ b) by omega)]
  have hx0:(zP_ (zp_ b) || decide (qp_ b=0))=true:=by
   rcases hcc with hc | hc
   ·rw [show zP_ (zp_ b)=true from decide_eq_true hc];rfl
   ·rw [show qp_ b=0 from if_neg (by omega)];simp
  rw [hx0]
  cases hh:zT_ b with
  | true=>
    have hm1:ZE_ (zp_ b) (zt_ b)=true:=by
     cases hq:ZE_ (zp_ b) (zt_ b) with
     | true=>rfl
     | false=>exact absurd ⟨hh,hq⟩ hmk
    rw [hh,if_pos rfl] at hMl
    rw [hm1,decide_eq_true (show ((Zh_ b).length:Int)=(Zg_ b).length by omega)];rfl
  | false=>
    rw [hh] at hMl
    simp only [Bool.false_eq_true,if_false] at hMl
    rw [decide_eq_true (show (Zh_ b).length=0 by omega)];rfl
 refine ⟨hR,?_,by omega,by omega⟩
 obtain ⟨a0,a1,a2,a3,r,hbd⟩:=zcZ_ (l:=b) (by omega)
 have q0:=hb a0 (by rw [hbd];simp)
 have q1:=hb a1 (by rw [hbd];simp)
 have q2:=hb a2 (by rw [hbd];simp)
 have q3:=hb a3 (by rw [hbd];simp)
 obtain ⟨n1,n2,n3,n4,n5,n6,n7,n8⟩:=ql_ hR
 have g2:b.getD 2 0=a2:=by rw [hbd];rfl
 have g3:b.getD 3 0=a3:=by rw [hbd];rfl
 have c2:zf_ (zp_ b) 2=[a0,a1]:=by unfold zp_;rw [hbd];exact zd7_ q0 q1
 have hf:2*zt_ b+(if zT_ b=true then 1 else 0)=a2:=by
  unfold zt_ zT_;rw [g2,Zw_ q2.1,Qa_ q2.1]
  by_cases h1:a2 % 2=1
  ·rw [decide_eq_true h1,if_pos rfl];omega
  ·rw [decide_eq_false h1];simp only [Bool.false_eq_true,if_false];omega
 have hrl:z1_ (zp_ b) (Zg_ b) (Zh_ b)=a3:=by
  unfold z1_
  rw [hVl,hMl,<- g3]
  unfold Zk_ QE_ at d2
  by_cases hh:zT_ b=true
  ·rw [if_pos hh] at d2 ⊢
   by_cases hc:zp_ b=65535
   ·rw [if_pos hc] at d2 ⊢;omega
   ·rw [if_neg hc] at d2 ⊢;omega
  ·rw [if_neg hh] at d2 ⊢
   by_cases hc:zp_ b=65535
   ·rw [if_pos hc] at d2 ⊢;omega
   ·rw [if_neg hc] at d2 ⊢;omega
 have hbody:J5_ (zp_ b) (qp_ b) (Zg_ b) (Zh_ b)=r.take a3.toNat:=by
  have hdr:b.drop 4=r:=by rw [hbd];rfl
  have hXb:(if zp_ b=65535 then zf_ (qp_ b) 4 else [])=(b.take (QE_ b).toNat).drop 4:=by
   by_cases hc:zp_ b=65535
   ·have hA8:QE_ b=8:=if_pos hc
    have hl8:8<=b.length:=by unfold Zk_ at d2;rw [hA8] at d2;split at d2<;>omega
    rw [if_pos hc,hA8]
    have hXe:qp_ b=z9_ ((b.drop 4).take 4):=if_pos hc
    rw [hXe,hdr]
    have hrl8:4<=r.length:=by rw [hbd] at hl8;simp only [List.length_cons] at hl8;omega
    obtain ⟨x0,x1,x2,x3,s,hrd⟩:=zcZ_ hrl8
    have hmr:∀ y ∈ r,0<=y/\y<=255:=fun y hy=>hb y (by rw [hbd];simp [hy])
    have y0:=hmr x0 (by rw [hrd];simp)
    have y1:=hmr x1 (by rw [hrd];simp)
    have y2:=hmr x2 (by rw [hrd];simp)
    have y3:=hmr x3 (by rw [hrd];simp)
    rw [hrd,show (x0 :: x1 :: x2 :: x3 :: s).take 4=[x0,x1,x2,x3] from rfl,zd6_ y0 y1 y2 y3,hbd,hrd];rfl
   ·have hA4:QE_ b=4:=if_neg hc
    rw [if_neg hc,hA4,hbd];rfl
  unfold J5_
  rw [hXb]
  have hAn:4<=(QE_ b).toNat:=by unfold QE_;split<;>decide
  have j1:∀ (i j k:Nat),i<=j->j<=k->(b.take j).drop i++(b.take k).drop j=(b.take k).drop i:=fun i j k h1 h2=>by
   rw [show (b.take k).drop i=((b.take k).drop i).take (j - i)++((b.take k).drop i).drop (j - i) from (List.take_append_drop ..).symm,List.drop_drop,show i+(j - i)=j by omega,List.take_drop,show i+(j - i)=j by omega,List.take_take,Nat.min_eq_left h2]
  have hfin:∀ k:Nat,(k:Int)=Zk_ b->(b.take k).drop 4=r.take a3.toNat:=fun k hk=>by
   rw [hbd,show k=a3.toNat+4 by omega];rfl
  unfold Zg_ Zh_
  by_cases hh:zT_ b=true
  ·rw [if_pos hh,j1 _ _ _ hAn (by omega),j1 _ _ _ (by omega) (by omega)]
   refine hfin _ ?_
   unfold Zk_;rw [if_pos hh];omega
  ·rw [if_neg hh,List.append_nil,j1 _ _ _ hAn (by omega)]
   refine hfin _ ?_
   unfold Zk_;rw [if_neg hh];omega
 unfold Qe_
 rw [c2,hf,<- n8,hrl,hbody,d2,g3]
 rw [hbd,show (4+a3).toNat=a3.toNat+4 by omega];rfl
def UW_:IR:=
(sq (kr [0] [oD 2 (.mov cF)])
(sq (sq (.reg [oD 3 (.mov (cI 0))])
(.block 0
(.loop
(sq (sq (kr [0,3] [oM 4 3,
oM 5 0,
oE 6 5,
oB 7 .lss 4 6])
(.cond 7
.skip
(.exit 0)))
(sq (.block 1
(sq (kr [0,3] [oM 10 0,
oM 11 3,
oI 12 1 10 11,
oL 13 12,
oB 14 .eql 13 (cI 0),
oM 15 14,
oF 15 16 (.mov 0),
oF 15 17 (.mov 3),
oF 15 18 (.indexSl 1 16 17),
oF 15 19 (.load none 18),
oF 15 20 (.bin .gtr 19 (cI 8)),
oP 21 15 cT 20,
oM 22 21,
oF 22 23 (.mov 0),
oF 22 24 (.mov 3),
oF 22 25 (.indexSl 1 23 24),
oF 22 26 (.load none 25),
oF 22 27 (.bin .lss 26 (cI (-64))),
oP 28 22 cT 27])
(.cond 28
(sq (kr [] [oD 2 (.mov cF)])
.ret)
.skip)))
(kr [0,3] [oM 8 3,
oB 9 .add 8 (cI 1),
oM 3 9]))))))
(sq (kr [0] [oM 29 0,
oE 30 29,
oB 31 .leq 30 (cI 64),
oM 2 31])
.ret)))
def u8_:List RD:=[.tmp 2 true none]
theorem Ux_:zn_ Tryz.prog Tryz.f106 UW_ u8_=true:=by kernel_rfl
def Kc_:List AV->List Obj->Option (Prop × AV)
 | [.imm (.int .i64) w],[]=>some ((True,.bool (z3_ w)))
 | _,_=>none
theorem wU_:ze_ Tryz.prog 106 (RoF Kc_).sum:=by
 refine zm_ Tryz.func106 Ux_ (zd_ _) fun args objs p v e=>?_
 unfold Kc_ at e
 split at e
 ·rename_i w
  cases e
  refine ⟨rfl,fun hw ho hp=>?_⟩
  change List Int at w
  have hl:w.length<=maxLen:=(hw (.imm (.int .i64) w) (by simp)).2
  unfold maxLen at hl
  repeat'(intro t ht;first|(cases t<;>first|(cases ht;done)|(try simp only[zh_]at ht))|((first|refine za_ ht ?_|refine ht ?_ ?_|refine ht.1 ?_ ?_|refine ht ?_)<;>clear ht))
  all_goals (intro r h1 h2;clear h1;refine h2 ⟨[0,3],Nat,(fun i=>i<=w.length/\w.all okW=(w.drop i).all okW),fun i=>[.imm (.int .i64) w,.int .i64 i],fun _=>[],fun i=>w.length - i,⟨0,⟨Nat.zero_le _,rfl⟩,rfl,rfl⟩,?_⟩;clear h2)
  rintro i ⟨hi,he⟩
  repeat'(intro t ht;first|(cases t<;>first|(cases ht;done)|(try simp only[zh_]at ht))|((first|refine za_ ht ?_|refine ht ?_ ?_|refine ht.1 ?_ ?_|refine ht ?_)<;>clear ht))
  all_goals first
   | ((try simp only [zk_,zl_,zi_] at*);omega)
   | (have hge:w.length<=i:=by omega
      rw [List.drop_of_length_le hge] at he
      refine ⟨?_,rfl⟩;unfold z3_;rw [he,List.all_nil,Bool.and_true]
      congr 2;exact propext (by omega))
   | (have hlt:i < w.length:=by omega
      rw [zD_ hlt 0,List.all_cons] at he
      first
       | (have hk:okW (w.getD i 0)=false:=zcS_.2 (by omega)
          refine ⟨?_,rfl⟩;unfold z3_;rw [he,hk];simp;done)
       | (have hk:okW (w.getD i 0)=true:=by_.2 (by omega)
          rw [hk,Bool.true_and] at he
          exact ⟨i+1,⟨hlt,he⟩,by (try simp only [zk_,zl_,zi_] at*);omega,rfl,rfl⟩))
 ·cases e
def GV_:IR:=
(sq (kr [0] [oD 2 (.mov (cI 0))])
(sq (.reg [oD 3 (.mov (cI 0))])
(sq (sq (.reg [oD 4 (.mov (cI 0))])
(.block 0
(.loop
(sq (sq (kr [0,3,4] [oM 5 4,
oM 6 0,
oE 7 6,
oB 8 .lss 5 7,
oM 9 8,
oT 9 10 (.mov 0),
oT 9 11 (.call false (.f 106) [10]),
oP 12 9 11 cF])
(.cond 12
.skip
(.exit 0)))
(sq (.block 1
(sq (kr [0,3,4] [oM 15 0,
oM 16 4,
oI 17 1 15 16,
oL 18 17,
oB 19 .gtr 18 (cI 0)])
(.cond 19
(kr [0,3,4] [oM 20 3,
oM 21 0,
oM 22 4,
oI 23 1 21 22,
oL 24 23,
oB 25 .add 20 24,
oM 3 25])
(kr [0,3,4] [oM 26 3,
oM 27 0,
oM 28 4,
oI 29 1 27 28,
oL 30 29,
oB 31 .sub 26 30,
oM 3 31]))))
(kr [0,3,4] [oM 13 4,
oB 14 .add 13 (cI 1),
oM 4 14]))))))
(sq (kr [3] [oM 32 3,
oM 2 32])
.ret))))
def g2_:List RD:=[.tmp 2 true none]
theorem Go_:zn_ Tryz.prog Tryz.f66 GV_ g2_=true:=by kernel_rfl
def WB_:List AV->List Obj->Option (Prop × AV)
 | [.imm (.int .i64) w],[]=>some ((True,.int .i64 (zF_ w)))
 | _,_=>none
theorem uP_:ze_ Tryz.prog 66 (RoF WB_).sum:=by
 refine zm_ Tryz.func66 Go_ (zb_ (s:=RoF Kc_) wU_ (zd_ _)) fun args objs p v e=>?_
 unfold WB_ at e
 split at e
 ·rename_i w
  cases e
  refine ⟨rfl,fun hw ho hp=>?_⟩
  change List Int at w
  repeat'(intro t ht;first|(cases t<;>first|(cases ht;done)|(try simp only[zh_]at ht))|((first|refine za_ ht ?_|refine ht ?_ ?_|refine ht.1 ?_ ?_|refine ht ?_)<;>clear ht))
  all_goals first
   | (intro r h1 h2;clear h1;refine h2 ⟨[0,3,4],Nat,(fun i=>i<=w.length/\(z3_ w=false->i=0)),fun i=>[.imm (.int .i64) w,.int .i64 (Kf_ zr_ w i),.int .i64 i],fun _=>[],fun i=>w.length - i,⟨0,⟨Nat.zero_le _,fun _=>rfl⟩,rfl,rfl⟩,?_⟩;clear h2)
  rintro i ⟨hi,hz⟩
  repeat'(intro t ht;first|(cases t<;>first|(cases ht;done)|(try simp only[zh_]at ht))|((first|refine za_ ht ?_|refine ht ?_ ?_|refine ht.1 ?_ ?_|refine ht ?_)<;>clear ht))
  all_goals first
   | exact True.intro
   | ((try simp only [zk_,zl_,zi_] at*);omega)
   | (have hge:w.length<=i:=by omega
      refine ⟨?_,rfl⟩;unfold zF_;rw [kJ_ zr_ hge]
      cases hr:z3_ w with
      | true=>rfl
      | false=>have h0:=hz hr;have:w=[]:=List.length_eq_zero_iff.1 (by omega);subst this;rfl)
   | (have hr:z3_ w=false:=by assumption
      have h0:=hz hr;subst h0
      refine ⟨?_,rfl⟩;unfold zF_;rw [hr];rfl)
   | (have hr:z3_ w=true:=by assumption
      have hl:=(Zl_.1 hr).1
      have hlt:i < w.length:=by omega
      have hs:=WN_ hr i
      have hk:=(Zl_.1 hr).2 _ (Zq_ hlt 0)
      have ha:=jj_ (n:=w.getD i 0)
      first
       | ((try simp only [zk_,zl_,zi_] at*);omega)
       | (refine ⟨i+1,⟨hlt,fun h=>by rw [hr] at h;cases h⟩,by (try simp only [zk_,zl_,zi_] at*);omega,?_,rfl⟩
          dsimp only
          rw [qy_ zr_ hlt]
          first
           | (rw [Kb_ (by omega)];done)
           | (rw [Kb_ (by omega)];rfl)
           | (rw [Qj_ (by omega)];rfl)
           | (rw [Qj_ (by omega),<- Int.sub_eq_add_neg])))
 ·cases e
theorem hv_ (w:Int):List.replicate w.toNat 0=zf_ 0 w:=by
 have:∀ j:Nat,jh_ 0 w j=0:=fun j=>by unfold jh_;rw [Int.zero_fdiv];rfl
 unfold zf_ ke_
 simp only [this,List.map_const',List.length_range]
theorem B5_ {α:Type} (b:List α) (p:Nat) {n:Int} (h:0<=n):(b.take ((p:Int)+n).toNat).drop p=(b.drop p).take n.toNat:=by
 have e:((p:Int)+n).toNat=p+n.toNat:=by omega
 rw [e,List.drop_take];congr 1;omega
theorem hL_ {b:List Int} {p k:Nat} (h:k < b.length) (hz:zU_ ((b.drop p).take (k - p))=true) (hp:p<=k) (e:b.getD k 0=0):zU_ ((b.drop p).take (k+1 - p))=true:=by
 have hk:k - p < (b.drop p).length:=by rw [List.length_drop];omega
 rw [show k+1 - p=(k - p)+1 by omega,List.take_succ_eq_append_getElem hk]
 unfold zU_ at hz ⊢
 rw [List.all_append,hz,Bool.true_and,List.getElem_drop]
 have:b[p+(k - p)]'(by omega)=b.getD k 0:=by
  rw [List.getD_eq_getElem?_getD,List.getElem?_eq_getElem h,Option.getD_some];congr 1;omega
 rw [List.all_cons,List.all_nil,this,e];rfl
theorem bZ_ {b:List Int} {p k n:Nat} (h:k < b.length) (hp:p<=k) (hk:k < p+n) (e:¬ b.getD k 0=0):zU_ ((b.drop p).take n)=false:=by
 unfold zU_
 rw [List.all_eq_false]
 refine ⟨b.getD k 0,?_,by simpa using e⟩
 rw [List.mem_take_iff_getElem]
 refine ⟨k - p,by rw [List.length_drop];omega,?_⟩
 rw [List.getElem_drop,List.getD_eq_getElem?_getD,List.getElem?_eq_getElem h,Option.getD_some]
 congr 1;omega
def HR_:IR:=
(sq (kr [0,1] [oD 4 (.nilrow (.int .u64)),
oD 5 (.mov (cI 0))])
(sq (sq (.reg [oM 11 0,
oC 12 106 [11],
oD 13 (.un .not 12)])
(.cond 13
(sq (.reg [oD 4 (.nilrow (.int .u64)),
oD 5 (.mov (cI 2))])
.ret)
.skip))
(sq (kr [0,1] [oD 6 (.nilrow (.int .u64))])
(sq (.reg [oD 7 (.mov (cI 0))])
(sq (sq (.reg [oD 8 (.mov (cI 0))])
(.block 0
(.loop
(sq (sq (kr [0,1,6,7,8] [oM 14 8,
oM 15 0,
oE 16 15,
oB 17 .lss 14 16])
(.cond 17
.skip
(.exit 0)))
(sq (.block 1
(sq (kr [0,1,6,7,8] [oM 20 0,
oM 21 8,
oI 22 1 20 21,
oL 23 22,
oM 9 23])
(sq (sq (.reg [oM 24 9,
oB 25 .lss 24 (cI 0)])
(.cond 25
(kr [0,1,6,7,8,9] [oM 26 9,
oD 27 (.un .neg 26),
oM 9 27])
.skip))
(sq (sq (kr [0,1,6,7,8,9] [oM 28 1,
oE 29 28,
oM 30 7,
oB 31 .sub 29 30,
oM 32 9,
oB 33 .lss 31 32])
(.cond 33
(sq (kr [] [oD 4 (.nilrow (.int .u64)),
oD 5 (.mov (cI 1))])
.ret)
.skip))
(sq (sq (kr [0,1,6,7,8,9] [oM 34 0,
oM 35 8,
oI 36 1 34 35,
oL 37 36,
oB 38 .gtr 37 (cI 0)])
(.cond 38
(kr [0,1,6,7,8,9] [oM 39 6,
oM 40 1,
oM 41 7,
oM 42 7,
oM 43 9,
oB 44 .add 42 43,
oD 45 (.slice 1 40 (some 41) (some 44) none),
oC 46 103 [45],
oD 47 (.sliceAll (.int .u64) 1 [(0,1,46)]),
oD 48 (.append (.int .u64) 8 39 47),
oM 6 48])
.skip))
(sq (sq (kr [0,1,6,7,8,9] [oM 49 7,
oM 10 49])
(.block 2
(.loop
(sq (sq (kr [0,1,6,7,8,9,10] [oM 50 10,
oM 51 7,
oM 52 9,
oB 53 .add 51 52,
oB 54 .lss 50 53,
oM 55 54,
oT 55 56 (.mov 0),
oT 55 57 (.mov 8),
oT 55 58 (.indexSl 1 56 57),
oT 55 59 (.load none 58),
oT 55 60 (.bin .lss 59 (cI 0)),
oP 61 55 60 cF])
(.cond 61
.skip
(.exit 2)))
(sq (.block 3
(sq (kr [0,1,6,7,8,9,10] [oM 64 1,
oM 65 10,
oI 66 1 64 65,
oL 67 66,
oB 68 .neq 67 (.c (.int .u8 0))])
(.cond 68
(sq (.reg [oD 4 (.nilrow (.int .u64)),
oD 5 (.mov (cI 2))])
.ret)
.skip)))
(kr [0,1,6,7,8,9,10] [oM 62 10,
oB 63 .add 62 (cI 1),
oM 10 63]))))))
(kr [0,1,6,7,8,9] [oM 69 7,
oM 70 9,
oB 71 .add 69 70,
oM 7 71])))))))
(kr [0,1,6,7,8] [oM 18 8,
oB 19 .add 18 (cI 1),
oM 8 19]))))))
(sq (kr [6] [oM 72 6,
oM 4 72,
oD 5 (.mov (cI 0))])
.ret))))))
def He_:List RD:=[.tmp 4 true (some (.int .u64)),.tmp 5 true none]
theorem Hu_:zn_ Tryz.prog Tryz.f67 HR_ He_=true:=by kernel_rfl
def Xv_:List AV->List Obj->Option (Prop × AV)
 | [.imm (.int .i64) w,.imm (.int .u8) b],[]=>some ((True,.tup [.imm (.int .u64) (ZN_ w b),.int .i64 (ZG_ w b)]))
 | _,_=>none
theorem gO_:ze_ Tryz.prog 67 (RoF Xv_).sum:=by
 refine zm_ Tryz.func67 Hu_ (zb_ (s:=RoF Kc_) wU_ (zb_ (s:=RoF Q5_) Kh_ (zd_ _))) fun args objs p v e=>?_
 unfold Xv_ at e
 split at e
 ·rename_i w b
  cases e
  refine ⟨rfl,fun hw ho hp=>?_⟩
  change List Int at w
  change List Int at b
  have hb:b.length<=maxLen:=(hw (.imm (.int .u8) b) (by simp)).2
  unfold maxLen at hb
  repeat'(intro t ht;first|(cases t<;>first|(cases ht;done)|(try simp only[zh_]at ht))|((first|refine za_ ht ?_|refine ht ?_ ?_|refine ht.1 ?_ ?_|refine ht ?_)<;>clear ht))
  all_goals first
   | exact True.intro
   | (intro r h1 h2;clear h1;refine h2 ⟨[0,1,6,7,8],Nat × Nat × List Int,(fun a=>a.1<=w.length/\a.2.1<=b.length/\a.2.2.length<=a.1/\ZU_ w b []=ZU_ (w.drop a.1) (b.drop a.2.1) a.2.2),fun a=>[.imm (.int .i64) w,.imm (.int .u8) b,.own 0,.int .i64 a.2.1,.int .i64 a.1],fun a=>[.row false (.int .u64) a.2.2],fun a=>w.length - a.1,⟨(0,0,[]),⟨Nat.zero_le _,Nat.zero_le _,Nat.zero_le _,rfl⟩,rfl,rfl⟩,?_⟩;clear h2)
   | (have hr:z3_ w=false:=by assumption
      have hf:Z1_ w b=([],2):=by unfold Z1_;rw [hr];rfl
      refine ⟨?_,rfl⟩;unfold ZN_ ZG_;rw [hf])
  rintro ⟨i,p,o⟩ ⟨hi,hp,ho,he⟩
  dsimp only at hi hp ho he
  have hr:z3_ w=true:=by assumption
  have hl:=(Zl_.1 hr).1
  have hdl:(b.drop p).length=b.length - p:=List.length_drop
  repeat'(intro t ht;first|(cases t<;>first|(cases ht;done)|(try simp only[zh_]at ht;try(exfalso;first|contradiction|omega)))|((first|refine za_ ht ?_|refine ht ?_ ?_|refine ht.1 ?_ ?_|refine ht ?_)<;>clear ht))
  all_goals first
   | ((try simp only [zk_,zl_,zi_] at*);omega)
   | (have hge:w.length<=i:=by omega
      rw [List.drop_of_length_le hge] at he
      have hf:Z1_ w b=(o,0):=by unfold Z1_;rw [if_pos hr,he];rfl
      refine ⟨?_,rfl⟩;unfold ZN_ ZG_;rw [hf];done)
   | skip
  all_goals have hlt:i < w.length:=by omega
  all_goals have hkk:=(Zl_.1 hr).2 _ (Zq_ (α:=Int) hlt 0)
  all_goals have ha:=jj_ (n:=w.getD i 0)
  all_goals dsimp only
  all_goals first
   | exact True.intro
   | ((try simp only [zk_,zl_,zi_] at*);omega)
   | (simp only [List.length_drop,List.length_take];(try simp only [zk_,zl_,zi_] at*);omega)
   | (simp only [zA_,List.length_append,List.length_cons,List.length_nil];omega)
   | (have h1:((b.drop p).length:Int) < zr_ (w.getD i 0):=by rw [hdl];omega
      have hf:Z1_ w b=([],1):=by unfold Z1_;rw [if_pos hr,he];exact YV_ hlt h1
      refine ⟨?_,rfl⟩;unfold ZN_ ZG_;rw [hf];done)
   | (have h2:0 < w.getD i 0:=by assumption
      (intro r h1 h2;refine h1 ⟨1,?_⟩;clear h1 h2))
   | (have h2:w.getD i 0 < 0:=by assumption
      (intro r h1 h2;clear h1;refine h2 ⟨[0,1,6,7,8,9,10],Nat,(fun k=>p<=k/\(k:Int)<=p - w.getD i 0/\zU_ ((b.drop p).take (k - p))=true),fun k=>[.imm (.int .i64) w,.imm (.int .u8) b,.own 0,.int .i64 p,.int .i64 i,.int .i64 (0 - w.getD i 0),.int .i64 k],fun _=>[.row false (.int .u64) o],fun k=>b.length - k,⟨p,⟨Nat.le_refl _,by omega,by rw [Nat.sub_self];rfl⟩,rfl,rfl⟩,?_⟩;clear h2);rintro k ⟨hk1,hk2,hk3⟩)
  all_goals repeat'(intro t ht;first|(cases t<;>first|(cases ht;done)|(try simp only[zh_]at ht;try(exfalso;first|contradiction|omega)))|((first|refine za_ ht ?_|refine ht ?_ ?_|refine ht.1 ?_ ?_|refine ht ?_)<;>clear ht))
  all_goals (try dsimp only)
  all_goals first
   | exact True.intro
   | ((try simp only [zk_,zl_,zi_] at*);omega)
   | (have h2:0 < w.getD i 0:=by assumption
      have h1:¬ ((b.drop p).length:Int) < zr_ (w.getD i 0):=by rw [hdl];omega
      have hab:zr_ (w.getD i 0)=w.getD i 0:=Kb_ (by omega)
      have hsl:=B5_ b p (n:=w.getD i 0) (by omega)
      refine ⟨(i+1,p+(zr_ (w.getD i 0)).toNat,o++[z9_ ((b.drop p).take (zr_ (w.getD i 0)).toNat)]),⟨hlt,?_,?_,?_⟩,?_,?_,?_⟩
      ·dsimp only;omega
      ·simp only [List.length_append,List.length_cons,List.length_nil];omega
      ·dsimp only;rw [he,hd_ hlt h1 h2,List.drop_drop]
      ·dsimp only;omega
      ·have:((p+(zr_ (w.getD i 0)).toNat:Nat):Int)=p+w.getD i 0:=by rw [hab];omega
       simp only [this];rfl
      ·simp only [hab,<- hsl];rfl)
   | (have hz:b.getD k 0=0:=by assumption
      exact ⟨k+1,⟨by omega,by omega,hL_ (by omega) hk3 hk1 hz⟩,by omega,rfl,rfl⟩)
   | (have hz:¬ b.getD k 0=0:=by assumption
      have h2:¬ 0 < w.getD i 0:=by assumption
      have hab:zr_ (w.getD i 0)=-w.getD i 0:=Qj_ (by omega)
      have h1:¬ ((b.drop p).length:Int) < zr_ (w.getD i 0):=by rw [hdl];omega
      have h3:zU_ ((b.drop p).take (zr_ (w.getD i 0)).toNat)=false:=bZ_ (by omega) hk1 (by omega) hz
      have hf:Z1_ w b=([],2):=by unfold Z1_;rw [if_pos hr,he];exact hc_ hlt h1 h2 h3
      refine ⟨?_,rfl⟩;unfold ZN_ ZG_;rw [hf];done)
   | (have h2:¬ 0 < w.getD i 0:=by assumption
      have hab:zr_ (w.getD i 0)=-w.getD i 0:=Qj_ (by omega)
      have h1:¬ ((b.drop p).length:Int) < zr_ (w.getD i 0):=by rw [hdl];omega
      have hke:k - p=(zr_ (w.getD i 0)).toNat:=by omega
      rw [hke] at hk3
      refine ⟨(i+1,p+(zr_ (w.getD i 0)).toNat,o),⟨hlt,?_,?_,?_⟩,?_,?_,rfl⟩
      ·dsimp only;omega
      ·dsimp only;omega
      ·dsimp only;rw [he,ua_ hlt h1 h2 hk3,List.drop_drop]
      ·dsimp only;omega
      ·have:((p+(zr_ (w.getD i 0)).toNat:Nat):Int)=p+(0 - w.getD i 0):=by rw [hab];omega
       simp only [this];rfl)
 ·cases e
theorem hx_ {n:Int} {k j:Nat} (h:j < k) (hk:k<=7):jh_ n ((k+1:Nat):Int) j=jh_ (n / 256) k j:=by
 unfold jh_
 have e:min (8*(((k+1:Nat):Int) - 1 - j)).toNat 64=8+8*(k - 1 - j):=by omega
 have e':min (8*((k:Int) - 1 - j)).toNat 64=8*(k - 1 - j):=by omega
 have hp:∀ m:Nat,(0:Int)<=2 ^ m:=fun m=>Int.le_of_lt (Int.pow_pos (by decide))
 rw [e,e',Int.fdiv_eq_ediv_of_nonneg _ (hp _),Int.fdiv_eq_ediv_of_nonneg _ (hp _),Int.pow_add,<- Int.ediv_ediv_of_nonneg (hp 8)]
 rfl
theorem XX_ {n:Int} {k:Nat} (hk:k<=7):zf_ n ((k+1:Nat):Int)=zf_ (n / 256) k++[n % 256]:=by
 unfold zf_ ke_
 rw [Int.toNat_natCast,Int.toNat_natCast,List.range_succ,List.map_append]
 congr 1
 ·apply List.map_congr_left
  intro j hj
  exact hx_ (List.mem_range.1 hj) hk
 ·show [jh_ n ((k+1:Nat):Int) k]=_
  unfold jh_
  have e:min (8*(((k+1:Nat):Int) - 1 - k)).toNat 64=0:=by omega
  rw [e,Int.pow_zero,Int.fdiv_one]
theorem XM_:∀ (k:Nat) (n:Int),k<=8->0<=n->n < 256 ^ k->z9_ (zf_ n k)=n
 | 0,n,_,h0,h1=>by
   have:n=0:=by rw [Int.pow_zero] at h1;omega
   subst this;rfl
 | k+1,n,hk,h0,h1=>by
   rw [XX_ (by omega),xU_,XM_ k (n / 256) (by omega) (by omega) (by rw [Int.pow_succ] at h1;exact Int.ediv_lt_of_lt_mul (by decide) h1)]
   omega
theorem Ka_:∀ (k:Nat) (b:List Int),k<=8->b.length=k->(∀ x ∈ b,0<=x/\x<=255)->zf_ (z9_ b) k=b
 | 0,b,_,hl,_=>by
   have:b=[]:=List.eq_nil_of_length_eq_zero hl
   subst this;rfl
 | k+1,b,hk,hl,hb=>by
   rcases List.eq_nil_or_concat b with rfl | ⟨l,c,rfl⟩
   ·cases hl
   ·rw [List.concat_eq_append] at hl hb ⊢
    have hc:=hb c (by simp)
    have hl':l.length=k:=by simpa using hl
    rw [xU_,XX_ (by omega)]
    rw [show (z9_ l*256+c) / 256=z9_ l by omega,show (z9_ l*256+c) % 256=c by omega,Ka_ k l (by omega) hl' fun x hx=>hb x (by simp [hx])]
theorem hw_ (w:Int):zf_ 0 w=List.replicate w.toNat 0:=(hv_ w).symm
theorem VI_ (k:Nat):zU_ (List.replicate k 0)=true:=by
 unfold zU_;rw [List.all_eq_true];intro x hx;rw [List.eq_of_mem_replicate hx];rfl
theorem gw_ {b:List Int} (h:zU_ b=true):b=List.replicate b.length 0:=by
 unfold zU_ at h
 rw [List.all_eq_true] at h
 exact List.eq_replicate_iff.2 ⟨rfl,fun x hx=>by simpa using h x hx⟩
theorem qU_:∀ (w xs b:List Int),qL_ w xs b=(qL_ w xs []).map (b++·)
 | [],xs,b=>by simp [qL_]
 | n :: r,xs,b=>by
   simp only [qL_]
   split
   ·rw [qU_ r xs (b++zf_ 0 (0 - n)),qU_ r xs ([]++zf_ 0 (0 - n)),Option.map_map]
    congr 1;funext z;simp
   ·cases xs with
    | nil=>rfl
    | cons x ys=>
      dsimp only
      split
      ·rfl
      ·rw [qU_ r ys (b++zf_ x n),qU_ r ys ([]++zf_ x n),Option.map_map]
       congr 1;funext z;simp
theorem JV_:∀ (w b o:List Int),(ZU_ w b o).2=(ZU_ w b []).2/\((ZU_ w b []).2=0->(ZU_ w b o).1=o++(ZU_ w b []).1)
 | [],b,o=>by simp [ZU_]
 | n :: r,b,o=>by
   simp only [ZU_]
   split
   ·exact ⟨rfl,fun h=>by cases h⟩
   ·split
    ·have h1:=JV_ r (b.drop (zr_ n).toNat) (o++[z9_ (b.take (zr_ n).toNat)])
     have h2:=JV_ r (b.drop (zr_ n).toNat) ([]++[z9_ (b.take (zr_ n).toNat)])
     refine ⟨h1.1.trans h2.1.symm,fun h=>?_⟩
     have h0:=h2.1.symm.trans h
     rw [h1.2 h0,h2.2 h0];simp
    ·split
     ·exact JV_ r (b.drop (zr_ n).toNat) o
     ·exact ⟨rfl,fun h=>by cases h⟩
theorem zdv_ {x n:Int} (h0:0<=x) (h1:x<=18446744073709551615) (hn:0 < n) (h8:n<=8) (hf:¬ (n < 8/\x.fdiv (2 ^ (min (8*n).toNat 64)) ≠ 0)):x < 256 ^ n.toNat:=by
 by_cases hlt:n < 8
 ·have hz:x.fdiv (2 ^ (min (8*n).toNat 64))=0:=Classical.byContradiction fun h=>hf ⟨hlt,h⟩
  have e:min (8*n).toNat 64=8*n.toNat:=by omega
  have hp:(0:Int) < 2 ^ (8*n.toNat):=Int.pow_pos (by decide)
  rw [e,Int.fdiv_eq_ediv_of_nonneg _ (Int.le_of_lt hp)] at hz
  have h2:=Int.lt_ediv_add_one_mul_self x hp
  rw [hz] at h2
  have e2:(2:Int) ^ (8*n.toNat)=256 ^ n.toNat:=by rw [Int.pow_mul];rfl
  rw [<- e2];omega
 ·have:n=8:=by omega
  subst this
  show x < 256 ^ 8
  omega
theorem zdp_ {x n:Int} (h0:0<=x) (hn:0 < n) (h8:n<=8) (hx:x < 256 ^ n.toNat):¬ (n < 8/\x.fdiv (2 ^ (min (8*n).toNat 64)) ≠ 0):=by
 rintro ⟨hlt,hz⟩
 apply hz
 have e:min (8*n).toNat 64=8*n.toNat:=by omega
 have hp:(0:Int) < 2 ^ (8*n.toNat):=Int.pow_pos (by decide)
 have e2:(2:Int) ^ (8*n.toNat)=256 ^ n.toNat:=by rw [Int.pow_mul];rfl
 rw [e,Int.fdiv_eq_ediv_of_nonneg _ (Int.le_of_lt hp),e2]
 exact Int.ediv_eq_zero_of_lt h0 hx
def okR (w:List Int):Prop:=∀ n ∈ w,n ≠ 0/\n<=8/\-64<=n
theorem Uk_:∀ (w xs r rest:List Int),okR w->(∀ x ∈ xs,0<=x/\x<=18446744073709551615)->(w.map qo_).sum=xs.length->qL_ w xs []=some r->ZU_ w (r++rest) []=(xs,0)
 | [],xs,r,rest,_,_,hc,h=>by
   simp at hc
   have:xs=[]:=List.eq_nil_of_length_eq_zero (by omega)
   subst this;rfl
 | n :: w,xs,r,rest,hw,hx,hc,h=>by
   have hn:=hw n (by simp)
   have hw':okR w:=fun m hm=>hw m (by simp [hm])
   simp only [qL_] at h
   rw [List.map_cons,List.sum_cons] at hc
   by_cases hneg:n < 0
   ·rw [if_pos hneg,List.nil_append,qU_] at h
    have h1:qo_ n=0:=if_neg (by omega)
    obtain ⟨r',hr',rfl⟩:=Option.map_eq_some_iff.1 h
    have ih:=Uk_ w xs r' rest hw' hx (by omega) hr'
    have hl:=zo_ (n:=0) (w:=0 - n) (by omega)
    have ha:=Qj_ hneg
    have hln:(zf_ 0 (0 - n)).length=(zr_ n).toNat:=by omega
    simp only [ZU_]
    rw [List.append_assoc,if_neg (by rw [List.length_append];omega),if_neg (by omega),<- hln,List.take_left,List.drop_left,hw_,VI_,if_pos rfl,ih]
   ·rw [if_neg hneg] at h
    have h1:qo_ n=1:=if_pos (by omega)
    cases xs with
    | nil=>cases h
    | cons x ys=>
      dsimp only at h
      by_cases hf:n < 8/\x.fdiv (2 ^ (min (8*n).toNat 64)) ≠ 0
      ·rw [if_pos hf] at h;cases h
      ·rw [if_neg hf,List.nil_append,qU_] at h
       obtain ⟨r',hr',rfl⟩:=Option.map_eq_some_iff.1 h
       have hx0:=hx x (by simp)
       have hlt:=zdv_ hx0.1 hx0.2 (by omega) hn.2.1 hf
       have ih:=Uk_ w ys r' rest hw' (fun y hy=>hx y (by simp [hy])) (by rw [List.length_cons] at hc;omega) hr'
       have hl:=zo_ (n:=x) (w:=n) (by omega)
       have ha:=Kb_ hneg
       have hln:(zf_ x n).length=(zr_ n).toNat:=by omega
       have hnum:z9_ (zf_ x n)=x:=by
        have:=XM_ n.toNat x (by omega) hx0.1 hlt
        rwa [show ((n.toNat:Nat):Int)=n by omega] at this
       simp only [ZU_]
       have hacc:=JV_ w (r'++rest) ([]++[x])
       rw [List.append_assoc,if_neg (by rw [List.length_append];omega),if_pos (by omega),<- hln,List.take_left,List.drop_left,hnum]
       rw [ih] at hacc
       exact Prod.ext ((hacc.2 rfl).trans (by simp)) hacc.1
theorem U8_:∀ (w b xs:List Int),okR w->(∀ x ∈ b,0<=x/\x<=255)->ZU_ w b []=(xs,0)->(w.map qo_).sum=xs.length/\(w.map zr_).sum<=b.length/\qL_ w xs []=some (b.take (w.map zr_).sum.toNat)
 | [],b,xs,_,_,h=>by
   simp only [ZU_,Prod.mk.injEq] at h
   obtain ⟨rfl,_⟩:=h
   exact ⟨rfl,Int.natCast_nonneg _,rfl⟩
 | n :: w,b,xs,hw,hb,h=>by
   have hn:=hw n (by simp)
   have hw':okR w:=fun m hm=>hw m (by simp [hm])
   have ha:=jj_ (n:=n)
   have hs:0<=(w.map zr_).sum:=by
    have:∀ l:List Int,0<=(l.map zr_).sum:=fun l=>by
     induction l with
     | nil=>simp
     | cons a l ih=>rw [List.map_cons,List.sum_cons];have:=jj_ (n:=a);omega
    exact this w
   have hd:(b.drop (zr_ n).toNat).length=b.length - (zr_ n).toNat:=List.length_drop
   have hbd:∀ x ∈ b.drop (zr_ n).toNat,0<=x/\x<=255:=fun x hx=>hb x (List.mem_of_mem_drop hx)
   have htk:∀ k:Nat,(b.take (zr_ n).toNat)++(b.drop (zr_ n).toNat).take k=b.take ((zr_ n).toNat+k):=fun k=>by rw [List.take_add]
   simp only [ZU_] at h
   rw [List.map_cons,List.sum_cons,List.map_cons,List.sum_cons]
   by_cases hsh:(b.length:Int) < zr_ n
   ·rw [if_pos hsh] at h;cases h
   ·rw [if_neg hsh] at h
    have htl:(b.take (zr_ n).toNat).length=(zr_ n).toNat:=by rw [List.length_take];omega
    by_cases hp:0 < n
    ·rw [if_pos hp] at h
     have hacc:=JV_ w (b.drop (zr_ n).toNat) ([]++[z9_ (b.take (zr_ n).toNat)])
     rw [h] at hacc
     have h0:=hacc.1.symm
     obtain ⟨ys,hys⟩:∃ ys,ZU_ w (b.drop (zr_ n).toNat) []=(ys,0):=⟨_,Prod.ext rfl h0⟩
     rw [hys] at hacc
     have hxs:=hacc.2 rfl
     obtain ⟨i1,i2,i3⟩:=U8_ w _ ys hw' hbd hys
     have e1:qo_ n=1:=if_pos hp
     have ea:=Kb_ (n:=n) (by omega)
     dsimp only [List.nil_append] at hxs
     rw [List.singleton_append] at hxs
     subst hxs
     have hbt:∀ x ∈ b.take (zr_ n).toNat,0<=x/\x<=255:=fun x hx=>hb x (List.mem_of_mem_take hx)
     have hnl:=xb_ (b.take (zr_ n).toNat) hbt
     have h2:=hnl.2
     rw [htl] at h2
     have e3:(zr_ n).toNat=n.toNat:=by rw [ea]
     have h4:z9_ (b.take (zr_ n).toNat) < 256 ^ n.toNat:=by rw [<- e3];exact h2
     have hfit:¬ (n < 8/\(z9_ (b.take (zr_ n).toNat)).fdiv (2 ^ (min (8*n).toNat 64)) ≠ 0):=zdp_ hnl.1 hp hn.2.1 h4
     have hbk:=Ka_ (zr_ n).toNat (b.take (zr_ n).toNat) (by omega) htl hbt
     rw [show (((zr_ n).toNat:Nat):Int)=n by omega] at hbk
     refine ⟨by rw [List.length_cons];omega,by omega,?_⟩
     simp only [qL_]
     rw [if_neg (by omega),if_neg hfit,List.nil_append,qU_,i3,hbk]
     show some _=_
     dsimp only;rw [htk];congr 2;omega
    ·rw [if_neg hp] at h
     by_cases hz:zU_ (b.take (zr_ n).toNat)=true
     ·rw [if_pos hz] at h
      obtain ⟨i1,i2,i3⟩:=U8_ w _ xs hw' hbd h
      have e1:qo_ n=0:=if_neg hp
      have hze:=gw_ hz
      rw [htl] at hze
      have ea:=Qj_ (n:=n) (by omega)
      refine ⟨by omega,by omega,?_⟩
      simp only [qL_]
      rw [if_pos (by omega),List.nil_append,qU_,i3,hw_,show (0 - n).toNat=(zr_ n).toNat by omega,<- hze]
      show some _=_
      dsimp only;rw [htk];congr 2;omega
     ·rw [if_neg hz] at h;cases h
theorem Bg_ {w xs:List Int} (rest:List Int) (hx:∀ x ∈ xs,0<=x/\x<=18446744073709551615) (hk:kb_ w xs=true):Z1_ w (qK_ w xs++rest)=(xs,0)/\(qK_ w xs).length=(zF_ w).toNat:=by
 unfold kb_ at hk
 obtain ⟨r,hr⟩:=Option.isSome_iff_exists.1 hk
 have hb:qK_ w xs=r:=by unfold qK_;rw [hr];rfl
 rw [hb]
 unfold KA_ at hr
 split at hr
 ·rename_i h
  have hw:okR w:=(Zl_.1 h.1).2
  have hc:(w.map qo_).sum=xs.length:=by have:=h.2;unfold zY_ at this;rwa [if_pos h.1] at this
  unfold Z1_ zF_
  rw [if_pos h.1,if_pos h.1]
  refine ⟨Uk_ w xs r rest hw hx hc hr,?_⟩
  have hl:∀ (w xs r:List Int),okR w->qL_ w xs []=some r->(r.length:Int)=(w.map zr_).sum:=by
   intro w
   induction w with
   | nil=>intro xs r _ h;simp only [qL_,Option.some.injEq] at h;subst h;rfl
   | cons n w ih=>
     intro xs r hw h
     have hn:=hw n (by simp)
     have hw':okR w:=fun m hm=>hw m (by simp [hm])
     simp only [qL_] at h
     rw [List.map_cons,List.sum_cons]
     split at h
     ·rw [qU_] at h
      obtain ⟨r',hr',rfl⟩:=Option.map_eq_some_iff.1 h
      have:=ih _ _ hw' hr'
      have hl:=zo_ (n:=0) (w:=0 - n) (by omega)
      have ha:=Qj_ (n:=n) (by assumption)
      simp only [List.nil_append,List.length_append];omega
     ·cases xs with
      | nil=>cases h
      | cons x ys=>
        dsimp only at h
        split at h
        ·cases h
        ·rw [qU_] at h
         obtain ⟨r',hr',rfl⟩:=Option.map_eq_some_iff.1 h
         have:=ih _ _ hw' hr'
         have hl:=zo_ (n:=x) (w:=n) (by omega)
         have ha:=Kb_ (n:=n) (by assumption)
         simp only [List.nil_append,List.length_append];omega
  have:=hl w xs r hw hr
  omega
 ·cases hr
theorem x4_ {w b xs:List Int} (hb:∀ x ∈ b,0<=x/\x<=255) (h:Z1_ w b=(xs,0)):kb_ w xs=true/\qK_ w xs=b.take (zF_ w).toNat/\zF_ w<=b.length:=by
 unfold Z1_ at h
 split at h
 ·rename_i hr
  obtain ⟨h1,h2,h3⟩:=U8_ w b xs (Zl_.1 hr).2 hb h
  have hF:KA_ w xs=some (b.take (w.map zr_).sum.toNat):=by
   unfold KA_ zY_;rw [if_pos hr,if_pos ⟨hr,h1⟩,h3]
  unfold kb_ qK_ zF_
  rw [hF,if_pos hr];exact ⟨rfl,rfl,h2⟩
 ·cases h
theorem uw_ {α:Type} {f:α->Bool} {l:List α} {i:Nat} {d:α} (h:i < l.length) (ht:(l.take i).all f=true) (hd:f (l.getD i d)=true):(l.take (i+1)).all f=true:=by
 rw [List.take_succ_eq_append_getElem h,List.all_append,ht,Bool.true_and,List.all_cons,List.all_nil,Bool.and_true]
 rwa [List.getD_eq_getElem?_getD,List.getElem?_eq_getElem h] at hd
theorem hD_ {α:Type} {f:α->Bool} {l:List α} {i:Nat} (h:l.length<=i) (ht:(l.take i).all f=true):l.all f=true:=by
 rwa [List.take_of_length_le h] at ht
theorem hC_ {α:Type} {f:α->Bool} {l:List α} {i:Nat} {d:α} (h:i < l.length) (hd:f (l.getD i d)=false):l.all f=false:=by
 rw [List.all_eq_false]
 exact ⟨l.getD i d,Zq_ h d,by rw [hd];decide⟩
theorem B2_ {α:Type} {l:List α} {i:Nat} (h:i<=l.length):(l.take i).length=i:=by rw [List.length_take];omega
end Go.Eng
