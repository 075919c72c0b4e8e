/- Parts of the proof: OE, OI, M1, OG. No condition. -/
import Derived.Test.YteihcoggfaenaaaGreatDoorProg
import Derived.Test.YteihcoggfaenaaaGreatDoorWG10
import Derived.KernelRfl
import Derived.Test.YteihcoggfaenaaaGreatDoorWG14
namespace Go.Eng
open Go.Proofs
set_option linter.unusedVariables false
set_option linter.unusedSimpArgs false
set_option maxRecDepth 100000
set_option maxHeartbeats 1000000
theorem zmd_ {n:Nat} (x y:BitVec n):x &&& ~~~y=0#n ↔ x &&& y=x:=by
 constructor
 ·intro h
  refine BitVec.eq_of_getLsbD_eq fun i hi=>?_
  have h1:(x &&& ~~~y).getLsbD i=(0#n).getLsbD i:=by rw [h]
  rw [BitVec.getLsbD_and,BitVec.getLsbD_not,BitVec.getLsbD_zero,decide_eq_true hi,Bool.true_and] at h1
  rw [BitVec.getLsbD_and]
  cases hx:x.getLsbD i<;>cases hy:y.getLsbD i<;>simp_all
 ·intro h
  refine BitVec.eq_of_getLsbD_eq fun i hi=>?_
  have h1:(x &&& y).getLsbD i=x.getLsbD i:=by rw [h]
  rw [BitVec.getLsbD_and] at h1
  rw [BitVec.getLsbD_and,BitVec.getLsbD_not,BitVec.getLsbD_zero,decide_eq_true hi,Bool.true_and]
  cases hx:x.getLsbD i<;>cases hy:y.getLsbD i<;>simp_all
theorem zf3_ {k:IntKind} (hk:k.signed=false) {a:Int} (b:Int) (ha:k.min<=a/\a<=k.max):Zw_ .andNot k a b=0 ↔ Zw_ .and k a b=a:=by
 have hw:∀ v:BitVec k.bits,k.wrap (v.toNat:Int)=v.toNat:=fun v=>by
  refine JQ_ ⟨?_,?_⟩
  ·cases k<;>simp_all [IntKind.min,IntKind.signed,IntKind.bits]<;>omega
  ·have:=v.isLt
   cases k<;>simp_all [IntKind.max,IntKind.signed,IntKind.bits]<;>omega
 have hx:((BitVec.ofInt k.bits a).toNat:Int)=a:=by
  rw [BitVec.toNat_ofInt]
  cases k<;>simp_all [IntKind.min,IntKind.max,IntKind.signed,IntKind.bits]<;>omega
 have h:=zmd_ (BitVec.ofInt k.bits a) (BitVec.ofInt k.bits b)
 show k.wrap (((BitVec.ofInt k.bits a) &&& ~~~(BitVec.ofInt k.bits b)).toNat:Int)=0 ↔ k.wrap (((BitVec.ofInt k.bits a) &&& (BitVec.ofInt k.bits b)).toNat:Int)=a
 rw [hw,hw]
 constructor
 ·intro e
  have:(BitVec.ofInt k.bits a) &&& ~~~(BitVec.ofInt k.bits b)=0#k.bits:=BitVec.eq_of_toNat_eq (by rw [BitVec.toNat_zero];omega)
  rw [h.1 this,hx]
 ·intro e
  have:(BitVec.ofInt k.bits a) &&& (BitVec.ofInt k.bits b)=BitVec.ofInt k.bits a:=BitVec.eq_of_toNat_eq (by omega)
  rw [h.2 this,BitVec.toNat_zero];rfl
theorem ion:∀ x < 256,∀ y < 256,(Zw_ .andNot .u8 ((x:Nat):Int) ((y:Nat):Int)=0 ↔ Zw_ .and .u8 ((x:Nat):Int) ((y:Nat):Int)=((x:Nat):Int)):=fun x hx y _=>
 zf3_ rfl _ ⟨by show (0:Int)<=x;omega,by show (x:Int)<=255;omega⟩
theorem zhM_:∀ (v m:List Int),(∀ x ∈ v,0<=x/\x<=255)->(∀ x ∈ m,0<=x/\x<=255)->vd_ v m=!inA v m
 | [],_,_,_=>by simp [vd_,inA]
 | _ :: _,[],_,_=>by simp [vd_,inA]
 | x :: r,y :: l,hv,hm=>by
   have hx:=hv x (by simp)
   have hy:=hm y (by simp)
   have ih:=zhM_ r l (fun a ha=>hv a (by simp [ha])) (fun a ha=>hm a (by simp [ha]))
   have h:=ion x.toNat (by omega) y.toNat (by omega)
   rw [Int.toNat_of_nonneg hx.1,Int.toNat_of_nonneg hy.1] at h
   unfold vd_ inA
   by_cases h1:Zw_ .andNot .u8 x y=0
   ·rw [if_pos h1,if_pos (h.1 h1),ih]
   ·rw [if_neg h1,if_neg (fun h2=>h1 (h.2 h2))];rfl
theorem zaT_ (b:List Int):∀ (f g:Nat) (i:Int),jy_ b (f+g) i=(jy_ b f i && jy_ b g (i+f))
 | 0,g,i=>by rw [Nat.zero_add,show i+((0:Nat):Int)=i by omega];unfold jy_;rfl
 | f+1,g,i=>by
   rw [show f+1+g=(f+g)+1 by omega]
   by_cases h:Zw_ .and .u8 ((b.getD (b.length - 1 - i.tdiv 8:Int).toNat 0).fdiv (2 ^ (min (i.tmod 8).toNat 8))) 1=0
   ·rw [yb_ h,yb_ h,Bool.false_and]
   ·rw [ya_ h,ya_ h,zaT_ b f g (i+1),show i+1+(f:Int)=i+((f+1:Nat):Int) by omega]
theorem Y5_ (x:Int) (r:List Int):∀ (f:Nat) (i:Int),0<=i->i+f<=8*r.length->jy_ (x :: r) f i=jy_ r f i
 | 0,_,_,_=>rfl
 | f+1,i,h0,h=>by
   have ih:=Y5_ x r f (i+1) (by omega) (by omega)
   have e:(x :: r).getD (((x :: r).length:Int) - 1 - i.tdiv 8).toNat 0=r.getD ((r.length:Int) - 1 - i.tdiv 8).toNat 0:=by
    rw [ZK_ h0,List.length_cons,show (((r.length+1:Nat):Int) - 1 - i / 8).toNat=((r.length:Int) - 1 - i / 8).toNat+1 by omega];rfl
   by_cases hc:Zw_ .and .u8 ((r.getD ((r.length:Int) - 1 - i.tdiv 8).toNat 0).fdiv (2 ^ (min (i.tmod 8).toNat 8))) 1=0
   ·rw [yb_ hc,yb_ (by rw [e];exact hc)]
   ·rw [ya_ hc,ya_ (by rw [e];exact hc),ih]
theorem He_ (x:Int) (r:List Int):∀ (f:Nat) (i:Int),0<=i->i+f<=8->jy_ (x :: r) f (8*r.length+i)=jy_ [x] f i
 | 0,_,_,_=>rfl
 | f+1,i,h0,h=>by
   have ih:=He_ x r f (i+1) (by omega) (by omega)
   have h8:0<=8*(r.length:Int)+i:=by omega
   have e:(x :: r).getD (((x :: r).length:Int) - 1 - (8*(r.length:Int)+i).tdiv 8).toNat 0=[x].getD ((([x]:List Int).length:Int) - 1 - i.tdiv 8).toNat 0:=by
    rw [ZK_ h8,ZK_ h0,List.length_cons,List.length_cons,List.length_nil,show (((r.length+1:Nat):Int) - 1 - (8*(r.length:Int)+i) / 8).toNat=0 by omega,show (((0+1:Nat):Int) - 1 - i / 8).toNat=0 by omega];rfl
   have e2:(8*(r.length:Int)+i).tmod 8=i.tmod 8:=by rw [QU_ h8,QU_ h0];omega
   by_cases hc:Zw_ .and .u8 (([x].getD ((([x]:List Int).length:Int) - 1 - i.tdiv 8).toNat 0).fdiv (2 ^ (min (i.tmod 8).toNat 8))) 1=0
   ·rw [yb_ hc,yb_ (by rw [e,e2];exact hc)]
   ·rw [ya_ hc,ya_ (by rw [e,e2];exact hc),Int.add_assoc,ih]
theorem zmE_:∀ s < 8,∀ x < 256,Zs_ (s:Nat) [((x:Nat):Int)]=true->(((x:Nat):Int)=bN_ (s:Nat) ↔ jy_ [((x:Nat):Int)] (8 - s) 0=true):=by decide+kernel
theorem own0:bN_ 0=255:=by decide
theorem vf_:∀ (r:List Int) (s:Int),s<=0->Ku_ r s=Ku_ r 0
 | [],_,_=>by simp [Ku_]
 | x :: r,s,h=>by
   have h1:bN_ s=255:=if_neg (by omega)
   have ih:=vf_ r (s - 8) (by omega)
   have ih0:=vf_ r (0 - 8) (by omega)
   unfold Ku_
   rw [h1,own0,ih,ih0]
theorem zgl_ {s x:Int} (r:List Int) (hs:s<=8) (h:Zs_ s (x :: r)=true):Zs_ s [x]=true:=by
 by_cases h1:x.fdiv (2 ^ (min (8 - (if 8 < s then 8 else s)).toNat 8))=0
 ·exact if_pos h1
 ·have e:Zs_ s (x :: r)=false:=if_neg h1
  rw [e] at h;cases h
theorem Yi_:∀ (m:List Int) (s:Int),(∀ x ∈ m,0<=x/\x<=255)->0<=s->s<=8*m.length->Zs_ s m=true->Ku_ m s=jy_ m (8*m.length - s).toNat 0
 | [],s,_,h0,h1,_=>by
   have:s=0:=by simp at h1;omega
   subst this;rfl
 | x :: r,s,hm,h0,h1,hs=>by
   have hx:=hm x (by simp)
   have hr:∀ a ∈ r,0<=a/\a<=255:=fun a ha=>hm a (by simp [ha])
   rw [List.length_cons] at h1
   by_cases h8:8<=s
   ·have hsp:x=0/\Zs_ (s - 8) r=true:=by
     have h8':(if 8 < s then 8 else s)=8:=by split<;>omega
     have e:Zs_ s (x :: r)=if x.fdiv (2 ^ (min (8 - (if 8 < s then 8 else s)).toNat 8))=0 then Zs_ (s - (if 8 < s then 8 else s)) r else false:=rfl
     rw [h8',show (min (8 - 8:Int).toNat 8)=0 from rfl,Int.pow_zero,Int.fdiv_one] at e
     rw [e] at hs
     by_cases h9:x=0
     ·rw [if_pos h9] at hs;exact ⟨h9,hs⟩
     ·rw [if_neg h9] at hs;cases hs
    have ho:bN_ s=0:=by
     unfold bN_
     rw [if_pos (by omega)]
     by_cases h9:8 < s
     ·rw [if_pos h9];decide
     ·rw [if_neg h9,show s=8 by omega];decide
    have ih:=Yi_ r (s - 8) hr (by omega) (by omega) hsp.2
    have hn:(8*(((x :: r).length:Nat):Int) - s).toNat=(8*(r.length:Int) - (s - 8)).toNat:=by rw [List.length_cons];omega
    unfold Ku_
    rw [if_pos (by rw [ho];exact hsp.1),ih,hn,Y5_ x r _ 0 (by omega) (by omega)]
   ·have hs1:=zgl_ r (by omega) hs
    have h2:=zmE_ s.toNat (by omega) x.toNat (by omega)
    rw [Int.toNat_of_nonneg h0,Int.toNat_of_nonneg hx.1] at h2
    have h3:=h2 hs1
    have hsr:Zs_ 0 r=true:=uR_ r hr
    have ih:=Yi_ r 0 hr (Int.le_refl _) (by omega) hsr
    have hn:(8*(((x :: r).length:Nat):Int) - s).toNat=8*r.length+(8 - s.toNat):=by rw [List.length_cons];omega
    have hn0:(8*(r.length:Int) - 0).toNat=8*r.length:=by omega
    have hhd:=He_ x r (8 - s.toNat) 0 (Int.le_refl _) (by omega)
    rw [Int.add_zero] at hhd
    rw [hn0] at ih
    unfold Ku_
    rw [hn,zaT_,Y5_ x r _ 0 (by omega) (by omega),show (0:Int)+((8*r.length:Nat):Int)=8*(r.length:Int) by omega,hhd,vf_ r (s - 8) (by omega),ih]
    by_cases hc:x=bN_ s
    ·rw [if_pos hc,h3.1 hc,Bool.and_true]
    ·rw [if_neg hc,show jy_ [x] (8 - s.toNat) 0=false by
      cases hq:jy_ [x] (8 - s.toNat) 0 with
      | false=>rfl
      | true=>exact absurd (h3.2 hq) hc,Bool.and_false]
theorem zd6_ {f:Int} {m:List Int} (hm:∀ x ∈ m,0<=x/\x<=255) (h:Kw_ f m=true):Vf_ m (Kf_ f)=jy_ m (Z7_ f).toNat 0:=by
 unfold Kw_ at h
 split at h
 ·rename_i hh
  have hi:fIs f=true:=qc_.2 hh.1
  have hz:=bb_ f.toNat (by omega)
  rw [Int.toNat_of_nonneg hh.1.1] at hz
  have hb:Kf_ f=Kx_.getD f.toNat 0:=if_pos hi
  have hbl:=zaj_ f.toNat (by omega)
  have ho:=Yi_ m (m.length*8 - Kf_ f) hm (by omega) (by omega) (by rw [hb,show (m.length:Int)*8 - Kx_.getD f.toNat 0=8*K8_ f - Kx_.getD f.toNat 0 by omega];exact h)
  unfold Vf_
  rw [ho,<- (law8 f).1,show (8*(m.length:Int) - (m.length*8 - Kf_ f))=Kf_ f by omega]
 ·cases h
theorem zd5_ {m:List Int} (hm:∀ x ∈ m,0<=x/\x<=255):Vf_ m (m.length*8)=jy_ m (8*(m.length:Int)).toNat 0:=by
 have ho:=Yi_ m 0 hm (Int.le_refl _) (by omega) (uR_ m hm)
 unfold Vf_
 rw [show (m.length:Int)*8 - m.length*8=0 by omega,ho,Int.sub_zero]
theorem zgd_ {c f:Int} {h:Bool} {v m:List Int} (hv:∀ x ∈ v,0<=x/\x<=255) (hm:∀ x ∈ m,0<=x/\x<=255) (hc:c=32768\/c=65535):QT_ f h v m (Qi_ c f) (Zc_ c)=refW c f h v m:=by
 have hoi:=zhM_ v m hv hm
 have hio:(vd_ v m=true)=(inA v m=false):=by rw [hoi];simp
 rcases hc with hc | hc
 ·have he:Zc_ c=false:=decide_eq_false (by omega)
  have hb:Qi_ c f=Kf_ f:=if_neg (by omega)
  have f1:=zc0_ (n:=f) hv
  have f2:=zc0_ (n:=f) hm
  unfold QT_ refW
  rw [he,hb,f1,f2]
  simp only [hio,hc,true_and,if_true,Bool.false_eq_true,if_false]
  cases h4:qo_ f m with
  | true=>
    have ho:=zd6_ hm (f2.trans h4)
    rw [ho]
  | false=>
    cases h with
    | true=>simp
    | false=>simp
 ·have he:Zc_ c=true:=decide_eq_true hc
  have hn:¬ c=32768:=by omega
  have ho:=zd5_ hm
  unfold QT_ refW
  rw [he]
  simp only [hio,hn,false_and,if_true,if_false,reduceCtorEq,ho,and_false]
theorem zu (x:Int) (h0:0<=x):x.fdiv (2 ^ (min (Int.toNat 32) IntKind.u64.bits))=0 ↔ x < 4294967296:=by
 rw [show (2:Int) ^ (min (Int.toNat 32) IntKind.u64.bits)=4294967296 from by decide,Int.fdiv_eq_ediv_of_nonneg _ (by decide)];omega
theorem ziT_ {n:Int} (h:0<=n/\n<=255):ze_ n 1=[n]:=by
 show [(n.fdiv (2 ^ (min (8*((1:Int) - 1 - ((0:Nat):Int))).toNat 64))) % 256]=[n]
 rw [show (min (8*((1:Int) - 1 - ((0:Nat):Int))).toNat 64)=0 from by decide,Int.pow_zero,Int.fdiv_one]
 congr 1;omega
theorem qg_ {c f:Int} {h:Bool} {x:Int} {v m:List Int} (hr:zS_ c f h x v m=true):0<=f/\f<=127/\(c=65535\/c=32768)/\(v.length:Int)<=100/\(m.length:Int)<=100/\0<=Zk_ c v m/\Zk_ c v m<=204/\Zk_ c v m=(x4_ c x v m).length:=by
 obtain ⟨r1,r2,r3,r4,_⟩:=Jr_ hr
 have hof:=Hj_ c f
 have hm:(m.length:Int)<=100:=by cases h;have:=r3 rfl;omega;have:=r2 rfl;omega
 have hb:Zk_ c v m=(x4_ c x v m).length:=by
  have l4:=zn_ (n:=x) (w:=4) (by decide)
  unfold Zk_ x4_
  split
  ·rw [List.length_append,List.length_append];omega
  ·rw [List.length_append,List.length_append,List.length_nil];omega
 have h0:0<=Zk_ c v m/\Zk_ c v m<=204:=by unfold Zk_;split<;>omega
 have hcf:0<=f/\f<=127/\(c=65535\/c=32768):=by
  unfold QB_ at r4
  split at r4
  ·simp at r4;omega
  ·simp at r4;have:=qc_.1 r4.1;omega
 exact ⟨hcf.1,hcf.2.1,hcf.2.2,by omega,hm,h0.1,h0.2,hb⟩
theorem zab_ {c f:Int} {h:Bool} {x:Int} {v m:List Int} (hr:zS_ c f h x v m=true):ZF_ c f h x v m=Qg_ c f h x v m:=by
 obtain ⟨n1,n2,n3,n4,n5,n6,n7,n8⟩:=qg_ hr
 unfold ZF_ zfP_ Qg_
 rw [ziT_ (n:=2*f+if h=true then 1 else 0) (by split<;>omega),ziT_ (n:=Zk_ c v m) (by omega),n8]
 unfold x4_
 simp only [List.append_assoc,List.cons_append,List.nil_append]
theorem zhw_ {c f:Int} {h:Bool} {x:Int} {v m:List Int}:Qc_ c f h x v m=((if zS_ c f h x v m=true then Qg_ c f h x v m else []).length:Int):=by
 unfold Qc_
 split
 ·rename_i hr
  obtain ⟨n1,n2,n3,n4,n5,n6,n7,n8⟩:=qg_ hr
  have l2:=zn_ (n:=c) (w:=2) (by decide)
  unfold Qg_
  rw [n8]
  simp only [List.length_append,List.length_cons,List.length_nil];omega
 ·rfl
theorem zad_ {b:List Int} (hb:∀ x ∈ b,0<=x/\x<=255):zK_ b=rE b:=by
 unfold zK_ rE
 split
 ·rfl
 ·split
  ·rfl
  ·rename_i hok
   split
   ·rfl
   ·split
    ·rfl
    ·have hc:zu_ b=32768\/zu_ b=65535:=by
      unfold QB_ at hok
      split at hok
      ·right;assumption
      ·left;by_cases h:zu_ b=32768
       ·exact h
       ·rw [decide_eq_false h,Bool.and_false] at hok;exact absurd rfl hok
     refine zgd_ (fun x hx=>?_) (fun x hx=>?_) hc
     ·exact hb x (List.mem_of_mem_take (List.mem_of_mem_drop hx))
     ·unfold Zq_ at hx
      split at hx
      ·exact hb x (List.mem_of_mem_take (List.mem_of_mem_drop hx))
      ·cases hx
def L1:List Int:=[128,0,10,2,8,0,7]
def L2:List Int:=[128,0,11,4,8,0,8,0]
theorem s1:zK_ L1=0/\ZG_ L1 (zu_ L1)=32768/\ZG_ L1 (zz_ L1)=5/\z5_ L1=false/\ZG_ L1 (qf_ L1)=0/\Z8_ L1 (Zp_ L1)=[8,0]/\Z8_ L1 (Zq_ L1)=[]/\ZG_ L1 (z9_ L1)=6/\zK_ L2=1033:=by decide+kernel
theorem s2:zS_ 32768 5 false 0 [8,0] []=true/\ZF_ 32768 5 false 0 [8,0] []=[128,0,10,2,8,0]:=by decide+kernel
def gg_:IR:=
(sq (kr [0,1] [oD 4 (.mov cF)])
(sq (kr [0,1] [oM 5 0,
oD 6 (.b2s 5),
oM 7 1,
oD 8 (.b2s 7),
oB 9 .eql 6 8,
oM 4 9])
.ret))
def Uo_:List RD:=[.tmp 4 true none]
theorem UQ_:zm_ Tryz.prog Tryz.f229 gg_ Uo_=true:=by kernel_rfl
def Jc_:List AV->List Obj->Option (Prop × AV)
 | [.imm (.int .u8) a,.imm (.int .u8) b],[]=>some ((True,.bool (decide (a=b))))
 | _,_=>none
theorem VJ_:zd_ Tryz.prog 229 (RoF Jc_).sum:=by
 refine zi_ Tryz.func229 UQ_ (zc_ _) fun args objs p v e=>?_
 unfold Jc_ at e
 split at e
 ·rename_i a b
  cases e
  refine ⟨rfl,fun hw ho hp=>?_⟩
  change List Int at a
  change List Int at b
  repeat'(intro t ht;first|(cases t<;>first|(cases ht;done)|(try simp only[zg_]at ht))|((first|refine zb_ ht ?_|refine ht ?_ ?_|refine ht.1 ?_ ?_|refine ht ?_)<;>clear ht))
  all_goals first
   | exact True.intro
   | exact ⟨rfl,rfl⟩
 ·cases e
def BT_:IR:=
(sq (kr [0,1] [oD 2 (.boxv 0),
oD 3 (.boxv 1),
oD 4 (.mov cF)])
(sq (kr [2,3] [oA 5 0 2,
oL 6 5,
oA 7 0 3,
oL 8 7,
oB 9 .eql 6 8,
oM 10 9,
oT 10 11 (.fieldAddr 1 2),
oT 10 12 (.load none 11),
oT 10 13 (.fieldAddr 1 3),
oT 10 14 (.load none 13),
oT 10 15 (.bin .eql 12 14),
oP 16 10 15 cF,
oM 17 16,
oT 17 18 (.fieldAddr 3 2),
oT 17 19 (.load none 18),
oT 17 20 (.fieldAddr 3 3),
oT 17 21 (.load none 20),
oT 17 22 (.bin .eql 19 21),
oP 23 17 22 cF,
oM 4 23])
.ret))
def bB_:List RD:=[.tmp 4 true none]
theorem Bc_:zm_ Tryz.prog Tryz.f150 BT_ bB_=true:=by kernel_rfl
def jU_:List AV->List Obj->Option (Prop × AV)
 | [.agg [.int .i64 c,.int .i64 f,.bool h,.int .u64 x,.imm (.int .u8) v,.imm (.int .u8) m],.agg [.int .i64 c',.int .i64 f',.bool h',.int .u64 x',.imm (.int .u8) v',.imm (.int .u8) m']],[]=>some ((True,.bool (decide (c=c') && decide (f=f') && decide (x=x'))))
 | _,_=>none
theorem X0_:zd_ Tryz.prog 150 (RoF jU_).sum:=by
 refine zi_ Tryz.func150 Bc_ (zc_ _) fun args objs p v e=>?_
 unfold jU_ at e
 split at e
 ·rename_i c f h x v m c' f' h' x' v' m'
  cases e
  refine ⟨rfl,fun hw ho hp=>?_⟩
  change List Int at v
  change List Int at m
  change List Int at v'
  change List Int at m'
  repeat'(intro t ht;first|(cases t<;>first|(cases ht;done)|(try simp only[zg_]at ht))|((first|refine zb_ ht ?_|refine ht ?_ ?_|refine ht.1 ?_ ?_|refine ht ?_)<;>clear ht))
  all_goals first
   | exact True.intro
   | (simp_all;done)
 ·cases e
def zcL_:IR:=
(sq (kr [0,1] [oD 2 (.boxv 0),
oD 3 (.boxv 1),
oD 4 (.mov cF)])
(sq (kr [2,3] [oK 5 6 2,
oK 6 6 3,
oC 7 150 [5,6],
oM 8 7,
oT 8 9 (.fieldAddr 2 2),
oT 8 10 (.load none 9),
oT 8 11 (.fieldAddr 2 3),
oT 8 12 (.load none 11),
oT 8 13 (.eqb false 10 12),
oP 14 8 13 cF,
oM 15 14,
oT 15 16 (.fieldAddr 4 2),
oT 15 17 (.load none 16),
oT 15 18 (.fieldAddr 4 3),
oT 15 19 (.load none 18),
oT 15 20 (.call false (.f 229) [17,19]),
oP 21 15 20 cF,
oM 22 21,
oT 22 23 (.fieldAddr 5 2),
oT 22 24 (.load none 23),
oT 22 25 (.fieldAddr 5 3),
oT 22 26 (.load none 25),
oT 22 27 (.call false (.f 229) [24,26]),
oP 28 22 27 cF,
oM 4 28])
.ret))
def zbk_:List RD:=[.tmp 4 true none]
theorem zbX_:zm_ Tryz.prog Tryz.f228 zcL_ zbk_=true:=by kernel_rfl
def yJ_:List AV->List Obj->Option (Prop × AV)
 | [.agg [.int .i64 c,.int .i64 f,.bool h,.int .u64 x,.imm (.int .u8) v,.imm (.int .u8) m],.agg [.int .i64 c',.int .i64 f',.bool h',.int .u64 x',.imm (.int .u8) v',.imm (.int .u8) m']],[]=>some ((True,.bool (QX_ c f h x v m c' f' h' x' v' m')))
 | _,_=>none
theorem H5_:zd_ Tryz.prog 228 (RoF yJ_).sum:=by
 refine zi_ Tryz.func228 zbX_ (za_ (s:=RoF jU_) X0_ (za_ (s:=RoF Jc_) VJ_ (zc_ _))) fun args objs p v e=>?_
 unfold yJ_ at e
 split at e
 ·rename_i c f h x v m c' f' h' x' v' m'
  cases e
  refine ⟨rfl,fun hw ho hp=>?_⟩
  change List Int at v
  change List Int at m
  change List Int at v'
  change List Int at m'
  repeat'(intro t ht;first|(cases t<;>first|(cases ht;done)|(try simp only[zg_]at ht))|((first|refine zb_ ht ?_|refine ht ?_ ?_|refine ht.1 ?_ ?_|refine ht ?_)<;>clear ht))
  all_goals first
   | exact True.intro
   | (refine ⟨?_,rfl⟩;unfold QX_;simp_all;done)
   | (refine ⟨?_,rfl⟩;unfold QX_;cases h<;>cases h'<;>simp_all;done)
   | (refine ⟨?_,rfl⟩;unfold QX_;rcases ‹(¬c=c'\/¬f=f')\/¬x=x'› with (h1 | h1) | h1<;>rw [decide_eq_false h1]<;>simp)
 ·cases e
def jA_ {α:Type} (p:α->Bool):List α->Int->Int
 | [],_=>-1
 | o :: r,i=>if p o=true then i else jA_ p r (i+1)
theorem xS_ {α:Type} {p:α->Bool} {l:List α} {i:Nat} (h:l.length<=i):jA_ p (l.drop i) i=-1:=by
 rw [List.drop_of_length_le h];rfl
theorem Yy_ {α:Type} {p:α->Bool} {l:List α} {i:Nat} {d:α} (h:i < l.length) (hk:p (l.getD i d)=true):jA_ p (l.drop i) i=i:=by
 rw [zw_ h d];exact if_pos hk
theorem Yx_ {α:Type} {p:α->Bool} {l:List α} {i:Nat} {d:α} (h:i < l.length) (hk:p (l.getD i d)=false):jA_ p (l.drop i) i=jA_ p (l.drop (i+1)) ((i+1:Nat):Int):=by
 rw [zw_ h d];exact if_neg (by rw [hk];decide)
theorem JB_ {α:Type} {p:α->Bool}:∀ (l:List α) (i:Int),0<=i->decide (0<=jA_ p l i)=l.any p
 | [],i,h=>rfl
 | o :: r,i,h=>by
   unfold jA_
   rw [List.any_cons]
   cases hk:p o with
   | true=>rw [if_pos rfl,decide_eq_true h];rfl
   | false=>rw [if_neg (by decide),JB_ r (i+1) (by omega)];rfl
def nzB (c:Int):Bool:=decide (c ≠ 0)
abbrev OV:=Int × Int × Bool × Int × List Int × List Int × Unit
instance:DecidableEq (Int × List Int × List Int × Unit):=inferInstance
instance:DecidableEq OV:=inferInstance
def ua_ (b:List Int):Int:=b.foldl (fun n c=>Zw_ .or .u64 (IntKind.u64.wrap (n*2 ^ min (Int.toNat 8) IntKind.u64.bits)) (IntKind.u64.wrap c)) 0
theorem Hk_ {b:List Int} {i:Nat} (h:i < b.length):ua_ (b.take (i+1))=Zw_ .or .u64 (IntKind.u64.wrap (ua_ (b.take i)*2 ^ min (Int.toNat 8) IntKind.u64.bits)) (IntKind.u64.wrap (b.getD i 0)):=by
 unfold ua_
 rw [List.take_succ_eq_append_getElem h,List.foldl_append,List.getD_eq_getElem?_getD,List.getElem?_eq_getElem h];rfl
def U8_:IR:=
(sq (kr [0,1] [oD 4 (.mov (.c (.int .u64 0))),
oD 5 (.mov cF)])
(sq (sq (.reg [oM 8 0,
oE 9 8,
oD 10 (.mov (cI 0))])
(.block 0
(.loop
(sq (kr [0,1,4,8,9,10] [oB 11 .lss 10 9])
(sq (.cond 11
.skip
(.exit 0))
(sq (.block 1
(sq (.reg [oI 12 1 8 10,
oL 13 12,
oM 7 13])
(kr [0,1,4,7,8,9,10] [oM 14 4,
oB 15 .shl 14 (.c (.int .u64 8)),
oM 16 7,
oD 17 (.conv .u64 16),
oB 18 .or 15 17,
oM 4 18])))
(kr [0,1,4,8,9,10] [oB 19 .add 10 (cI 1),
oM 10 19])))))))
(sq (kr [0,1,4] [oM 20 4,
oM 21 0,
oE 22 21,
oM 23 1,
oB 24 .eql 22 23,
oM 4 20,
oM 5 24])
.ret)))
def Ug_:List RD:=[.tmp 4 true none,.tmp 5 true none]
theorem UI_:zm_ Tryz.prog Tryz.f192 U8_ Ug_=true:=by kernel_rfl
def j9_:List AV->List Obj->Option (Prop × AV)
 | [.imm (.int .u8) b,.int .i64 z],[]=>some ((True,.tup [.int .u64 (ua_ b),.bool (decide ((b.length:Int)=z))]))
 | _,_=>none
theorem VE_:zd_ Tryz.prog 192 (RoF j9_).sum:=by
 refine zi_ Tryz.func192 UI_ (zc_ _) fun args objs p v e=>?_
 unfold j9_ at e
 split at e
 ·rename_i b z
  cases e
  refine ⟨rfl,fun hw ho hp=>?_⟩
  change List Int at b
  have hl:b.length<=maxLen:=(hw (.imm (.int .u8) b) (by simp)).2
  unfold maxLen at hl
  clear hw ho
  repeat'(intro t ht;first|(cases t<;>first|(cases ht;done)|(try simp only[zg_]at ht))|((first|refine zb_ ht ?_|refine ht ?_ ?_|refine ht.1 ?_ ?_|refine ht ?_)<;>clear ht))
  all_goals first
   | (intro r h1 h2;clear h1;refine h2 ⟨[0,1,4,8,9,10],Nat,(fun i=>i<=b.length),fun i=>[.imm (.int .u8) b,.int .i64 z,.int .u64 (ua_ (b.take i)),.imm (.int .u8) b,.int .i64 b.length,.int .i64 i],fun _=>[],fun i=>b.length - i,⟨0,Nat.zero_le _,rfl,rfl⟩,?_⟩;clear h2)
  intro i hi
  repeat'(intro t ht;first|(cases t<;>first|(cases ht;done)|(try simp only[zg_]at ht))|((first|refine zb_ ht ?_|refine ht ?_ ?_)<;>clear ht)|(refine ht.1 (by simp only[zj_];omega) ?_;clear ht)|(refine ht.2 ?_;clear ht)|(refine ht ?_;clear ht))
  all_goals first
   | exact True.intro
   | ((try simp only [zk_,zl_,zj_] at*);omega)
   | (have hge:b.length<=i:=by omega
      rw [List.take_of_length_le hge];exact ⟨rfl,rfl⟩)
   | exact (by decide)
   | (refine ⟨i+1,by omega,by dsimp only;omega,?_,rfl⟩
      dsimp only
      rw [Hk_ (by omega)];rfl)
 ·cases e
def ud_:IR:=
(sq (kr [0] [oD 2 (.mov cF)])
(sq (.reg [oM 3 0,
oB 4 .neq 3 (.c (.int .u8 0)),
oM 2 4])
.ret))
def VN_:List RD:=[.tmp 2 true none]
theorem VZ_:zm_ Tryz.prog Tryz.f191 ud_ VN_=true:=by kernel_rfl
def qV_:List AV->List Obj->Option (Prop × AV)
 | [.int .u8 b],[]=>some ((True,.bool (nzB b)))
 | _,_=>none
theorem kw_:zd_ Tryz.prog 191 (RoF qV_).sum:=by
 refine zi_ Tryz.func191 VZ_ (zc_ _) fun args objs p v e=>?_
 unfold qV_ at e
 split at e
 ·rename_i b
  cases e
  refine ⟨rfl,fun hw ho hp=>?_⟩
  repeat'(intro t ht;first|(cases t<;>first|(cases ht;done)|(try simp only[zg_]at ht;try(exfalso;first|contradiction|omega)))|((first|refine zb_ ht ?_|refine ht ?_ ?_|refine ht.1 ?_ ?_|refine ht ?_)<;>clear ht))
  all_goals first
   | exact True.intro
   | (refine ⟨congrArg AV.bool ?_,rfl⟩;unfold nzB;simp;done)
 ·cases e
def Kd_:IR:=
(sq (kr [0,1] [oD 4 (.mov (cI 0))])
(sq (sq (.reg [oM 6 0,
oE 7 6,
oD 8 (.mov (cI 0))])
(.block 0
(.loop
(sq (kr [0,1,7,8] [oB 9 .lss 8 7])
(sq (.cond 9
.skip
(.exit 0))
(sq (.block 1
(sq (.reg [oM 10 8,
oM 5 10])
(sq (kr [0,1,5,7,8] [oM 11 1,
oM 12 0,
oM 13 5,
oI 14 1 12 13,
oL 15 14,
oD 16 (.call false 11 [15])])
(.cond 16
(sq (kr [5] [oM 17 5,
oM 4 17])
.ret)
.skip))))
(kr [0,1,7,8] [oB 18 .add 8 (cI 1),
oM 8 18])))))))
(sq (kr [] [oD 4 (.mov (cI (-1)))])
.ret)))
def k9_:List RD:=[.tmp 4 true none]
theorem Kb_:zm_ Tryz.prog Tryz.f207 Kd_ k9_=true:=by kernel_rfl
def ZI_:List AV->List Obj->Option (Prop × AV)
 | [.imm (.int .u8) l,.fn 191 [] []],[]=>some ((True,.int .i64 (jA_ nzB l 0)))
 | _,_=>none
theorem kv_:zd_ Tryz.prog 207 (RoF ZI_).sum:=by
 refine zi_ Tryz.func207 Kb_ (za_ (s:=RoF qV_) kw_ (zc_ _)) fun args objs p v e=>?_
 unfold ZI_ at e
 split at e
 ·rename_i l
  cases e
  refine ⟨rfl,fun hw ho hp=>?_⟩
  change List Int at l
  have hl:l.length<=maxLen:=(hw (.imm (.int .u8) l) (by simp)).2
  unfold maxLen at hl
  clear hw ho
  repeat'(intro t ht;first|(cases t<;>first|(cases ht;done)|(try simp only[zg_]at ht))|((first|refine zb_ ht ?_|refine ht ?_ ?_|refine ht.1 ?_ ?_|refine ht ?_)<;>clear ht))
  all_goals first
   | (intro r h1 h2;clear h1;refine h2 ⟨[0,1,7,8],Nat,(fun i=>i<=l.length/\jA_ nzB l 0=jA_ nzB (l.drop i) i),fun i=>[.imm (.int .u8) l,.fn 191 [] [],.int .i64 l.length,.int .i64 i],fun _=>[],fun i=>l.length - i,⟨0,⟨Nat.zero_le _,rfl⟩,rfl,rfl⟩,?_⟩;clear h2)
  rintro i ⟨hi,he⟩
  repeat'(intro t ht;first|(cases t<;>first|(cases ht;done)|(try simp only[zg_]at ht;try(exfalso;first|contradiction|omega)))|((first|refine zb_ ht ?_|refine ht ?_ ?_|refine ht.1 ?_ ?_|refine ht ?_)<;>clear ht))
  all_goals first
   | exact True.intro
   | ((try simp only [zk_,zl_,zj_] at*);omega)
   | (refine ⟨?_,rfl⟩;rw [he,xS_ (by omega)];done)
   | (refine ⟨?_,rfl⟩;rw [he,Yy_ (d:=0) (by omega) (by assumption)];done)
   | exact ⟨i+1,⟨by omega,he.trans (Yx_ (d:=0) (by omega) (by assumption))⟩,by dsimp only;omega,rfl,rfl⟩
 ·cases e
def Q6_:IR:=
(sq (kr [0,1] [oD 4 (.mov cF)])
(sq (kr [0,1] [oM 5 0,
oM 6 1,
oC 7 207 [5,6],
oB 8 .geq 7 (cI 0),
oM 4 8])
.ret))
def QZ_:List RD:=[.tmp 4 true none]
theorem Q3_:zm_ Tryz.prog Tryz.f190 Q6_ QZ_=true:=by kernel_rfl
def ZA_:List AV->List Obj->Option (Prop × AV)
 | [.imm (.int .u8) l,.fn 191 [] []],[]=>some ((True,.bool (l.any nzB)))
 | _,_=>none
theorem QQ_:zd_ Tryz.prog 190 (RoF ZA_).sum:=by
 refine zi_ Tryz.func190 Q3_ (za_ (s:=RoF qV_) kw_ (za_ (s:=RoF ZI_) kv_ (zc_ _))) fun args objs p v e=>?_
 unfold ZA_ at e
 split at e
 ·rename_i l
  cases e
  refine ⟨rfl,fun hw ho hp=>?_⟩
  change List Int at l
  have h:=JB_ (p:=nzB) l 0 (Int.le_refl _)
  repeat'(intro t ht;first|(cases t<;>first|(cases ht;done)|(try simp only[zg_]at ht;try(exfalso;first|contradiction|omega)))|((first|refine zb_ ht ?_|refine ht ?_ ?_|refine ht.1 ?_ ?_|refine ht ?_)<;>clear ht))
  all_goals first
   | exact True.intro
   | exact ⟨congrArg AV.bool h,rfl⟩
 ·cases e
def Kc_:IR:=
(sq (kr [0,1] [oD 4 (.mov (cI 0))])
(sq (sq (.reg [oM 6 0,
oE 7 6,
oD 8 (.mov (cI 0))])
(.block 0
(.loop
(sq (kr [0,1,7,8] [oB 9 .lss 8 7])
(sq (.cond 9
.skip
(.exit 0))
(sq (.block 1
(sq (.reg [oM 10 8,
oM 5 10])
(sq (kr [0,1,5,7,8] [oM 11 1,
oM 12 0,
oM 13 5,
oI 14 1 12 13,
oL 15 14,
oB 16 .eql 11 15])
(.cond 16
(sq (kr [5] [oM 17 5,
oM 4 17])
.ret)
.skip))))
(kr [0,1,7,8] [oB 18 .add 8 (cI 1),
oM 8 18])))))))
(sq (kr [] [oD 4 (.mov (cI (-1)))])
.ret)))
def k8_:List RD:=[.tmp 4 true none]
theorem Ka_:zm_ Tryz.prog Tryz.f208 Kc_ k8_=true:=by kernel_rfl
def ZH_:List AV->List Obj->Option (Prop × AV)
 | [.imm (.int .u64) l,.int .u64 x],[]=>some ((True,.int .i64 (jA_ (fun y=>decide (x=y)) l 0)))
 | _,_=>none
theorem ku_:zd_ Tryz.prog 208 (RoF ZH_).sum:=by
 refine zi_ Tryz.func208 Ka_ (zc_ _) fun args objs p v e=>?_
 unfold ZH_ at e
 split at e
 ·rename_i l x
  cases e
  refine ⟨rfl,fun hw ho hp=>?_⟩
  change List Int at l
  have hl:l.length<=maxLen:=(hw (.imm (.int .u64) l) (by simp)).2
  unfold maxLen at hl
  clear hw ho
  repeat'(intro t ht;first|(cases t<;>first|(cases ht;done)|(try simp only[zg_]at ht))|((first|refine zb_ ht ?_|refine ht ?_ ?_|refine ht.1 ?_ ?_|refine ht ?_)<;>clear ht))
  all_goals first
   | (intro r h1 h2;clear h1;refine h2 ⟨[0,1,7,8],Nat,(fun i=>i<=l.length/\jA_ (fun y=>decide (x=y)) l 0=jA_ (fun y=>decide (x=y)) (l.drop i) i),fun i=>[.imm (.int .u64) l,.int .u64 x,.int .i64 l.length,.int .i64 i],fun _=>[],fun i=>l.length - i,⟨0,⟨Nat.zero_le _,rfl⟩,rfl,rfl⟩,?_⟩;clear h2)
  rintro i ⟨hi,he⟩
  repeat'(intro t ht;first|(cases t<;>first|(cases ht;done)|(try simp only[zg_]at ht;try(exfalso;first|contradiction|omega)))|((first|refine zb_ ht ?_|refine ht ?_ ?_|refine ht.1 ?_ ?_|refine ht ?_)<;>clear ht))
  all_goals first
   | exact True.intro
   | ((try simp only [zk_,zl_,zj_] at*);omega)
   | (refine ⟨?_,rfl⟩;rw [he,xS_ (by omega)];done)
   | (refine ⟨?_,rfl⟩;rw [he,Yy_ (d:=0) (by omega) (show decide (x=l.getD i 0)=true from decide_eq_true (by assumption))];done)
   | exact ⟨i+1,⟨by omega,he.trans (Yx_ (d:=0) (by omega) (show decide (x=l.getD i 0)=false from decide_eq_false (by assumption)))⟩,by dsimp only;omega,rfl,rfl⟩
 ·cases e
def Q5_:IR:=
(sq (kr [0,1] [oD 4 (.mov cF)])
(sq (kr [0,1] [oM 5 0,
oM 6 1,
oC 7 208 [5,6],
oB 8 .geq 7 (cI 0),
oM 4 8])
.ret))
def QY_:List RD:=[.tmp 4 true none]
theorem Q2_:zm_ Tryz.prog Tryz.f193 Q5_ QY_=true:=by kernel_rfl
def Zz_:List AV->List Obj->Option (Prop × AV)
 | [.imm (.int .u64) l,.int .u64 x],[]=>some ((True,.bool (l.any fun y=>decide (x=y))))
 | _,_=>none
theorem QP_:zd_ Tryz.prog 193 (RoF Zz_).sum:=by
 refine zi_ Tryz.func193 Q2_ (za_ (s:=RoF ZH_) ku_ (zc_ _)) fun args objs p v e=>?_
 unfold Zz_ at e
 split at e
 ·rename_i l x
  cases e
  refine ⟨rfl,fun hw ho hp=>?_⟩
  change List Int at l
  have h:=JB_ (p:=fun y=>decide (x=y)) l 0 (Int.le_refl _)
  repeat'(intro t ht;first|(cases t<;>first|(cases ht;done)|(try simp only[zg_]at ht;try(exfalso;first|contradiction|omega)))|((first|refine zb_ ht ?_|refine ht ?_ ?_|refine ht.1 ?_ ?_|refine ht ?_)<;>clear ht))
  all_goals first
   | exact True.intro
   | exact ⟨congrArg AV.bool h,rfl⟩
 ·cases e
def metV (n:Int) (vals:List Int) (c f:Int) (h:Bool) (v:List Int):Bool:=decide (c=32768) && decide (f=n) && (if vals.length=0 then v.any nzB else decide ((v.length:Int)=kr_ n) && !h && vals.any fun y=>decide (ua_ v=y))
def hB_:IR:=
(sq (kr [0,1] [oD 2 (.boxv 0),
oD 3 (.boxv 1),
oD 4 (.mov cF)])
(sq (sq (kr [2,3] [oA 9 0 2,
oL 10 9,
oB 11 .neq 10 (cI 32768),
oM 12 11,
oF 12 13 (.fieldAddr 1 2),
oF 12 14 (.load none 13),
oF 12 15 (.fieldAddr 3 3),
oF 12 16 (.load none 15),
oF 12 17 (.bin .neq 14 16),
oP 18 12 cT 17])
(.cond 18
(sq (kr [] [oD 4 (.mov cF)])
.ret)
.skip))
(sq (sq (kr [2,3] [oA 19 4 3,
oL 20 19,
oE 21 20,
oB 22 .eql 21 (cI 0)])
(.cond 22
(sq (.reg [oA 23 4 2,
oL 24 23,
oC 25 190 [24,.f 191],
oM 4 25])
.ret)
.skip))
(sq (kr [2,3] [oA 27 3 3,
oL 28 27,
oC 29 170 [28],
oM 26 29,
oX 30 26 0,
oX 31 26 1,
oD 5 (.box [.int .i64 0,.int .i64 0,.kb false,.int .i64 0,.imm (.int .u64) []]),
oS 5 5 30,
oM 6 31])
(sq (kr [2,3,5] [oA 33 4 2,
oL 34 33,
oA 35 1 5,
oL 36 35,
oC 37 192 [34,36],
oM 32 37,
oX 38 32 0,
oX 39 32 1,
oM 7 38,
oM 8 39])
(sq (kr [2,3,7,8] [oM 40 8,
oM 41 40,
oT 41 42 (.fieldAddr 2 2),
oT 41 43 (.load none 42),
oT 41 44 (.un .not 43),
oP 45 41 44 cF,
oM 46 45,
oT 46 47 (.fieldAddr 4 3),
oT 46 48 (.load none 47),
oT 46 49 (.mov 7),
oT 46 50 (.call false (.f 193) [48,49]),
oP 51 46 50 cF,
oM 4 51])
.ret))))))
def Gw_:List RD:=[.tmp 4 true none]
theorem G2_:zm_ Tryz.prog Tryz.f176 hB_ Gw_=true:=by kernel_rfl
def w1_:List AV->List Obj->Option (Prop × AV)
 | [.agg [.int .i64 c,.int .i64 f,.bool h,.int .u64 x,.imm (.int .u8) v,.imm (.int .u8) m],.agg [.int .i64 bits,.int .i64 size,.bool mk,.int .i64 nd,.imm (.int .u64) vals]],[]=>some ((True,.bool (metV nd vals c f h v)))
 | _,_=>none
theorem uY_:zd_ Tryz.prog 176 (RoF w1_).sum:=by
 refine zi_ Tryz.func176 G2_ (za_ (s:=RoF ZA_) QQ_ (za_ (s:=RoF qV_) kw_ (za_ (s:=RoF ju_) J4_ (za_ (s:=RoF j9_) VE_ (za_ (s:=RoF Zz_) QP_ (zc_ _)))))) fun args objs p v e=>?_
 unfold w1_ at e
 split at e
 ·rename_i c f h x v m bits size mk nd vals
  cases e
  refine ⟨rfl,fun hw ho hp=>?_⟩
  change List Int at v
  change List Int at m
  change List Int at vals
  clear hw ho
  by_cases h1:c=32768/\f=nd
  ·obtain ⟨rfl,rfl⟩:=h1
   have e:metV f vals 32768 f h v=if vals.length=0 then v.any nzB else decide ((v.length:Int)=kr_ f) && !h && vals.any fun y=>decide (ua_ v=y):=by unfold metV;simp
   rw [e]
   cases h<;>by_cases h2:vals.length=0<;>by_cases h3:(v.length:Int)=kr_ f
   all_goals repeat'(intro t ht;first|(cases t<;>first|(cases ht;done)|(try simp only[zg_]at ht;try(exfalso;first|contradiction|omega)))|((first|refine zb_ ht ?_|refine ht ?_ ?_|refine ht.1 ?_ ?_|refine ht ?_)<;>clear ht))
   all_goals first
    | exact True.intro
    | (refine ⟨congrArg AV.bool ?_,rfl⟩;simp_all;done)
    | (exfalso;simp_all;done)
  ·have e:metV nd vals c f h v=false:=by unfold metV;by_cases h2:c=32768<;>by_cases h3:f=nd<;>simp_all
   rw [e]
   cases h<;>by_cases h2:c=32768<;>by_cases h3:f=nd
   all_goals repeat'(intro t ht;first|(cases t<;>first|(cases ht;done)|(try simp only[zg_]at ht;try(exfalso;first|contradiction|omega)))|((first|refine zb_ ht ?_|refine ht ?_ ?_|refine ht.1 ?_ ?_|refine ht ?_)<;>clear ht))
   all_goals first
    | exact True.intro
    | exact ⟨rfl,rfl⟩
    | (exfalso;omega)
    | (exfalso;simp_all;done)
 ·cases e
def hC_:IR:=
(sq (kr [0,1] [oD 2 (.boxv 0),
oD 3 (.mov cF)])
(sq (.reg [oK 4 6 2,
oK 5 5 1,
oC 6 176 [4,5],
oM 3 6])
.ret))
def Gx_:List RD:=[.tmp 3 true none]
theorem G3_:zm_ Tryz.prog Tryz.f175 hC_ Gx_=true:=by kernel_rfl
def KN_:List AV->List Obj->Option (Prop × AV)
 | [.agg [.int .i64 c,.int .i64 f,.bool h,.int .u64 x,.imm (.int .u8) v,.imm (.int .u8) m],.ptr 0 0],[.box [.int .i64 bits,.int .i64 size,.bool mk,.int .i64 nd,.imm (.int .u64) vals]]=>some ((True,.bool (metV nd vals c f h v)))
 | _,_=>none
theorem xb_:zd_ Tryz.prog 175 (RoF KN_).sum:=by
 refine zi_ Tryz.func175 G3_ (za_ (s:=RoF w1_) uY_ (zc_ _)) fun args objs p v e=>?_
 unfold KN_ at e
 split at e
 ·rename_i c f h x v m bits size mk nd vals
  cases e
  refine ⟨rfl,fun hw ho hp=>?_⟩
  change List Int at v
  change List Int at m
  change List Int at vals
  clear hw ho
  repeat'(intro t ht;first|(cases t<;>first|(cases ht;done)|(try simp only[zg_]at ht;try(exfalso;first|contradiction|omega)))|((first|refine zb_ ht ?_|refine ht ?_ ?_|refine ht.1 ?_ ?_|refine ht ?_)<;>clear ht))
  all_goals first
   | exact True.intro
   | exact ⟨rfl,rfl⟩
 ·cases e
def ue_:IR:=
(sq (kr [0,1] [oD 2 (.boxv 0),
oD 3 (.mov cF)])
(sq (.reg [oK 4 6 2,
oK 5 6 1,
oC 6 150 [4,5],
oM 3 6])
.ret))
def VO_:List RD:=[.tmp 3 true none]
theorem V0_:zm_ Tryz.prog Tryz.f149 ue_ VO_=true:=by kernel_rfl
def kb_:List AV->List Obj->Option (Prop × AV)
 | [.agg [.int .i64 c,.int .i64 f,.bool h,.int .u64 x,.imm (.int .u8) v,.imm (.int .u8) m],.ptr 0 0],[.box [.int .i64 c',.int .i64 f',.bool h',.int .u64 x',.imm (.int .u8) v',.imm (.int .u8) m']]=>some ((True,.bool (decide (c=c') && decide (f=f') && decide (x=x'))))
 | _,_=>none
theorem Ji_:zd_ Tryz.prog 149 (RoF kb_).sum:=by
 refine zi_ Tryz.func149 V0_ (za_ (s:=RoF jU_) X0_ (zc_ _)) fun args objs p v e=>?_
 unfold kb_ at e
 split at e
 ·rename_i c f h x v m c' f' h' x' v' m'
  cases e
  refine ⟨rfl,fun hw ho hp=>?_⟩
  change List Int at v
  change List Int at m
  change List Int at v'
  change List Int at m'
  clear hw ho
  repeat'(intro t ht;first|(cases t<;>first|(cases ht;done)|(try simp only[zg_]at ht;try(exfalso;first|contradiction|omega)))|((first|refine zb_ ht ?_|refine ht ?_ ?_|refine ht.1 ?_ ?_|refine ht ?_)<;>clear ht))
  all_goals first
   | exact True.intro
   | exact ⟨rfl,rfl⟩
 ·cases e
def rgO (o:OV):Bool:=zS_ o.1 o.2.1 o.2.2.1 o.2.2.2.1 o.2.2.2.2.1 o.2.2.2.2.2.1
def szO (o:OV):Int:=Qc_ o.1 o.2.1 o.2.2.1 o.2.2.2.1 o.2.2.2.2.1 o.2.2.2.2.2.1
def ecO (o:OV):List Int:=Qg_ o.1 o.2.1 o.2.2.1 o.2.2.2.1 o.2.2.2.2.1 o.2.2.2.2.2.1
def alO (x o:OV):Bool:=decide (x.1=o.1) && decide (x.2.1=o.2.1) && decide (x.2.2.2.1=o.2.2.2.1)
theorem zk5_ {x o:OV} (h:(¬ x.1=o.1\/¬ x.2.1=o.2.1)\/¬ x.2.2.2.1=o.2.2.2.1):alO x o=false:=by
 unfold alO
 rcases h with (h | h) | h<;>simp [h]
theorem zk4_ {x o:OV} (h:(x.1=o.1/\x.2.1=o.2.1)/\x.2.2.2.1=o.2.2.2.1):alO x o=true:=by
 unfold alO;rw [h.1.1,h.1.2,h.2];simp
def mtO (n:Int) (vals:List Int) (o:OV):Bool:=metV n vals o.1 o.2.1 o.2.2.1 o.2.2.2.2.1
def lenO (o:OV):Prop:=o.2.2.2.2.1.length<=100000/\o.2.2.2.2.2.1.length<=100000
theorem lenM {o:OV} (h:lenO o):o.2.2.2.2.1.length<=1000000/\o.2.2.2.2.2.1.length<=1000000:=⟨Nat.le_trans h.1 (by decide),Nat.le_trans h.2 (by decide)⟩
structure allLen (l:List OV):Prop where
 h:∀ o ∈ l,lenO o
def vs_:IR:=
(sq (kr [0] [oD 1 (.boxv 0),
oD 2 (.mov cF)])
(sq (.reg [oK 3 6 1,
oC 4 118 [3],
oD 5 (.un .not 4),
oM 2 5])
.ret))
def Y7_:List RD:=[.tmp 2 true none]
theorem vh_:zm_ Tryz.prog Tryz.f117 vs_ Y7_=true:=by kernel_rfl
def QA_:List AV->List Obj->Option (Prop × AV)
 | [.agg [.int .i64 c,.int .i64 f,.bool h,.int .u64 x,.imm (.int .u8) v,.imm (.int .u8) m]],[]=>some ((v.length<=1000000/\m.length<=1000000,.bool (!zS_ c f h x v m)))
 | _,_=>none
theorem jE_:zd_ Tryz.prog 117 (RoF QA_).sum:=by
 refine zi_ Tryz.func117 vh_ (za_ (s:=RoF QK_) kR_ (zc_ _)) fun args objs p v e=>?_
 unfold QA_ at e
 split at e
 ·rename_i c f h x v m
  cases e
  refine ⟨rfl,fun hw ho hp=>?_⟩
  change List Int at v
  change List Int at m
  clear hw ho
  repeat'(intro t ht;first|(cases t<;>first|(cases ht;done)|(try simp only[zg_]at ht;try(exfalso;first|contradiction|omega)))|((first|refine zb_ ht ?_|refine ht ?_ ?_|refine ht.1 ?_ ?_|refine ht ?_)<;>clear ht))
  all_goals first
   | exact True.intro
   | exact hp
   | exact ⟨rfl,rfl⟩
 ·cases e
def Qu_:IR:=
(sq (kr [0,1] [oD 4 (.mov (cI 0))])
(sq (sq (.reg [oM 6 0,
oE 7 6,
oD 8 (.mov (cI 0))])
(.block 0
(.loop
(sq (kr [0,1,7,8] [oB 9 .lss 8 7])
(sq (.cond 9
.skip
(.exit 0))
(sq (.block 1
(sq (.reg [oM 10 8,
oM 5 10])
(sq (kr [0,1,5,7,8] [oM 11 1,
oM 12 0,
oM 13 5,
oI 14 6 12 13,
oK 15 6 14,
oD 16 (.call false 11 [15])])
(.cond 16
(sq (kr [5] [oM 17 5,
oM 4 17])
.ret)
.skip))))
(kr [0,1,7,8] [oB 18 .add 8 (cI 1),
oM 8 18])))))))
(sq (kr [] [oD 4 (.mov (cI (-1)))])
.ret)))
def Qq_:List RD:=[.tmp 4 true none]
theorem Qs_:zm_ Tryz.prog Tryz.f146 Qu_ Qq_=true:=by kernel_rfl
def Zi_:List AV->List Obj->Option (Prop × AV)
 | [.imm (.cons (.int .i64) (.cons (.int .i64) (.cons .bool (.cons (.int .u64) (.cons (.sl (.int .u8)) (.cons (.sl (.int .u8)) .nil)))))) l,.fn 175 [] [.ptr 0 0]],[.box [.int .i64 bits,.int .i64 size,.bool mk,.int .i64 nd,.imm (.int .u64) vals]]=>some ((True,.int .i64 (jA_ (α:=OV) (mtO nd vals) l 0)))
 | [.imm (.cons (.int .i64) (.cons (.int .i64) (.cons .bool (.cons (.int .u64) (.cons (.sl (.int .u8)) (.cons (.sl (.int .u8)) .nil)))))) l,.fn 149 [] [.ptr 0 0]],[.box [.int .i64 c',.int .i64 f',.bool h',.int .u64 x',.imm (.int .u8) v',.imm (.int .u8) m']]=>some ((True,.int .i64 (jA_ (α:=OV) (fun x=>alO x (c',f',h',x',v',m',())) l 0)))
 | [.imm (.cons (.int .i64) (.cons (.int .i64) (.cons .bool (.cons (.int .u64) (.cons (.sl (.int .u8)) (.cons (.sl (.int .u8)) .nil)))))) l,.fn 117 [] []],[]=>some ((allLen l,.int .i64 (jA_ (α:=OV) (fun o=>!rgO o) l 0)))
 | _,_=>none
theorem Qf_:zd_ Tryz.prog 146 (RoF Zi_).sum:=by
 refine zi_ Tryz.func146 Qs_ (za_ (s:=RoF QA_) jE_ (za_ (s:=RoF kb_) Ji_ (za_ (s:=RoF KN_) xb_ (zc_ _)))) fun args objs p v e=>?_
 unfold Zi_ at e
 split at e
 ·rename_i l bits size mk nd vals
  cases e
  refine ⟨rfl,fun hw ho hp=>?_⟩
  change List Int at vals
  change List OV at l
  have hl:l.length<=maxLen:=(hw (.imm Y1 l) (by simp)).2
  unfold maxLen at hl
  clear hw ho
  repeat'(intro t ht;first|(cases t<;>first|(cases ht;done)|(try simp only[zg_]at ht))|((first|refine zb_ ht ?_|refine ht ?_ ?_|refine ht.1 ?_ ?_|refine ht ?_)<;>clear ht))
  all_goals first
   | (intro r h1 h2;clear h1;refine h2 ⟨[0,1,7,8],Nat,(fun i=>i<=l.length/\jA_ (mtO nd vals) l 0=jA_ (mtO nd vals) (l.drop i) i),fun i=>[.imm Y1 l,.fn 175 [] [.ptr 0 0],.int .i64 l.length,.int .i64 i],fun _=>[.box [.int .i64 bits,.int .i64 size,.bool mk,.int .i64 nd,.imm (.int .u64) vals]],fun i=>l.length - i,⟨0,⟨Nat.zero_le _,rfl⟩,rfl,rfl⟩,?_⟩;clear h2)
  rintro i ⟨hi,he⟩
  repeat'(intro t ht;first|(cases t<;>first|(cases ht;done)|(try simp only[zg_]at ht;try(exfalso;first|contradiction|omega)))|((first|refine zb_ ht ?_|refine ht ?_ ?_|refine ht.1 ?_ ?_|refine ht ?_)<;>clear ht))
  all_goals (try generalize (Ty.dflt Y1)=od at*)
  all_goals first
   | exact True.intro
   | ((try simp only [zk_,zl_,zj_] at*);omega)
   | (refine ⟨?_,rfl⟩;rw [he,xS_ (by omega)];done)
   | (refine ⟨?_,rfl⟩;rw [he,Yy_ (d:=od) (by omega) (by assumption)];done)
   | exact ⟨i+1,⟨by omega,he.trans (Yx_ (d:=od) (by omega) (by assumption))⟩,by dsimp only;omega,rfl,rfl⟩
 ·rename_i l c' f' h' x' v' m'
  cases e
  refine ⟨rfl,fun hw ho hp=>?_⟩
  change List Int at v'
  change List Int at m'
  change List OV at l
  have hl:l.length<=maxLen:=(hw (.imm Y1 l) (by simp)).2
  unfold maxLen at hl
  clear hw ho
  repeat'(intro t ht;first|(cases t<;>first|(cases ht;done)|(try simp only[zg_]at ht))|((first|refine zb_ ht ?_|refine ht ?_ ?_|refine ht.1 ?_ ?_|refine ht ?_)<;>clear ht))
  all_goals first
   | (intro r h1 h2;clear h1;refine h2 ⟨[0,1,7,8],Nat,(fun i=>i<=l.length/\jA_ (fun x=>alO x (c',f',h',x',v',m',())) l 0=jA_ (fun x=>alO x (c',f',h',x',v',m',())) (l.drop i) i),fun i=>[.imm Y1 l,.fn 149 [] [.ptr 0 0],.int .i64 l.length,.int .i64 i],fun _=>[.box [.int .i64 c',.int .i64 f',.bool h',.int .u64 x',.imm (.int .u8) v',.imm (.int .u8) m']],fun i=>l.length - i,⟨0,⟨Nat.zero_le _,rfl⟩,rfl,rfl⟩,?_⟩;clear h2)
  rintro i ⟨hi,he⟩
  repeat'(intro t ht;first|(cases t<;>first|(cases ht;done)|(try simp only[zg_]at ht;try(exfalso;first|contradiction|omega)))|((first|refine zb_ ht ?_|refine ht ?_ ?_|refine ht.1 ?_ ?_|refine ht ?_)<;>clear ht))
  all_goals (try generalize (Ty.dflt Y1)=od at*)
  all_goals first
   | exact True.intro
   | ((try simp only [zk_,zl_,zj_] at*);omega)
   | (refine ⟨?_,rfl⟩;rw [he,xS_ (by omega)];done)
   | (refine ⟨?_,rfl⟩;rw [he,Yy_ (p:=fun x=>alO x (c',f',h',x',v',m',())) (d:=od) (by omega) (zk4_ ht)];done)
   | exact ⟨i+1,⟨by omega,he.trans (Yx_ (p:=fun x=>alO x (c',f',h',x',v',m',())) (d:=od) (by omega) (zk5_ ht))⟩,by dsimp only;omega,rfl,rfl⟩
 ·rename_i l
  cases e
  refine ⟨rfl,fun hw ho hp=>?_⟩
  change List OV at l
  have hl:l.length<=maxLen:=(hw (.imm Y1 l) (by simp)).2
  unfold maxLen at hl
  clear hw ho
  repeat'(intro t ht;first|(cases t<;>first|(cases ht;done)|(try simp only[zg_]at ht))|((first|refine zb_ ht ?_|refine ht ?_ ?_|refine ht.1 ?_ ?_|refine ht ?_)<;>clear ht))
  all_goals first
   | (intro r h1 h2;clear h1;refine h2 ⟨[0,1,7,8],Nat,(fun i=>i<=l.length/\jA_ (fun o=>!rgO o) l 0=jA_ (fun o=>!rgO o) (l.drop i) i),fun i=>[.imm Y1 l,.fn 117 [] [],.int .i64 l.length,.int .i64 i],fun _=>[],fun i=>l.length - i,⟨0,⟨Nat.zero_le _,rfl⟩,rfl,rfl⟩,?_⟩;clear h2)
  rintro i ⟨hi,he⟩
  repeat'(intro t ht;first|(cases t<;>first|(cases ht;done)|(try simp only[zg_]at ht;try(exfalso;first|contradiction|omega)))|((first|refine zb_ ht ?_|refine ht ?_ ?_|refine ht.1 ?_ ?_|refine ht ?_)<;>clear ht))
  all_goals (try generalize (Ty.dflt Y1)=od at*)
  all_goals first
   | exact True.intro
   | ((try simp only [zk_,zl_,zj_] at*);omega)
   | exact lenM (hp.h _ (zL_ (by omega) od))
   | (refine ⟨?_,rfl⟩;rw [he,xS_ (by omega)];done)
   | (refine ⟨?_,rfl⟩;rw [he,Yy_ (p:=fun o=>!rgO o) (d:=od) (by omega) (by (try dsimp only);unfold rgO;rw [ht];rfl)];done)
   | exact ⟨i+1,⟨by omega,he.trans (Yx_ (p:=fun o=>!rgO o) (d:=od) (by omega) (by (try dsimp only);unfold rgO;rw [ht];rfl))⟩,by dsimp only;omega,rfl,rfl⟩
 ·cases e
def qT_:IR:=
(sq (kr [0,1] [oD 4 (.mov cF)])
(sq (kr [0,1] [oM 5 0,
oM 6 1,
oC 7 146 [5,6],
oB 8 .geq 7 (cI 0),
oM 4 8])
.ret))
def qP_:List RD:=[.tmp 4 true none]
theorem qS_:zm_ Tryz.prog Tryz.f116 qT_ qP_=true:=by kernel_rfl
def zC_:List AV->List Obj->Option (Prop × AV)
 | [.imm (.cons (.int .i64) (.cons (.int .i64) (.cons .bool (.cons (.int .u64) (.cons (.sl (.int .u8)) (.cons (.sl (.int .u8)) .nil)))))) l,.fn 175 [] [.ptr 0 0]],[.box [.int .i64 bits,.int .i64 size,.bool mk,.int .i64 nd,.imm (.int .u64) vals]]=>some ((True,.bool ((l:List OV).any (mtO nd vals))))
 | [.imm (.cons (.int .i64) (.cons (.int .i64) (.cons .bool (.cons (.int .u64) (.cons (.sl (.int .u8)) (.cons (.sl (.int .u8)) .nil)))))) l,.fn 149 [] [.ptr 0 0]],[.box [.int .i64 c',.int .i64 f',.bool h',.int .u64 x',.imm (.int .u8) v',.imm (.int .u8) m']]=>some ((True,.bool ((l:List OV).any (fun x=>alO x (c',f',h',x',v',m',())))))
 | [.imm (.cons (.int .i64) (.cons (.int .i64) (.cons .bool (.cons (.int .u64) (.cons (.sl (.int .u8)) (.cons (.sl (.int .u8)) .nil)))))) l,.fn 117 [] []],[]=>some ((allLen l,.bool ((l:List OV).any (fun o=>!rgO o))))
 | _,_=>none
theorem z3_:zd_ Tryz.prog 116 (RoF zC_).sum:=by
 refine zi_ Tryz.func116 qS_ (za_ (s:=RoF Zi_) Qf_ (zc_ _)) fun args objs p v e=>?_
 unfold zC_ at e
 split at e
 ·rename_i l bits size mk nd vals
  cases e
  refine ⟨rfl,fun hw ho hp=>?_⟩
  change List Int at vals
  have h:=JB_ (p:=mtO nd vals) l 0 (Int.le_refl _)
  repeat'(intro t ht;first|(cases t<;>first|(cases ht;done)|(try simp only[zg_]at ht;try(exfalso;first|contradiction|omega)))|((first|refine zb_ ht ?_|refine ht ?_ ?_|refine ht.1 ?_ ?_|refine ht ?_)<;>clear ht))
  all_goals first
   | exact True.intro
   | exact ⟨congrArg AV.bool h,rfl⟩
 ·rename_i l c' f' h' x' v' m'
  cases e
  refine ⟨rfl,fun hw ho hp=>?_⟩
  change List Int at v'
  change List Int at m'
  have h:=JB_ (p:=fun x=>alO x (c',f',h',x',v',m',())) l 0 (Int.le_refl _)
  repeat'(intro t ht;first|(cases t<;>first|(cases ht;done)|(try simp only[zg_]at ht;try(exfalso;first|contradiction|omega)))|((first|refine zb_ ht ?_|refine ht ?_ ?_|refine ht.1 ?_ ?_|refine ht ?_)<;>clear ht))
  all_goals first
   | exact True.intro
   | exact ⟨congrArg AV.bool h,rfl⟩
 ·rename_i l
  cases e
  refine ⟨rfl,fun hw ho hp=>?_⟩
  have h:=JB_ (p:=fun o=>!rgO o) l 0 (Int.le_refl _)
  repeat'(intro t ht;first|(cases t<;>first|(cases ht;done)|(try simp only[zg_]at ht;try(exfalso;first|contradiction|omega)))|((first|refine zb_ ht ?_|refine ht ?_ ?_|refine ht.1 ?_ ?_|refine ht ?_)<;>clear ht))
  all_goals first
   | exact True.intro
   | exact hp
   | exact ⟨congrArg AV.bool h,rfl⟩
 ·cases e
theorem zk2_ {l:List Int} (h:4<=l.length):∃ a b c d r,l=a :: b :: c :: d :: r:=by
 obtain _ | ⟨a0,_ | ⟨a1,_ | ⟨a2,_ | ⟨a3,r⟩⟩⟩⟩:=l
 all_goals first | exact ⟨_,_,_,_,_,rfl⟩ | (simp at h;done)
theorem at2 (n:Int):ze_ n 2=[n.fdiv 256 % 256,n % 256]:=by
 have e:ze_ n 2=[(n.fdiv (2 ^ 8)) % 256,(n.fdiv (2 ^ 0)) % 256]:=rfl
 rw [e,show (2:Int) ^ 8=256 from rfl,Int.pow_zero,Int.fdiv_one]
theorem at4 (n:Int):ze_ n 4=[n.fdiv 16777216 % 256,n.fdiv 65536 % 256,n.fdiv 256 % 256,n % 256]:=by
 have e:ze_ n 4=[(n.fdiv (2 ^ 24)) % 256,(n.fdiv (2 ^ 16)) % 256,(n.fdiv (2 ^ 8)) % 256,(n.fdiv (2 ^ 0)) % 256]:=rfl
 rw [e,show (2:Int) ^ 8=256 from rfl,show (2:Int) ^ 16=65536 from rfl,show (2:Int) ^ 24=16777216 from rfl,Int.pow_zero,Int.fdiv_one]
theorem num2 {n:Int} (h:0<=n/\n<=65535):Zd_ (ze_ n 2)=n:=by
 rw [at2,Int.fdiv_eq_ediv_of_nonneg _ (by decide)]
 show (0*256+n / 256 % 256)*256+n % 256=n
 omega
theorem zmJ_ {n:Int} (h:0<=n/\n<=4294967295):Zd_ (ze_ n 4)=n:=by
 rw [at4,Int.fdiv_eq_ediv_of_nonneg _ (by decide),Int.fdiv_eq_ediv_of_nonneg _ (by decide),Int.fdiv_eq_ediv_of_nonneg _ (by decide)]
 show (((0*256+n / 16777216 % 256)*256+n / 65536 % 256)*256+n / 256 % 256)*256+n % 256=n
 omega
theorem zm7_ {a b:Int} (ha:0<=a/\a<=255) (hb:0<=b/\b<=255):ze_ (Zd_ [a,b]) 2=[a,b]:=by
 have e:Zd_ [a,b]=a*256+b:=by show (0*256+a)*256+b=_;omega
 rw [e,at2,Int.fdiv_eq_ediv_of_nonneg _ (by decide),show (a*256+b) / 256 % 256=a by omega,show (a*256+b) % 256=b by omega]
theorem zm6_ {a b c d:Int} (ha:0<=a/\a<=255) (hb:0<=b/\b<=255) (hc:0<=c/\c<=255) (hd:0<=d/\d<=255):ze_ (Zd_ [a,b,c,d]) 4=[a,b,c,d]:=by
 have e:Zd_ [a,b,c,d]=((a*256+b)*256+c)*256+d:=by show (((0*256+a)*256+b)*256+c)*256+d=_;omega
 rw [e,at4,Int.fdiv_eq_ediv_of_nonneg _ (by decide),Int.fdiv_eq_ediv_of_nonneg _ (by decide),Int.fdiv_eq_ediv_of_nonneg _ (by decide),
  show (((a*256+b)*256+c)*256+d) / 16777216 % 256=a by omega,show (((a*256+b)*256+c)*256+d) / 65536 % 256=b by omega,
  show (((a*256+b)*256+c)*256+d) / 256 % 256=c by omega,show (((a*256+b)*256+c)*256+d) % 256=d by omega]
def hI (h:Bool):Int:=if h=true then 1 else 0
theorem zkb_ {c f:Int} {h:Bool} {x:Int} {v m:List Int} (hr:zS_ c f h x v m=true) (hx:0<=x) (L:List Int) (h0:L.take 4=(Qg_ c f h x v m).take 4):zu_ L=c/\zz_ L=f/\z5_ L=h/\L.getD 3 0=Zk_ c v m:=by
 obtain ⟨n1,n2,n3,n4,n5,n6,n7,n8⟩:=qg_ hr
 have hc:0<=c/\c<=65535:=by omega
 have e1:(Qg_ c f h x v m).take 4=[c.fdiv 256 % 256,c % 256,2*f+(if h=true then 1 else 0),Zk_ c v m]:=by
  unfold Qg_;rw [at2,<- n8];rfl
 rw [e1] at h0
 have e2:L.take 2=ze_ c 2:=by
  rw [at2,show L.take 2=(L.take 4).take 2 by rw [List.take_take];rfl,h0];rfl
 have e3:∀ k < 4,L.getD k 0=(L.take 4).getD k 0:=fun k hk=>(YU_ hk).symm
 have g2:L.getD 2 0=2*f+(if h=true then 1 else 0):=by rw [e3 2 (by decide),h0];rfl
 have g3:L.getD 3 0=Zk_ c v m:=by rw [e3 3 (by decide),h0];rfl
 refine ⟨?_,?_,?_,g3⟩
 ·unfold zu_;rw [e2,num2 hc]
 ·unfold zz_;rw [g2,ZK_ (by split<;>omega)];split<;>omega
 ·unfold z5_;rw [g2,QU_ (by split<;>omega)]
  cases h with
  | true=>exact decide_eq_true (by simp only [if_true];omega)
  | false=>exact decide_eq_false (by simp only [Bool.false_eq_true,if_false];omega)
theorem zlN_ {c f:Int} {h:Bool} {x:Int} {v m:List Int} (hr:zS_ c f h x v m=true) {L:List Int} (hC:zu_ L=c) (hF:zz_ L=f) (hH:z5_ L=h) (h3:L.getD 3 0=Zk_ c v m):zM_ L=v.length/\Qj_ L=true:=by
 obtain ⟨n1,n2,n3,n4,n5,n6,n7,n8⟩:=qg_ hr
 obtain ⟨r1,r2,r3,r4,r5,r6,r7,r8⟩:=Jr_ hr
 unfold zM_ Qj_
 rw [hC,hF,hH,h3]
 rcases n3 with hc | hc
 ·have he:Zc_ c=true:=decide_eq_true hc
  have hz:qb_ c f=100:=if_pos hc
  have hre:Zk_ c v m=v.length+m.length+4:=if_pos hc
  unfold Yr_ xI_
  rw [he,hz,hre,if_pos rfl,if_pos rfl]
  cases h with
  | true=>
    have:=r2 rfl
    simp only [if_true,Bool.and_eq_true,decide_eq_true_eq]
    rw [ZK_ (by omega),QU_ (by omega)];omega
  | false=>
    have:=r3 rfl
    simp only [Bool.false_eq_true,if_false,Bool.and_eq_true,decide_eq_true_eq]
    rw [ZK_ (by omega),QU_ (by omega)];omega
 ·have he:Zc_ c=false:=decide_eq_false (by omega)
  have hz:qb_ c f=kr_ f:=if_neg (by omega)
  have hre:Zk_ c v m=v.length+m.length:=if_neg (by omega)
  have hv:(v.length:Int)=kr_ f:=by
   have hfit:Kw_ f v=true:=by
    cases hh:Kw_ f v with
    | true=>rfl
    | false=>
      rw [he] at r8
      unfold QT_ at r8;rw [if_pos ⟨rfl,hh⟩] at r8;exact absurd r8 (by decide)
   unfold Kw_ at hfit
   split at hfit
   ·rename_i hh
    have hi:fIs f=true:=qc_.2 hh.1
    rw [hh.2];unfold kr_;rw [hi];rfl
   ·cases hfit
  unfold Yr_ xI_
  rw [he,hz,hre]
  cases h with
  | true=>
    have:=r2 rfl
    simp only [Bool.false_eq_true,if_false,if_true,decide_eq_true_eq];omega
  | false=>
    have:=r3 rfl
    simp only [Bool.false_eq_true,if_false,decide_eq_true_eq];omega
theorem mid {p v r:List Int} {A S:Int} (hA:A=p.length) (hS:S=v.length):((p++(v++r)).take (A+S).toNat).drop A.toNat=v:=by
 subst hA hS
 rw [show ((p.length:Int)+v.length).toNat=p.length+v.length by omega,Int.toNat_natCast,<- List.append_assoc,<- List.length_append,List.take_left,List.drop_left]
theorem zfU_ {c f:Int} {h:Bool} {x:Int} {v m b:List Int} (hr:zS_ c f h x v m=true) (hx:0<=x):zK_ (Qg_ c f h x v m++b)=0/\zu_ (Qg_ c f h x v m++b)=c/\zz_ (Qg_ c f h x v m++b)=f/\z5_ (Qg_ c f h x v m++b)=h/\qf_ (Qg_ c f h x v m++b)=x/\Zp_ (Qg_ c f h x v m++b)=v/\Zq_ (Qg_ c f h x v m++b)=m/\z9_ (Qg_ c f h x v m++b)=(Qg_ c f h x v m).length:=by
 obtain ⟨n1,n2,n3,n4,n5,n6,n7,n8⟩:=qg_ hr
 obtain ⟨r1,r2,r3,r4,r5,r6,r7,r8⟩:=Jr_ hr
 have hl2:=zn_ (n:=c) (w:=2) (by decide)
 have hl4:=zn_ (n:=x) (w:=4) (by decide)
 have hlen:((Qg_ c f h x v m).length:Int)=4+Zk_ c v m:=by
  rw [n8];unfold Qg_;simp only [List.length_append,List.length_cons,List.length_nil];omega
 obtain ⟨L,hL⟩:∃ L,L=Qg_ c f h x v m++b:=⟨_,rfl⟩
 have hLl:(L.length:Int)=4+Zk_ c v m+b.length:=by rw [hL,List.length_append];omega
 have ht:L.take 4=(Qg_ c f h x v m).take 4:=by rw [hL,List.take_append_of_le_length (by omega)]
 obtain ⟨hC,hF,hH,h3⟩:=zkb_ hr hx L ht
 obtain ⟨hS,hK⟩:=zlN_ hr hC hF hH h3
 rw [<- hL]
 have hsplit:L=(ze_ c 2++[2*f+(if h=true then 1 else 0),((x4_ c x v m).length:Int)]++(if c=65535 then ze_ x 4 else []))++(v++(m++b)):=by
  rw [hL];unfold Qg_;rw [show x4_ c x v m=(if c=65535 then ze_ x 4 else [])++v++m from rfl];simp only [List.append_assoc]
 obtain ⟨p,hp⟩:∃ p,p=ze_ c 2++[2*f+(if h=true then 1 else 0),((x4_ c x v m).length:Int)]++(if c=65535 then ze_ x 4 else []):=⟨_,rfl⟩
 rw [<- hp] at hsplit
 have hA:kB_ L=p.length:=by
  unfold kB_;rw [hC,hp]
  split
  ·simp only [List.length_append,List.length_cons,List.length_nil];omega
  ·simp only [List.length_append,List.length_cons,List.length_nil];omega
 have hX:qf_ L=x:=by
  unfold qf_;rw [hC]
  by_cases hc:c=65535
  ·rw [if_pos hc]
   have hx4:x<=4294967295:=by have:=(zu x hx).1 r7;omega
   have e:(L.drop 4).take 4=ze_ x 4:=by
    rw [hsplit,hp,if_pos hc,at2,at4];rfl
   rw [e,zmJ_ ⟨hx,hx4⟩]
  ·rw [if_neg hc]
   have he:Zc_ c=false:=decide_eq_false hc
   rw [he] at r6
   exact (r6.resolve_left (by decide)).symm
 have hV:Zp_ L=v:=by
  unfold Zp_;rw [hA,hS];rw [hsplit];exact mid rfl rfl
 have hM:Zq_ L=m:=by
  unfold Zq_
  cases h with
  | true=>
    rw [hH,if_pos rfl,hA,hS,hsplit,<- List.append_assoc]
    have:=r2 rfl
    exact mid (p:=p++v) (r:=b) (by rw [List.length_append];omega) (by omega)
  | false=>
    rw [hH]
    exact (List.eq_nil_of_length_eq_zero (r3 rfl)).symm
 have hN:z9_ L=(Qg_ c f h x v m).length:=by
  unfold z9_;rw [hH,hS]
  have hre:Zk_ c v m=(if c=65535 then 4 else 0)+v.length+m.length:=by unfold Zk_;split<;>omega
  rw [hlen,hre]
  unfold kB_;rw [hC]
  cases h with
  | true=>have:=r2 rfl;simp only [if_true];split<;>omega
  | false=>have:=r3 rfl;simp only [Bool.false_eq_true,if_false];split<;>omega
 refine ⟨?_,hC,hF,hH,hX,hV,hM,hN⟩
 rw [JD_ (by omega) (by rw [hC,hF];exact r4) (fun hh=>by rw [hC,hF];exact r5 (hH.symm.trans hh)) hK (by rw [h3];omega),hC,hF,hH,hV,hM]
 exact r8
theorem zac_ {b:List Int} (hb:∀ x ∈ b,0<=x/\x<=255) (h0:zK_ b=0):zS_ (zu_ b) (zz_ b) (z5_ b) (qf_ b) (Zp_ b) (Zq_ b)=true/\Qg_ (zu_ b) (zz_ b) (z5_ b) (qf_ b) (Zp_ b) (Zq_ b)=b.take (z9_ b).toNat/\0<=z9_ b/\z9_ b<=b.length:=by
 have hq:=JJ_ hb 2
 have hn:=JJ_ hb 3
 have hof:=Hj_ (zu_ b) (zz_ b)
 unfold zK_ at h0
 by_cases h4:b.length < 4
 ·rw [if_pos h4] at h0;exact absurd h0 (by decide)
 rw [if_neg h4] at h0
 by_cases hok:QB_ (zu_ b) (zz_ b)=false
 ·rw [if_pos hok] at h0;exact absurd h0 (by decide)
 rw [if_neg hok] at h0
 by_cases hmk:z5_ b=true/\ZS_ (zu_ b) (zz_ b)=false
 ·rw [if_pos hmk] at h0;exact absurd h0 (by decide)
 rw [if_neg hmk] at h0
 by_cases hkl:Qj_ b=false\/(b.length:Int) - 4 < b.getD 3 0
 ·rw [if_pos hkl] at h0;exact absurd h0 (by decide)
 rw [if_neg hkl] at h0
 have hK:Qj_ b=true:=by cases hk:Qj_ b with | true=>rfl | false=>exact absurd (.inl hk) hkl
 have hlen:4+b.getD 3 0<=(b.length:Int):=by
  have:¬ (b.length:Int) - 4 < b.getD 3 0:=fun h=>hkl (.inr h)
  omega
 have hok':QB_ (zu_ b) (zz_ b)=true:=by simpa using hok
 obtain ⟨d1,d2,d3⟩:=zfT_ hn.1 hof.1 hK
 have hcc:zu_ b=65535\/zu_ b=32768:=by
  unfold QB_ at hok'
  split at hok'
  ·left;assumption
  ·right;simp only [Bool.and_eq_true,decide_eq_true_eq] at hok';exact hok'.2
 have hA0:0<=kB_ b:=by unfold kB_;split<;>decide
 have hVl:((Zp_ b).length:Int)=zM_ b:=zR_ hA0 d1 (by unfold z9_ at d2;split at d2<;>omega)
 have hMl:((Zq_ b).length:Int)=if z5_ b=true then zM_ b else 0:=by
  unfold Zq_
  by_cases hh:z5_ b=true
  ·rw [if_pos hh,if_pos hh]
   exact zR_ (by omega) d1 (by unfold z9_ at d2;rw [if_pos hh] at d2;omega)
  ·rw [if_neg hh,if_neg hh];rfl
 have hX:0<=qf_ b/\qf_ b < 4294967296:=by
  unfold qf_
  split
  ·have:=Yo_ ((b.drop 4).take 4) fun y hy=>hb y (List.mem_of_mem_drop (List.mem_of_mem_take hy))
   have h2:∀ k ≤ 4,(256:Int) ^ k<=4294967296:=by decide
   have:=h2 ((b.drop 4).take 4).length (by rw [List.length_take];omega)
   omega
  ·decide
 have hR:zS_ (zu_ b) (zz_ b) (z5_ b) (qf_ b) (Zp_ b) (Zq_ b)=true:=by
  unfold zS_
  rw [hok',(zu _ hX.1).2 hX.2,h0,decide_eq_true (show ((Zp_ b).length:Int)<=qb_ (zu_ b) (zz_ b) by omega)]
  have hx0:(Zc_ (zu_ b) || decide (qf_ b=0))=true:=by
   rcases hcc with hc | hc
   ·rw [show Zc_ (zu_ b)=true from decide_eq_true hc];rfl
   ·rw [show qf_ b=0 from if_neg (by omega)];simp
  rw [hx0]
  cases hh:z5_ b with
  | true=>
    have hm1:ZS_ (zu_ b) (zz_ b)=true:=by
     cases hq:ZS_ (zu_ b) (zz_ b) with
     | true=>rfl
     | false=>exact absurd ⟨hh,hq⟩ hmk
    rw [hh,if_pos rfl] at hMl
    rw [hm1,decide_eq_true (show ((Zq_ b).length:Int)=(Zp_ b).length by omega)];rfl
  | false=>
    rw [hh] at hMl
    simp only [Bool.false_eq_true,if_false] at hMl
    rw [decide_eq_true (show (Zq_ b).length=0 by omega)];rfl
 refine ⟨hR,?_,by omega,by omega⟩
 obtain ⟨a0,a1,a2,a3,r,hbd⟩:=zk2_ (l:=b) (by omega)
 have q0:=hb a0 (by rw [hbd];simp)
 have q1:=hb a1 (by rw [hbd];simp)
 have q2:=hb a2 (by rw [hbd];simp)
 have q3:=hb a3 (by rw [hbd];simp)
 obtain ⟨n1,n2,n3,n4,n5,n6,n7,n8⟩:=qg_ hR
 have g2:b.getD 2 0=a2:=by rw [hbd];rfl
 have g3:b.getD 3 0=a3:=by rw [hbd];rfl
 have c2:ze_ (zu_ b) 2=[a0,a1]:=by unfold zu_;rw [hbd];exact zm7_ q0 q1
 have hf:2*zz_ b+(if z5_ b=true then 1 else 0)=a2:=by
  unfold zz_ z5_;rw [g2,ZK_ q2.1,QU_ q2.1]
  by_cases h1:a2 % 2=1
  ·rw [decide_eq_true h1,if_pos rfl];omega
  ·rw [decide_eq_false h1];simp only [Bool.false_eq_true,if_false];omega
 have hrl:Zk_ (zu_ b) (Zp_ b) (Zq_ b)=a3:=by
  unfold Zk_
  rw [hVl,hMl,<- g3]
  unfold z9_ kB_ at d2
  by_cases hh:z5_ b=true
  ·rw [if_pos hh] at d2 ⊢
   by_cases hc:zu_ b=65535
   ·rw [if_pos hc] at d2 ⊢;omega
   ·rw [if_neg hc] at d2 ⊢;omega
  ·rw [if_neg hh] at d2 ⊢
   by_cases hc:zu_ b=65535
   ·rw [if_pos hc] at d2 ⊢;omega
   ·rw [if_neg hc] at d2 ⊢;omega
 have hbody:x4_ (zu_ b) (qf_ b) (Zp_ b) (Zq_ b)=r.take a3.toNat:=by
  have hdr:b.drop 4=r:=by rw [hbd];rfl
  have hXb:(if zu_ b=65535 then ze_ (qf_ b) 4 else [])=(b.take (kB_ b).toNat).drop 4:=by
   by_cases hc:zu_ b=65535
   ·have hA8:kB_ b=8:=if_pos hc
    have hl8:8<=b.length:=by unfold z9_ at d2;rw [hA8] at d2;split at d2<;>omega
    rw [if_pos hc,hA8]
    have hXe:qf_ b=Zd_ ((b.drop 4).take 4):=if_pos hc
    rw [hXe,hdr]
    have hrl8:4<=r.length:=by rw [hbd] at hl8;simp only [List.length_cons] at hl8;omega
    obtain ⟨x0,x1,x2,x3,s,hrd⟩:=zk2_ hrl8
    have hmr:∀ y ∈ r,0<=y/\y<=255:=fun y hy=>hb y (by rw [hbd];simp [hy])
    have y0:=hmr x0 (by rw [hrd];simp)
    have y1:=hmr x1 (by rw [hrd];simp)
    have y2:=hmr x2 (by rw [hrd];simp)
    have y3:=hmr x3 (by rw [hrd];simp)
    rw [hrd,show (x0 :: x1 :: x2 :: x3 :: s).take 4=[x0,x1,x2,x3] from rfl,zm6_ y0 y1 y2 y3,hbd,hrd];rfl
   ·have hA4:kB_ b=4:=if_neg hc
    rw [if_neg hc,hA4,hbd];rfl
  unfold x4_
  rw [hXb]
  have hAn:4<=(kB_ b).toNat:=by unfold kB_;split<;>decide
  have j1:∀ (i j k:Nat),i<=j->j<=k->(b.take j).drop i++(b.take k).drop j=(b.take k).drop i:=fun i j k h1 h2=>by
   rw [show (b.take k).drop i=((b.take k).drop i).take (j - i)++((b.take k).drop i).drop (j - i) from (List.take_append_drop ..).symm,List.drop_drop,show i+(j - i)=j by omega,List.take_drop,show i+(j - i)=j by omega,List.take_take,Nat.min_eq_left h2]
  have hfin:∀ k:Nat,(k:Int)=z9_ b->(b.take k).drop 4=r.take a3.toNat:=fun k hk=>by
   rw [hbd,show k=a3.toNat+4 by omega];rfl
  unfold Zp_ Zq_
  by_cases hh:z5_ b=true
  ·rw [if_pos hh,j1 _ _ _ hAn (by omega),j1 _ _ _ (by omega) (by omega)]
   refine hfin _ ?_
   unfold z9_;rw [if_pos hh];omega
  ·rw [if_neg hh,List.append_nil,j1 _ _ _ hAn (by omega)]
   refine hfin _ ?_
   unfold z9_;rw [if_neg hh];omega
 unfold Qg_
 rw [c2,hf,<- n8,hrl,hbody,d2,g3]
 rw [hbd,show (4+a3).toNat=a3.toNat+4 by omega];rfl
end Go.Eng
