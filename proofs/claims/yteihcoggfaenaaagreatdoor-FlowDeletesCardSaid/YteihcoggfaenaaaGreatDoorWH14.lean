/- Parts of the proof: OG, R7, N1, M2, A1, A2. No condition. -/
import Derived.Test.YteihcoggfaenaaaGreatDoorProg
import Derived.Test.YteihcoggfaenaaaGreatDoorWH10
import Derived.KernelRfl
import Derived.Test.YteihcoggfaenaaaGreatDoorWH13
import Derived.Test.YteihcoggfaenaaaGreatDoorWH11
namespace Go.Eng
open Go.Proofs
set_option linter.unusedVariables false
set_option linter.unusedSimpArgs false
set_option maxRecDepth 100000
set_option maxHeartbeats 1000000
theorem zi4_ {l:List Int} (h:4<=l.length):∃ a b c d r,l=a :: b :: c :: d :: r:=by
 obtain _ | ⟨a0,_ | ⟨a1,_ | ⟨a2,_ | ⟨a3,r⟩⟩⟩⟩:=l
 all_goals first | exact ⟨_,_,_,_,_,rfl⟩ | (simp at h;done)
theorem at2 (n:Int):ze_ n 2=[n.fdiv 256 % 256,n % 256]:=by
 have e:ze_ n 2=[(n.fdiv (2 ^ 8)) % 256,(n.fdiv (2 ^ 0)) % 256]:=rfl
 rw [e,show (2:Int) ^ 8=256 from rfl,Int.pow_zero,Int.fdiv_one]
theorem at4 (n:Int):ze_ n 4=[n.fdiv 16777216 % 256,n.fdiv 65536 % 256,n.fdiv 256 % 256,n % 256]:=by
 have e:ze_ n 4=[(n.fdiv (2 ^ 24)) % 256,(n.fdiv (2 ^ 16)) % 256,(n.fdiv (2 ^ 8)) % 256,(n.fdiv (2 ^ 0)) % 256]:=rfl
 rw [e,show (2:Int) ^ 8=256 from rfl,show (2:Int) ^ 16=65536 from rfl,show (2:Int) ^ 24=16777216 from rfl,Int.pow_zero,Int.fdiv_one]
theorem num2 {n:Int} (h:0<=n/\n<=65535):Zx_ (ze_ n 2)=n:=by
 rw [at2,Int.fdiv_eq_ediv_of_nonneg _ (by decide)]
 show (0*256+n / 256 % 256)*256+n % 256=n
 omega
theorem zkN_ {n:Int} (h:0<=n/\n<=4294967295):Zx_ (ze_ n 4)=n:=by
 rw [at4,Int.fdiv_eq_ediv_of_nonneg _ (by decide),Int.fdiv_eq_ediv_of_nonneg _ (by decide),Int.fdiv_eq_ediv_of_nonneg _ (by decide)]
 show (((0*256+n / 16777216 % 256)*256+n / 65536 % 256)*256+n / 256 % 256)*256+n % 256=n
 omega
theorem zlb_ {a b:Int} (ha:0<=a/\a<=255) (hb:0<=b/\b<=255):ze_ (Zx_ [a,b]) 2=[a,b]:=by
 have e:Zx_ [a,b]=a*256+b:=by show (0*256+a)*256+b=_;omega
 rw [e,at2,Int.fdiv_eq_ediv_of_nonneg _ (by decide),show (a*256+b) / 256 % 256=a by omega,show (a*256+b) % 256=b by omega]
theorem zla_ {a b c d:Int} (ha:0<=a/\a<=255) (hb:0<=b/\b<=255) (hc:0<=c/\c<=255) (hd:0<=d/\d<=255):ze_ (Zx_ [a,b,c,d]) 4=[a,b,c,d]:=by
 have e:Zx_ [a,b,c,d]=((a*256+b)*256+c)*256+d:=by show (((0*256+a)*256+b)*256+c)*256+d=_;omega
 rw [e,at4,Int.fdiv_eq_ediv_of_nonneg _ (by decide),Int.fdiv_eq_ediv_of_nonneg _ (by decide),Int.fdiv_eq_ediv_of_nonneg _ (by decide),
  show (((a*256+b)*256+c)*256+d) / 16777216 % 256=a by omega,show (((a*256+b)*256+c)*256+d) / 65536 % 256=b by omega,
  show (((a*256+b)*256+c)*256+d) / 256 % 256=c by omega,show (((a*256+b)*256+c)*256+d) % 256=d by omega]
def hI (h:Bool):Int:=if h=true then 1 else 0
theorem zic_ {c f:Int} {h:Bool} {x:Int} {v m:List Int} (hr:zL_ c f h x v m=true) (hx:0<=x) (L:List Int) (h0:L.take 4=(Qh_ c f h x v m).take 4):zC_ L=c/\zT_ L=f/\Zu_ L=h/\L.getD 3 0=Zb_ c v m:=by
 obtain ⟨n1,n2,n3,n4,n5,n6,n7,n8⟩:=qk_ hr
 have hc:0<=c/\c<=65535:=by omega
 have e1:(Qh_ c f h x v m).take 4=[c.fdiv 256 % 256,c % 256,2*f+(if h=true then 1 else 0),Zb_ c v m]:=by
  unfold Qh_;rw [at2,<- n8];rfl
 rw [e1] at h0
 have e2:L.take 2=ze_ c 2:=by
  rw [at2,show L.take 2=(L.take 4).take 2 by rw [List.take_take];rfl,h0];rfl
 have e3:∀ k < 4,L.getD k 0=(L.take 4).getD k 0:=fun k hk=>(Yw_ hk).symm
 have g2:L.getD 2 0=2*f+(if h=true then 1 else 0):=by rw [e3 2 (by decide),h0];rfl
 have g3:L.getD 3 0=Zb_ c v m:=by rw [e3 3 (by decide),h0];rfl
 refine ⟨?_,?_,?_,g3⟩
 ·unfold zC_;rw [e2,num2 hc]
 ·unfold zT_;rw [g2,kI_ (by split<;>omega)];split<;>omega
 ·unfold Zu_;rw [g2,yu_ (by split<;>omega)]
  cases h with
  | true=>exact decide_eq_true (by simp only [if_true];omega)
  | false=>exact decide_eq_false (by simp only [Bool.false_eq_true,if_false];omega)
theorem zjO_ {c f:Int} {h:Bool} {x:Int} {v m:List Int} (hr:zL_ c f h x v m=true) {L:List Int} (hC:zC_ L=c) (hF:zT_ L=f) (hH:Zu_ L=h) (h3:L.getD 3 0=Zb_ c v m):Zt_ L=v.length/\jl_ L=true:=by
 obtain ⟨n1,n2,n3,n4,n5,n6,n7,n8⟩:=qk_ hr
 obtain ⟨r1,r2,r3,r4,r5,r6,r7,r8⟩:=j9_ hr
 unfold Zt_ jl_
 rw [hC,hF,hH,h3]
 rcases n3 with hc | hc
 ·have he:Zm_ c=true:=decide_eq_true hc
  have hz:qO_ c f=100:=if_pos hc
  have hre:Zb_ c v m=v.length+m.length+4:=if_pos hc
  unfold UA_ y3_
  rw [he,hz,hre,if_pos rfl,if_pos rfl]
  cases h with
  | true=>
    have:=r2 rfl
    simp only [if_true,Bool.and_eq_true,decide_eq_true_eq]
    rw [kI_ (by omega),yu_ (by omega)];omega
  | false=>
    have:=r3 rfl
    simp only [Bool.false_eq_true,if_false,Bool.and_eq_true,decide_eq_true_eq]
    rw [kI_ (by omega),yu_ (by omega)];omega
 ·have he:Zm_ c=false:=decide_eq_false (by omega)
  have hz:qO_ c f=jw_ f:=if_neg (by omega)
  have hre:Zb_ c v m=v.length+m.length:=if_neg (by omega)
  have hv:(v.length:Int)=jw_ f:=by
   have hfit:xw_ f v=true:=by
    cases hh:xw_ f v with
    | true=>rfl
    | false=>
      rw [he] at r8
      unfold KT_ at r8;rw [if_pos ⟨rfl,hh⟩] at r8;exact absurd r8 (by decide)
   unfold xw_ at hfit
   split at hfit
   ·rename_i hh
    have hi:fIs f=true:=k7_.2 hh.1
    rw [hh.2];unfold jw_;rw [hi];rfl
   ·cases hfit
  unfold UA_ y3_
  rw [he,hz,hre]
  cases h with
  | true=>
    have:=r2 rfl
    simp only [Bool.false_eq_true,if_false,if_true,decide_eq_true_eq];omega
  | false=>
    have:=r3 rfl
    simp only [Bool.false_eq_true,if_false,decide_eq_true_eq];omega
theorem mid {p v r:List Int} {A S:Int} (hA:A=p.length) (hS:S=v.length):((p++(v++r)).take (A+S).toNat).drop A.toNat=v:=by
 subst hA hS
 rw [show ((p.length:Int)+v.length).toNat=p.length+v.length by omega,Int.toNat_natCast,<- List.append_assoc,<- List.length_append,List.take_left,List.drop_left]
theorem zef_ {c f:Int} {h:Bool} {x:Int} {v m b:List Int} (hr:zL_ c f h x v m=true) (hx:0<=x):zQ_ (Qh_ c f h x v m++b)=0/\zC_ (Qh_ c f h x v m++b)=c/\zT_ (Qh_ c f h x v m++b)=f/\Zu_ (Qh_ c f h x v m++b)=h/\q6_ (Qh_ c f h x v m++b)=x/\Z7_ (Qh_ c f h x v m++b)=v/\Z4_ (Qh_ c f h x v m++b)=m/\Zg_ (Qh_ c f h x v m++b)=(Qh_ c f h x v m).length:=by
 obtain ⟨n1,n2,n3,n4,n5,n6,n7,n8⟩:=qk_ hr
 obtain ⟨r1,r2,r3,r4,r5,r6,r7,r8⟩:=j9_ hr
 have hl2:=zk_ (n:=c) (w:=2) (by decide)
 have hl4:=zk_ (n:=x) (w:=4) (by decide)
 have hlen:((Qh_ c f h x v m).length:Int)=4+Zb_ c v m:=by
  rw [n8];unfold Qh_;simp only [List.length_append,List.length_cons,List.length_nil];omega
 obtain ⟨L,hL⟩:∃ L,L=Qh_ c f h x v m++b:=⟨_,rfl⟩
 have hLl:(L.length:Int)=4+Zb_ c v m+b.length:=by rw [hL,List.length_append];omega
 have ht:L.take 4=(Qh_ c f h x v m).take 4:=by rw [hL,List.take_append_of_le_length (by omega)]
 obtain ⟨hC,hF,hH,h3⟩:=zic_ hr hx L ht
 obtain ⟨hS,hK⟩:=zjO_ hr hC hF hH h3
 rw [<- hL]
 have hsplit:L=(ze_ c 2++[2*f+(if h=true then 1 else 0),((xF_ c x v m).length:Int)]++(if c=65535 then ze_ x 4 else []))++(v++(m++b)):=by
  rw [hL];unfold Qh_;rw [show xF_ c x v m=(if c=65535 then ze_ x 4 else [])++v++m from rfl];simp only [List.append_assoc]
 obtain ⟨p,hp⟩:∃ p,p=ze_ c 2++[2*f+(if h=true then 1 else 0),((xF_ c x v m).length:Int)]++(if c=65535 then ze_ x 4 else []):=⟨_,rfl⟩
 rw [<- hp] at hsplit
 have hA:Kd_ L=p.length:=by
  unfold Kd_;rw [hC,hp]
  split
  ·simp only [List.length_append,List.length_cons,List.length_nil];omega
  ·simp only [List.length_append,List.length_cons,List.length_nil];omega
 have hX:q6_ L=x:=by
  unfold q6_;rw [hC]
  by_cases hc:c=65535
  ·rw [if_pos hc]
   have hx4:x<=4294967295:=by have:=(zu x hx).1 r7;omega
   have e:(L.drop 4).take 4=ze_ x 4:=by
    rw [hsplit,hp,if_pos hc,at2,at4];rfl
   rw [e,zkN_ ⟨hx,hx4⟩]
  ·rw [if_neg hc]
   have he:Zm_ c=false:=decide_eq_false hc
   rw [he] at r6
   exact (r6.resolve_left (by decide)).symm
 have hV:Z7_ L=v:=by
  unfold Z7_;rw [hA,hS];rw [hsplit];exact mid rfl rfl
 have hM:Z4_ L=m:=by
  unfold Z4_
  cases h with
  | true=>
    rw [hH,if_pos rfl,hA,hS,hsplit,<- List.append_assoc]
    have:=r2 rfl
    exact mid (p:=p++v) (r:=b) (by rw [List.length_append];omega) (by omega)
  | false=>
    rw [hH]
    exact (List.eq_nil_of_length_eq_zero (r3 rfl)).symm
 have hN:Zg_ L=(Qh_ c f h x v m).length:=by
  unfold Zg_;rw [hH,hS]
  have hre:Zb_ c v m=(if c=65535 then 4 else 0)+v.length+m.length:=by unfold Zb_;split<;>omega
  rw [hlen,hre]
  unfold Kd_;rw [hC]
  cases h with
  | true=>have:=r2 rfl;simp only [if_true];split<;>omega
  | false=>have:=r3 rfl;simp only [Bool.false_eq_true,if_false];split<;>omega
 refine ⟨?_,hC,hF,hH,hX,hV,hM,hN⟩
 rw [Jj_ (by omega) (by rw [hC,hF];exact r4) (fun hh=>by rw [hC,hF];exact r5 (hH.symm.trans hh)) hK (by rw [h3];omega),hC,hF,hH,hV,hM]
 exact r8
theorem uf_ {b:List Int} (hb:∀ x ∈ b,0<=x/\x<=255) (h0:zQ_ b=0):zL_ (zC_ b) (zT_ b) (Zu_ b) (q6_ b) (Z7_ b) (Z4_ b)=true/\Qh_ (zC_ b) (zT_ b) (Zu_ b) (q6_ b) (Z7_ b) (Z4_ b)=b.take (Zg_ b).toNat/\0<=Zg_ b/\Zg_ b<=b.length:=by
 have hq:=Yh_ hb 2
 have hn:=Yh_ hb 3
 have hof:=hm_ (zC_ b) (zT_ b)
 unfold zQ_ at h0
 by_cases h4:b.length < 4
 ·rw [if_pos h4] at h0;exact absurd h0 (by decide)
 rw [if_neg h4] at h0
 by_cases hok:jJ_ (zC_ b) (zT_ b)=false
 ·rw [if_pos hok] at h0;exact absurd h0 (by decide)
 rw [if_neg hok] at h0
 by_cases hmk:Zu_ b=true/\qP_ (zC_ b) (zT_ b)=false
 ·rw [if_pos hmk] at h0;exact absurd h0 (by decide)
 rw [if_neg hmk] at h0
 by_cases hkl:jl_ b=false\/(b.length:Int) - 4 < b.getD 3 0
 ·rw [if_pos hkl] at h0;exact absurd h0 (by decide)
 rw [if_neg hkl] at h0
 have hK:jl_ b=true:=by cases hk:jl_ b with | true=>rfl | false=>exact absurd (.inl hk) hkl
 have hlen:4+b.getD 3 0<=(b.length:Int):=by
  have:¬ (b.length:Int) - 4 < b.getD 3 0:=fun h=>hkl (.inr h)
  omega
 have hok':jJ_ (zC_ b) (zT_ b)=true:=by simpa using hok
 obtain ⟨d1,d2,d3⟩:=zee_ hn.1 hof.1 hK
 have hcc:zC_ b=65535\/zC_ b=32768:=by
  unfold jJ_ at hok'
  split at hok'
  ·left;assumption
  ·right;simp only [Bool.and_eq_true,decide_eq_true_eq] at hok';exact hok'.2
 have hA0:0<=Kd_ b:=by unfold Kd_;split<;>decide
 have hVl:((Z7_ b).length:Int)=Zt_ b:=ZL_ hA0 d1 (by unfold Zg_ at d2;split at d2<;>omega)
 have hMl:((Z4_ b).length:Int)=if Zu_ b=true then Zt_ b else 0:=by
  unfold Z4_
  by_cases hh:Zu_ b=true
  ·rw [if_pos hh,if_pos hh]
   exact ZL_ (by omega) d1 (by unfold Zg_ at d2;rw [if_pos hh] at d2;omega)
  ·rw [if_neg hh,if_neg hh];rfl
 have hX:0<=q6_ b/\q6_ b < 4294967296:=by
  unfold q6_
  split
  ·have:=yZ_ ((b.drop 4).take 4) fun y hy=>hb y (List.mem_of_mem_drop (List.mem_of_mem_take hy))
   have h2:∀ k ≤ 4,(256:Int) ^ k<=4294967296:=by decide
   have:=h2 ((b.drop 4).take 4).length (by rw [List.length_take];omega)
   omega
  ·decide
 have hR:zL_ (zC_ b) (zT_ b) (Zu_ b) (q6_ b) (Z7_ b) (Z4_ b)=true:=by
  unfold zL_
  rw [hok',(zu _ hX.1).2 hX.2,h0,decide_eq_true (show ((Z7_ b).length:Int)<=qO_ (zC_ b) (zT_ b) by omega)]
  have hx0:(Zm_ (zC_ b) || decide (q6_ b=0))=true:=by
   rcases hcc with hc | hc
   ·rw [show Zm_ (zC_ b)=true from decide_eq_true hc];rfl
   ·rw [show q6_ b=0 from if_neg (by omega)];simp
  rw [hx0]
  cases hh:Zu_ b with
  | true=>
    have hm1:qP_ (zC_ b) (zT_ b)=true:=by
     cases hq:qP_ (zC_ b) (zT_ b) with
     | true=>rfl
     | false=>exact absurd ⟨hh,hq⟩ hmk
    rw [hh,if_pos rfl] at hMl
    rw [hm1,decide_eq_true (show ((Z4_ b).length:Int)=(Z7_ b).length by omega)];rfl
  | false=>
    rw [hh] at hMl
    simp only [Bool.false_eq_true,if_false] at hMl
    rw [decide_eq_true (show (Z4_ b).length=0 by omega)];rfl
 refine ⟨hR,?_,by omega,by omega⟩
 obtain ⟨a0,a1,a2,a3,r,hbd⟩:=zi4_ (l:=b) (by omega)
 have q0:=hb a0 (by rw [hbd];simp)
 have q1:=hb a1 (by rw [hbd];simp)
 have q2:=hb a2 (by rw [hbd];simp)
 have q3:=hb a3 (by rw [hbd];simp)
 obtain ⟨n1,n2,n3,n4,n5,n6,n7,n8⟩:=qk_ hR
 have g2:b.getD 2 0=a2:=by rw [hbd];rfl
 have g3:b.getD 3 0=a3:=by rw [hbd];rfl
 have c2:ze_ (zC_ b) 2=[a0,a1]:=by unfold zC_;rw [hbd];exact zlb_ q0 q1
 have hf:2*zT_ b+(if Zu_ b=true then 1 else 0)=a2:=by
  unfold zT_ Zu_;rw [g2,kI_ q2.1,yu_ q2.1]
  by_cases h1:a2 % 2=1
  ·rw [decide_eq_true h1,if_pos rfl];omega
  ·rw [decide_eq_false h1];simp only [Bool.false_eq_true,if_false];omega
 have hrl:Zb_ (zC_ b) (Z7_ b) (Z4_ b)=a3:=by
  unfold Zb_
  rw [hVl,hMl,<- g3]
  unfold Zg_ Kd_ at d2
  by_cases hh:Zu_ b=true
  ·rw [if_pos hh] at d2 ⊢
   by_cases hc:zC_ b=65535
   ·rw [if_pos hc] at d2 ⊢;omega
   ·rw [if_neg hc] at d2 ⊢;omega
  ·rw [if_neg hh] at d2 ⊢
   by_cases hc:zC_ b=65535
   ·rw [if_pos hc] at d2 ⊢;omega
   ·rw [if_neg hc] at d2 ⊢;omega
 have hbody:xF_ (zC_ b) (q6_ b) (Z7_ b) (Z4_ b)=r.take a3.toNat:=by
  have hdr:b.drop 4=r:=by rw [hbd];rfl
  have hXb:(if zC_ b=65535 then ze_ (q6_ b) 4 else [])=(b.take (Kd_ b).toNat).drop 4:=by
   by_cases hc:zC_ b=65535
   ·have hA8:Kd_ b=8:=if_pos hc
    have hl8:8<=b.length:=by unfold Zg_ at d2;rw [hA8] at d2;split at d2<;>omega
    rw [if_pos hc,hA8]
    have hXe:q6_ b=Zx_ ((b.drop 4).take 4):=if_pos hc
    rw [hXe,hdr]
    have hrl8:4<=r.length:=by rw [hbd] at hl8;simp only [List.length_cons] at hl8;omega
    obtain ⟨x0,x1,x2,x3,s,hrd⟩:=zi4_ hrl8
    have hmr:∀ y ∈ r,0<=y/\y<=255:=fun y hy=>hb y (by rw [hbd];simp [hy])
    have y0:=hmr x0 (by rw [hrd];simp)
    have y1:=hmr x1 (by rw [hrd];simp)
    have y2:=hmr x2 (by rw [hrd];simp)
    have y3:=hmr x3 (by rw [hrd];simp)
    rw [hrd,show (x0 :: x1 :: x2 :: x3 :: s).take 4=[x0,x1,x2,x3] from rfl,zla_ y0 y1 y2 y3,hbd,hrd];rfl
   ·have hA4:Kd_ b=4:=if_neg hc
    rw [if_neg hc,hA4,hbd];rfl
  unfold xF_
  rw [hXb]
  have hAn:4<=(Kd_ b).toNat:=by unfold Kd_;split<;>decide
  have j1:∀ (i j k:Nat),i<=j->j<=k->(b.take j).drop i++(b.take k).drop j=(b.take k).drop i:=fun i j k h1 h2=>by
   rw [show (b.take k).drop i=((b.take k).drop i).take (j - i)++((b.take k).drop i).drop (j - i) from (List.take_append_drop ..).symm,List.drop_drop,show i+(j - i)=j by omega,List.take_drop,show i+(j - i)=j by omega,List.take_take,Nat.min_eq_left h2]
  have hfin:∀ k:Nat,(k:Int)=Zg_ b->(b.take k).drop 4=r.take a3.toNat:=fun k hk=>by
   rw [hbd,show k=a3.toNat+4 by omega];rfl
  unfold Z7_ Z4_
  by_cases hh:Zu_ b=true
  ·rw [if_pos hh,j1 _ _ _ hAn (by omega),j1 _ _ _ (by omega) (by omega)]
   refine hfin _ ?_
   unfold Zg_;rw [if_pos hh];omega
  ·rw [if_neg hh,List.append_nil,j1 _ _ _ hAn (by omega)]
   refine hfin _ ?_
   unfold Zg_;rw [if_neg hh];omega
 unfold Qh_
 rw [c2,hf,<- n8,hrl,hbody,d2,g3]
 rw [hbd,show (4+a3).toNat=a3.toNat+4 by omega];rfl
theorem zbr_ (w:Int):List.replicate w.toNat 0=ze_ 0 w:=by
 have:∀ j:Nat,Kf_ 0 w j=0:=fun j=>by unfold Kf_;rw [Int.zero_fdiv];rfl
 unfold ze_ Ke_
 simp only [this,List.map_const',List.length_range]
theorem zbu_ {n:Int} {k j:Nat} (h:j < k) (hk:k<=7):Kf_ n ((k+1:Nat):Int) j=Kf_ (n / 256) k j:=by
 unfold Kf_
 have e:min (8*(((k+1:Nat):Int) - 1 - j)).toNat 64=8+8*(k - 1 - j):=by omega
 have e':min (8*((k:Int) - 1 - j)).toNat 64=8*(k - 1 - j):=by omega
 have hp:∀ m:Nat,(0:Int)<=2 ^ m:=fun m=>Int.le_of_lt (Int.pow_pos (by decide))
 rw [e,e',Int.fdiv_eq_ediv_of_nonneg _ (hp _),Int.fdiv_eq_ediv_of_nonneg _ (hp _),Int.pow_add,<- Int.ediv_ediv_of_nonneg (hp 8)]
 rfl
theorem v5_ {n:Int} {k:Nat} (hk:k<=7):ze_ n ((k+1:Nat):Int)=ze_ (n / 256) k++[n % 256]:=by
 unfold ze_ Ke_
 rw [Int.toNat_natCast,Int.toNat_natCast,List.range_succ,List.map_append]
 congr 1
 ·apply List.map_congr_left
  intro j hj
  exact zbu_ (List.mem_range.1 hj) hk
 ·show [Kf_ n ((k+1:Nat):Int) k]=_
  unfold Kf_
  have e:min (8*(((k+1:Nat):Int) - 1 - k)).toNat 64=0:=by omega
  rw [e,Int.pow_zero,Int.fdiv_one]
theorem vP_:∀ (k:Nat) (n:Int),k<=8->0<=n->n < 256 ^ k->Zx_ (ze_ n k)=n
 | 0,n,_,h0,h1=>by
   have:n=0:=by rw [Int.pow_zero] at h1;omega
   subst this;rfl
 | k+1,n,hk,h0,h1=>by
   rw [v5_ (by omega),YU_,vP_ k (n / 256) (by omega) (by omega) (by rw [Int.pow_succ] at h1;exact Int.ediv_lt_of_lt_mul (by decide) h1)]
   omega
theorem qh_:∀ (k:Nat) (b:List Int),k<=8->b.length=k->(∀ x ∈ b,0<=x/\x<=255)->ze_ (Zx_ b) k=b
 | 0,b,_,hl,_=>by
   have:b=[]:=List.eq_nil_of_length_eq_zero hl
   subst this;rfl
 | k+1,b,hk,hl,hb=>by
   rcases List.eq_nil_or_concat b with rfl | ⟨l,c,rfl⟩
   ·cases hl
   ·rw [List.concat_eq_append] at hl hb ⊢
    have hc:=hb c (by simp)
    have hl':l.length=k:=by simpa using hl
    rw [YU_,v5_ (by omega)]
    rw [show (Zx_ l*256+c) / 256=Zx_ l by omega,show (Zx_ l*256+c) % 256=c by omega,qh_ k l (by omega) hl' fun x hx=>hb x (by simp [hx])]
theorem zbs_ (w:Int):ze_ 0 w=List.replicate w.toNat 0:=(zbr_ w).symm
theorem Yv_ (k:Nat):ZB_ (List.replicate k 0)=true:=by
 unfold ZB_;rw [List.all_eq_true];intro x hx;rw [List.eq_of_mem_replicate hx];rfl
theorem um_ {b:List Int} (h:ZB_ b=true):b=List.replicate b.length 0:=by
 unfold ZB_ at h
 rw [List.all_eq_true] at h
 exact List.eq_replicate_iff.2 ⟨rfl,fun x hx=>by simpa using h x hx⟩
theorem Qr_:∀ (w xs b:List Int),qb_ w xs b=(qb_ w xs []).map (b++·)
 | [],xs,b=>by simp [qb_]
 | n :: r,xs,b=>by
   simp only [qb_]
   split
   ·rw [Qr_ r xs (b++ze_ 0 (0 - n)),Qr_ r xs ([]++ze_ 0 (0 - n)),Option.map_map]
    congr 1;funext z;simp
   ·cases xs with
    | nil=>rfl
    | cons x ys=>
      dsimp only
      split
      ·rfl
      ·rw [Qr_ r ys (b++ze_ x n),Qr_ r ys ([]++ze_ x n),Option.map_map]
       congr 1;funext z;simp
theorem xt_:∀ (w b o:List Int),(Zy_ w b o).2=(Zy_ w b []).2/\((Zy_ w b []).2=0->(Zy_ w b o).1=o++(Zy_ w b []).1)
 | [],b,o=>by simp [Zy_]
 | n :: r,b,o=>by
   simp only [Zy_]
   split
   ·exact ⟨rfl,fun h=>by cases h⟩
   ·split
    ·have h1:=xt_ r (b.drop (zv_ n).toNat) (o++[Zx_ (b.take (zv_ n).toNat)])
     have h2:=xt_ r (b.drop (zv_ n).toNat) ([]++[Zx_ (b.take (zv_ n).toNat)])
     refine ⟨h1.1.trans h2.1.symm,fun h=>?_⟩
     have h0:=h2.1.symm.trans h
     rw [h1.2 h0,h2.2 h0];simp
    ·split
     ·exact xt_ r (b.drop (zv_ n).toNat) o
     ·exact ⟨rfl,fun h=>by cases h⟩
theorem zj1_ {x n:Int} (h0:0<=x) (h1:x<=18446744073709551615) (hn:0 < n) (h8:n<=8) (hf:¬ (n < 8/\x.fdiv (2 ^ (min (8*n).toNat 64)) ≠ 0)):x < 256 ^ n.toNat:=by
 by_cases hlt:n < 8
 ·have hz:x.fdiv (2 ^ (min (8*n).toNat 64))=0:=Classical.byContradiction fun h=>hf ⟨hlt,h⟩
  have e:min (8*n).toNat 64=8*n.toNat:=by omega
  have hp:(0:Int) < 2 ^ (8*n.toNat):=Int.pow_pos (by decide)
  rw [e,Int.fdiv_eq_ediv_of_nonneg _ (Int.le_of_lt hp)] at hz
  have h2:=Int.lt_ediv_add_one_mul_self x hp
  rw [hz] at h2
  have e2:(2:Int) ^ (8*n.toNat)=256 ^ n.toNat:=by rw [Int.pow_mul];rfl
  rw [<- e2];omega
 ·have:n=8:=by omega
  subst this
  show x < 256 ^ 8
  omega
theorem zjN_ {x n:Int} (h0:0<=x) (hn:0 < n) (h8:n<=8) (hx:x < 256 ^ n.toNat):¬ (n < 8/\x.fdiv (2 ^ (min (8*n).toNat 64)) ≠ 0):=by
 rintro ⟨hlt,hz⟩
 apply hz
 have e:min (8*n).toNat 64=8*n.toNat:=by omega
 have hp:(0:Int) < 2 ^ (8*n.toNat):=Int.pow_pos (by decide)
 have e2:(2:Int) ^ (8*n.toNat)=256 ^ n.toNat:=by rw [Int.pow_mul];rfl
 rw [e,Int.fdiv_eq_ediv_of_nonneg _ (Int.le_of_lt hp),e2]
 exact Int.ediv_eq_zero_of_lt h0 hx
def okR (w:List Int):Prop:=∀ n ∈ w,n ≠ 0/\n<=8/\-64<=n
theorem HA_:∀ (w xs r rest:List Int),okR w->(∀ x ∈ xs,0<=x/\x<=18446744073709551615)->(w.map qM_).sum=xs.length->qb_ w xs []=some r->Zy_ w (r++rest) []=(xs,0)
 | [],xs,r,rest,_,_,hc,h=>by
   simp at hc
   have:xs=[]:=List.eq_nil_of_length_eq_zero (by omega)
   subst this;rfl
 | n :: w,xs,r,rest,hw,hx,hc,h=>by
   have hn:=hw n (by simp)
   have hw':okR w:=fun m hm=>hw m (by simp [hm])
   simp only [qb_] at h
   rw [List.map_cons,List.sum_cons] at hc
   by_cases hneg:n < 0
   ·rw [if_pos hneg,List.nil_append,Qr_] at h
    have h1:qM_ n=0:=if_neg (by omega)
    obtain ⟨r',hr',rfl⟩:=Option.map_eq_some_iff.1 h
    have ih:=HA_ w xs r' rest hw' hx (by omega) hr'
    have hl:=zk_ (n:=0) (w:=0 - n) (by omega)
    have ha:=xI_ hneg
    have hln:(ze_ 0 (0 - n)).length=(zv_ n).toNat:=by omega
    simp only [Zy_]
    rw [List.append_assoc,if_neg (by rw [List.length_append];omega),if_neg (by omega),<- hln,List.take_left,List.drop_left,zbs_,Yv_,if_pos rfl,ih]
   ·rw [if_neg hneg] at h
    have h1:qM_ n=1:=if_pos (by omega)
    cases xs with
    | nil=>cases h
    | cons x ys=>
      dsimp only at h
      by_cases hf:n < 8/\x.fdiv (2 ^ (min (8*n).toNat 64)) ≠ 0
      ·rw [if_pos hf] at h;cases h
      ·rw [if_neg hf,List.nil_append,Qr_] at h
       obtain ⟨r',hr',rfl⟩:=Option.map_eq_some_iff.1 h
       have hx0:=hx x (by simp)
       have hlt:=zj1_ hx0.1 hx0.2 (by omega) hn.2.1 hf
       have ih:=HA_ w ys r' rest hw' (fun y hy=>hx y (by simp [hy])) (by rw [List.length_cons] at hc;omega) hr'
       have hl:=zk_ (n:=x) (w:=n) (by omega)
       have ha:=Yj_ hneg
       have hln:(ze_ x n).length=(zv_ n).toNat:=by omega
       have hnum:Zx_ (ze_ x n)=x:=by
        have:=vP_ n.toNat x (by omega) hx0.1 hlt
        rwa [show ((n.toNat:Nat):Int)=n by omega] at this
       simp only [Zy_]
       have hacc:=xt_ w (r'++rest) ([]++[x])
       rw [List.append_assoc,if_neg (by rw [List.length_append];omega),if_pos (by omega),<- hln,List.take_left,List.drop_left,hnum]
       rw [ih] at hacc
       exact Prod.ext ((hacc.2 rfl).trans (by simp)) hacc.1
theorem bB_:∀ (w b xs:List Int),okR w->(∀ x ∈ b,0<=x/\x<=255)->Zy_ w b []=(xs,0)->(w.map qM_).sum=xs.length/\(w.map zv_).sum<=b.length/\qb_ w xs []=some (b.take (w.map zv_).sum.toNat)
 | [],b,xs,_,_,h=>by
   simp only [Zy_,Prod.mk.injEq] at h
   obtain ⟨rfl,_⟩:=h
   exact ⟨rfl,Int.natCast_nonneg _,rfl⟩
 | n :: w,b,xs,hw,hb,h=>by
   have hn:=hw n (by simp)
   have hw':okR w:=fun m hm=>hw m (by simp [hm])
   have ha:=wq_ (n:=n)
   have hs:0<=(w.map zv_).sum:=by
    have:∀ l:List Int,0<=(l.map zv_).sum:=fun l=>by
     induction l with
     | nil=>simp
     | cons a l ih=>rw [List.map_cons,List.sum_cons];have:=wq_ (n:=a);omega
    exact this w
   have hd:(b.drop (zv_ n).toNat).length=b.length - (zv_ n).toNat:=List.length_drop
   have hbd:∀ x ∈ b.drop (zv_ n).toNat,0<=x/\x<=255:=fun x hx=>hb x (List.mem_of_mem_drop hx)
   have htk:∀ k:Nat,(b.take (zv_ n).toNat)++(b.drop (zv_ n).toNat).take k=b.take ((zv_ n).toNat+k):=fun k=>by rw [List.take_add]
   simp only [Zy_] at h
   rw [List.map_cons,List.sum_cons,List.map_cons,List.sum_cons]
   by_cases hsh:(b.length:Int) < zv_ n
   ·rw [if_pos hsh] at h;cases h
   ·rw [if_neg hsh] at h
    have htl:(b.take (zv_ n).toNat).length=(zv_ n).toNat:=by rw [List.length_take];omega
    by_cases hp:0 < n
    ·rw [if_pos hp] at h
     have hacc:=xt_ w (b.drop (zv_ n).toNat) ([]++[Zx_ (b.take (zv_ n).toNat)])
     rw [h] at hacc
     have h0:=hacc.1.symm
     obtain ⟨ys,hys⟩:∃ ys,Zy_ w (b.drop (zv_ n).toNat) []=(ys,0):=⟨_,Prod.ext rfl h0⟩
     rw [hys] at hacc
     have hxs:=hacc.2 rfl
     obtain ⟨i1,i2,i3⟩:=bB_ w _ ys hw' hbd hys
     have e1:qM_ n=1:=if_pos hp
     have ea:=Yj_ (n:=n) (by omega)
     dsimp only [List.nil_append] at hxs
     rw [List.singleton_append] at hxs
     subst hxs
     have hbt:∀ x ∈ b.take (zv_ n).toNat,0<=x/\x<=255:=fun x hx=>hb x (List.mem_of_mem_take hx)
     have hnl:=yZ_ (b.take (zv_ n).toNat) hbt
     have h2:=hnl.2
     rw [htl] at h2
     have e3:(zv_ n).toNat=n.toNat:=by rw [ea]
     have h4:Zx_ (b.take (zv_ n).toNat) < 256 ^ n.toNat:=by rw [<- e3];exact h2
     have hfit:¬ (n < 8/\(Zx_ (b.take (zv_ n).toNat)).fdiv (2 ^ (min (8*n).toNat 64)) ≠ 0):=zjN_ hnl.1 hp hn.2.1 h4
     have hbk:=qh_ (zv_ n).toNat (b.take (zv_ n).toNat) (by omega) htl hbt
     rw [show (((zv_ n).toNat:Nat):Int)=n by omega] at hbk
     refine ⟨by rw [List.length_cons];omega,by omega,?_⟩
     simp only [qb_]
     rw [if_neg (by omega),if_neg hfit,List.nil_append,Qr_,i3,hbk]
     show some _=_
     dsimp only;rw [htk];congr 2;omega
    ·rw [if_neg hp] at h
     by_cases hz:ZB_ (b.take (zv_ n).toNat)=true
     ·rw [if_pos hz] at h
      obtain ⟨i1,i2,i3⟩:=bB_ w _ xs hw' hbd h
      have e1:qM_ n=0:=if_neg hp
      have hze:=um_ hz
      rw [htl] at hze
      have ea:=xI_ (n:=n) (by omega)
      refine ⟨by omega,by omega,?_⟩
      simp only [qb_]
      rw [if_pos (by omega),List.nil_append,Qr_,i3,zbs_,show (0 - n).toNat=(zv_ n).toNat by omega,<- hze]
      show some _=_
      dsimp only;rw [htk];congr 2;omega
     ·rw [if_neg hz] at h;cases h
theorem YM_ {w xs:List Int} (rest:List Int) (hx:∀ x ∈ xs,0<=x/\x<=18446744073709551615) (hk:ZX_ w xs=true):ZE_ w (Zn_ w xs++rest)=(xs,0)/\(Zn_ w xs).length=(zG_ w).toNat:=by
 unfold ZX_ at hk
 obtain ⟨r,hr⟩:=Option.isSome_iff_exists.1 hk
 have hb:Zn_ w xs=r:=by unfold Zn_;rw [hr];rfl
 rw [hb]
 unfold k2_ at hr
 split at hr
 ·rename_i h
  have hw:okR w:=(ZD_.1 h.1).2
  have hc:(w.map qM_).sum=xs.length:=by have:=h.2;unfold zB_ at this;rwa [if_pos h.1] at this
  unfold ZE_ zG_
  rw [if_pos h.1,if_pos h.1]
  refine ⟨HA_ w xs r rest hw hx hc hr,?_⟩
  have hl:∀ (w xs r:List Int),okR w->qb_ w xs []=some r->(r.length:Int)=(w.map zv_).sum:=by
   intro w
   induction w with
   | nil=>intro xs r _ h;simp only [qb_,Option.some.injEq] at h;subst h;rfl
   | cons n w ih=>
     intro xs r hw h
     have hn:=hw n (by simp)
     have hw':okR w:=fun m hm=>hw m (by simp [hm])
     simp only [qb_] at h
     rw [List.map_cons,List.sum_cons]
     split at h
     ·rw [Qr_] at h
      obtain ⟨r',hr',rfl⟩:=Option.map_eq_some_iff.1 h
      have:=ih _ _ hw' hr'
      have hl:=zk_ (n:=0) (w:=0 - n) (by omega)
      have ha:=xI_ (n:=n) (by assumption)
      simp only [List.nil_append,List.length_append];omega
     ·cases xs with
      | nil=>cases h
      | cons x ys=>
        dsimp only at h
        split at h
        ·cases h
        ·rw [Qr_] at h
         obtain ⟨r',hr',rfl⟩:=Option.map_eq_some_iff.1 h
         have:=ih _ _ hw' hr'
         have hl:=zk_ (n:=x) (w:=n) (by omega)
         have ha:=Yj_ (n:=n) (by assumption)
         simp only [List.nil_append,List.length_append];omega
  have:=hl w xs r hw hr
  omega
 ·cases hr
theorem kw_ {w b xs:List Int} (hb:∀ x ∈ b,0<=x/\x<=255) (h:ZE_ w b=(xs,0)):ZX_ w xs=true/\Zn_ w xs=b.take (zG_ w).toNat/\zG_ w<=b.length:=by
 unfold ZE_ at h
 split at h
 ·rename_i hr
  obtain ⟨h1,h2,h3⟩:=bB_ w b xs (ZD_.1 hr).2 hb h
  have hF:k2_ w xs=some (b.take (w.map zv_).sum.toNat):=by
   unfold k2_ zB_;rw [if_pos hr,if_pos ⟨hr,h1⟩,h3]
  unfold ZX_ Zn_ zG_
  rw [hF,if_pos hr];exact ⟨rfl,rfl,h2⟩
 ·cases h
theorem Zv_ {α:Type} {f:α->Bool} {l:List α} {i:Nat} {d:α} (h:i < l.length) (ht:(l.take i).all f=true) (hd:f (l.getD i d)=true):(l.take (i+1)).all f=true:=by
 rw [List.take_succ_eq_append_getElem h,List.all_append,ht,Bool.true_and,List.all_cons,List.all_nil,Bool.and_true]
 rwa [List.getD_eq_getElem?_getD,List.getElem?_eq_getElem h] at hd
theorem Z0_ {α:Type} {f:α->Bool} {l:List α} {i:Nat} (h:l.length<=i) (ht:(l.take i).all f=true):l.all f=true:=by
 rwa [List.take_of_length_le h] at ht
theorem ZF_ {α:Type} {f:α->Bool} {l:List α} {i:Nat} {d:α} (h:i < l.length) (hd:f (l.getD i d)=false):l.all f=false:=by
 rw [List.all_eq_false]
 exact ⟨l.getD i d,zU_ h d,by rw [hd];decide⟩
def metN (c f:Int):Bool:=decide (c ≠ 32768) || !fIs f || decide (hw_ f < 0)
def VL_ (l:List OV) (c f:Int):Bool:=if metN c f=true then true else l.any (mtO (hw_ f) (zbf_ f))
def zaR_:IR:=
(sq (kr [0,1] [oD 3 (.boxv 1),
oD 4 (.mov cF)])
(sq (kr [0,3] [oA 8 1 3,
oL 9 8,
oC 10 170 [9],
oM 7 10,
oX 11 7 0,
oX 12 7 1,
oD 5 (.box [.int .i64 0,.int .i64 0,.kb false,.int .i64 0,.imm (.int .u64) []]),
oS 5 5 11,
oM 6 12])
(sq (sq (kr [0,3,5,6] [oA 13 0 3,
oL 14 13,
oB 15 .neq 14 (cI 32768),
oM 16 15,
oF 16 17 (.mov 6),
oF 16 18 (.un .not 17),
oP 19 16 cT 18,
oM 20 19,
oF 20 21 (.fieldAddr 3 5),
oF 20 22 (.load none 21),
oF 20 23 (.bin .lss 22 (cI 0)),
oP 24 20 cT 23])
(.cond 24
(sq (kr [] [oD 4 (.mov cT)])
.ret)
.skip))
(sq (kr [0,5] [oM 25 0,
oD 26 (.mkfn 175 [] [5]),
oC 27 116 [25,26],
oM 4 27])
.ret))))
def BB_:List RD:=[.tmp 4 true none]
theorem B8_:zj_ Tryz.prog Tryz.f151 zaR_ BB_=true:=by kernel_rfl
def yn_:List AV->List Obj->Option (Prop × AV)
 | [.imm (.cons (.int .i64) (.cons (.int .i64) (.cons .bool (.cons (.int .u64) (.cons (.sl (.int .u8)) (.cons (.sl (.int .u8)) .nil)))))) l,.agg [.int .i64 c,.int .i64 f,.bool h,.int .u64 x,.imm (.int .u8) v,.imm (.int .u8) m]],[]=>some ((True,.bool (VL_ l c f)))
 | _,_=>none
theorem h6_:zd_ Tryz.prog 151 (RoF yn_).sum:=by
 refine zi_ Tryz.func151 B8_ (za_ (s:=RoF jg_) JG_ (za_ (s:=RoF KC_) WN_ (za_ (s:=RoF zA_) zX_ (zc_ _)))) fun args objs p v e=>?_
 unfold yn_ at e
 split at e
 ·rename_i l c f h x v m
  cases e
  refine ⟨rfl,fun hw ho hp=>?_⟩
  change List Int at v
  change List Int at m
  change List OV at l
  clear hw ho
  cases hn:metN c f with
  | true=>
    have e:VL_ l c f=true:=by unfold VL_;rw [if_pos hn]
    rw [e]
    repeat'(intro t ht;first|(cases t<;>first|(cases ht;done)|(try simp only[zg_]at ht;try(exfalso;first|contradiction|omega)))|((first|refine zb_ ht ?_|refine ht ?_ ?_|refine ht.1 ?_ ?_|refine ht ?_)<;>clear ht))
    all_goals first
     | exact True.intro
     | exact ⟨rfl,rfl⟩
     | (exfalso;unfold metN at hn;simp_all;done)
     | (exfalso;unfold metN at hn;simp_all;omega)
  | false=>
    have e:VL_ l c f=l.any (mtO (hw_ f) (zbf_ f)):=by unfold VL_;rw [hn];rfl
    rw [e]
    repeat'(intro t ht;first|(cases t<;>first|(cases ht;done)|(try simp only[zg_]at ht;try(exfalso;first|contradiction|omega)))|((first|refine zb_ ht ?_|refine ht ?_ ?_|refine ht.1 ?_ ?_|refine ht ?_)<;>clear ht))
    all_goals first
     | exact True.intro
     | exact ⟨rfl,rfl⟩
     | (exfalso;unfold metN at hn;simp_all;done)
     | (exfalso;unfold metN at hn;simp_all;omega)
 ·cases e
def ckS:List OV->List OV->Int × Int
 | _,[]=>(0,0)
 | pre,o :: r=>if pre.any (fun x=>alO x o)=true then (((pre.length:Nat):Int),1035) else if VL_ pre o.1 o.2.1=true then ckS (pre++[o]) r else (((pre.length:Nat):Int),1034)
theorem zit_ {l:List OV} {i:Nat} (h:l.length<=i):ckS (l.take i) (l.drop i)=(0,0):=by
 rw [List.drop_of_length_le h];unfold ckS;rfl
theorem b2_ {α:Type} {l:List α} {i:Nat} (h:i<=l.length):(l.take i).length=i:=by rw [List.length_take];omega
theorem ziq_ {l:List OV} {i:Nat} {d:OV} (h:i < l.length) (hk:(l.take i).any (fun x=>alO x (l.getD i d))=true):ckS (l.take i) (l.drop i)=(((i:Nat):Int),1035):=by
 rw [zI_ h d];unfold ckS;rw [if_pos hk,b2_ (by omega)]
theorem zgX_ {l:List OV} {i:Nat} {d:OV} (h:i < l.length) (hk:(l.take i).any (fun x=>alO x (l.getD i d))=false) (hm:VL_ (l.take i) (l.getD i d).1 (l.getD i d).2.1=false):ckS (l.take i) (l.drop i)=(((i:Nat):Int),1034):=by
 rw [zI_ h d];unfold ckS;rw [if_neg (by rw [hk];decide),if_neg (by rw [hm];decide),b2_ (by omega)]
theorem zke_ {l:List OV} {i:Nat} {d:OV} (h:i < l.length) (hk:(l.take i).any (fun x=>alO x (l.getD i d))=false) (hm:VL_ (l.take i) (l.getD i d).1 (l.getD i d).2.1=true):ckS (l.take i) (l.drop i)=ckS (l.take (i+1)) (l.drop (i+1)):=by
 have e:l.take (i+1)=l.take i++[l.getD i d]:=by
  rw [List.take_succ_eq_append_getElem h,List.getD_eq_getElem?_getD,List.getElem?_eq_getElem h];rfl
 rw [e,zI_ h d]
 conv=>lhs;unfold ckS
 rw [if_neg (by rw [hk];decide),if_pos hm]
def GJ_:IR:=
(sq (kr [0] [oD 2 (.mov (cI 0)),
oD 3 (.mov (cI 0))])
(.scope
(sq (.reg [oD 4 (.mov (cI 0)),
oD 5 (.mov (cI 0))])
(sq .skip
(sq (sq (.reg [oM 8 0,
oE 9 8,
oD 10 (.mov (cI 0))])
(.block 0
(.loop
(sq (kr [0,4,5,8,9,10] [oB 11 .lss 10 9])
(sq (.cond 11
.skip
(.exit 0))
(sq (.block 1
(sq (kr [0,4,5,8,9,10] [oM 12 10,
oI 13 6 8 10,
oK 14 6 13,
oD 7 (.box [.int .i64 0,.int .i64 0,.kb false,.int .u64 0,.imm (.int .u8) [],.imm (.int .u8) []]),
oM 6 12,
oS 6 7 14])
(.block 2
(sq (kr [0,4,5,6,7,8,9,10] [oM 16 0,
oM 17 6,
oD 18 (.slice 6 16 none (some 17) none),
oD 19 (.mkfn 149 [] [7]),
oC 20 116 [18,19],
oM 15 20])
(.cond 15
(sq (kr [6] [oM 21 6,
oM 4 21,
oD 5 (.mov (cI 1035))])
(.exit 0))
(sq (kd [0,4,5,6,7,8,9,10] [(oM 23 0,[]),
(oM 24 6,[0]),
(oD 25 (.slice 6 23 none (some 24) none),[]),
(oK 26 6 7,[0,0,0]),
(oC 27 151 [25,26],[]),
(oD 28 (.un .not 27),[]),
(oM 22 28,[])])
(.cond 22
(sq (kr [6] [oM 29 6,
oM 4 29,
oD 5 (.mov (cI 1034))])
(.exit 0))
.skip)))))))
(kr [0,4,5,8,9,10] [oB 30 .add 10 (cI 1),
oM 10 30])))))))
(sq (kr [4,5] [oM 31 4,
oM 32 5,
oM 2 31,
oM 3 32])
.ret))))))
def gQ_:List RD:=[.tmp 2 true none,.tmp 3 true none]
theorem Gg_:zj_ Tryz.prog Tryz.f119 GJ_ gQ_=true:=by kernel_rfl
def KD_:List AV->List Obj->Option (Prop × AV)
 | [.imm (.cons (.int .i64) (.cons (.int .i64) (.cons .bool (.cons (.int .u64) (.cons (.sl (.int .u8)) (.cons (.sl (.int .u8)) .nil)))))) l],[]=>some ((True,.tup [.int .i64 (ckS [] l).1,.int .i64 (ckS [] l).2]))
 | _,_=>none
theorem WO_:zd_ Tryz.prog 119 (RoF KD_).sum:=by
 refine zi_ Tryz.func119 Gg_ (za_ (s:=RoF ka_) jZ_ (za_ (s:=RoF zA_) zX_ (za_ (s:=RoF yn_) h6_ (zc_ _)))) fun args objs p v e=>?_
 unfold KD_ at e
 split at e
 ·rename_i l
  cases e
  refine ⟨rfl,fun hw ho hp=>?_⟩
  change List OV at l
  have hl:l.length<=maxLen:=(hw (.imm Y1 l) (by simp)).2
  unfold maxLen at hl
  clear hw ho
  repeat'(intro t ht;first|(cases t<;>first|(cases ht;done)|(try simp only[zg_]at ht))|((first|refine zb_ ht ?_|refine ht ?_ ?_|refine ht.1 ?_ ?_|refine ht ?_)<;>clear ht))
  all_goals first
   | (intro r h1 h2;clear h1;refine h2 ⟨[0,4,5,8,9,10],Nat,(fun i=>i<=l.length/\ckS [] l=ckS (l.take i) (l.drop i)),fun i=>[.imm Y1 l,.int .i64 0,.int .i64 0,.imm Y1 l,.int .i64 l.length,.int .i64 i],fun _=>[],fun i=>l.length - i,⟨0,⟨Nat.zero_le _,rfl⟩,rfl,rfl⟩,?_⟩;clear h2)
  rintro i ⟨hi,he⟩
  repeat'(intro t ht;first|(cases t<;>first|(cases ht;done)|(try simp only[zg_]at ht;try(exfalso;first|contradiction|omega)))|((first|refine zb_ ht ?_|refine ht ?_ ?_|refine ht.1 ?_ ?_|refine ht ?_)<;>clear ht))
  all_goals (try generalize (Ty.dflt Y1)=od at*)
  all_goals first
   | exact True.intro
   | ((try simp only [zm_,zn_,zl_] at*);omega)
   | (rw [he,zit_ (by omega)];exact ⟨rfl,rfl⟩)
   | (have hk:(l.take i).any (fun x=>alO x (l.getD i od))=true:=by assumption
      rw [he,ziq_ (by omega) hk];exact ⟨rfl,rfl⟩)
   | (have hk:(l.take i).any (fun x=>alO x (l.getD i od))=false:=by assumption
      first
       | (have hm:VL_ (l.take i) (l.getD i od).1 (l.getD i od).2.1=false:=by assumption
          rw [he,zgX_ (by omega) hk hm];exact ⟨rfl,rfl⟩)
       | (have hm:VL_ (l.take i) (l.getD i od).1 (l.getD i od).2.1=true:=by assumption
          exact ⟨i+1,⟨by omega,he.trans (zke_ (by omega) hk hm)⟩,by dsimp only;omega,rfl,rfl⟩))
 ·cases e
def bysO (o:OV):Prop:=0<=o.2.2.2.1/\(∀ x ∈ o.2.2.2.2.1,0<=x/\x<=255)/\(∀ x ∈ o.2.2.2.2.2.1,0<=x/\x<=255)
theorem zf1_ {l:List OV} (h:Ty.wf (.sl Y1) l):∀ o ∈ l,bysO o:=fun o ho=>by
 obtain ⟨h1,h2,h3,h4,h5,h6,_⟩:=h.1 o ho
 refine ⟨?_,fun x hx=>?_,fun x hx=>?_⟩
 ·unfold Ty.wf inK at h4;rw [V7_] at h4;exact h4.1
 ·have:=h5.1 x hx;unfold Ty.wf inK at this;rw [zcD_,zcH_] at this;exact this
 ·have:=h6.1 x hx;unfold Ty.wf inK at this;rw [zcD_,zcH_] at this;exact this
def zD_ (t:Int):List Int:=if t=0 then [4,2,-6] else if t=22\/t=21\/t=65535 then [4] else if t=15\/t=23 then [1,-3] else if t=17\/t=19\/t=26\/t=20 then [2,-2] else if t=11\/t=12\/t=16\/t=18\/t=24\/t=27 then [-4] else []
def Hb_ (t:Int):Bool:=decide (t=0\/(t=22\/t=21\/t=65535)\/(t=15\/t=23)\/(t=17\/t=19\/t=26\/t=20)\/(t=11\/t=12\/t=16\/t=18\/t=24\/t=27))
theorem zhI_ {t:Int} (h:¬ (t=0\/(t=22\/t=21\/t=65535)\/(t=15\/t=23)\/(t=17\/t=19\/t=26\/t=20)\/(t=11\/t=12\/t=16\/t=18\/t=24\/t=27))):zD_ t=[]/\Hb_ t=false:=by
 refine ⟨?_,decide_eq_false h⟩
 unfold zD_
 rw [if_neg (by omega),if_neg (by omega),if_neg (by omega),if_neg (by omega),if_neg (by omega)]
theorem zfL_ {t:Int} (h:Hb_ t=true):t=0\/(t=22\/t=21\/t=65535)\/(t=15\/t=23)\/(t=17\/t=19\/t=26\/t=20)\/(t=11\/t=12\/t=16\/t=18\/t=24\/t=27):=of_decide_eq_true h
theorem zdG_ (t:Int):zD_ t=[4,2,-6]\/zD_ t=[4]\/zD_ t=[1,-3]\/zD_ t=[2,-2]\/zD_ t=[-4]\/zD_ t=[]:=by
 unfold zD_
 repeat' split
 all_goals simp
theorem ge_ (t:Int):0<=zB_ (zD_ t)/\zB_ (zD_ t)<=2:=by
 rcases zdG_ t with h | h | h | h | h | h<;>rw [h]<;>decide
theorem uG_ (t:Int):0<=zG_ (zD_ t)/\zG_ (zD_ t)<=12:=by
 rcases zdG_ t with h | h | h | h | h | h<;>rw [h]<;>decide
def askF (t n:Int):Int:=if t=0 then (if n=0 then 517 else 0) else if t=22 then (if 4294967040 < n then 522 else 0) else if t=17 then (if n ≠ 33024/\n ≠ 34984 then 518 else 0) else if t=19 then (if n ≠ 34887/\n ≠ 34888 then 518 else 0) else if t=26 then (if n ≠ 35047 then 518 else 0) else 0
def UU_:IR:=
(sq (kr [0] [oD 2 (.mov (.c (.imm (.int .i64) []))),
oD 3 (.mov cF)])
(sq (sq (.reg [oM 4 0])
(.block 0
(sq (.block 7
(.block 6
(sq (.block 5
(.block 4
(sq (.block 3
(sq (.block 2
(sq (.block 1
(sq (sq (sq (.reg [oB 6 .eql 4 (cI 0),
oM 5 6])
(.cond 5
(.exit 1)
.skip))
(sq (sq (sq (.reg [oB 8 .eql 4 (cI 22),
oM 7 8])
(.cond 7
.skip
(sq (kr [4] [oB 9 .eql 4 (cI 21),
oM 7 9])
(.cond 7
.skip
(.reg [oB 10 .eql 4 (cI 65535),
oM 7 10])))))
(.cond 7
(.exit 2)
.skip))
(sq (sq (sq (kr [4] [oB 12 .eql 4 (cI 15),
oM 11 12])
(.cond 11
.skip
(.reg [oB 13 .eql 4 (cI 23),
oM 11 13])))
(.cond 11
(.exit 3)
.skip))
(sq (sq (sq (.reg [oB 15 .eql 4 (cI 17),
oM 14 15])
(.cond 14
.skip
(sq (kr [4] [oB 16 .eql 4 (cI 19),
oM 14 16])
(.cond 14
.skip
(.reg [oB 17 .eql 4 (cI 26),
oM 14 17])))))
(.cond 14
(.exit 4)
.skip))
(sq (sq (kr [4] [oB 19 .eql 4 (cI 20),
oM 18 19])
(.cond 18
(.exit 5)
.skip))
(sq (sq (sq (.reg [oB 21 .eql 4 (cI 11),
oM 20 21])
(.cond 20
.skip
(sq (.reg [oB 22 .eql 4 (cI 12),
oM 20 22])
(.cond 20
.skip
(kr [4] [oB 23 .eql 4 (cI 16),
oM 20 23])))))
(.cond 20
(.exit 6)
.skip))
(sq (sq (kr [4] [oB 25 .eql 4 (cI 18),
oM 24 25])
(.cond 24
.skip
(sq (.reg [oB 26 .eql 4 (cI 24),
oM 24 26])
(.cond 24
.skip
(.reg [oB 27 .eql 4 (cI 27),
oM 24 27])))))
(.cond 24
(.exit 7)
.skip))))))))
(.exit 0)))
(sq (sq (kr [] [oD 28 (.sliceAll (.int .i64) 3 [(0,1,(cI 4)),(1,1,(cI 2)),(2,1,(cI (-6)))]),
oM 2 28,
oD 3 (.mov cT)])
.ret)
(.exit 0))))
(sq (sq (kr [] [oD 29 (.sliceAll (.int .i64) 1 [(0,1,(cI 4))]),
oM 2 29,
oD 3 (.mov cT)])
.ret)
(.exit 0))))
(sq (sq (kr [] [oD 30 (.sliceAll (.int .i64) 2 [(0,1,(cI 1)),(1,1,(cI (-3)))]),
oM 2 30,
oD 3 (.mov cT)])
.ret)
(.exit 0)))))
(sq (sq (kr [] [oD 31 (.sliceAll (.int .i64) 2 [(0,1,(cI 2)),(1,1,(cI (-2)))]),
oM 2 31,
oD 3 (.mov cT)])
.ret)
(.exit 0)))))
(sq (sq (kr [] [oD 32 (.sliceAll (.int .i64) 1 [(0,1,(cI (-4)))]),
oM 2 32,
oD 3 (.mov cT)])
.ret)
(.exit 0)))))
(sq (kr [] [oD 2 (.mov (.c (.imm (.int .i64) []))),
oD 3 (.mov cF)])
.ret)))
def u2_:List RD:=[.tmp 2 true (some (.int .i64)),.tmp 3 true none]
theorem Uu_:zj_ Tryz.prog Tryz.f212 UU_ u2_=true:=by kernel_rfl
def qu_:List AV->List Obj->Option (Prop × AV)
 | [.int .i64 q],[]=>some ((True,.tup [.imm (.int .i64) (zD_ q),.bool (Hb_ q)]))
 | _,_=>none
theorem Qz_:zd_ Tryz.prog 212 (RoF qu_).sum:=by
 refine zi_ Tryz.func212 Uu_ (zc_ _) fun args objs p v e=>?_
 unfold qu_ at e
 split at e
 ·rename_i q
  cases e
  refine ⟨rfl,fun hw ho hp=>?_⟩
  clear hw ho
  repeat'(intro t ht;first|(cases t<;>first|(cases ht;done)|(try simp only[zg_]at ht;try(exfalso;first|contradiction|omega)))|((first|refine zb_ ht ?_|refine ht ?_ ?_|refine ht.1 ?_ ?_|refine ht ?_)<;>clear ht))
  all_goals first
   | exact True.intro
   | (have h:=zhI_ (t:=q) (by omega)
      rw [h.1,h.2];exact ⟨rfl,rfl⟩)
   | (subst_vars;exact ⟨rfl,rfl⟩)
   | (have h:q=0\/(q=22\/q=21\/q=65535)\/(q=15\/q=23)\/(q=17\/q=19\/q=26\/q=20)\/(q=11\/q=12\/q=16\/q=18\/q=24\/q=27):=by omega
      rcases h with rfl | (rfl | rfl | rfl) | (rfl | rfl) | (rfl | rfl | rfl | rfl) | (rfl | rfl | rfl | rfl | rfl | rfl)<;>first | (exfalso;omega) | exact ⟨rfl,rfl⟩)
 ·cases e
def VW_:IR:=
(sq (kr [0,1] [oD 4 (.mov (cI 0))])
(sq (.block 0
(sq (kr [0,1] [oM 6 0,
oB 7 .eql 6 (cI 0),
oM 8 7,
oT 8 9 (.mov 1),
oT 8 10 (.bin .eql 9 (.c (.int .u64 0))),
oP 11 8 10 cF,
oM 5 11])
(.cond 5
(sq (kr [] [oD 4 (.mov (cI 517))])
.ret)
(sq (kr [0,1] [oM 13 0,
oB 14 .eql 13 (cI 22),
oM 15 14,
oT 15 16 (.mov 1),
oT 15 17 (.bin .gtr 16 (.c (.int .u64 4294967040))),
oP 18 15 17 cF,
oM 12 18])
(.cond 12
(sq (kr [] [oD 4 (.mov (cI 522))])
.ret)
(sq (kr [0,1] [oM 20 0,
oB 21 .eql 20 (cI 17),
oM 22 21,
oT 22 23 (.mov 1),
oT 22 24 (.bin .neq 23 (.c (.int .u64 33024))),
oP 25 22 24 cF,
oM 26 25,
oT 26 27 (.mov 1),
oT 26 28 (.bin .neq 27 (.c (.int .u64 34984))),
oP 29 26 28 cF,
oM 19 29])
(.cond 19
(sq (kr [] [oD 4 (.mov (cI 518))])
.ret)
(sq (kr [0,1] [oM 31 0,
oB 32 .eql 31 (cI 19),
oM 33 32,
oT 33 34 (.mov 1),
oT 33 35 (.bin .neq 34 (.c (.int .u64 34887))),
oP 36 33 35 cF,
oM 37 36,
oT 37 38 (.mov 1),
oT 37 39 (.bin .neq 38 (.c (.int .u64 34888))),
oP 40 37 39 cF,
oM 30 40])
(.cond 30
(sq (kr [] [oD 4 (.mov (cI 518))])
.ret)
(sq (kr [0,1] [oM 42 0,
oB 43 .eql 42 (cI 26),
oM 44 43,
oT 44 45 (.mov 1),
oT 44 46 (.bin .neq 45 (.c (.int .u64 35047))),
oP 47 44 46 cF,
oM 41 47])
(.cond 41
(sq (kr [] [oD 4 (.mov (cI 518))])
.ret)
.skip)))))))))))
(sq (kr [] [oD 4 (.mov (cI 0))])
.ret)))
def Vx_:List RD:=[.tmp 4 true none]
theorem VJ_:zj_ Tryz.prog Tryz.f221 VW_ Vx_=true:=by kernel_rfl
def kf_:List AV->List Obj->Option (Prop × AV)
 | [.int .i64 q,.int .u64 n],[]=>some ((True,.int .i64 (askF q n)))
 | _,_=>none
theorem j5_:zd_ Tryz.prog 221 (RoF kf_).sum:=by
 refine zi_ Tryz.func221 VJ_ (zc_ _) fun args objs p v e=>?_
 unfold kf_ at e
 split at e
 ·rename_i q n
  cases e
  refine ⟨rfl,fun hw ho hp=>?_⟩
  clear hw ho
  repeat'(intro t ht;first|(cases t<;>first|(cases ht;done)|(try simp only[zg_]at ht;try(exfalso;first|contradiction|omega)))|((first|refine zb_ ht ?_|refine ht ?_ ?_|refine ht.1 ?_ ?_|refine ht ?_)<;>clear ht))
  all_goals first
   | exact True.intro
   | (refine ⟨congrArg (AV.int .i64) ?_,rfl⟩;unfold askF;repeat' split
      all_goals first | rfl | omega)
 ·cases e
def X4_:IR:=
(sq (kr [0] [oD 1 (.boxv 0),
oD 2 (.mov cF)])
(sq (kr [1] [oA 3 0 1,
oL 4 3,
oB 5 .eql 4 (cI 32768),
oM 6 5,
oT 6 7 (.fieldAddr 2 1),
oT 6 8 (.load none 7),
oT 6 9 (.un .not 8),
oP 10 6 9 cF,
oM 11 10,
oT 11 12 (.fieldAddr 1 1),
oT 11 13 (.load none 12),
oT 11 14 (.call false (.f 227) [13]),
oP 15 11 14 cF,
oM 16 15,
oT 16 17 (.load (some 6) 1),
oT 16 18 (.call false (.f 118) [17]),
oP 19 16 18 cF,
oM 2 19])
.ret))
def XS_:List RD:=[.tmp 2 true none]
theorem XX_:zj_ Tryz.prog Tryz.f219 X4_ XS_=true:=by kernel_rfl
def ke_:List AV->List Obj->Option (Prop × AV)
 | [.agg [.int .i64 c,.int .i64 f,.bool h,.int .u64 x,.imm (.int .u8) v,.imm (.int .u8) m]],[]=>some ((v.length<=1000000/\m.length<=1000000,.bool (decide (c=32768) && !h && vL_ f && zL_ c f h x v m)))
 | _,_=>none
theorem Xu_:zd_ Tryz.prog 219 (RoF ke_).sum:=by
 refine zi_ Tryz.func219 XX_ (za_ (s:=RoF Qa_) KW_ (za_ (s:=RoF QL_) kK_ (zc_ _))) fun args objs p v e=>?_
 unfold ke_ at e
 split at e
 ·rename_i c f h x v m
  cases e
  refine ⟨rfl,fun hw ho hp=>?_⟩
  change List Int at v
  change List Int at m
  clear hw ho
  cases h
  all_goals repeat'(intro t ht;first|(cases t<;>first|(cases ht;done)|(try simp only[zg_]at ht;try(exfalso;first|contradiction|omega)))|((first|refine zb_ ht ?_|refine ht ?_ ?_|refine ht.1 ?_ ?_|refine ht ?_)<;>clear ht))
  all_goals first
   | exact True.intro
   | exact hp
   | (refine ⟨congrArg AV.bool ?_,rfl⟩;simp_all;done)
 ·cases e
def UV_:IR:=
(sq (kr [0] [oD 1 (.boxv 0),
oD 2 (.mov cF)])
(sq (.reg [oK 3 6 1,
oD 4 (.build [.int .i64 0,.int .i64 0,.kb false,.int .u64 0,.imm (.int .u8) [],.imm (.int .u8) []] []),
oC 5 228 [3,4],
oM 2 5])
.ret))
def u3_:List RD:=[.tmp 2 true none]
theorem Uv_:zj_ Tryz.prog Tryz.f220 UV_ u3_=true:=by kernel_rfl
def jU_:List AV->List Obj->Option (Prop × AV)
 | [.agg [.int .i64 c,.int .i64 f,.bool h,.int .u64 x,.imm (.int .u8) v,.imm (.int .u8) m]],[]=>some ((True,.bool (QH_ c f h x v m 0 0 false 0 [] [])))
 | _,_=>none
theorem Vl_:zd_ Tryz.prog 220 (RoF jU_).sum:=by
 refine zi_ Tryz.func220 Uv_ (za_ (s:=RoF ym_) h5_ (zc_ _)) fun args objs p v e=>?_
 unfold jU_ at e
 split at e
 ·rename_i c f h x v m
  cases e
  refine ⟨rfl,fun hw ho hp=>?_⟩
  change List Int at v
  change List Int at m
  clear hw ho
  repeat'(intro t ht;first|(cases t<;>first|(cases ht;done)|(try simp only[zg_]at ht;try(exfalso;first|contradiction|omega)))|((first|refine zb_ ht ?_|refine ht ?_ ?_|refine ht.1 ?_ ?_|refine ht ?_)<;>clear ht))
  all_goals first
   | exact True.intro
   | exact ⟨rfl,rfl⟩
 ·cases e
def Ko_ (t a b:Int):List Int:=[a,b].take (zB_ (zD_ t)).toNat
def ZT_ (R:Bool) (t a b c f:Int) (h:Bool) (x:Int) (v m d:List Int):Bool:=
 if t=25 then decide (a=0) && decide (b=0) && decide (d.length=0) && (decide (c=32768) && !h && vL_ f && R)
 else Hb_ t && QH_ c f h x v m 0 0 false 0 [] [] && decide (askF t a=0) && ZX_ (zD_ t) (Ko_ t a b) && (decide (2<=zB_ (zD_ t)) || decide (b=0)) && (decide (1<=zB_ (zD_ t)) || decide (a=0)) && (if t=65535 then decide ((d.length:Int).tmod 8=0) && decide ((d.length:Int)<=65520) else decide (d.length=0))
def VX_:IR:=
(sq (kr [0] [oD 1 (.boxv 0),
oD 2 (.mov cF)])
(sq (sq (.reg [oA 8 0 1,
oL 9 8,
oB 10 .eql 9 (cI 25)])
(.cond 10
(sq (kr [1] [oA 11 1 1,
oL 12 11,
oB 13 .eql 12 (.c (.int .u64 0)),
oM 14 13,
oT 14 15 (.fieldAddr 2 1),
oT 14 16 (.load none 15),
oT 14 17 (.bin .eql 16 (.c (.int .u64 0))),
oP 18 14 17 cF,
oM 19 18,
oT 19 20 (.fieldAddr 9 1),
oT 19 21 (.load none 20),
oT 19 22 (.len 21),
oT 19 23 (.bin .eql 22 (cI 0)),
oP 24 19 23 cF,
oM 25 24,
oT 25 26 (.fieldAddr 3 1),
oT 25 27 (.load (some 6) 26),
oT 25 28 (.call false (.f 219) [27]),
oP 29 25 28 cF,
oM 2 29])
.ret)
.skip))
(sq (kr [1] [oA 31 0 1,
oL 32 31,
oC 33 212 [32],
oM 30 33,
oX 34 30 0,
oX 35 30 1,
oM 3 34,
oM 4 35])
(sq (sq (kr [1,3,4] [oM 36 4,
oD 37 (.un .not 36),
oM 38 37,
oF 38 39 (.fieldAddr 3 1),
oF 38 40 (.load (some 6) 39),
oF 38 41 (.call false (.f 220) [40]),
oF 38 42 (.un .not 41),
oP 43 38 cT 42,
oM 44 43,
oF 44 45 (.fieldAddr 0 1),
oF 44 46 (.load none 45),
oF 44 47 (.fieldAddr 1 1),
oF 44 48 (.load none 47),
oF 44 49 (.call false (.f 221) [46,48]),
oF 44 50 (.bin .neq 49 (cI 0)),
oP 51 44 cT 50])
(.cond 51
(sq (kr [] [oD 2 (.mov cF)])
.ret)
.skip))
(sq (kr [1,3] [oM 52 3,
oC 53 114 [52],
oM 5 53])
(sq (kr [1,3,5] [oM 55 3,
oA 56 1 1,
oL 57 56,
oA 58 2 1,
oL 59 58,
oD 60 (.sliceAll (.int .u64) 2 [(0,1,57),(1,1,59)]),
oM 61 5,
oD 62 (.slice 1 60 none (some 61) none),
oC 63 64 [55,62],
oM 54 63,
oX 64 54 0,
oX 65 54 1,
oM 6 64,
oM 7 65])
(sq (sq (kr [1,5,7] [oM 66 7,
oD 67 (.un .not 66),
oM 68 67,
oF 68 69 (.mov 5),
oF 68 70 (.bin .lss 69 (cI 2)),
oF 68 71 (.mov 70),
oT 71 72 (.fieldAddr 2 1),
oT 71 73 (.load none 72),
oT 71 74 (.bin .neq 73 (.c (.int .u64 0))),
oF 68 75 (.pick 71 74 cF),
oP 76 68 cT 75,
oM 77 76,
oF 77 78 (.mov 5),
oF 77 79 (.bin .lss 78 (cI 1)),
oF 77 80 (.mov 79),
oT 80 81 (.fieldAddr 1 1),
oT 80 82 (.load none 81),
oT 80 83 (.bin .neq 82 (.c (.int .u64 0))),
oF 77 84 (.pick 80 83 cF),
oP 85 77 cT 84])
(.cond 85
(sq (kr [] [oD 2 (.mov cF)])
.ret)
.skip))
(sq (sq (kr [1] [oA 86 0 1,
oL 87 86,
oB 88 .neq 87 (cI 65535)])
(.cond 88
(sq (kr [1] [oA 89 9 1,
oL 90 89,
oE 91 90,
oB 92 .eql 91 (cI 0),
oM 2 92])
.ret)
.skip))
(sq (kr [1] [oA 93 9 1,
oL 94 93,
oE 95 94,
oB 96 .rem 95 (cI 8),
oB 97 .eql 96 (cI 0),
oM 98 97,
oT 98 99 (.fieldAddr 9 1),
oT 98 100 (.load none 99),
oT 98 101 (.len 100),
oT 98 102 (.bin .leq 101 (cI 65520)),
oP 103 98 102 cF,
oM 2 103])
.ret)))))))))
def Vy_:List RD:=[.tmp 2 true none]
theorem VK_:zj_ Tryz.prog Tryz.f210 VX_ Vy_=true:=by kernel_rfl
def kg_:List AV->List Obj->Option (Prop × AV)
 | [.agg [.int .i64 q,.int .u64 a,.int .u64 b,.int .i64 c,.int .i64 f,.bool h,.int .u64 x,.imm (.int .u8) v,.imm (.int .u8) m,.imm (.int .u8) d]],[]=>some ((v.length<=1000000/\m.length<=1000000,.bool (ZT_ (zL_ c f h x v m) q a b c f h x v m d)))
 | _,_=>none
theorem j6_:zd_ Tryz.prog 210 (RoF kg_).sum:=by
 refine zi_ Tryz.func210 VK_ (za_ (s:=RoF ke_) Xu_ (za_ (s:=RoF qu_) Qz_ (za_ (s:=RoF jU_) Vl_ (za_ (s:=RoF kf_) j5_ (za_ (s:=RoF QK_) kJ_ (za_ (s:=RoF Xg_) vD_ (zc_ _))))))) fun args objs p v e=>?_
 unfold kg_ at e
 split at e
 ·rename_i q a b c f h x v m d
  cases e
  refine ⟨rfl,fun hw ho hp=>?_⟩
  change List Int at v
  change List Int at m
  change List Int at d
  have hdl:d.length<=maxLen:=(hw _ (List.mem_cons_self ..) (.imm (.int .u8) d) (by simp)).2
  unfold maxLen at hdl
  clear hw ho
  have hcn:=ge_ q
  by_cases h25:q=25
  ·subst h25
   repeat'(intro t ht;first|(cases t<;>first|(cases ht;done)|(try simp only[zg_]at ht;try(exfalso;first|contradiction|omega)))|((first|refine zb_ ht ?_|refine ht ?_ ?_|refine ht.1 ?_ ?_|refine ht ?_)<;>clear ht))
   all_goals first
    | exact True.intro
    | exact hp
    | ((try simp only [zm_,zn_,zl_] at*);omega)
    | (refine ⟨congrArg AV.bool ?_,rfl⟩;unfold ZT_;rw [if_pos rfl];simp_all;done)
  ·repeat'(intro t ht;first|(cases t<;>first|(cases ht;done)|(try simp only[zg_]at ht;try(exfalso;first|contradiction|omega)))|((first|refine zb_ ht ?_|refine ht ?_ ?_|refine ht.1 ?_ ?_|refine ht ?_)<;>clear ht))
   all_goals first
    | exact True.intro
    | exact hp
    | ((try simp only [zm_,zn_,zl_] at*);omega)
    | (refine ⟨congrArg AV.bool ?_,rfl⟩;unfold ZT_ Ko_;rw [if_neg h25];simp_all;done)
    | (refine ⟨congrArg AV.bool ?_,rfl⟩;unfold ZT_ Ko_;rw [if_neg h25];simp_all;omega)
 ·cases e
def yJ_ (R:Bool) (S:Int) (t a b c f:Int) (h:Bool) (x:Int) (v m d:List Int):Int:=if ZT_ R t a b c f h x v m d=true then (if t=25 then (4+S+8 - 1).tdiv 8*8 else 4+zG_ (zD_ t)+d.length) else 0
theorem zbU_ {R:Bool} {t a b c f:Int} {h:Bool} {x:Int} {v m d:List Int} (hr:ZT_ R t a b c f h x v m d=true):d.length<=65520:=by
 unfold ZT_ at hr
 split at hr
 ·simp only [Bool.and_eq_true,decide_eq_true_eq] at hr;omega
 ·simp only [Bool.and_eq_true] at hr
  have:=hr.2
  split at this
  ·simp only [Bool.and_eq_true,decide_eq_true_eq] at this;omega
  ·simp only [decide_eq_true_eq] at this;omega
theorem Ba_ {c f:Int} {h:Bool} {x:Int} {v m:List Int} (hv:v.length<=1000000) (hm:m.length<=1000000):0<=Qc_ c f h x v m/\Qc_ c f h x v m<=3000000:=by
 unfold Qc_ Zb_;repeat' split
 all_goals omega
def UW_:IR:=
(sq (kr [0] [oD 1 (.boxv 0),
oD 2 (.mov (cI 0))])
(sq (sq (.reg [oK 5 10 1,
oC 6 210 [5],
oD 7 (.un .not 6)])
(.cond 7
(sq (.reg [oD 2 (.mov (cI 0))])
.ret)
.skip))
(sq (sq (kr [1] [oA 8 0 1,
oL 9 8,
oB 10 .eql 9 (cI 25)])
(.cond 10
(sq (kr [1] [oA 11 3 1,
oK 12 6 11,
oC 13 120 [12],
oB 14 .add (cI 4) 13,
oB 15 .add 14 (cI 8),
oB 16 .sub 15 (cI 1),
oB 17 .quo 16 (cI 8),
oB 18 .mul 17 (cI 8),
oM 2 18])
.ret)
.skip))
(sq (kr [1] [oA 20 0 1,
oL 21 20,
oC 22 212 [21],
oM 19 22,
oX 23 19 0,
oX 24 19 1,
oM 3 23,
oM 4 24])
(sq (kd [1,3] [(oM 25 3,[]),
(oC 26 94 [25],[]),
(oB 27 .add (cI 4) 26,[]),
(oA 28 9 1,[0,0,0]),
(oL 29 28,[1,0,0]),
(oE 30 29,[2,0,0]),
(oB 31 .add 27 30,[]),
(oM 2 31,[])])
.ret)))))
def u4_:List RD:=[.tmp 2 true none]
theorem Uw_:zj_ Tryz.prog Tryz.f209 UW_ u4_=true:=by kernel_rfl
def kU_:List AV->List Obj->Option (Prop × AV)
 | [.agg [.int .i64 q,.int .u64 a,.int .u64 b,.int .i64 c,.int .i64 f,.bool h,.int .u64 x,.imm (.int .u8) v,.imm (.int .u8) m,.imm (.int .u8) d]],[]=>some ((v.length<=1000000/\m.length<=1000000,.int .i64 (yJ_ (zL_ c f h x v m) (Qc_ c f h x v m) q a b c f h x v m d)))
 | _,_=>none
theorem wN_:zd_ Tryz.prog 209 (RoF kU_).sum:=by
 refine zi_ Tryz.func209 Uw_ (za_ (s:=RoF kg_) j6_ (za_ (s:=RoF K7_) JB_ (za_ (s:=RoF qu_) Qz_ (za_ (s:=RoF QD_) QU_ (zc_ _))))) fun args objs p v e=>?_
 unfold kU_ at e
 split at e
 ·rename_i q a b c f h x v m d
  cases e
  refine ⟨rfl,fun hw ho hp=>?_⟩
  change List Int at v
  change List Int at m
  change List Int at d
  clear hw ho
  have hs:=Ba_ (c:=c) (f:=f) (h:=h) (x:=x) hp.1 hp.2
  have hz:=uG_ q
  have htd:(4+Qc_ c f h x v m+8 - 1).tdiv 8=(4+Qc_ c f h x v m+8 - 1) / 8:=Int.tdiv_eq_ediv_of_nonneg (by omega)
  cases hr:ZT_ (zL_ c f h x v m) q a b c f h x v m d with
  | false=>
    repeat'(intro t ht;first|(cases t<;>first|(cases ht;done)|(try simp only[zg_]at ht;try(exfalso;first|contradiction|omega)))|((first|refine zb_ ht ?_|refine ht ?_ ?_|refine ht.1 ?_ ?_|refine ht ?_)<;>clear ht))
    all_goals first
     | exact True.intro
     | exact hp
     | (exfalso;simp_all;done)
     | (refine ⟨?_,rfl⟩;unfold yJ_;rw [hr];rfl)
  | true=>
    have hl:=zbU_ hr
    repeat'(intro t ht;first|(cases t<;>first|(cases ht;done)|(try simp only[zg_]at ht;try(exfalso;first|contradiction|omega)))|((first|refine zb_ ht ?_|refine ht ?_ ?_|refine ht.1 ?_ ?_|refine ht ?_)<;>clear ht))
    all_goals first
     | exact True.intro
     | exact hp
     | (exfalso;simp_all;done)
     | ((try simp only [zm_,zn_,zl_] at*);omega)
     | (rw [htd];(try simp only [zm_,zn_,zl_] at*);omega)
     | (refine ⟨congrArg (AV.int .i64) ?_,rfl⟩;unfold yJ_;rw [if_pos hr,if_pos (by assumption)];done)
     | (refine ⟨congrArg (AV.int .i64) ?_,rfl⟩;unfold yJ_;rw [if_pos hr,if_neg (by assumption)];done)
 ·cases e
def xq_:IR:=
(sq (kr [0] [oD 2 (.mov (cI 0))])
(sq (sq (.reg [oM 3 0,
oC 4 66 [3]])
(.cond 4
(sq (.reg [oD 2 (.mov (cI 0))])
.ret)
.skip))
(sq (kr [0] [oM 5 0,
oD 6 (.nilck 5),
oA 7 0 6,
oL 8 7,
oE 9 8,
oM 2 9])
.ret)))
def W4_:List RD:=[.tmp 2 true none]
theorem xd_:zj_ Tryz.prog Tryz.f222 xq_ W4_=true:=by kernel_rfl
def Qk_:List AV->List Obj->Option (Prop × AV)
 | [.ptr 0 0],[.box [.own 1,.int .i64 room,.mapv 2,.int .i64 e],.row false (.int .u8) l,.map sq (.int .i64) (.int .i64) h]=>some ((True,.int .i64 l.length))
 | _,_=>none
theorem wV_:zd_ Tryz.prog 222 (RoF Qk_).sum:=by
 refine zi_ Tryz.func222 xd_ (za_ (s:=RoF z2_) Zi_ (zc_ _)) fun args objs p v e=>?_
 unfold Qk_ at e
 split at e
 ·rename_i room e l sq h
  cases e
  refine ⟨rfl,fun hw ho hp=>?_⟩
  change List Int at l
  repeat'(intro t ht;first|(cases t<;>first|(cases ht;done)|(try simp only[zg_]at ht))|((first|refine zb_ ht ?_|refine ht ?_ ?_|refine ht.1 ?_ ?_|refine ht ?_)<;>clear ht))
  all_goals first
   | exact True.intro
   | exact ⟨rfl,rfl⟩
 ·cases e
def evZ (s:Int) (n:Nat):List Int:=List.replicate ((s - (n:Int).tmod s).tmod s).toNat 0
theorem V3_ {a s:Int} (ha:0<=a) (hs:1<=s):0<=a.tmod s/\a.tmod s < s:=by
 rw [Int.tmod_eq_emod_of_nonneg ha];exact ⟨Int.emod_nonneg _ (by omega),Int.emod_lt_of_pos _ (by omega)⟩
def WE_:IR:=
(sq (sq (kr [0,1] [oM 4 1,
oB 5 .lss 4 (cI 1),
oM 6 5,
oF 6 7 (.mov 1),
oF 6 8 (.bin .gtr 7 (cI 64)),
oP 9 6 cT 8])
(.cond 9
(sq (kr [0] [oM 10 0,
oC 11 34 [10,(cI 10001)]])
.ret)
.skip))
(kr [0,1] [oM 12 0,
oM 13 1,
oM 14 0,
oC 15 222 [14],
oM 16 1,
oB 17 .rem 15 16,
oB 18 .sub 13 17,
oM 19 1,
oB 20 .rem 18 19,
oD 21 (.mkrow (.int .u8) 1 (0:Int) 20 20),
oC 22 65 [12,21]]))
def w9_:List RD:=[]
theorem Wp_:zj_ Tryz.prog Tryz.f211 WE_ w9_=true:=by kernel_rfl
def q2_:List AV->List Obj->Option (Prop × AV × List Obj)
 | [.ptr 0 0,.int .i64 s],[.box [.own 1,.int .i64 room,.mapv 2,.int .i64 e],.row false (.int .u8) l,.map sq (.int .i64) (.int .i64) h]=>some ((0<=room/\room<=1000000/\l.length<=1000000/\1<=s/\s<=64,.tup [],[.box [.own 3,.int .i64 room,.mapv 2,.int .i64 (QS_ (evZ s l.length) l room e)],.dead,.map sq (.int .i64) (.int .i64) h,.row false (.int .u8) (kB_ (evZ s l.length) l room e)]))
 | _,_=>none
theorem JL_:zd_ Tryz.prog 211 (RwF q2_).sum:=by
 refine qg_ Tryz.func211 Wp_ (za_ (s:=RwF zy_) zE_ (za_ (s:=RoF Qk_) wV_ (za_ (s:=RwF zu_) zz_ (zc_ _)))) fun args objs p v o e=>?_
 unfold q2_ at e
 split at e
 ·rename_i s room e l sq h
  cases e
  refine ⟨rfl,fun hw ho hp=>?_⟩
  change List Int at l
  clear hw ho
  have b1:=V3_ (a:=(l.length:Int)) (s:=s) (by omega) (by omega)
  have b2:=V3_ (a:=s - (l.length:Int).tmod s) (s:=s) (by omega) (by omega)
  repeat'(intro t ht;first|(cases t<;>first|(cases ht;done)|(try simp only[zg_]at ht;try(exfalso;first|contradiction|omega)))|((first|refine zb_ ht ?_|refine ht ?_ ?_|refine ht.1 ?_ ?_|refine ht ?_)<;>clear ht))
  all_goals first
   | exact True.intro
   | ((try simp only [zm_,zn_,zl_] at*);omega)
   | exact ⟨hp.1,hp.2.1,hp.2.2.1,by rw [List.length_replicate];omega⟩
   | exact ⟨rfl,rfl⟩
 ·cases e
def Z6_ (t a b:Int) (E d:List Int):List Int:=if t=25 then E++List.replicate ((8 - (4+E.length) % 8) % 8) 0 else Zn_ (zD_ t) (Ko_ t a b)++d
def Yd_ (t a b:Int) (E d:List Int):List Int:=ze_ t 2++ze_ (4+(Z6_ t a b E d).length) 2++Z6_ t a b E d
theorem hh_ {a n:Int} (ha:0<=a/\a<=65535) (hn:0<=n/\n<=65535):Zn_ [2,2] [a,n]=ze_ a 2++ze_ n 2/\ZX_ [2,2] [a,n]=true:=by
 have e1:a.fdiv (2 ^ 16)=0:=by rw [Int.fdiv_eq_ediv_of_nonneg _ (by decide)];omega
 have e2:n.fdiv (2 ^ 16)=0:=by rw [Int.fdiv_eq_ediv_of_nonneg _ (by decide)];omega
 have h:k2_ [2,2] [a,n]=some (ze_ a 2++ze_ n 2):=by
  unfold k2_
  rw [if_pos ⟨by decide,(by decide:zB_ [2,2]=2)⟩]
  have m:min (8*(2:Int)).toNat 64=16:=by decide
  simp only [qb_,m]
  rw [if_neg (by decide),if_neg (by rintro ⟨_,h⟩;exact h e1),if_neg (by decide),if_neg (by rintro ⟨_,h⟩;exact h e2)]
  rfl
 unfold Zn_ ZX_;rw [h];exact ⟨rfl,rfl⟩
theorem xC_ {x l:List Int} {room:Int} (h:(x.length:Int)<=room - l.length):kB_ x l room 0=l++x/\QS_ x l room 0=0:=by
 have hb:Jp_ x l room 0=true:=by unfold Jp_;rw [decide_eq_true h];rfl
 exact ⟨by unfold kB_;rw [if_pos hb],by unfold QS_;rw [if_pos rfl,if_pos h]⟩
theorem Ha_ {w xs l:List Int} {room:Int} (hk:ZX_ w xs=true) (h:((Zn_ w xs).length:Int)<=room - l.length):qj_ w xs l room 0=l++Zn_ w xs/\qG_ w xs l room 0=0:=by
 unfold qj_ qG_;rw [if_pos hk,if_pos hk];exact xC_ h
theorem Q8_ {x l:List Int} {room e:Int} (h:l.length<=1000000) (hr:room<=1000000):(kB_ x l room e).length<=1000000:=by
 unfold kB_ Jp_;split
 ·rename_i hb;simp only [Bool.and_eq_true,decide_eq_true_eq] at hb;rw [List.length_append];omega
 ·exact h
theorem j8_ {w xs l:List Int} {room e:Int} (h:l.length<=1000000) (hr:room<=1000000):(qj_ w xs l room e).length<=1000000:=by
 unfold qj_;split
 ·exact Q8_ h hr
 ·exact h
theorem KO_ {w xs:List Int} (hk:ZX_ w xs=true):((Zn_ w xs).length:Int)=zG_ w:=by
 unfold ZX_ at hk
 obtain ⟨r,hr⟩:=Option.isSome_iff_exists.1 hk
 have hb:Zn_ w xs=r:=by unfold Zn_;rw [hr];rfl
 rw [hb]
 unfold k2_ at hr
 split at hr
 ·rename_i h
  have:=yQ_ w xs [] r (ZD_.1 h.1).2 hr
  unfold zG_;rw [if_pos h.1,this];simp
 ·cases hr
theorem zk6_ (n:Nat):evZ 8 n=List.replicate ((8 - n % 8) % 8) 0:=by
 unfold evZ;congr 1
 have h1:(n:Int).tmod 8=(n:Int) % 8:=Int.tmod_eq_emod_of_nonneg (by omega)
 rw [h1,Int.tmod_eq_emod_of_nonneg (by omega)];omega
theorem x1_ {R:Bool} {t a b c f:Int} {h:Bool} {x:Int} {v m d:List Int} (ht:t=25) (hr:ZT_ R t a b c f h x v m d=true):a=0/\b=0/\d=[]/\c=32768/\h=false/\vL_ f=true/\R=true:=by
 unfold ZT_ at hr;rw [if_pos ht] at hr
 simp only [Bool.and_eq_true,decide_eq_true_eq,Bool.not_eq_true'] at hr
 obtain ⟨⟨⟨h1,h2⟩,h3⟩,⟨⟨h4,h5⟩,h6⟩,h7⟩:=hr
 exact ⟨h1,h2,List.eq_nil_of_length_eq_zero h3,h4,h5,h6,h7⟩
theorem KX_ {R:Bool} {t a b c f:Int} {h:Bool} {x:Int} {v m d:List Int} (ht:¬ t=25) (hr:ZT_ R t a b c f h x v m d=true):Hb_ t=true/\QH_ c f h x v m 0 0 false 0 [] []=true/\askF t a=0/\ZX_ (zD_ t) (Ko_ t a b)=true/\(2<=zB_ (zD_ t)\/b=0)/\(1<=zB_ (zD_ t)\/a=0)/\((t=65535/\(d.length:Int).tmod 8=0/\(d.length:Int)<=65520)\/(¬ t=65535/\d=[])):=by
 unfold ZT_ at hr;rw [if_neg ht] at hr
 simp only [Bool.and_eq_true,Bool.or_eq_true,decide_eq_true_eq] at hr
 obtain ⟨⟨⟨⟨⟨⟨h1,h2⟩,h3⟩,h4⟩,h5⟩,h6⟩,h7⟩:=hr
 refine ⟨h1,h2,h3,h4,h5,h6,?_⟩
 split at h7
 ·rename_i h8
  simp only [Bool.and_eq_true,decide_eq_true_eq] at h7;exact .inl ⟨h8,h7⟩
 ·rename_i h8
  simp only [decide_eq_true_eq] at h7;exact .inr ⟨h8,List.eq_nil_of_length_eq_zero h7⟩
theorem jq_ {c f:Int} {h:Bool} {x:Int} {v m:List Int} (hr:zL_ c f h x v m=true):Qc_ c f h x v m=(Zq_ c f h x v m).length/\(Zq_ c f h x v m).length<=300:=by
 have h1:Qc_ c f h x v m=((Qh_ c f h x v m).length:Int):=by rw [zfI_,if_pos hr]
 have hrn:=qk_ hr
 have hl2:=zk_ (n:=c) (w:=2) (by decide)
 have:((Qh_ c f h x v m).length:Int)=4+Zb_ c v m:=by
  rw [hrn.2.2.2.2.2.2.2];unfold Qh_;simp only [List.length_append,List.length_cons,List.length_nil];omega
 rw [ue_ hr]
 exact ⟨h1,by omega⟩
theorem hU_ {t:Int} (h:Hb_ t=true\/t=25):0<=t/\t<=65535:=by
 rcases h with h | h
 ·have:=zfL_ h;omega
 ·omega
theorem xZ_ {t a b c f:Int} {h:Bool} {x:Int} {v m d:List Int} (hr:ZT_ (zL_ c f h x v m) t a b c f h x v m d=true):yJ_ (zL_ c f h x v m) (Qc_ c f h x v m) t a b c f h x v m d=4+((Z6_ t a b (Zq_ c f h x v m) d).length:Int)/\(Z6_ t a b (Zq_ c f h x v m) d).length<=65524/\(4+(Z6_ t a b (Zq_ c f h x v m) d).length) % 8=0/\8<=4+(Z6_ t a b (Zq_ c f h x v m) d).length:=by
 unfold yJ_ Z6_
 rw [if_pos hr]
 by_cases ht:t=25
 ·rw [if_pos ht,if_pos ht]
  obtain ⟨_,_,_,_,_,_,hR⟩:=x1_ ht hr
  obtain ⟨e1,e2⟩:=jq_ hR
  have h4:4<=(Zq_ c f h x v m).length:=by
   have:Qc_ c f h x v m=4+Zb_ c v m:=by unfold Qc_;rw [if_pos hR]
   have hrest:0<=Zb_ c v m:=by unfold Zb_;split<;>omega
   omega
  rw [e1,List.length_append,List.length_replicate,Int.tdiv_eq_ediv_of_nonneg (by omega)]
  omega
 ·rw [if_neg ht,if_neg ht]
  obtain ⟨k1,_,_,k4,_,_,k7⟩:=KX_ ht hr
  have hs:=KO_ k4
  have hz:=uG_ t
  rw [List.length_append]
  have hq:zG_ (zD_ t)=4\/zG_ (zD_ t)=12:=by
   have:=zfL_ k1
   rcases this with rfl | (rfl | rfl | rfl) | (rfl | rfl) | (rfl | rfl | rfl | rfl) | (rfl | rfl | rfl | rfl | rfl | rfl)<;>decide
  rcases k7 with ⟨k8,k9,k10⟩ | ⟨_,rfl⟩
  ·have:zG_ (zD_ t)=4:=by rw [k8];decide
   rw [Int.tmod_eq_emod_of_nonneg (by omega)] at k9
   omega
  ·simp only [List.length_nil];omega
def Y3_:IR:=
(sq (kr [0] [oD 1 (.boxv 0),
oD 2 (.mov (.c (.imm (.int .u8) []))),
oD 3 (.mov (cI 0))])
(sq (sq (.reg [oK 9 10 1,
oC 10 210 [9],
oD 11 (.un .not 10)])
(.cond 11
(sq (kr [] [oD 2 (.mov (.c (.imm (.int .u8) []))),
oD 3 (.mov (cI 10001))])
.ret)
.skip))
(sq (kr [1] [oK 12 10 1,
oC 13 209 [12],
oC 14 27 [13],
oM 4 14])
(sq (kd [1,4] [(oM 15 4,[]),
(oD 16 (.sliceAll (.int .i64) 2 [(0,1,(cI 2)),(1,1,(cI 2))]),[0]),
(oA 17 0 1,[0,0]),
(oL 18 17,[1,0]),
(oD 19 (.conv .u64 18),[2,0]),
(oK 20 10 1,[0,0,0,0,0]),
(oC 21 209 [20],[1,0,0,0,0]),
(oD 22 (.conv .u64 21),[2,0,0,0,0]),
(oD 23 (.sliceAll (.int .u64) 2 [(0,1,19),(1,1,22)]),[6,0]),
(oC 24 28 [15,16,23],[])])
(sq (sq (kr [1,4] [oA 25 0 1,
oL 26 25,
oB 27 .eql 26 (cI 25)])
(.cond 27
(sq (kr [1,4] [oA 29 3 1,
oK 30 6 29,
oC 31 71 [30],
oM 28 31,
oX 32 28 0,
oX 33 28 1,
oM 5 32,
oM 6 33])
(sq (kr [4,5] [oM 34 4,
oM 35 5,
oC 36 65 [34,35]])
(sq (.reg [oM 37 4,
oC 38 211 [37,(cI 8)]])
(sq (kr [4] [oM 39 4,
oC 40 29 [39],
oX 41 40 0,
oX 42 40 1,
oM 2 41,
oM 3 42])
.ret))))
.skip))
(sq (kr [1,4] [oA 44 0 1,
oL 45 44,
oC 46 212 [45],
oM 43 46,
oX 47 43 0,
oX 48 43 1,
oM 7 47,
oM 8 48])
(sq (kd [1,4,7] [(oM 49 4,[]),
(oM 50 7,[0]),
(oA 51 1 1,[0,0]),
(oL 52 51,[1,0]),
(oA 53 2 1,[0,0,0,0]),
(oL 54 53,[1,0,0,0]),
(oD 55 (.sliceAll (.int .u64) 2 [(0,1,52),(1,1,54)]),[4,0]),
(oM 56 7,[0,0,0,0,0,0,0]),
(oC 57 114 [56],[1,0,0,0,0,0,0]),
(oD 58 (.slice 1 55 none (some 57) none),[7,0]),
(oC 59 28 [49,50,58],[])])
(sq (kr [1,4] [oM 60 4,
oA 61 9 1,
oL 62 61,
oC 63 65 [60,62]])
(sq (kr [4] [oM 64 4,
oC 65 29 [64],
oX 66 65 0,
oX 67 65 1,
oM 2 66,
oM 3 67])
.ret)))))))))
def YK_:List RD:=[.tmp 2 true (some (.int .u8)),.tmp 3 true none]
theorem YR_:zj_ Tryz.prog Tryz.f195 Y3_ YK_=true:=by kernel_rfl
def Ki_:List AV->List Obj->Option (Prop × AV)
 | [.agg [.int .i64 q,.int .u64 a,.int .u64 b,.int .i64 c,.int .i64 f,.bool h,.int .u64 x,.imm (.int .u8) v,.imm (.int .u8) m,.imm (.int .u8) d]],[]=>some ((v.length<=1000000/\m.length<=1000000,.tup [.imm (.int .u8) (if ZT_ (zL_ c f h x v m) q a b c f h x v m d=true then Yd_ q a b (Zq_ c f h x v m) d else []),.int .i64 (if ZT_ (zL_ c f h x v m) q a b c f h x v m d=true then 0 else 10001)]))
 | _,_=>none
theorem yH_:zd_ Tryz.prog 195 (RoF Ki_).sum:=by
 refine zi_ Tryz.func195 YR_ (za_ (s:=RoF kg_) j6_ (za_ (s:=RoF kU_) wN_ (za_ (s:=RwF Z1_) qa_ (za_ (s:=RwF zF_) zJ_ (za_ (s:=RoF KA_) WL_ (za_ (s:=RwF zu_) zz_ (za_ (s:=RwF q2_) JL_ (za_ (s:=RwF Ze_) ZH_ (za_ (s:=RoF qu_) Qz_ (za_ (s:=RoF QK_) kJ_ (zc_ _))))))))))) fun args objs p v e=>?_
 unfold Ki_ at e
 split at e
 ·rename_i q a b c f h x v m d
  cases e
  refine ⟨rfl,fun hw ho hp=>?_⟩
  change List Int at v
  change List Int at m
  change List Int at d
  clear hw ho
  cases hr:ZT_ (zL_ c f h x v m) q a b c f h x v m d with
  | false=>
    repeat'(intro t ht;first|(cases t<;>first|(cases ht;done)|(try simp only[zg_]at ht;try(exfalso;first|contradiction|omega)))|((first|refine zb_ ht ?_|refine ht ?_ ?_|refine ht.1 ?_ ?_|refine ht ?_)<;>clear ht))
    all_goals first
     | exact True.intro
     | exact hp
     | (exfalso;simp_all;done)
     | exact ⟨rfl,rfl⟩
  | true=>
    obtain ⟨hS,hS1,hS2,hS3⟩:=xZ_ hr
    obtain ⟨S,hSd⟩:∃ S,yJ_ (zL_ c f h x v m) (Qc_ c f h x v m) q a b c f h x v m d=S:=⟨_,rfl⟩
    rw [hSd] at hS
    have hroom:wO_ S=S:=zdH_ (by omega) (by omega)
    have hfl:(Yd_ q a b (Zq_ c f h x v m) d).length=4+(Z6_ q a b (Zq_ c f h x v m) d).length:=by
     unfold Yd_
     have g2:=zk_ (n:=q) (w:=2) (by decide)
     have g3:=zk_ (n:=(4+(Z6_ q a b (Zq_ c f h x v m) d).length)) (w:=2) (by decide)
     simp only [List.length_append];omega
    have hcn:=ge_ q
    by_cases h25:q=25
    ·have ht:=hU_ (.inr h25)
     obtain ⟨r1,r2⟩:=hh_ ht (show 0<=S/\S<=65535 by omega)
     have l2:=zk_ (n:=q) (w:=2) (by decide)
     have l3:=zk_ (n:=S) (w:=2) (by decide)
     obtain ⟨w1,w2⟩:=Ha_ (l:=[]) (room:=S) r2 (by rw [r1,List.length_append,List.length_nil];omega)
     rw [List.nil_append,r1] at w1
     obtain ⟨_,_,_,_,_,_,hR⟩:=x1_ h25 hr
     obtain ⟨e1,e2⟩:=jq_ hR
     have hB:Z6_ q a b (Zq_ c f h x v m) d=Zq_ c f h x v m++List.replicate ((8 - (4+(Zq_ c f h x v m).length) % 8) % 8) 0:=if_pos h25
     have hBl:(Z6_ q a b (Zq_ c f h x v m) d).length=(Zq_ c f h x v m).length+(8 - (4+(Zq_ c f h x v m).length) % 8) % 8:=by rw [hB,List.length_append,List.length_replicate]
     obtain ⟨u1,u2⟩:=xC_ (x:=Zq_ c f h x v m) (l:=ze_ q 2++ze_ S 2) (room:=S) (by rw [List.length_append];omega)
     have hlen:(ze_ q 2++ze_ S 2++Zq_ c f h x v m).length=4+(Zq_ c f h x v m).length:=by simp only [List.length_append];omega
     have hz:=zk6_ (4+(Zq_ c f h x v m).length)
     obtain ⟨y1,y2⟩:=xC_ (x:=List.replicate ((8 - (4+(Zq_ c f h x v m).length) % 8) % 8) (0:Int)) (l:=ze_ q 2++ze_ S 2++Zq_ c f h x v m) (room:=S) (by rw [hlen,List.length_replicate];omega)
     have hfin:Yd_ q a b (Zq_ c f h x v m) d=ze_ q 2++ze_ S 2++Zq_ c f h x v m++List.replicate ((8 - (4+(Zq_ c f h x v m).length) % 8) % 8) (0:Int):=by
      unfold Yd_;rw [<- hS,hB];simp only [List.append_assoc]
     repeat'(intro t ht;first|(cases t<;>first|(cases ht;done)|(try simp only[zg_]at ht;try(exfalso;first|contradiction|omega)))|((first|refine zb_ ht ?_|refine ht ?_ ?_|refine ht.1 ?_ ?_|refine ht ?_)<;>clear ht))
     all_goals (try simp only [hSd] at*)
     all_goals (try simp only [hroom,w1,w2,hR,if_true,u1,u2,hlen,hz,y1,y2,<- hfin] at*)
     all_goals first
      | exact True.intro
      | exact hp
      | omega
      | ((try simp only [zm_,zn_,zl_] at*);omega)
      | exact ⟨by omega,by omega,by simp only [List.length_nil];omega⟩
      | exact ⟨by omega,by omega,by simp only [List.length_append];omega,by omega⟩
      | exact ⟨by omega,by omega,by omega,by decide,by decide⟩
      | exact ⟨by omega,by decide⟩
      | (constructor<;>(simp only [List.length_append,List.length_replicate,List.length_nil];omega))
      | (unfold qE_ kn_ K2_;exact ⟨rfl,by first | rfl | exact True.intro⟩)
      | (exfalso;simp_all;done)
    ·obtain ⟨k1,k2,k3,k4,k5,k6,k7⟩:=KX_ h25 hr
     have ht:=hU_ (.inl k1)
     obtain ⟨r1,r2⟩:=hh_ ht (show 0<=S/\S<=65535 by omega)
     have l2:=zk_ (n:=q) (w:=2) (by decide)
     have l3:=zk_ (n:=S) (w:=2) (by decide)
     obtain ⟨w1,w2⟩:=Ha_ (l:=[]) (room:=S) r2 (by rw [r1,List.length_append,List.length_nil];omega)
     rw [List.nil_append,r1] at w1
     have hB:Z6_ q a b (Zq_ c f h x v m) d=Zn_ (zD_ q) (Ko_ q a b)++d:=if_neg h25
     have hBl:(Z6_ q a b (Zq_ c f h x v m) d).length=(Zn_ (zD_ q) (Ko_ q a b)).length+d.length:=by rw [hB,List.length_append]
     obtain ⟨u1,u2⟩:=Ha_ (l:=ze_ q 2++ze_ S 2) (room:=S) k4 (by rw [List.length_append];omega)
     unfold Ko_ at u1 u2 k4 hB hBl
     obtain ⟨y1,y2⟩:=xC_ (x:=d) (l:=ze_ q 2++ze_ S 2++Zn_ (zD_ q) ([a,b].take (zB_ (zD_ q)).toNat)) (room:=S) (by simp only [List.length_append];omega)
     have hfin:Yd_ q a b (Zq_ c f h x v m) d=ze_ q 2++ze_ S 2++Zn_ (zD_ q) ([a,b].take (zB_ (zD_ q)).toNat)++d:=by
      unfold Yd_;rw [<- hS,hB];simp only [List.append_assoc]
     repeat'(intro t ht;first|(cases t<;>first|(cases ht;done)|(try simp only[zg_]at ht;try(exfalso;first|contradiction|omega)))|((first|refine zb_ ht ?_|refine ht ?_ ?_|refine ht.1 ?_ ?_|refine ht ?_)<;>clear ht))
     all_goals (try simp only [hSd] at*)
     all_goals (try simp only [hroom,w1,w2,u1,u2,y1,y2,<- hfin] at*)
     all_goals first
      | exact True.intro
      | exact hp
      | omega
      | ((try simp only [zm_,zn_,zl_] at*);omega)
      | exact ⟨by omega,by omega,by simp only [List.length_nil];omega⟩
      | exact ⟨by omega,by omega,by simp only [List.length_append];omega⟩
      | exact ⟨by omega,by omega,by simp only [List.length_append];omega,by omega⟩
      | exact ⟨by omega,by decide⟩
      | (constructor<;>(simp only [List.length_append,List.length_nil];omega))
      | (unfold qE_ kn_ K2_;exact ⟨rfl,by first | rfl | exact True.intro⟩)
      | (exfalso;simp_all;done)
 ·cases e
end Go.Eng
