/- Parts of the proof: OG, R7, N1, M2, A1, A2, M3, DA, M4, M5, A3, A4. No condition. -/
import Derived.Test.YtimkdohmkfjfaaaGreatDoorProg
import Derived.Test.YtimkdohmkfjfaaaGreatDoorXH10
import Derived.KernelRfl
import Derived.Test.YtimkdohmkfjfaaaGreatDoorXH13
import Derived.Test.YtimkdohmkfjfaaaGreatDoorXH11
namespace Go.Eng
open Go.Proofs
set_option linter.unusedVariables false
set_option linter.unusedSimpArgs false
set_option maxRecDepth 100000
set_option maxHeartbeats 1000000
theorem bf_ {l:List Int} (h:4<=l.length):∃ a b c d r,l=a :: b :: c :: d :: r:=by
 obtain _ | ⟨a0,_ | ⟨a1,_ | ⟨a2,_ | ⟨a3,r⟩⟩⟩⟩:=l
 all_goals first | exact ⟨_,_,_,_,_,rfl⟩ | (simp at h;done)
theorem at2 (n:Int):zf_ n 2=[n.fdiv 256 % 256,n % 256]:=by
 have e:zf_ n 2=[(n.fdiv (2 ^ 8)) % 256,(n.fdiv (2 ^ 0)) % 256]:=rfl
 rw [e,show (2:Int) ^ 8=256 from rfl,Int.pow_zero,Int.fdiv_one]
theorem at4 (n:Int):zf_ n 4=[n.fdiv 16777216 % 256,n.fdiv 65536 % 256,n.fdiv 256 % 256,n % 256]:=by
 have e:zf_ n 4=[(n.fdiv (2 ^ 24)) % 256,(n.fdiv (2 ^ 16)) % 256,(n.fdiv (2 ^ 8)) % 256,(n.fdiv (2 ^ 0)) % 256]:=rfl
 rw [e,show (2:Int) ^ 8=256 from rfl,show (2:Int) ^ 16=65536 from rfl,show (2:Int) ^ 24=16777216 from rfl,Int.pow_zero,Int.fdiv_one]
theorem bx_ {n:Int} (h:0<=n/\n<=65535):Z2_ (zf_ n 2)=n:=by
 rw [at2,Int.fdiv_eq_ediv_of_nonneg _ (by decide)]
 show (0*256+n / 256 % 256)*256+n % 256=n
 omega
theorem b2_ {n:Int} (h:0<=n/\n<=4294967295):Z2_ (zf_ n 4)=n:=by
 rw [at4,Int.fdiv_eq_ediv_of_nonneg _ (by decide),Int.fdiv_eq_ediv_of_nonneg _ (by decide),Int.fdiv_eq_ediv_of_nonneg _ (by decide)]
 show (((0*256+n / 16777216 % 256)*256+n / 65536 % 256)*256+n / 256 % 256)*256+n % 256=n
 omega
theorem Bd_ {a b:Int} (ha:0<=a/\a<=255) (hb:0<=b/\b<=255):zf_ (Z2_ [a,b]) 2=[a,b]:=by
 have e:Z2_ [a,b]=a*256+b:=by show (0*256+a)*256+b=_;omega
 rw [e,at2,Int.fdiv_eq_ediv_of_nonneg _ (by decide),show (a*256+b) / 256 % 256=a by omega,show (a*256+b) % 256=b by omega]
theorem Bc_ {a b c d:Int} (ha:0<=a/\a<=255) (hb:0<=b/\b<=255) (hc:0<=c/\c<=255) (hd:0<=d/\d<=255):zf_ (Z2_ [a,b,c,d]) 4=[a,b,c,d]:=by
 have e:Z2_ [a,b,c,d]=((a*256+b)*256+c)*256+d:=by show (((0*256+a)*256+b)*256+c)*256+d=_;omega
 rw [e,at4,Int.fdiv_eq_ediv_of_nonneg _ (by decide),Int.fdiv_eq_ediv_of_nonneg _ (by decide),Int.fdiv_eq_ediv_of_nonneg _ (by decide),
  show (((a*256+b)*256+c)*256+d) / 16777216 % 256=a by omega,show (((a*256+b)*256+c)*256+d) / 65536 % 256=b by omega,
  show (((a*256+b)*256+c)*256+d) / 256 % 256=c by omega,show (((a*256+b)*256+c)*256+d) % 256=d by omega]
def hI (h:Bool):Int:=if h=true then 1 else 0
theorem HE_ {c f:Int} {h:Bool} {x:Int} {v m:List Int} (hr:z0_ c f h x v m=true) (hx:0<=x) (L:List Int) (h0:L.take 4=(qt_ c f h x v m).take 4):zs_ L=c/\zF_ L=f/\Zv_ L=h/\L.getD 3 0=zS_ c v m:=by
 obtain ⟨n1,n2,n3,n4,n5,n6,n7,n8⟩:=ZV_ hr
 have hc:0<=c/\c<=65535:=by omega
 have e1:(qt_ c f h x v m).take 4=[c.fdiv 256 % 256,c % 256,2*f+(if h=true then 1 else 0),zS_ c v m]:=by
  unfold qt_;rw [at2,<- n8];rfl
 rw [e1] at h0
 have e2:L.take 2=zf_ c 2:=by
  rw [at2,show L.take 2=(L.take 4).take 2 by rw [List.take_take];rfl,h0];rfl
 have e3:∀ k < 4,L.getD k 0=(L.take 4).getD k 0:=fun k hk=>(wU_ hk).symm
 have g2:L.getD 2 0=2*f+(if h=true then 1 else 0):=by rw [e3 2 (by decide),h0];rfl
 have g3:L.getD 3 0=zS_ c v m:=by rw [e3 3 (by decide),h0];rfl
 refine ⟨?_,?_,?_,g3⟩
 ·unfold zs_;rw [e2,bx_ hc]
 ·unfold zF_;rw [g2,Qh_ (by split<;>omega)];split<;>omega
 ·unfold Zv_;rw [g2,wd_ (by split<;>omega)]
  cases h with
  | true=>exact decide_eq_true (by simp only [if_true];omega)
  | false=>exact decide_eq_false (by simp only [Bool.false_eq_true,if_false];omega)
theorem bE_ {c f:Int} {h:Bool} {x:Int} {v m:List Int} (hr:z0_ c f h x v m=true) {L:List Int} (hC:zs_ L=c) (hF:zF_ L=f) (hH:Zv_ L=h) (h3:L.getD 3 0=zS_ c v m):z3_ L=v.length/\ki_ L=true:=by
 obtain ⟨n1,n2,n3,n4,n5,n6,n7,n8⟩:=ZV_ hr
 obtain ⟨r1,r2,r3,r4,r5,r6,r7,r8⟩:=kT_ hr
 unfold z3_ ki_
 rw [hC,hF,hH,h3]
 rcases n3 with hc | hc
 ·have he:zV_ c=true:=decide_eq_true hc
  have hz:Z0_ c f=100:=if_pos hc
  have hre:zS_ c v m=v.length+m.length+4:=if_pos hc
  unfold Xo_ wx_
  rw [he,hz,hre,if_pos rfl,if_pos rfl]
  cases h with
  | true=>
    have:=r2 rfl
    simp only [if_true,Bool.and_eq_true,decide_eq_true_eq]
    rw [Qh_ (by omega),wd_ (by omega)];omega
  | false=>
    have:=r3 rfl
    simp only [Bool.false_eq_true,if_false,Bool.and_eq_true,decide_eq_true_eq]
    rw [Qh_ (by omega),wd_ (by omega)];omega
 ·have he:zV_ c=false:=decide_eq_false (by omega)
  have hz:Z0_ c f=ks_ f:=if_neg (by omega)
  have hre:zS_ c v m=v.length+m.length:=if_neg (by omega)
  have hv:(v.length:Int)=ks_ f:=by
   have hfit:JD_ f v=true:=by
    cases hh:JD_ f v with
    | true=>rfl
    | false=>
      rw [he] at r8
      unfold QZ_ at r8;rw [if_pos ⟨rfl,hh⟩] at r8;exact absurd r8 (by decide)
   unfold JD_ at hfit
   split at hfit
   ·rename_i hh
    have hi:fIs f=true:=QI_.2 hh.1
    rw [hh.2];unfold ks_;rw [hi];rfl
   ·cases hfit
  unfold Xo_ wx_
  rw [he,hz,hre]
  cases h with
  | true=>
    have:=r2 rfl
    simp only [Bool.false_eq_true,if_false,if_true,decide_eq_true_eq];omega
  | false=>
    have:=r3 rfl
    simp only [Bool.false_eq_true,if_false,decide_eq_true_eq];omega
theorem mid {p v r:List Int} {A S:Int} (hA:A=p.length) (hS:S=v.length):((p++(v++r)).take (A+S).toNat).drop A.toNat=v:=by
 subst hA hS
 rw [show ((p.length:Int)+v.length).toNat=p.length+v.length by omega,Int.toNat_natCast,<- List.append_assoc,<- List.length_append,List.take_left,List.drop_left]
theorem HL_ {c f:Int} {h:Bool} {x:Int} {v m b:List Int} (hr:z0_ c f h x v m=true) (hx:0<=x):zC_ (qt_ c f h x v m++b)=0/\zs_ (qt_ c f h x v m++b)=c/\zF_ (qt_ c f h x v m++b)=f/\Zv_ (qt_ c f h x v m++b)=h/\q9_ (qt_ c f h x v m++b)=x/\Z5_ (qt_ c f h x v m++b)=v/\ZT_ (qt_ c f h x v m++b)=m/\Zp_ (qt_ c f h x v m++b)=(qt_ c f h x v m).length:=by
 obtain ⟨n1,n2,n3,n4,n5,n6,n7,n8⟩:=ZV_ hr
 obtain ⟨r1,r2,r3,r4,r5,r6,r7,r8⟩:=kT_ hr
 have hl2:=zm_ (n:=c) (w:=2) (by decide)
 have hl4:=zm_ (n:=x) (w:=4) (by decide)
 have hlen:((qt_ c f h x v m).length:Int)=4+zS_ c v m:=by
  rw [n8];unfold qt_;simp only [List.length_append,List.length_cons,List.length_nil];omega
 obtain ⟨L,hL⟩:∃ L,L=qt_ c f h x v m++b:=⟨_,rfl⟩
 have hLl:(L.length:Int)=4+zS_ c v m+b.length:=by rw [hL,List.length_append];omega
 have ht:L.take 4=(qt_ c f h x v m).take 4:=by rw [hL,List.take_append_of_le_length (by omega)]
 obtain ⟨hC,hF,hH,h3⟩:=HE_ hr hx L ht
 obtain ⟨hS,hK⟩:=bE_ hr hC hF hH h3
 rw [<- hL]
 have hsplit:L=(zf_ c 2++[2*f+(if h=true then 1 else 0),((j4_ c x v m).length:Int)]++(if c=65535 then zf_ x 4 else []))++(v++(m++b)):=by
  rw [hL];unfold qt_;rw [show j4_ c x v m=(if c=65535 then zf_ x 4 else [])++v++m from rfl];simp only [List.append_assoc]
 obtain ⟨p,hp⟩:∃ p,p=zf_ c 2++[2*f+(if h=true then 1 else 0),((j4_ c x v m).length:Int)]++(if c=65535 then zf_ x 4 else []):=⟨_,rfl⟩
 rw [<- hp] at hsplit
 have hA:QF_ L=p.length:=by
  unfold QF_;rw [hC,hp]
  split
  ·simp only [List.length_append,List.length_cons,List.length_nil];omega
  ·simp only [List.length_append,List.length_cons,List.length_nil];omega
 have hX:q9_ L=x:=by
  unfold q9_;rw [hC]
  by_cases hc:c=65535
  ·rw [if_pos hc]
   have hx4:x<=4294967295:=by have:=(zu x hx).1 r7;omega
   have e:(L.drop 4).take 4=zf_ x 4:=by
    rw [hsplit,hp,if_pos hc,at2,at4];rfl
   rw [e,b2_ ⟨hx,hx4⟩]
  ·rw [if_neg hc]
   have he:zV_ c=false:=decide_eq_false hc
   rw [he] at r6
   exact (r6.resolve_left (by decide)).symm
 have hV:Z5_ L=v:=by
  unfold Z5_;rw [hA,hS];rw [hsplit];exact mid rfl rfl
 have hM:ZT_ L=m:=by
  unfold ZT_
  cases h with
  | true=>
    rw [hH,if_pos rfl,hA,hS,hsplit,<- List.append_assoc]
    have:=r2 rfl
    exact mid (p:=p++v) (r:=b) (by rw [List.length_append];omega) (by omega)
  | false=>
    rw [hH]
    exact (List.eq_nil_of_length_eq_zero (r3 rfl)).symm
 have hN:Zp_ L=(qt_ c f h x v m).length:=by
  unfold Zp_;rw [hH,hS]
  have hre:zS_ c v m=(if c=65535 then 4 else 0)+v.length+m.length:=by unfold zS_;split<;>omega
  rw [hlen,hre]
  unfold QF_;rw [hC]
  cases h with
  | true=>have:=r2 rfl;simp only [if_true];split<;>omega
  | false=>have:=r3 rfl;simp only [Bool.false_eq_true,if_false];split<;>omega
 refine ⟨?_,hC,hF,hH,hX,hV,hM,hN⟩
 rw [kX_ (by omega) (by rw [hC,hF];exact r4) (fun hh=>by rw [hC,hF];exact r5 (hH.symm.trans hh)) hK (by rw [h3];omega),hC,hF,hH,hV,hM]
 exact r8
theorem HK_ {b:List Int} (hb:∀ x ∈ b,0<=x/\x<=255) (h0:zC_ b=0):z0_ (zs_ b) (zF_ b) (Zv_ b) (q9_ b) (Z5_ b) (ZT_ b)=true/\qt_ (zs_ b) (zF_ b) (Zv_ b) (q9_ b) (Z5_ b) (ZT_ b)=b.take (Zp_ b).toNat/\0<=Zp_ b/\Zp_ b<=b.length:=by
 have hq:=wH_ hb 2
 have hn:=wH_ hb 3
 have hof:=Ym_ (zs_ b) (zF_ b)
 unfold zC_ at h0
 by_cases h4:b.length < 4
 ·rw [if_pos h4] at h0;exact absurd h0 (by decide)
 rw [if_neg h4] at h0
 by_cases hok:kC_ (zs_ b) (zF_ b)=false
 ·rw [if_pos hok] at h0;exact absurd h0 (by decide)
 rw [if_neg hok] at h0
 by_cases hmk:Zv_ b=true/\Z1_ (zs_ b) (zF_ b)=false
 ·rw [if_pos hmk] at h0;exact absurd h0 (by decide)
 rw [if_neg hmk] at h0
 by_cases hkl:ki_ b=false\/(b.length:Int) - 4 < b.getD 3 0
 ·rw [if_pos hkl] at h0;exact absurd h0 (by decide)
 rw [if_neg hkl] at h0
 have hK:ki_ b=true:=by cases hk:ki_ b with | true=>rfl | false=>exact absurd (.inl hk) hkl
 have hlen:4+b.getD 3 0<=(b.length:Int):=by
  have:¬ (b.length:Int) - 4 < b.getD 3 0:=fun h=>hkl (.inr h)
  omega
 have hok':kC_ (zs_ b) (zF_ b)=true:=by simpa using hok
 obtain ⟨d1,d2,d3⟩:=gl_ hn.1 hof.1 hK
 have hcc:zs_ b=65535\/zs_ b=32768:=by
  unfold kC_ at hok'
  split at hok'
  ·left;assumption
  ·right;simp only [Bool.and_eq_true,decide_eq_true_eq] at hok';exact hok'.2
 have hA0:0<=QF_ b:=by unfold QF_;split<;>decide
 have hVl:((Z5_ b).length:Int)=z3_ b:=Ze_ hA0 d1 (by unfold Zp_ at d2;split at d2<;>omega)
 have hMl:((ZT_ b).length:Int)=if Zv_ b=true then z3_ b else 0:=by
  unfold ZT_
  by_cases hh:Zv_ b=true
  ·rw [if_pos hh,if_pos hh]
   exact Ze_ (by omega) d1 (by unfold Zp_ at d2;rw [if_pos hh] at d2;omega)
  ·rw [if_neg hh,if_neg hh];rfl
 have hX:0<=q9_ b/\q9_ b < 4294967296:=by
  unfold q9_
  split
  ·have:=xr_ ((b.drop 4).take 4) fun y hy=>hb y (List.mem_of_mem_drop (List.mem_of_mem_take hy))
   have h2:∀ k ≤ 4,(256:Int) ^ k<=4294967296:=by decide
   have:=h2 ((b.drop 4).take 4).length (by rw [List.length_take];omega)
   omega
  ·decide
 have hR:z0_ (zs_ b) (zF_ b) (Zv_ b) (q9_ b) (Z5_ b) (ZT_ b)=true:=by
  unfold z0_
  rw [hok',(zu _ hX.1).2 hX.2,h0,decide_eq_true (show ((Z5_ b).length:Int)<=Z0_ (zs_ b) (zF_ b) by omega)]
  have hx0:(zV_ (zs_ b) || decide (q9_ b=0))=true:=by
   rcases hcc with hc | hc
   ·rw [show zV_ (zs_ b)=true from decide_eq_true hc];rfl
   ·rw [show q9_ b=0 from if_neg (by omega)];simp
  rw [hx0]
  cases hh:Zv_ b with
  | true=>
    have hm1:Z1_ (zs_ b) (zF_ b)=true:=by
     cases hq:Z1_ (zs_ b) (zF_ b) with
     | true=>rfl
     | false=>exact absurd ⟨hh,hq⟩ hmk
    rw [hh,if_pos rfl] at hMl
    rw [hm1,decide_eq_true (show ((ZT_ b).length:Int)=(Z5_ b).length by omega)];rfl
  | false=>
    rw [hh] at hMl
    simp only [Bool.false_eq_true,if_false] at hMl
    rw [decide_eq_true (show (ZT_ b).length=0 by omega)];rfl
 refine ⟨hR,?_,by omega,by omega⟩
 obtain ⟨a0,a1,a2,a3,r,hbd⟩:=bf_ (l:=b) (by omega)
 have q0:=hb a0 (by rw [hbd];simp)
 have q1:=hb a1 (by rw [hbd];simp)
 have q2:=hb a2 (by rw [hbd];simp)
 have q3:=hb a3 (by rw [hbd];simp)
 obtain ⟨n1,n2,n3,n4,n5,n6,n7,n8⟩:=ZV_ hR
 have g2:b.getD 2 0=a2:=by rw [hbd];rfl
 have g3:b.getD 3 0=a3:=by rw [hbd];rfl
 have c2:zf_ (zs_ b) 2=[a0,a1]:=by unfold zs_;rw [hbd];exact Bd_ q0 q1
 have hf:2*zF_ b+(if Zv_ b=true then 1 else 0)=a2:=by
  unfold zF_ Zv_;rw [g2,Qh_ q2.1,wd_ q2.1]
  by_cases h1:a2 % 2=1
  ·rw [decide_eq_true h1,if_pos rfl];omega
  ·rw [decide_eq_false h1];simp only [Bool.false_eq_true,if_false];omega
 have hrl:zS_ (zs_ b) (Z5_ b) (ZT_ b)=a3:=by
  unfold zS_
  rw [hVl,hMl,<- g3]
  unfold Zp_ QF_ at d2
  by_cases hh:Zv_ b=true
  ·rw [if_pos hh] at d2 ⊢
   by_cases hc:zs_ b=65535
   ·rw [if_pos hc] at d2 ⊢;omega
   ·rw [if_neg hc] at d2 ⊢;omega
  ·rw [if_neg hh] at d2 ⊢
   by_cases hc:zs_ b=65535
   ·rw [if_pos hc] at d2 ⊢;omega
   ·rw [if_neg hc] at d2 ⊢;omega
 have hbody:j4_ (zs_ b) (q9_ b) (Z5_ b) (ZT_ b)=r.take a3.toNat:=by
  have hdr:b.drop 4=r:=by rw [hbd];rfl
  have hXb:(if zs_ b=65535 then zf_ (q9_ b) 4 else [])=(b.take (QF_ b).toNat).drop 4:=by
   by_cases hc:zs_ b=65535
   ·have hA8:QF_ b=8:=if_pos hc
    have hl8:8<=b.length:=by unfold Zp_ at d2;rw [hA8] at d2;split at d2<;>omega
    rw [if_pos hc,hA8]
    have hXe:q9_ b=Z2_ ((b.drop 4).take 4):=if_pos hc
    rw [hXe,hdr]
    have hrl8:4<=r.length:=by rw [hbd] at hl8;simp only [List.length_cons] at hl8;omega
    obtain ⟨x0,x1,x2,x3,s,hrd⟩:=bf_ hrl8
    have hmr:∀ y ∈ r,0<=y/\y<=255:=fun y hy=>hb y (by rw [hbd];simp [hy])
    have y0:=hmr x0 (by rw [hrd];simp)
    have y1:=hmr x1 (by rw [hrd];simp)
    have y2:=hmr x2 (by rw [hrd];simp)
    have y3:=hmr x3 (by rw [hrd];simp)
    rw [hrd,show (x0 :: x1 :: x2 :: x3 :: s).take 4=[x0,x1,x2,x3] from rfl,Bc_ y0 y1 y2 y3,hbd,hrd];rfl
   ·have hA4:QF_ b=4:=if_neg hc
    rw [if_neg hc,hA4,hbd];rfl
  unfold j4_
  rw [hXb]
  have hAn:4<=(QF_ b).toNat:=by unfold QF_;split<;>decide
  have j1:∀ (i j k:Nat),i<=j->j<=k->(b.take j).drop i++(b.take k).drop j=(b.take k).drop i:=fun i j k h1 h2=>by
   rw [show (b.take k).drop i=((b.take k).drop i).take (j - i)++((b.take k).drop i).drop (j - i) from (List.take_append_drop ..).symm,List.drop_drop,show i+(j - i)=j by omega,List.take_drop,show i+(j - i)=j by omega,List.take_take,Nat.min_eq_left h2]
  have hfin:∀ k:Nat,(k:Int)=Zp_ b->(b.take k).drop 4=r.take a3.toNat:=fun k hk=>by
   rw [hbd,show k=a3.toNat+4 by omega];rfl
  unfold Z5_ ZT_
  by_cases hh:Zv_ b=true
  ·rw [if_pos hh,j1 _ _ _ hAn (by omega),j1 _ _ _ (by omega) (by omega)]
   refine hfin _ ?_
   unfold Zp_;rw [if_pos hh];omega
  ·rw [if_neg hh,List.append_nil,j1 _ _ _ hAn (by omega)]
   refine hfin _ ?_
   unfold Zp_;rw [if_neg hh];omega
 unfold qt_
 rw [c2,hf,<- n8,hrl,hbody,d2,g3]
 rw [hbd,show (4+a3).toNat=a3.toNat+4 by omega];rfl
theorem gx_ (k:Nat):qc_ (List.replicate k 0)=true:=by
 unfold qc_;rw [List.all_eq_true];intro x hx;rw [List.eq_of_mem_replicate hx];rfl
theorem Gn_ {α:Type} {f:α->Bool} {l:List α} {i:Nat} {d:α} (h:i < l.length) (ht:(l.take i).all f=true) (hd:f (l.getD i d)=true):(l.take (i+1)).all f=true:=by
 rw [List.take_succ_eq_append_getElem h,List.all_append,ht,Bool.true_and,List.all_cons,List.all_nil,Bool.and_true]
 rwa [List.getD_eq_getElem?_getD,List.getElem?_eq_getElem h] at hd
theorem hR_ {α:Type} {f:α->Bool} {l:List α} {i:Nat} (h:l.length<=i) (ht:(l.take i).all f=true):l.all f=true:=by
 rwa [List.take_of_length_le h] at ht
theorem hQ_ {α:Type} {f:α->Bool} {l:List α} {i:Nat} {d:α} (h:i < l.length) (hd:f (l.getD i d)=false):l.all f=false:=by
 rw [List.all_eq_false]
 exact ⟨l.getD i d,Zs_ h d,by rw [hd];decide⟩
def gW_ (c f:Int):Bool:=decide (c ≠ 32768) || !fIs f || decide (Yt_ f < 0)
def xc_ (l:List OV) (c f:Int):Bool:=if gW_ c f=true then true else l.any (mtO (Yt_ f) (uj_ f))
def V7_:IR:=
(sq (kr [0,1] [oD 3 (.boxv 1),
oD 4 (.mov cF)])
(sq (kr [0,3] [oA 8 1 3,
oL 9 8,
oC 10 167 [9],
oM 7 10,
oX 11 7 0,
oX 12 7 1,
oD 5 (.box [.int .i64 0,.int .i64 0,.kb false,.int .i64 0,.imm (.int .u64) []]),
oS 5 5 11,
oM 6 12])
(sq (sq (kr [0,3,5,6] [oA 13 0 3,
oL 14 13,
oB 15 .neq 14 (cI 32768),
oM 16 15,
oF 16 17 (.mov 6),
oF 16 18 (.un .not 17),
oP 19 16 cT 18,
oM 20 19,
oF 20 21 (.fieldAddr 3 5),
oF 20 22 (.load none 21),
oF 20 23 (.bin .lss 22 (cI 0)),
oP 24 20 cT 23])
(.cond 24
(sq (kr [] [oD 4 (.mov cT)])
.ret)
.skip))
(sq (kr [0,5] [oM 25 0,
oD 26 (.mkfn 172 [] [5]),
oC 27 91 [25,26],
oM 4 27])
.ret))))
def Vp_:List RD:=[.tmp 4 true none]
theorem VH_:zq_ Tryz.prog Tryz.f146 V7_ Vp_=true:=by kernel_rfl
def J7_:List AV->List Obj->Option (Prop × AV)
 | [.imm (.cons (.int .i64) (.cons (.int .i64) (.cons .bool (.cons (.int .u64) (.cons (.sl (.int .u8)) (.cons (.sl (.int .u8)) .nil)))))) l,.agg [.int .i64 c,.int .i64 f,.bool h,.int .u64 x,.imm (.int .u8) v,.imm (.int .u8) m]],[]=>some ((True,.bool (xc_ l c f)))
 | _,_=>none
theorem YZ_:ze_ Tryz.prog 146 (RoF J7_).sum:=by
 refine zk_ Tryz.func146 VH_ (za_ (s:=RoF kc_) Kb_ (za_ (s:=RoF QQ_) ju_ (za_ (s:=RoF zl_) zA_ (zg_ _)))) fun args objs p v e=>?_
 unfold J7_ at e
 split at e
 ·rename_i l c f h x v m
  cases e
  refine ⟨rfl,fun hw ho hp=>?_⟩
  change List Int at v
  change List Int at m
  change List OV at l
  clear hw ho
  cases hn:gW_ c f with
  | true=>
    have e:xc_ l c f=true:=by unfold xc_;rw [if_pos hn]
    rw [e]
    repeat'(intro t ht;first|(cases t<;>first|(cases ht;done)|(try simp only[zi_]at ht;try(exfalso;first|contradiction|omega)))|((first|refine zb_ ht ?_|refine ht ?_ ?_|refine ht.1 ?_ ?_|refine ht ?_)<;>clear ht))
    all_goals first
     | exact True.intro
     | exact ⟨rfl,rfl⟩
     | (exfalso;unfold gW_ at hn;simp_all;done)
     | (exfalso;unfold gW_ at hn;simp_all;omega)
  | false=>
    have e:xc_ l c f=l.any (mtO (Yt_ f) (uj_ f)):=by unfold xc_;rw [hn];rfl
    rw [e]
    repeat'(intro t ht;first|(cases t<;>first|(cases ht;done)|(try simp only[zi_]at ht;try(exfalso;first|contradiction|omega)))|((first|refine zb_ ht ?_|refine ht ?_ ?_|refine ht.1 ?_ ?_|refine ht ?_)<;>clear ht))
    all_goals first
     | exact True.intro
     | exact ⟨rfl,rfl⟩
     | (exfalso;unfold gW_ at hn;simp_all;done)
     | (exfalso;unfold gW_ at hn;simp_all;omega)
 ·cases e
def ckS:List OV->List OV->Int × Int
 | _,[]=>(0,0)
 | pre,o :: r=>if pre.any (fun x=>alO x o)=true then (((pre.length:Nat):Int),1035) else if xc_ pre o.1 o.2.1=true then ckS (pre++[o]) r else (((pre.length:Nat):Int),1034)
theorem HQ_ {l:List OV} {i:Nat} (h:l.length<=i):ckS (l.take i) (l.drop i)=(0,0):=by
 rw [List.drop_of_length_le h];unfold ckS;rfl
theorem xC_ {α:Type} {l:List α} {i:Nat} (h:i<=l.length):(l.take i).length=i:=by rw [List.length_take];omega
theorem HN_ {l:List OV} {i:Nat} {d:OV} (h:i < l.length) (hk:(l.take i).any (fun x=>alO x (l.getD i d))=true):ckS (l.take i) (l.drop i)=(((i:Nat):Int),1035):=by
 rw [zv_ h d];unfold ckS;rw [if_pos hk,xC_ (by omega)]
theorem hC_ {l:List OV} {i:Nat} {d:OV} (h:i < l.length) (hk:(l.take i).any (fun x=>alO x (l.getD i d))=false) (hm:xc_ (l.take i) (l.getD i d).1 (l.getD i d).2.1=false):ckS (l.take i) (l.drop i)=(((i:Nat):Int),1034):=by
 rw [zv_ h d];unfold ckS;rw [if_neg (by rw [hk];decide),if_neg (by rw [hm];decide),xC_ (by omega)]
theorem bR_ {l:List OV} {i:Nat} {d:OV} (h:i < l.length) (hk:(l.take i).any (fun x=>alO x (l.getD i d))=false) (hm:xc_ (l.take i) (l.getD i d).1 (l.getD i d).2.1=true):ckS (l.take i) (l.drop i)=ckS (l.take (i+1)) (l.drop (i+1)):=by
 have e:l.take (i+1)=l.take i++[l.getD i d]:=by
  rw [List.take_succ_eq_append_getElem h,List.getD_eq_getElem?_getD,List.getElem?_eq_getElem h];rfl
 rw [e,zv_ h d]
 conv=>lhs;unfold ckS
 rw [if_neg (by rw [hk];decide),if_pos hm]
def yU_:IR:=
(sq (kr [0] [oD 2 (.mov (cI 0)),
oD 3 (.mov (cI 0))])
(.scope
(sq (.reg [oD 4 (.mov (cI 0)),
oD 5 (.mov (cI 0))])
(sq .skip
(sq (sq (.reg [oM 8 0,
oE 9 8,
oD 10 (.mov (cI 0))])
(.block 0
(.loop
(sq (kr [0,4,5,8,9,10] [oB 11 .lss 10 9])
(sq (.cond 11
.skip
(.exit 0))
(sq (.block 1
(sq (kr [0,4,5,8,9,10] [oM 12 10,
oI 13 6 8 10,
oK 14 6 13,
oD 7 (.box [.int .i64 0,.int .i64 0,.kb false,.int .u64 0,.imm (.int .u8) [],.imm (.int .u8) []]),
oM 6 12,
oS 6 7 14])
(.block 2
(sq (kr [0,4,5,6,7,8,9,10] [oM 16 0,
oM 17 6,
oD 18 (.slice 6 16 none (some 17) none),
oD 19 (.mkfn 145 [] [7]),
oC 20 91 [18,19],
oM 15 20])
(.cond 15
(sq (kr [6] [oM 21 6,
oM 4 21,
oD 5 (.mov (cI 1035))])
(.exit 0))
(sq (kd [0,4,5,6,7,8,9,10] [(oM 23 0,[]),
(oM 24 6,[0]),
(oD 25 (.slice 6 23 none (some 24) none),[]),
(oK 26 6 7,[0,0,0]),
(oC 27 146 [25,26],[]),
(oD 28 (.un .not 27),[]),
(oM 22 28,[])])
(.cond 22
(sq (kr [6] [oM 29 6,
oM 4 29,
oD 5 (.mov (cI 1034))])
(.exit 0))
.skip)))))))
(kr [0,4,5,8,9,10] [oB 30 .add 10 (cI 1),
oM 10 30])))))))
(sq (kr [4,5] [oM 31 4,
oM 32 5,
oM 2 31,
oM 3 32])
.ret))))))
def yh_:List RD:=[.tmp 2 true none,.tmp 3 true none]
theorem yA_:zq_ Tryz.prog Tryz.f94 yU_ yh_=true:=by kernel_rfl
def QR_:List AV->List Obj->Option (Prop × AV)
 | [.imm (.cons (.int .i64) (.cons (.int .i64) (.cons .bool (.cons (.int .u64) (.cons (.sl (.int .u8)) (.cons (.sl (.int .u8)) .nil)))))) l],[]=>some ((True,.tup [.int .i64 (ckS [] l).1,.int .i64 (ckS [] l).2]))
 | _,_=>none
theorem jv_:ze_ Tryz.prog 94 (RoF QR_).sum:=by
 refine zk_ Tryz.func94 yA_ (za_ (s:=RoF qS_) kO_ (za_ (s:=RoF zl_) zA_ (za_ (s:=RoF J7_) YZ_ (zg_ _)))) fun args objs p v e=>?_
 unfold QR_ at e
 split at e
 ·rename_i l
  cases e
  refine ⟨rfl,fun hw ho hp=>?_⟩
  change List OV at l
  have hl:l.length<=maxLen:=(hw (.imm Y1 l) (by simp)).2
  unfold maxLen at hl
  clear hw ho
  repeat'(intro t ht;first|(cases t<;>first|(cases ht;done)|(try simp only[zi_]at ht))|((first|refine zb_ ht ?_|refine ht ?_ ?_|refine ht.1 ?_ ?_|refine ht ?_)<;>clear ht))
  all_goals first
   | (intro r h1 h2;clear h1;refine h2 ⟨[0,4,5,8,9,10],Nat,(fun i=>i<=l.length/\ckS [] l=ckS (l.take i) (l.drop i)),fun i=>[.imm Y1 l,.int .i64 0,.int .i64 0,.imm Y1 l,.int .i64 l.length,.int .i64 i],fun _=>[],fun i=>l.length - i,⟨0,⟨Nat.zero_le _,rfl⟩,rfl,rfl⟩,?_⟩;clear h2)
  rintro i ⟨hi,he⟩
  repeat'(intro t ht;first|(cases t<;>first|(cases ht;done)|(try simp only[zi_]at ht;try(exfalso;first|contradiction|omega)))|((first|refine zb_ ht ?_|refine ht ?_ ?_|refine ht.1 ?_ ?_|refine ht ?_)<;>clear ht))
  all_goals (try generalize (Ty.dflt Y1)=od at*)
  all_goals first
   | exact True.intro
   | ((try simp only [zo_,zp_,zn_] at*);omega)
   | (rw [he,HQ_ (by omega)];exact ⟨rfl,rfl⟩)
   | (have hk:(l.take i).any (fun x=>alO x (l.getD i od))=true:=by assumption
      rw [he,HN_ (by omega) hk];exact ⟨rfl,rfl⟩)
   | (have hk:(l.take i).any (fun x=>alO x (l.getD i od))=false:=by assumption
      first
       | (have hm:xc_ (l.take i) (l.getD i od).1 (l.getD i od).2.1=false:=by assumption
          rw [he,hC_ (by omega) hk hm];exact ⟨rfl,rfl⟩)
       | (have hm:xc_ (l.take i) (l.getD i od).1 (l.getD i od).2.1=true:=by assumption
          exact ⟨i+1,⟨by omega,he.trans (bR_ (by omega) hk hm)⟩,by dsimp only;omega,rfl,rfl⟩))
 ·cases e
theorem GD_ {c f:Int} {h:Bool} {x:Int} {v m:List Int} (hv:v.length<=1000000) (hm:m.length<=1000000):0<=kl_ c f h x v m/\kl_ c f h x v m<=3000000:=by
 unfold kl_ zS_;repeat' split
 all_goals omega
theorem h4_ {a s:Int} (ha:0<=a) (hs:1<=s):0<=a.tmod s/\a.tmod s < s:=by
 rw [Int.tmod_eq_emod_of_nonneg ha];exact ⟨Int.emod_nonneg _ (by omega),Int.emod_lt_of_pos _ (by omega)⟩
theorem b0_ {a n:Int} (ha:0<=a/\a<=65535) (hn:0<=n/\n<=65535):Kk_ [2,2] [a,n]=zf_ a 2++zf_ n 2/\JO_ [2,2] [a,n]=true:=by
 have e1:a.fdiv (2 ^ 16)=0:=by rw [Int.fdiv_eq_ediv_of_nonneg _ (by decide)];omega
 have e2:n.fdiv (2 ^ 16)=0:=by rw [Int.fdiv_eq_ediv_of_nonneg _ (by decide)];omega
 have h:wo_ [2,2] [a,n]=some (zf_ a 2++zf_ n 2):=by
  unfold wo_
  rw [if_pos ⟨by decide,(by decide:kE_ [2,2]=2)⟩]
  have m:min (8*(2:Int)).toNat 64=16:=by decide
  simp only [kB_,m]
  rw [if_neg (by decide),if_neg (by rintro ⟨_,h⟩;exact h e1),if_neg (by decide),if_neg (by rintro ⟨_,h⟩;exact h e2)]
  rfl
 unfold Kk_ JO_;rw [h];exact ⟨rfl,rfl⟩
theorem UC_ {x l:List Int} {room:Int} (h:(x.length:Int)<=room - l.length):j2_ x l room 0=l++x/\wI_ x l room 0=0:=by
 have hb:k2_ x l room 0=true:=by unfold k2_;rw [decide_eq_true h];rfl
 exact ⟨by unfold j2_;rw [if_pos hb],by unfold wI_;rw [if_pos rfl,if_pos h]⟩
theorem bp_ {w xs l:List Int} {room:Int} (hk:JO_ w xs=true) (h:((Kk_ w xs).length:Int)<=room - l.length):JI_ w xs l room 0=l++Kk_ w xs/\WZ_ w xs l room 0=0:=by
 unfold JI_ WZ_;rw [if_pos hk,if_pos hk];exact UC_ h
theorem uu_ {x l:List Int} {room e:Int} (h:l.length<=1000000) (hr:room<=1000000):(j2_ x l room e).length<=1000000:=by
 unfold j2_ k2_;split
 ·rename_i hb;simp only [Bool.and_eq_true,decide_eq_true_eq] at hb;rw [List.length_append];omega
 ·exact h
theorem GG_ {w xs l:List Int} {room e:Int} (h:l.length<=1000000) (hr:room<=1000000):(JI_ w xs l room e).length<=1000000:=by
 unfold JI_;split
 ·exact uu_ h hr
 ·exact h
theorem WC_ {c f:Int} {h:Bool} {x:Int} {v m:List Int} (hr:z0_ c f h x v m=true):kl_ c f h x v m=(XI_ c f h x v m).length/\(XI_ c f h x v m).length<=300:=by
 have h1:kl_ c f h x v m=((qt_ c f h x v m).length:Int):=by rw [GC_,if_pos hr]
 have hrn:=ZV_ hr
 have hl2:=zm_ (n:=c) (w:=2) (by decide)
 have:((qt_ c f h x v m).length:Int)=4+zS_ c v m:=by
  rw [hrn.2.2.2.2.2.2.2];unfold qt_;simp only [List.length_append,List.length_cons,List.length_nil];omega
 rw [gj_ hr]
 exact ⟨h1,by omega⟩
def fwO (o:OV):Bool:=decide (o.2.2.2.2.1.length<=300) && decide (o.2.2.2.2.2.1.length<=300)
theorem b8_ {o:OV} (h:o.2.2.2.2.1.length<=300/\o.2.2.2.2.2.1.length<=300):fwO o=true:=by unfold fwO;simp [h.1,h.2]
theorem b9_ {o:OV} (h:¬ o.2.2.2.2.1.length<=300\/¬ o.2.2.2.2.2.1.length<=300):fwO o=false:=by unfold fwO;rcases h with h | h<;>simp [h]
def xj_ (l:List OV):Bool:=l.all fwO && decide (l.length<=60)
def smO (a b:OV):Bool:=KT_ a.1 a.2.1 a.2.2.1 a.2.2.2.1 a.2.2.2.2.1 a.2.2.2.2.2.1 b.1 b.2.1 b.2.2.1 b.2.2.2.1 b.2.2.2.2.1 b.2.2.2.2.2.1
theorem H6_ {a b:OV} (h:smO a b=true):a=b:=by
 obtain ⟨a1,a2,a3,a4,a5,a6,_⟩:=a
 obtain ⟨b1,b2,b3,b4,b5,b6,_⟩:=b
 unfold smO KT_ at h
 simp only [Bool.and_eq_true,decide_eq_true_eq,beq_iff_eq] at h
 obtain ⟨⟨⟨⟨⟨h1,h2⟩,h3⟩,h4⟩,h5⟩,h6⟩:=h
 rw [h1,h2,h3,h4,h5,h6]
theorem H7_ {a b:OV} (h:smO a b=false):¬ a=b:=fun e=>by
 rw [e] at h;unfold smO at h;rw [gG_] at h;cases h
structure okM (l:List OV):Prop where
 a:allLen l
 n:l.length<=100000
theorem bL_ {l:List OV} (h:xj_ l=true):okM l/\l.length<=60:=by
 unfold xj_ at h
 simp only [Bool.and_eq_true,decide_eq_true_eq] at h
 refine ⟨⟨⟨fun o ho=>?_⟩,by omega⟩,h.2⟩
 have:=List.all_eq_true.1 h.1 o ho
 unfold fwO at this
 simp only [Bool.and_eq_true,decide_eq_true_eq] at this
 exact ⟨by omega,by omega⟩
def Ul_:IR:=
(sq (kr [0] [oD 2 (.mov cF)])
(sq (sq (.reg [oD 3 (.mov (cI 0))])
(.block 0
(.loop
(sq (sq (kr [0,3] [oM 4 3,
oM 5 0,
oE 6 5,
oB 7 .lss 4 6])
(.cond 7
.skip
(.exit 0)))
(sq (.block 1
(sq (kr [0,3] [oM 10 0,
oM 11 3,
oI 12 6 10 11,
oK 13 6 12,
oC 14 37 [13],
oD 15 (.un .not 14)])
(.cond 15
(sq (kr [] [oD 2 (.mov cF)])
.ret)
.skip)))
(kr [0,3] [oM 8 3,
oB 9 .add 8 (cI 1),
oM 3 9]))))))
(sq (kr [0] [oM 16 0,
oE 17 16,
oB 18 .leq 17 (cI 60),
oM 2 18])
.ret)))
def uY_:List RD:=[.tmp 2 true none]
theorem u4_:zq_ Tryz.prog Tryz.f7 Ul_ uY_=true:=by kernel_rfl
def Wr_:List AV->List Obj->Option (Prop × AV)
 | [.imm (.cons (.int .i64) (.cons (.int .i64) (.cons .bool (.cons (.int .u64) (.cons (.sl (.int .u8)) (.cons (.sl (.int .u8)) .nil)))))) l],[]=>some ((True,.bool (xj_ l)))
 | _,_=>none
theorem v8_:ze_ Tryz.prog 7 (RoF Wr_).sum:=by
 refine zk_ Tryz.func7 u4_ (za_ (s:=RoF Ws_) v9_ (zg_ _)) fun args objs p v e=>?_
 unfold Wr_ at e
 split at e
 ·rename_i l
  cases e
  refine ⟨rfl,fun hw ho hp=>?_⟩
  change List OV at l
  have hl:l.length<=maxLen:=(hw (.imm Y1 l) (by simp)).2
  unfold maxLen at hl
  clear hw ho
  repeat'(intro t ht;first|(cases t<;>first|(cases ht;done)|(try simp only[zi_]at ht))|((first|refine zb_ ht ?_|refine ht ?_ ?_|refine ht.1 ?_ ?_|refine ht ?_)<;>clear ht))
  all_goals first
   | (intro r h1 h2;clear h1;refine h2 ⟨[0,3],Nat,(fun i=>i<=l.length/\(l.take i).all fwO=true),fun i=>[.imm Y1 l,.int .i64 i],fun _=>[],fun i=>l.length - i,⟨0,⟨Nat.zero_le _,rfl⟩,rfl,rfl⟩,?_⟩;clear h2)
  rintro i ⟨hi,he⟩
  repeat'(intro t ht;first|(cases t<;>first|(cases ht;done)|(try simp only[zi_]at ht;try(exfalso;first|contradiction|omega)))|((first|refine zb_ ht ?_|refine ht ?_ ?_|refine ht.1 ?_ ?_|refine ht ?_)<;>clear ht))
  all_goals (try generalize (Ty.dflt Y1)=od at*)
  all_goals first
   | ((try simp only [zo_,zp_,zn_] at*);omega)
   | (have h:=hR_ (by omega) he
      refine ⟨?_,rfl⟩;unfold xj_;rw [h,Bool.true_and];congr 1;exact decide_eq_decide.2 (by omega))
   | exact True.intro
   | (have hf:=b8_ ht
      exact ⟨i+1,⟨by omega,Gn_ (d:=od) (by omega) he hf⟩,by dsimp only;omega,rfl,rfl⟩)
   | (have hf:=b9_ ht
      have h:xj_ l=false:=by unfold xj_;rw [hQ_ (d:=od) (show i < l.length by omega) hf,Bool.false_and]
      refine ⟨?_,rfl⟩;rw [h];done)
 ·cases e
def VZ_:IR:=
(sq (kr [0,1] [oD 4 (.mov cF)])
(sq (sq (kr [0,1] [oM 6 0,
oE 7 6,
oM 8 1,
oE 9 8,
oB 10 .neq 7 9])
(.cond 10
(sq (.reg [oD 4 (.mov cF)])
.ret)
.skip))
(sq (sq (kr [0,1] [oD 5 (.mov (cI 0))])
(.block 0
(.loop
(sq (sq (kr [0,1,5] [oM 11 5,
oM 12 0,
oE 13 12,
oB 14 .lss 11 13])
(.cond 14
.skip
(.exit 0)))
(sq (.block 1
(sq (kd [0,1,5] [(oM 17 0,[]),
(oM 18 5,[0]),
(oI 19 6 17 18,[]),
(oK 20 6 19,[]),
(oM 21 1,[0,0,0,0]),
(oM 22 5,[0,0,0,0,0]),
(oI 23 6 21 22,[2,0,0,0]),
(oK 24 6 23,[3,0,0,0]),
(oC 25 43 [20,24],[]),
(oD 26 (.un .not 25),[])])
(.cond 26
(sq (kr [] [oD 4 (.mov cF)])
.ret)
.skip)))
(kr [0,1,5] [oM 15 5,
oB 16 .add 15 (cI 1),
oM 5 16]))))))
(sq (kr [] [oD 4 (.mov cT)])
.ret))))
def Vh_:List RD:=[.tmp 4 true none]
theorem Vz_:zq_ Tryz.prog Tryz.f10 VZ_ Vh_=true:=by kernel_rfl
def J2_:List AV->List Obj->Option (Prop × AV)
 | [.imm (.cons (.int .i64) (.cons (.int .i64) (.cons .bool (.cons (.int .u64) (.cons (.sl (.int .u8)) (.cons (.sl (.int .u8)) .nil)))))) a,.imm (.cons (.int .i64) (.cons (.int .i64) (.cons .bool (.cons (.int .u64) (.cons (.sl (.int .u8)) (.cons (.sl (.int .u8)) .nil)))))) b],[]=>some ((True,.bool (decide ((a:List OV)=b))))
 | _,_=>none
theorem YU_:ze_ Tryz.prog 10 (RoF J2_).sum:=by
 refine zk_ Tryz.func10 Vz_ (za_ (s:=RoF J3_) YV_ (zg_ _)) fun args objs p v e=>?_
 unfold J2_ at e
 split at e
 ·rename_i a b
  cases e
  refine ⟨rfl,fun hw ho hp=>?_⟩
  change List OV at a
  change List OV at b
  have hl:a.length<=maxLen:=(hw (.imm Y1 a) (by simp)).2
  unfold maxLen at hl
  clear hw ho
  repeat'(intro t ht;first|(cases t<;>first|(cases ht;done)|(try simp only[zi_]at ht))|((first|refine zb_ ht ?_|refine ht ?_ ?_|refine ht.1 ?_ ?_|refine ht ?_)<;>clear ht))
  all_goals first
   | (have hne:a ≠ b:=fun h=>(by assumption:¬ (a.length:Int)=b.length) (by rw [h])
      refine ⟨?_,rfl⟩;rw [decide_eq_false hne];done)
   | (intro r h1 h2;clear h1;refine h2 ⟨[0,1,5],Nat,(fun i=>i<=a.length/\a.take i=b.take i),fun i=>[.imm Y1 a,.imm Y1 b,.int .i64 i],fun _=>[],fun i=>a.length - i,⟨0,⟨Nat.zero_le _,rfl⟩,rfl,rfl⟩,?_⟩;clear h2)
  rintro i ⟨hi,he⟩
  have hl2:a.length=b.length:=by omega
  repeat'(intro t ht;first|(cases t<;>first|(cases ht;done)|(try simp only[zi_]at ht;try(exfalso;first|contradiction|omega)))|((first|refine zb_ ht ?_|refine ht ?_ ?_|refine ht.1 ?_ ?_|refine ht ?_)<;>clear ht))
  all_goals (try generalize (Ty.dflt Y1)=od at*)
  all_goals first
   | exact True.intro
   | ((try simp only [zo_,zp_,zn_] at*);omega)
   | (have e:=Gy_ he (by omega) hl2
      refine ⟨?_,rfl⟩;rw [decide_eq_true e];done)
   | (have hs:smO (a.getD i od) (b.getD i od)=false:=by assumption
      have hne:a ≠ b:=bn_ (d:=od) (i:=i) (H7_ hs)
      refine ⟨?_,rfl⟩;rw [decide_eq_false hne];done)
   | (have hs:smO (a.getD i od) (b.getD i od)=true:=by assumption
      exact ⟨i+1,⟨by omega,uL_ he (by omega) hl2 (d:=od) (H6_ hs)⟩,by (try simp only [zo_,zp_,zn_] at*);omega,rfl,rfl⟩)
 ·cases e
def lgT (l:List OV) (i:Nat):Int:=4+((l.take i).map szO).sum
def qZ_ (l:List OV):Int:=4+(l.map szO).sum
theorem VQ_ {l:List OV} {i:Nat} {d:OV} (h:i < l.length):lgT l (i+1)=lgT l i+szO (l.getD i d):=by
 unfold lgT
 rw [List.take_succ_eq_append_getElem h,List.map_append,List.sum_append,List.getD_eq_getElem?_getD,List.getElem?_eq_getElem h]
 simp only [List.map_cons,List.map_nil,List.sum_cons,List.sum_nil,Option.getD_some];omega
theorem gf_ {l:List OV} {i:Nat} (h:l.length<=i):lgT l i=qZ_ l:=by unfold lgT qZ_;rw [List.take_of_length_le h]
theorem Gz_ {o:OV} (h:bF_ o):0<=szO o/\szO o<=3000000:=by
 unfold szO;exact GD_ (gZ_ h).1 (gZ_ h).2
theorem ha_ {l:List OV} (h:allLen l) (i:Nat) (hi:i<=l.length):4<=lgT l i/\lgT l i<=4+3000000*i:=by
 induction i with
 | zero=>unfold lgT;simp
 | succ i ih=>
   have:=ih (by omega)
   have d:OV:=(0,0,false,0,[],[],())
   have hs:=Gz_ (h.h _ (Zs_ (show i < l.length by omega) d))
   rw [VQ_ (d:=d) (by omega)];omega
theorem G7_ {l:List OV} (h:okM l):4<=qZ_ l/\qZ_ l<=300000000004:=by
 have:=ha_ h.a l.length (Nat.le_refl _)
 rw [gf_ (Nat.le_refl _)] at this
 have hn:=h.n
 omega
def yV_:IR:=
(sq (kr [0] [oD 2 (.mov (cI 0))])
(sq (.reg [oD 3 (.mov (cI 4))])
(sq (sq (.reg [oM 6 0,
oE 7 6,
oD 8 (.mov (cI 0))])
(.block 0
(.loop
(sq (kr [3,6,7,8] [oB 9 .lss 8 7])
(sq (.cond 9
.skip
(.exit 0))
(sq (.block 1
(sq (.reg [oI 10 6 6 8,
oK 11 6 10,
oD 5 (.box [.int .i64 0,.int .i64 0,.kb false,.int .u64 0,.imm (.int .u8) [],.imm (.int .u8) []]),
oS 6 5 11])
(kr [3,5,6,7,8] [oM 12 3,
oK 13 6 5,
oC 14 147 [13],
oB 15 .add 12 14,
oM 3 15])))
(kr [3,6,7,8] [oB 16 .add 8 (cI 1),
oM 8 16])))))))
(sq (kr [3] [oM 17 3,
oM 2 17])
.ret))))
def yi_:List RD:=[.tmp 2 true none]
theorem yB_:zq_ Tryz.prog Tryz.f95 yV_ yi_=true:=by kernel_rfl
def QS_:List AV->List Obj->Option (Prop × AV)
 | [.imm (.cons (.int .i64) (.cons (.int .i64) (.cons .bool (.cons (.int .u64) (.cons (.sl (.int .u8)) (.cons (.sl (.int .u8)) .nil)))))) l],[]=>some ((okM l,.int .i64 (qZ_ l)))
 | _,_=>none
theorem jw_:ze_ Tryz.prog 95 (RoF QS_).sum:=by
 refine zk_ Tryz.func95 yB_ (za_ (s:=RoF KD_) wi_ (zg_ _)) fun args objs p v e=>?_
 unfold QS_ at e
 split at e
 ·rename_i l
  cases e
  refine ⟨rfl,fun hw ho hp=>?_⟩
  change List OV at l
  clear hw ho
  have hn:=hp.n
  repeat'(intro t ht;first|(cases t<;>first|(cases ht;done)|(try simp only[zi_]at ht))|((first|refine zb_ ht ?_|refine ht ?_ ?_|refine ht.1 ?_ ?_|refine ht ?_)<;>clear ht))
  all_goals first
   | exact True.intro
   | (intro r h1 h2;clear h1;refine h2 ⟨[3,6,7,8],Nat,(fun i=>i<=l.length),fun i=>[.int .i64 (lgT l i),.imm Y1 l,.int .i64 l.length,.int .i64 i],fun _=>[],fun i=>l.length - i,⟨0,Nat.zero_le _,rfl,rfl⟩,?_⟩;clear h2)
  intro i hi
  repeat'(intro t ht;first|(cases t<;>first|(cases ht;done)|(try simp only[zi_]at ht;try(exfalso;first|contradiction|omega)))|((first|refine zb_ ht ?_|refine ht ?_ ?_|refine ht.1 ?_ ?_|refine ht ?_)<;>clear ht))
  all_goals (try generalize (Ty.dflt Y1)=od at*)
  all_goals first
   | exact True.intro
   | ((try simp only [zo_,zp_,zn_] at*);omega)
   | (rw [gf_ (by omega)];exact ⟨rfl,rfl⟩)
   | (have hs:=hp.a.h _ (Zs_ (show i < l.length by omega) od)
      first
       | exact gZ_ hs
       | (have h1:=ha_ hp.a i (by omega)
          have h2:0<=szO (l.getD i od)/\szO (l.getD i od)<=3000000:=Gz_ hs
          unfold szO at h2
          simp only [ga_,gd_,Int.toNat_natCast];omega)
       | (refine ⟨i+1,by omega,by dsimp only;omega,?_,rfl⟩
          dsimp only
          rw [VQ_ (d:=od) (by omega)];rfl))
 ·cases e
def rgM (l:List OV):Bool:=l.all rgO && decide ((ckS [] l).2=0) && decide (qZ_ l<=65528)
theorem HV_ {l:List OV}:(l.any fun o=>!rgO o)=!l.all rgO:=by
 rw [List.not_all_eq_any_not]
def Xw_:IR:=
(sq (kr [0] [oD 2 (.mov cF)])
(sq (sq (.reg [oM 5 0,
oC 6 91 [5,.f 92]])
(.cond 6
(sq (.reg [oD 2 (.mov cF)])
.ret)
.skip))
(sq (kr [0] [oM 8 0,
oC 9 94 [8],
oM 7 9,
oX 10 7 0,
oX 11 7 1,
oM 3 10,
oM 4 11])
(sq (kr [0,4] [oM 12 4,
oB 13 .eql 12 (cI 0),
oM 14 13,
oT 14 15 (.mov 0),
oT 14 16 (.call false (.f 95) [15]),
oT 14 17 (.bin .leq 16 (cI 65528)),
oP 18 14 17 cF,
oM 2 18])
.ret))))
def x3_:List RD:=[.tmp 2 true none]
theorem Xh_:zq_ Tryz.prog Tryz.f40 Xw_ x3_=true:=by kernel_rfl
def Qo_:List AV->List Obj->Option (Prop × AV)
 | [.imm (.cons (.int .i64) (.cons (.int .i64) (.cons .bool (.cons (.int .u64) (.cons (.sl (.int .u8)) (.cons (.sl (.int .u8)) .nil)))))) l],[]=>some ((okM l,.bool (rgM l)))
 | _,_=>none
theorem KS_:ze_ Tryz.prog 40 (RoF Qo_).sum:=by
 refine zk_ Tryz.func40 Xh_ (za_ (s:=RoF zl_) zA_ (za_ (s:=RoF qs_) kk_ (za_ (s:=RoF QR_) jv_ (za_ (s:=RoF QS_) jw_ (zg_ _))))) fun args objs p v e=>?_
 unfold Qo_ at e
 split at e
 ·rename_i l
  cases e
  refine ⟨rfl,fun hw ho hp=>?_⟩
  change List OV at l
  clear hw ho
  have hA:=hp.a
  have hN:=HV_ (l:=l)
  repeat'(intro t ht;first|(cases t<;>first|(cases ht;done)|(try simp only[zi_]at ht;try(exfalso;first|contradiction|omega)))|((first|refine zb_ ht ?_|refine ht ?_ ?_|refine ht.1 ?_ ?_|refine ht ?_)<;>clear ht))
  all_goals first
   | exact True.intro
   | exact hA
   | exact hp
   | (have ha:l.all rgO=false:=by rw [ht] at hN;cases h:l.all rgO<;>simp_all
      refine ⟨congrArg AV.bool ?_,rfl⟩;unfold rgM;rw [ha];rfl)
   | (refine ⟨congrArg AV.bool ?_,rfl⟩;unfold rgM;simp_all;done)
 ·cases e
def pz (n:Int):Int:=(8 - n.tmod 8).tmod 8
theorem Yi_ {n:Int} (h:0<=n):pz n=(8 - n % 8) % 8/\0<=pz n/\pz n<=7:=by
 unfold pz
 rw [Int.tmod_eq_emod_of_nonneg h,Int.tmod_eq_emod_of_nonneg (by omega)];omega
def Xv_:IR:=
(sq (kr [0] [oD 2 (.mov (cI 0))])
(sq (kr [0] [oM 3 0,
oB 4 .rem 3 (cI 8),
oB 5 .sub (cI 8) 4,
oB 6 .rem 5 (cI 8),
oM 2 6])
.ret))
def x2_:List RD:=[.tmp 2 true none]
theorem Xg_:zq_ Tryz.prog Tryz.f86 Xv_ x2_=true:=by kernel_rfl
def Qn_:List AV->List Obj->Option (Prop × AV)
 | [.int .i64 n],[]=>some ((0<=n,.int .i64 (pz n)))
 | _,_=>none
theorem KR_:ze_ Tryz.prog 86 (RoF Qn_).sum:=by
 refine zk_ Tryz.func86 Xg_ (zg_ _) fun args objs p v e=>?_
 unfold Qn_ at e
 split at e
 ·rename_i n
  cases e
  refine ⟨rfl,fun hw ho hp=>?_⟩
  clear hw ho
  have h1:=h4_ (a:=n) (s:=8) hp (by decide)
  repeat'(intro t ht;first|(cases t<;>first|(cases ht;done)|(try simp only[zi_]at ht;try(exfalso;first|contradiction|omega)))|((first|refine zb_ ht ?_|refine ht ?_ ?_|refine ht.1 ?_ ?_|refine ht ?_)<;>clear ht))
  all_goals first
   | exact True.intro
   | exact ⟨rfl,rfl⟩
   | ((try simp only [zo_,zp_,zn_] at*);omega)
 ·cases e
def yR_:IR:=
(sq (kr [0] [oD 1 (.boxv 0),
oD 2 (.box [.int .i64 0,.int .i64 0,.kb false,.int .u64 0,.imm (.int .u8) [],.imm (.int .u8) []])])
(sq (kr [1,2] [oA 5 4 1,
oL 6 5,
oE 7 6,
oA 8 5 1,
oL 9 8,
oE 10 9,
oB 11 .add 7 10,
oD 12 (.mkrow (.int .u8) 1 (0:Int) 11 11),
oM 3 12])
(sq (kr [1,2,3] [oM 13 3,
oA 14 4 1,
oL 15 14,
oD 16 (.copy (.int .u8) 13 15),
oM 4 16])
(sq (kd [1,2,3,4] [(oM 17 3,[]),
(oM 18 4,[0]),
(oD 19 (.slice 1 17 (some 18) none none),[]),
(oA 20 5 1,[0,0,0]),
(oL 21 20,[1,0,0]),
(oD 22 (.copy (.int .u8) 19 21),[])])
(sq (kd [1,2,3,4] [(oM 23 3,[]),
(oM 24 4,[0]),
(oM 25 4,[0,0]),
(oD 26 (.slice 1 23 none (some 24) (some 25)),[]),
(oM 27 3,[0,0,0,0]),
(oM 28 4,[0,0,0,0,0]),
(oD 29 (.slice 1 27 (some 28) none none),[2,0,0,0]),
(oA 30 4 1,[0,0,0]),
(oS 1 30 26,[1,0,0]),
(oA 31 5 1,[]),
(oS 1 31 29,[])])
(sq (kr [1,2] [oK 32 6 1,
oS 6 2 32])
.ret))))))
def ye_:List RD:=[.cell 2 (some 6) false []]
theorem yx_:zq_ Tryz.prog Tryz.f42 yR_ ye_=true:=by kernel_rfl
def KH_:List AV->List Obj->Option (Prop × AV × List Obj)
 | [.agg [.int .i64 c,.int .i64 f,.bool h,.int .u64 x,.jsl 0 (.int .u8) v,.jsl 0 (.int .u8) m]],[.reg false true]=>some ((v.length<=1000000/\m.length<=1000000,.agg [.int .i64 c,.int .i64 f,.bool h,.int .u64 x,.view 1 0 v.length,.view 1 v.length m.length],[.reg false true,.row false (.int .u8) (v++m)]))
 | _,_=>none
theorem xM_:ze_ Tryz.prog 42 (RwF KH_).sum:=by
 refine km_ Tryz.func42 yx_ (zg_ _) fun args objs p v o e=>?_
 unfold KH_ at e
 split at e
 ·rename_i c f h x v m
  cases e
  refine ⟨rfl,fun hw ho hp=>?_⟩
  change List Int at v
  change List Int at m
  have k1:((v.length:Int)+m.length).toNat=v.length+m.length:=by omega
  have k2:(List.replicate (v.length+m.length) (0:Int)).length=v.length+m.length:=List.length_replicate
  have k3:v.take (v.length+m.length)=v:=List.take_of_length_le (by omega)
  have k4:(List.replicate (v.length+m.length) (0:Int)).drop v.length=List.replicate m.length 0:=by rw [List.drop_replicate];congr 1;omega
  have k5:min v.length (v.length+m.length)=v.length:=Nat.min_eq_left (by omega)
  have k6:(v++List.replicate m.length (0:Int)).length=v.length+m.length:=by simp
  have k7:(((v.length+m.length:Nat):Int) - (v.length:Int)).toNat=m.length:=by omega
  have k8:(v++List.replicate m.length (0:Int)).take v.length=v:=List.take_left
  have k9:m.take m.length=m:=List.take_length
  have k10:min m.length m.length=m.length:=Nat.min_self _
  have k11:(v++List.replicate m.length (0:Int)).drop (v.length+m.length)=[]:=List.drop_of_length_le (by simp)
  have k12:(v++m).length=v.length+m.length:=List.length_append
  have k13:((v.length:Int) - 0).toNat=v.length:=by omega
  repeat'(intro t ht;first|(cases t<;>first|(cases ht;done)|(try simp only[zi_]at ht))|((first|refine zb_ ht ?_|refine ht ?_ ?_|refine ht.1 ?_ ?_|refine ht ?_)<;>clear ht))
  all_goals first
   | exact True.intro
   | (simp only [qo_,k1,k2,k3,k4,k5,k6,k7,k8,k9,k10,k11,k12,k13,List.append_nil,Int.toNat_natCast];first | omega | exact ⟨rfl,by first | rfl | exact True.intro⟩ | (refine ⟨?_,?_,?_,?_⟩<;>first | exact True.intro | omega))
   | omega
   | ((try simp only [zo_,zp_,zn_] at*);omega)
   | exact ⟨rfl,by first | rfl | exact True.intro⟩
 ·cases e
theorem bP_ (a:OV):((a.1,a.2.1,a.2.2.1,a.2.2.2.1,((a.2.2.2.2.1++a.2.2.2.2.2.1).drop 0).take a.2.2.2.2.1.length,((a.2.2.2.2.1++a.2.2.2.2.2.1).drop a.2.2.2.2.1.length).take a.2.2.2.2.2.1.length,()):OV)=a:=by
 rw [List.drop_zero,List.take_left,List.drop_left,List.take_length]
theorem uM_ {α:Type} {l:List α} {i:Nat} {d:α} (h:i < l.length):l.take i++[l.getD i d]=l.take (i+1):=by
 rw [List.take_succ_eq_append_getElem h,List.getD_eq_getElem?_getD,List.getElem?_eq_getElem h];rfl
def kg_:IR:=
(sq (kr [0,1] [oD 4 (.mov (.c (.imm Y1 [])))])
(sq (.reg [oM 8 0,
oE 9 8,
oD 10 (.mkrow Y1 80 ((0:Int),((0:Int),(false,((0:Int),(([]:List (Ty.den (.int .u8))),(([]:List (Ty.den (.int .u8))),())))))) (cI 0) 9),
oM 5 10])
(sq (sq (.reg [oM 11 0,
oE 12 11,
oD 13 (.mov (cI 0))])
(.block 0
(.loop
(sq (kr [1,5,11,12,13] [oB 14 .lss 13 12])
(sq (.cond 14
.skip
(.exit 0))
(sq (.block 1
(sq (.reg [oI 15 6 11 13,
oK 16 6 15,
oD 7 (.box [.int .i64 0,.int .i64 0,.kb false,.int .u64 0,.imm (.int .u8) [],.imm (.int .u8) []]),
oS 6 7 16])
(kr [1,5,7,11,12,13] [oM 17 5,
oM 18 1,
oK 19 6 7,
oD 20 (.call false 18 [19]),
oD 21 (.sliceAll Y1 1 [(0,6,20)]),
oD 22 (.append Y1 80 17 21),
oM 5 22])))
(kr [1,5,11,12,13] [oB 23 .add 13 (cI 1),
oM 13 23])))))))
(sq (kr [5] [oM 24 5,
oM 4 24])
.ret))))
def ke_:List RD:=[.tmp 4 true (some Y1)]
theorem kf_:zq_ Tryz.prog Tryz.f41 kg_ ke_=true:=by kernel_rfl
def Zz_:List AV->List Obj->Option (Prop × AV)
 | [.jsl 0 (.cons (.int .i64) (.cons (.int .i64) (.cons .bool (.cons (.int .u64) (.cons (.sl (.int .u8)) (.cons (.sl (.int .u8)) .nil)))))) l,.fn 42 [] []],[.reg false true]=>some ((okM l,.imm Y1 l))
 | _,_=>none
theorem Q0_:ze_ Tryz.prog 41 (RoF Zz_).sum:=by
 refine zk_ Tryz.func41 kf_ (za_ (s:=RwF KH_) xM_ (zg_ _)) fun args objs p v e=>?_
 unfold Zz_ at e
 split at e
 ·rename_i l
  cases e
  refine ⟨rfl,fun hw ho hp=>?_⟩
  change List OV at l
  clear hw ho
  have hn:=hp.n
  have ha:=hp.a
  repeat'(intro t ht;first|(cases t<;>first|(cases ht;done)|(try simp only[zi_]at ht))|((first|refine zb_ ht ?_|refine ht ?_ ?_|refine ht.1 ?_ ?_|refine ht ?_)<;>clear ht))
  all_goals first
   | exact True.intro
   | ((try simp only [zo_,zp_,zn_] at*);omega)
   | (intro r h1 h2;clear h1;refine h2 ⟨[1,5,11,12,13],Nat,(fun i=>i<=l.length),fun i=>[.fn 42 [] [],.own 1,.jsl 0 Y1 l,.int .i64 l.length,.int .i64 i],fun i=>[.reg false true,.row false Y1 (l.take i)],fun i=>l.length - i,⟨0,Nat.zero_le _,rfl,rfl⟩,?_⟩;clear h2)
  rintro i hi
  repeat'(intro t ht;first|(cases t<;>first|(cases ht;done)|(try simp only[zi_]at ht;try(exfalso;first|contradiction|omega)))|((first|refine zb_ ht ?_|refine ht ?_ ?_|refine ht.1 ?_ ?_|refine ht ?_)<;>clear ht))
  all_goals (try generalize (Ty.dflt Y1)=od at*)
  all_goals first
   | exact True.intro
   | ((try simp only [zo_,zp_,zn_] at*);omega)
   | (rw [List.take_of_length_le (show l.length<=i by omega)];exact ⟨rfl,rfl⟩)
   | (have hlt:i < l.length:=by omega
      have hln:=ha.h _ (Zs_ hlt od)
      have htk:(l.take i).length=i:=xC_ hi
      first
       | exact gZ_ hln
       | (simp only [qo_,List.length_cons,List.length_nil];constructor<;>omega)
       | (simp only [List.length_append,Int.toNat_natCast];omega)
       | (refine ⟨i+1,by omega,by dsimp only;omega,rfl,?_⟩
          dsimp only
          rw [<- uM_ (d:=od) hlt]
          simp only [qo_,Int.toNat_natCast,bP_]))
 ·cases e
def xh_:IR:=
(sq (kr [0] [oD 2 (.mov (.c (.imm Y1 [])))])
(sq (.reg [oM 3 0,
oC 4 41 [3,.f 42],
oM 2 4])
.ret))
def W4_:List RD:=[.tmp 2 true (some Y1)]
theorem xa_:zq_ Tryz.prog Tryz.f9 xh_ W4_=true:=by kernel_rfl
def ka_:List AV->List Obj->Option (Prop × AV)
 | [.jsl 0 (.cons (.int .i64) (.cons (.int .i64) (.cons .bool (.cons (.int .u64) (.cons (.sl (.int .u8)) (.cons (.sl (.int .u8)) .nil)))))) l],[.reg false true]=>some ((okM l,.imm Y1 l))
 | _,_=>none
theorem wX_:ze_ Tryz.prog 9 (RoF ka_).sum:=by
 refine zk_ Tryz.func9 xa_ (za_ (s:=RoF Zz_) Q0_ (za_ (s:=RwF J6_) YY_ (zg_ _))) fun args objs p v e=>?_
 unfold ka_ at e
 split at e
 ·rename_i l
  cases e
  refine ⟨rfl,fun hw ho hp=>?_⟩
  repeat'(intro t ht;first|(cases t<;>first|(cases ht;done)|(try simp only[zi_]at ht;try(exfalso;first|contradiction|omega)))|((first|refine zb_ ht ?_|refine ht ?_ ?_|refine ht.1 ?_ ?_|refine ht ?_)<;>clear ht))
  all_goals first
   | exact True.intro
   | exact hp
   | exact ⟨rfl,rfl⟩
   | exact rfl
 ·cases e
def Zj_:IR:=
(sq (kr [0,1,2] [oD 6 (.mov cF)])
(sq (sq (kr [0,1,2] [oM 10 0,
oE 11 10,
oM 12 1,
oE 13 12,
oB 14 .neq 11 13])
(.cond 14
(sq (.reg [oD 6 (.mov cF)])
.ret)
.skip))
(sq (sq (kr [0,1,2] [oM 15 0,
oE 16 15,
oD 17 (.mov (cI 0))])
(.block 0
(.loop
(sq (kr [1,2,15,16,17] [oB 18 .lss 17 16])
(sq (.cond 18
.skip
(.exit 0))
(sq (.block 1
(sq (kr [1,2,15,16,17] [oM 19 17,
oI 20 6 15 17,
oK 21 6 20,
oD 8 (.box [.int .i64 0,.int .i64 0,.kb false,.int .u64 0,.imm (.int .u8) [],.imm (.int .u8) []]),
oM 7 19,
oS 6 8 21])
(sq (kr [1,2,7,8,15,16,17] [oM 22 1,
oM 23 7,
oI 24 6 22 23,
oK 25 6 24,
oD 9 (.box [.int .i64 0,.int .i64 0,.kb false,.int .u64 0,.imm (.int .u8) [],.imm (.int .u8) []]),
oS 6 9 25])
(sq (kr [1,2,8,9,15,16,17] [oM 26 2,
oK 27 6 8,
oK 28 6 9,
oD 29 (.call false 26 [27,28]),
oD 30 (.un .not 29)])
(.cond 30
(sq (.reg [oD 6 (.mov cF)])
.ret)
.skip)))))
(kr [1,2,15,16,17] [oB 31 .add 17 (cI 1),
oM 17 31])))))))
(sq (kr [] [oD 6 (.mov cT)])
.ret))))
def Zh_:List RD:=[.tmp 6 true none]
theorem Zi_:zq_ Tryz.prog Tryz.f44 Zj_ Zh_=true:=by kernel_rfl
def zr_:List AV->List Obj->Option (Prop × AV)
 | [.imm (.cons (.int .i64) (.cons (.int .i64) (.cons .bool (.cons (.int .u64) (.cons (.sl (.int .u8)) (.cons (.sl (.int .u8)) .nil)))))) a,.imm (.cons (.int .i64) (.cons (.int .i64) (.cons .bool (.cons (.int .u64) (.cons (.sl (.int .u8)) (.cons (.sl (.int .u8)) .nil)))))) b,.fn 45 [] []],[]=>some ((True,.bool (decide ((a:List OV)=b))))
 | _,_=>none
theorem Zb_:ze_ Tryz.prog 44 (RoF zr_).sum:=by
 refine zk_ Tryz.func44 Zi_ (za_ (s:=RoF KE_) wj_ (zg_ _)) fun args objs p v e=>?_
 unfold zr_ at e
 split at e
 ·rename_i a b
  cases e
  refine ⟨rfl,fun hw ho hp=>?_⟩
  change List OV at a
  change List OV at b
  have hl:a.length<=maxLen:=(hw (.imm Y1 a) (by simp)).2
  unfold maxLen at hl
  clear hw ho
  repeat'(intro t ht;first|(cases t<;>first|(cases ht;done)|(try simp only[zi_]at ht))|((first|refine zb_ ht ?_|refine ht ?_ ?_|refine ht.1 ?_ ?_|refine ht ?_)<;>clear ht))
  all_goals first
   | (have hne:a ≠ b:=fun h=>(by assumption:¬ (a.length:Int)=b.length) (by rw [h])
      refine ⟨?_,rfl⟩;rw [decide_eq_false hne];done)
   | (intro r h1 h2;clear h1;refine h2 ⟨[1,2,15,16,17],Nat,(fun i=>i<=a.length/\a.take i=b.take i),fun i=>[.imm Y1 b,.fn 45 [] [],.imm Y1 a,.int .i64 a.length,.int .i64 i],fun _=>[],fun i=>a.length - i,⟨0,⟨Nat.zero_le _,rfl⟩,rfl,rfl⟩,?_⟩;clear h2)
  rintro i ⟨hi,he⟩
  have hl2:a.length=b.length:=by omega
  repeat'(intro t ht;first|(cases t<;>first|(cases ht;done)|(try simp only[zi_]at ht;try(exfalso;first|contradiction|omega)))|((first|refine zb_ ht ?_|refine ht ?_ ?_|refine ht.1 ?_ ?_|refine ht ?_)<;>clear ht))
  all_goals (try generalize (Ty.dflt Y1)=od at*)
  all_goals first
   | exact True.intro
   | ((try simp only [zo_,zp_,zn_] at*);omega)
   | (have e:=Gy_ he (by omega) hl2
      refine ⟨?_,rfl⟩;rw [decide_eq_true e];done)
   | (have hs:smO (a.getD i od) (b.getD i od)=false:=by assumption
      have hne:a ≠ b:=bn_ (d:=od) (i:=i) (H7_ hs)
      refine ⟨?_,rfl⟩;rw [decide_eq_false hne];done)
   | (have hs:smO (a.getD i od) (b.getD i od)=true:=by assumption
      exact ⟨i+1,⟨by omega,uL_ he (by omega) hl2 (d:=od) (H6_ hs)⟩,by (try simp only [zo_,zp_,zn_] at*);omega,rfl,rfl⟩)
 ·cases e
def yY_:IR:=
(sq (kr [0,1] [oD 4 (.mov cF)])
(sq (.reg [oM 5 0,
oM 6 1,
oC 7 44 [5,6,.f 45],
oM 4 7])
.ret))
def yl_:List RD:=[.tmp 4 true none]
theorem yE_:zq_ Tryz.prog Tryz.f11 yY_ yl_=true:=by kernel_rfl
def KL_:List AV->List Obj->Option (Prop × AV)
 | [.imm (.cons (.int .i64) (.cons (.int .i64) (.cons .bool (.cons (.int .u64) (.cons (.sl (.int .u8)) (.cons (.sl (.int .u8)) .nil)))))) a,.imm (.cons (.int .i64) (.cons (.int .i64) (.cons .bool (.cons (.int .u64) (.cons (.sl (.int .u8)) (.cons (.sl (.int .u8)) .nil)))))) b],[]=>some ((True,.bool (decide ((a:List OV)=b))))
 | _,_=>none
theorem xQ_:ze_ Tryz.prog 11 (RoF KL_).sum:=by
 refine zk_ Tryz.func11 yE_ (za_ (s:=RoF zr_) Zb_ (za_ (s:=RoF KE_) wj_ (zg_ _))) fun args objs p v e=>?_
 unfold KL_ at e
 split at e
 ·rename_i a b
  cases e
  refine ⟨rfl,fun hw ho hp=>?_⟩
  repeat'(intro t ht;first|(cases t<;>first|(cases ht;done)|(try simp only[zi_]at ht;try(exfalso;first|contradiction|omega)))|((first|refine zb_ ht ?_|refine ht ?_ ?_|refine ht.1 ?_ ?_|refine ht ?_)<;>clear ht))
  all_goals first
   | exact True.intro
   | exact ⟨rfl,rfl⟩
   | exact rfl
 ·cases e
def exO (o:OV):List Int:=if rgO o=true then XI_ o.1 o.2.1 o.2.2.1 o.2.2.2.1 o.2.2.2.2.1 o.2.2.2.2.2.1 else []
def eeO (o:OV):Int:=if rgO o=true then 0 else 10001
def puS (room:Int):List OV->List Int->Int->List Int × Int
 | [],l,e=>(l,e)
 | o :: r,l,e=>puS room r (j2_ (exO o) l room (Zq_ e (eeO o))) (wI_ (exO o) l room (Zq_ e (eeO o)))
theorem GQ_ {room:Int} {l:List OV} {i:Nat} {d:OV} {b:List Int} {e:Int} (h:i < l.length):puS room (l.drop i) b e=puS room (l.drop (i+1)) (j2_ (exO (l.getD i d)) b room (Zq_ e (eeO (l.getD i d)))) (wI_ (exO (l.getD i d)) b room (Zq_ e (eeO (l.getD i d)))):=by
 rw [zv_ h d];rfl
def mpS (x:List OV) (l:List Int) (room e:Int):List Int × Int:=puS room x (JI_ [2,2] [1,qZ_ x] l room e) (WZ_ [2,2] [1,qZ_ x] l room e)
def mpZ (x:List OV):List Int:=List.replicate (pz (qZ_ x)).toNat 0
def mpB (x:List OV) (l:List Int) (room e:Int):List Int:=if rgM x=true then j2_ (mpZ x) (mpS x l room e).1 room (mpS x l room e).2 else l
def mpE (x:List OV) (l:List Int) (room e:Int):Int:=if rgM x=true then wI_ (mpZ x) (mpS x l room e).1 room (mpS x l room e).2 else Zq_ e 10001
theorem bM_ {o:OV}:(exO o).length<=300:=by
 unfold exO;split
 ·exact (WC_ (by assumption)).2
 ·simp
def vH_:IR:=
(sq (sq (kr [0,1] [oM 9 1,
oC 10 40 [9],
oD 11 (.un .not 10)])
(.cond 11
(sq (.reg [oM 12 0,
oC 13 103 [12,(cI 10001)]])
.ret)
.skip))
(sq (.reg [oM 14 1,
oC 15 95 [14],
oM 4 15])
(sq (kr [0,1,4] [oM 16 0,
oD 17 (.sliceAll (.int .i64) 2 [(0,1,(cI 2)),(1,1,(cI 2))]),
oM 18 4,
oD 19 (.conv .u64 18),
oD 20 (.sliceAll (.int .u64) 2 [(0,1,(.c (.int .u64 1))),(1,1,19)]),
oC 21 105 [16,17,20]])
(sq (sq (.reg [oM 22 1,
oE 23 22,
oD 24 (.mov (cI 0))])
(.block 0
(.loop
(sq (kr [0,4,22,23,24] [oB 25 .lss 24 23])
(sq (.cond 25
.skip
(.exit 0))
(sq (.block 1
(sq (.reg [oI 26 6 22 24,
oK 27 6 26,
oD 6 (.box [.int .i64 0,.int .i64 0,.kb false,.int .u64 0,.imm (.int .u8) [],.imm (.int .u8) []]),
oS 6 6 27])
(sq (kr [0,4,6,22,23,24] [oK 29 6 6,
oC 30 137 [29],
oM 28 30,
oX 31 28 0,
oX 32 28 1,
oM 7 31,
oM 8 32])
(sq (kr [0,4,7,8,22,23,24] [oM 33 0,
oM 34 8,
oC 35 103 [33,34]])
(.reg [oM 36 0,
oM 37 7,
oC 38 122 [36,37]])))))
(kr [0,4,22,23,24] [oB 39 .add 24 (cI 1),
oM 24 39])))))))
(kr [0,4] [oM 40 0,
oM 41 4,
oC 42 86 [41],
oD 43 (.mkrow (.int .u8) 1 (0:Int) 42 42),
oC 44 122 [40,43]])))))
def vd_:List RD:=[]
theorem vo_:zq_ Tryz.prog Tryz.f84 vH_ vd_=true:=by kernel_rfl
def WT_:List AV->List Obj->Option (Prop × Res)
 | [.ptr 0 0,.imm (.cons (.int .i64) (.cons (.int .i64) (.cons .bool (.cons (.int .u64) (.cons (.sl (.int .u8)) (.cons (.sl (.int .u8)) .nil)))))) x],[.box [.own 1,.int .i64 room,.mapv 2,.int .i64 e],.row false (.int .u8) l,.map sq (.int .i64) (.int .i64) h]=>some (okM x/\0<=room/\room<=1000000/\l.length<=1000000,.br (rgM x) (.one (.tup []) [.box [.own 3,.int .i64 room,.mapv 2,.int .i64 (mpE x l room e)],.dead,.map sq (.int .i64) (.int .i64) h,.row false (.int .u8) (mpB x l room e)]) (.one (.tup []) [.box [.own 1,.int .i64 room,.mapv 2,.int .i64 (Zq_ e 10001)],.row false (.int .u8) l,.map sq (.int .i64) (.int .i64) h]))
 | _,_=>none
def Jb_:List AV->List Obj->Option (Prop × AV × List Obj)
 | [.ptr 0 0,.imm (.cons (.int .i64) (.cons (.int .i64) (.cons .bool (.cons (.int .u64) (.cons (.sl (.int .u8)) (.cons (.sl (.int .u8)) .nil)))))) x],[.box [.own 1,.int .i64 room,.mapv 2,.int .i64 e],.row false (.int .u8) l,.map sq (.int .i64) (.int .i64) h]=>some (okM x/\0<=room/\room<=1000000/\l.length<=1000000,.tup [],[.box [.own 3,.int .i64 room,.mapv 2,.int .i64 (mpE x l room e)],.dead,.map sq (.int .i64) (.int .i64) h,.row false (.int .u8) (mpB x l room e)])
 | _,_=>none
theorem X5_:ze_ Tryz.prog 84 (RcF WT_).sum:=by
 refine Vt_ Tryz.func84 vo_ (za_ (s:=RoF Qo_) KS_ (za_ (s:=RwF zL_) Zc_ (za_ (s:=RoF QS_) jw_ (za_ (s:=RwF Za_) ZP_ (za_ (s:=RoF KF_) xK_ (za_ (s:=RwF zW_) ZB_ (za_ (s:=RoF Qn_) KR_ (zg_ _)))))))) fun args objs p v e=>?_
 unfold WT_ at e
 split at e
 ·rename_i x room e l sq h
  cases e
  change List Int at l
  change List OV at x
  refine ⟨rfl,fun hw' ho hp=>?_⟩
  clear hw' ho
  obtain ⟨hok,hp1,hp2,hp3⟩:=hp
  have hok':=hok
  have hn:=hok.n
  cases hr:rgM x with
  | false=>
    repeat'(intro t ht;first|(cases t<;>first|(cases ht;done)|(try simp only[zi_]at ht;try(exfalso;first|contradiction|omega)))|((first|refine zb_ ht ?_|refine ht ?_ ?_|refine ht.1 ?_ ?_|refine ht ?_)<;>clear ht))
    all_goals first
     | exact True.intro
     | exact hok
     | (exfalso;simp_all;done)
     | exact ⟨rfl,rfl⟩
  | true=>
    have hL:=G7_ hok
    have hL2:qZ_ x<=65528:=by unfold rgM at hr;simp only [Bool.and_eq_true,decide_eq_true_eq] at hr;exact hr.2
    have hz:=Yi_ (n:=qZ_ x) (by omega)
    have hr1:(JI_ [2,2] [1,qZ_ x] l room e).length<=1000000:=GG_ hp3 hp2
    repeat'(intro t ht;first|(cases t<;>first|(cases ht;done)|(try simp only[zi_]at ht;try(exfalso;first|contradiction|omega)))|((first|refine zb_ ht ?_|refine ht ?_ ?_|refine ht.1 ?_ ?_|refine ht ?_)<;>clear ht))
    all_goals first
     | exact True.intro
     | exact hok
     | (exfalso;simp_all;done)
     | ((try simp only [zo_,zp_,zn_] at*);omega)
     | exact ⟨hp1,hp2,hp3⟩
     | (intro r h1 h2;clear h1;refine h2 ⟨[0,4,22,23,24],Nat × List Int × Int,(fun a=>a.1<=x.length/\a.2.1.length<=1000000/\mpS x l room e=puS room (x.drop a.1) a.2.1 a.2.2),fun a=>[.ptr 0 0,.int .i64 (qZ_ x),.imm Y1 x,.int .i64 x.length,.int .i64 a.1],fun a=>[.box [.own 3,.int .i64 room,.mapv 2,.int .i64 a.2.2],.dead,.map sq (.int .i64) (.int .i64) h,.row false (.int .u8) a.2.1],fun a=>x.length - a.1,⟨(0,JI_ [2,2] [1,qZ_ x] l room e,WZ_ [2,2] [1,qZ_ x] l room e),⟨Nat.zero_le _,hr1,rfl⟩,rfl,rfl⟩,?_⟩;clear h2)
    rintro ⟨i,b,f⟩ ⟨hi,hb,he⟩
    dsimp only at hi hb he
    repeat'(intro t ht;first|(cases t<;>first|(cases ht;done)|(try simp only[zi_]at ht;try(exfalso;first|contradiction|omega)))|((first|refine zb_ ht ?_|refine ht ?_ ?_|refine ht.1 ?_ ?_|refine ht ?_)<;>clear ht))
    all_goals (try generalize (Ty.dflt Y1)=od at*)
    all_goals first
     | exact True.intro
     | ((try simp only [zo_,zp_,zn_] at*);omega)
     | (simp only [List.length_replicate];constructor<;>omega)
     | exact ⟨hp1,hp2,hb,Nat.le_trans (bM_ (o:=x.getD i od)) (by decide)⟩
     | exact gZ_ (hok'.a.h _ (Zs_ (show i < x.length by omega) od))
     | (rw [List.drop_of_length_le (show x.length<=i by omega)] at he
        have h1:mpS x l room e=(b,f):=he
        unfold mpE mpB
        rw [if_pos hr,if_pos hr,h1];exact ⟨rfl,rfl⟩)
     | (refine ⟨(i+1,_,_),⟨?_,?_,he.trans (GQ_ (d:=od) (show i < x.length by omega))⟩,?_,rfl,rfl⟩
        ·dsimp only;omega
        ·exact uu_ hb hp2
        ·dsimp only;omega)
 ·cases e
theorem X9_:ze_ Tryz.prog 84 (RwF Jb_).sum:=by
 refine xo_ X5_ fun args objs p v o e=>?_
 unfold Jb_ at e
 split at e
 ·rename_i x room e l sq h
  cases e
  cases hb:rgM x with
  | true=>exact ⟨_,_,rfl,Kl_ hb,.inl rfl⟩
  | false=>
    refine ⟨_,_,rfl,Km_ hb,.inr ⟨0,1,[],[.int .i64 room,.mapv 2,.int .i64 (Zq_ e 10001)],.int .u8,l,rfl,rfl,?_⟩⟩
    unfold mpE mpB;rw [hb];rfl
 ·cases e
def boO (l:List OV):List Int:=l.flatMap ecO
def meN (l:List OV):Int:=4+((boO l).length:Int)
def meB (l:List OV):List Int:=zf_ 1 2++zf_ (meN l) 2++boO l++List.replicate (pz (meN l)).toNat 0
theorem UY_ {o:OV} (h:rgO o=true):szO o=(ecO o).length/\exO o=ecO o/\eeO o=0/\(ecO o).length<=300:=by
 have h1:=WC_ h
 have h2:=gj_ h
 refine ⟨?_,?_,if_pos h,?_⟩
 ·unfold szO ecO;rw [h1.1,h2]
 ·unfold exO ecO;rw [if_pos h,h2]
 ·unfold ecO;rw [<- h2];exact h1.2
theorem ge_:∀ (l:List OV),l.all rgO=true->(l.map szO).sum=((boO l).length:Int)
 | [],_=>rfl
 | o :: r,h=>by
   rw [List.all_cons,Bool.and_eq_true] at h
   have ih:=ge_ r h.2
   unfold boO at ih ⊢
   rw [List.flatMap_cons,List.length_append,List.map_cons,List.sum_cons,ih,(UY_ h.1).1];omega
theorem Jg_ {l:List OV} (h:rgM l=true):l.all rgO=true/\(ckS [] l).2=0/\qZ_ l=meN l/\meN l<=65528/\4<=meN l:=by
 unfold rgM at h
 simp only [Bool.and_eq_true,decide_eq_true_eq] at h
 obtain ⟨⟨h1,h2⟩,h3⟩:=h
 have h4:qZ_ l=meN l:=by unfold qZ_ meN;rw [ge_ l h1]
 exact ⟨h1,h2,h4,by omega,by unfold meN;omega⟩
theorem GR_ {room:Int}:∀ (r:List OV) (l:List Int),r.all rgO=true->(l.length:Int)+(boO r).length<=room->puS room r l 0=(l++boO r,0)
 | [],l,_,_=>by unfold boO puS;simp
 | o :: r,l,h,hl=>by
   rw [List.all_cons,Bool.and_eq_true] at h
   obtain ⟨_,h2,h3,_⟩:=UY_ h.1
   have e1:boO (o :: r)=ecO o++boO r:=List.flatMap_cons
   rw [e1,List.length_append] at hl
   obtain ⟨b1,b2⟩:=UC_ (x:=ecO o) (l:=l) (room:=room) (by omega)
   have f0:Zq_ 0 0=0:=rfl
   unfold puS
   rw [h2,h3,f0,b1,b2,GR_ r (l++ecO o) h.2 (by rw [List.length_append];omega),e1,List.append_assoc]
theorem b5_ {x:List OV} {l:List Int} {room:Int} (h:rgM x=true) (hl:(l.length:Int)+meN x+pz (meN x)<=room):mpB x l room 0=l++meB x/\mpE x l room 0=0:=by
 obtain ⟨h1,h2,h3,h4,h5⟩:=Jg_ h
 have hz:=Yi_ (n:=meN x) (by omega)
 obtain ⟨r1,r2⟩:=b0_ (a:=1) (n:=meN x) (by omega) (by omega)
 have l2:=zm_ (n:=1) (w:=2) (by decide)
 have l3:=zm_ (n:=meN x) (w:=2) (by decide)
 have hb:((Kk_ [2,2] [1,meN x]).length:Int)=4:=by rw [r1,List.length_append];omega
 have hbo:meN x=4+(boO x).length:=rfl
 obtain ⟨w1,w2⟩:=bp_ (l:=l) (room:=room) r2 (by omega)
 rw [r1] at w1
 have hS:mpS x l room 0=(l++(zf_ 1 2++zf_ (meN x) 2)++boO x,0):=by
  unfold mpS;rw [h3,w1,w2]
  exact GR_ x _ h1 (by simp only [List.length_append];omega)
 obtain ⟨z1,z2⟩:=UC_ (x:=mpZ x) (l:=l++(zf_ 1 2++zf_ (meN x) 2)++boO x) (room:=room) (by unfold mpZ;rw [h3];simp only [List.length_append,List.length_replicate];omega)
 unfold mpB mpE
 rw [if_pos h,if_pos h,hS,z1,z2]
 refine ⟨?_,rfl⟩
 unfold meB mpZ;rw [h3];simp only [List.append_assoc]
theorem bB_ {x:List OV} {l:List Int} {room e:Int} (h:rgM x=false):mpB x l room e=l/\mpE x l room e=Zq_ e 10001:=by
 unfold mpB mpE;rw [h];exact ⟨rfl,rfl⟩
theorem gc_ (l:List OV) (h:0<=meN l):((meB l).length:Int)=meN l+pz (meN l):=by
 have l2:=zm_ (n:=1) (w:=2) (by decide)
 have l3:=zm_ (n:=meN l) (w:=2) (by decide)
 have hz:=Yi_ (n:=meN l) (by omega)
 have hbo:meN l=4+(boO l).length:=rfl
 unfold meB
 simp only [List.length_append,List.length_replicate];omega
def meL (l:List OV):List Int:=if rgM l=true then meB l else []
def meE (l:List OV):Int:=if rgM l=true then 0 else 10001
def xf_:IR:=
(sq (kr [0] [oD 2 (.mov (.c (.imm (.int .u8) []))),
oD 3 (.mov (cI 0))])
(sq (.reg [oC 5 48 [(cI 65543)],
oM 4 5])
(sq (.reg [oM 6 4,
oM 7 0,
oC 8 84 [6,7]])
(sq (kr [4] [oM 9 4,
oC 10 50 [9],
oX 11 10 0,
oX 12 10 1,
oM 2 11,
oM 3 12])
.ret))))
def W2_:List RD:=[.tmp 2 true (some (.int .u8)),.tmp 3 true none]
theorem W8_:zq_ Tryz.prog Tryz.f38 xf_ W2_=true:=by kernel_rfl
def Q8_:List AV->List Obj->Option (Prop × AV)
 | [.imm (.cons (.int .i64) (.cons (.int .i64) (.cons .bool (.cons (.int .u64) (.cons (.sl (.int .u8)) (.cons (.sl (.int .u8)) .nil)))))) x],[]=>some ((okM x,.tup [.imm (.int .u8) (meL x),.int .i64 (meE x)]))
 | _,_=>none
theorem wV_:ze_ Tryz.prog 38 (RoF Q8_).sum:=by
 refine zk_ Tryz.func38 W8_ (za_ (s:=RwF QV_) jz_ (za_ (s:=RwF Jb_) X9_ (za_ (s:=RwF Zx_) qH_ (zg_ _)))) fun args objs p v e=>?_
 unfold Q8_ at e
 split at e
 ·rename_i x
  cases e
  refine ⟨rfl,fun hw ho hp=>?_⟩
  change List OV at x
  clear hw ho
  have hroom:xW_ 65543=65543:=by decide
  have hok:=hp
  cases hr:rgM x with
  | false=>
    obtain ⟨b1,b2⟩:=bB_ (x:=x) (l:=[]) (room:=65543) (e:=0) hr
    have e1:meL x=[]:=by unfold meL;rw [hr];rfl
    have e2:meE x=10001:=by unfold meE;rw [hr];rfl
    have f1:Zq_ 0 10001=10001:=rfl
    rw [e1,e2]
    repeat'(intro t ht;first|(cases t<;>first|(cases ht;done)|(try simp only[zi_]at ht))|((first|refine zb_ ht ?_|refine ht ?_ ?_|refine ht.1 ?_ ?_|refine ht ?_)<;>clear ht))
    all_goals (try simp only [hroom,b1,b2,f1] at*)
    all_goals first
     | exact True.intro
     | exact ⟨hok,by decide,by decide,by decide⟩
     | exact ⟨rfl,by first | rfl | exact True.intro⟩
     | (constructor<;>(simp only [List.length_nil];omega))
     | (exfalso;simp_all;done)
  | true=>
    obtain ⟨h1,h2,h3,h4,h5⟩:=Jg_ hr
    have hml:=gc_ x (by omega)
    have hz:=Yi_ (n:=meN x) (by omega)
    obtain ⟨b1,b2⟩:=b5_ (x:=x) (l:=[]) (room:=65543) hr (by simp only [List.length_nil];omega)
    rw [List.nil_append] at b1
    have e1:meL x=meB x:=if_pos hr
    have e2:meE x=0:=if_pos hr
    rw [e1,e2]
    repeat'(intro t ht;first|(cases t<;>first|(cases ht;done)|(try simp only[zi_]at ht))|((first|refine zb_ ht ?_|refine ht ?_ ?_|refine ht.1 ?_ ?_|refine ht ?_)<;>clear ht))
    all_goals (try simp only [hroom,b1,b2] at*)
    all_goals first
     | exact True.intro
     | exact ⟨hok,by decide,by decide,by decide⟩
     | exact ⟨rfl,by first | rfl | exact True.intro⟩
     | (constructor<;>(try simp only [List.length_nil])<;>omega)
     | (exfalso;simp_all;done)
 ·cases e
theorem GH_ {o:OV} (h:rgO o=true):0<=o.2.1/\o.2.1<=127/\0<=o.1/\o.1<=65535/\o.2.2.2.2.1.length<=100/\o.2.2.2.2.2.1.length<=100:=by
 have hn:=ZV_ h
 refine ⟨hn.1,hn.2.1,?_,?_,?_,?_⟩<;>omega
section
variable {I:Nat->Prop} {w:World} {mm:M}
end
def tT (b:List Int):Int:=Z2_ (b.take 2)
def tN (b:List Int):Int:=Z2_ ((b.drop 2).take 2)
theorem U6_ {b:List Int} {a:Nat} (hb:∀ x ∈ b,0<=x/\x<=255):0<=Z2_ ((b.drop a).take 2)/\Z2_ ((b.drop a).take 2)<=65535:=by
 have h:=xr_ ((b.drop a).take 2) fun x hx=>hb x (List.mem_of_mem_drop (List.mem_of_mem_take hx))
 have hl:((b.drop a).take 2).length<=2:=by rw [List.length_take];omega
 have hp:∀ k ≤ 2,(256:Int) ^ k<=65536:=by decide
 have:=hp _ hl
 omega
def bd (b:List Int):List Int:=(b.take (tN b).toNat).drop 4
theorem Bb_ {b:List Int} (hb:∀ x ∈ b,0<=x/\x<=255):(bd b).length<=65535:=by
 have:=U6_ (a:=2) hb
 unfold bd tN;rw [List.length_drop,List.length_take];omega
end Go.Eng
