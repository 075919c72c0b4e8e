/- Parts of the proof: M9, MA, X4, X5, P2, P3, P4, P5, P6, X6, X7, X8. No condition. -/
import Derived.Test.YtiejmanmofemeaaGreatDoorProg
import Derived.Test.YtiejmanmofemeaaGreatDoorWR10
import Derived.KernelRfl
import Derived.Test.YtiejmanmofemeaaGreatDoorWR21
import Derived.Test.YtiejmanmofemeaaGreatDoorWR19
import Derived.Lib.BytesEntry
import Derived.Lib.Walk
import Derived.Laws.Externs
import Derived.Lib.Strings
import Derived.Lib.Slices
import Derived.Test.YtiejmanmofemeaaGreatDoorWR11
import Derived.Test.YtiejmanmofemeaaGreatDoorWR12
namespace Go.Eng
open Go.Proofs
set_option linter.unusedVariables false
set_option linter.unusedSimpArgs false
set_option maxRecDepth 100000
set_option maxHeartbeats 1000000
theorem zaF_ (pre:List OV) (o:OV) (r:List OV):ckS pre (o :: r)=if pre.any (fun x=>alO x o)=true then (((pre.length:Nat):Int),1035) else if JJ_ pre o.1 o.2.1=true then ckS (pre++[o]) r else (((pre.length:Nat):Int),1034):=rfl
theorem zhf_ (pre:List OV):ckS pre []=(0,0):=rfl
theorem zde_:∀ (r pre s:List OV),ckS pre (r++s)=if (ckS pre r).2=0 then ckS (pre++r) s else ckS pre r
 | [],pre,s=>by
   rw [List.nil_append,List.append_nil,zhf_,if_pos rfl]
 | o :: r,pre,s=>by
   rw [List.cons_append,zaF_,zaF_ pre o r]
   by_cases h1:pre.any (fun x=>alO x o)=true
   ·simp only [if_pos h1];rw [if_neg (by decide)]
   ·simp only [if_neg h1]
    by_cases h2:JJ_ pre o.1 o.2.1=true
    ·simp only [if_pos h2]
     rw [zde_ r (pre++[o]) s,List.append_assoc,List.singleton_append]
    ·simp only [if_neg h2];rw [if_neg (by decide)]
theorem zhe_ {r s:List OV} (h:(ckS [] (r++s)).2=0):(ckS [] r).2=0:=by
 rw [zde_] at h
 by_cases h1:(ckS [] r).2=0
 ·exact h1
 ·rw [if_neg h1] at h;exact h
theorem zgX_ {acc:List OV} {y:List Int} (h:¬ y.length=0) (h1:zH_ y=0) (h2:(ckS [] (acc++[vO y])).2=0) (hn:1<=z2_ y):mlG acc y=mlG (acc++[vO y]) (y.drop (z2_ y).toNat):=by
 rw [mlG,if_neg h,if_neg (not_not_intro h1),if_neg (not_not_intro h2),show max 1 (z2_ y).toNat=(z2_ y).toNat by omega]
theorem zfI_ (o:OV):4<=(ecO o).length:=by
 have:=zn_ (n:=o.1) (w:=2) (by decide)
 unfold ecO q3_;simp only [List.length_append,List.length_cons];omega
theorem zaO_ (o:OV) (r:List OV):boO (o :: r)=ecO o++boO r:=List.flatMap_cons
theorem zcU_:∀ (r acc:List OV),r.all rgO=true->(∀ o ∈ r,0<=o.2.2.2.1)->(ckS [] (acc++r)).2=0->mlG acc (boO r)=(acc++r,0)
 | [],acc,_,_,_=>by rw [v9_ (by rfl),List.append_nil]
 | o :: r,acc,h,hx,hc=>by
   rw [List.all_cons,Bool.and_eq_true] at h
   have hr:zN_ o.1 o.2.1 o.2.2.1 o.2.2.2.1 o.2.2.2.2.1 o.2.2.2.2.2.1=true:=h.1
   obtain ⟨D1,D2,D3,D4,D5,D6,D7,D8⟩:=zc7_ (b:=boO r) hr (hx o (List.mem_cons_self ..))
   have hge:=zfI_ o
   have hv:vO (ecO o++boO r)=o:=by
    unfold vO ecO;rw [D2,D3,D4,D5,D6,D7]
   have hE:zH_ (ecO o++boO r)=0:=D1
   have hN:z2_ (ecO o++boO r)=(ecO o).length:=D8
   have ha:acc++o :: r=(acc++[o])++r:=by rw [List.append_assoc];rfl
   have hc1:(ckS [] (acc++[o])).2=0:=by rw [ha] at hc;exact zhe_ hc
   rw [zaO_,zgX_ (by rw [List.length_append];omega) hE (by rw [hv];exact hc1) (by rw [hN];omega),hv,hN,Int.toNat_natCast,List.drop_left]
   rw [zcU_ r (acc++[o]) h.2 (fun o ho=>hx o (List.mem_cons_of_mem _ ho)) (by rw [<- ha];exact hc),<- ha]
theorem zfZ_:∀ (l:List OV),4*l.length<=(boO l).length
 | []=>Nat.zero_le _
 | o :: r=>by
   have:=zfZ_ r
   have:=zfI_ o
   rw [zaO_,List.length_append,List.length_cons];omega
theorem zi9_ {l:List OV} (h:rgM l=true):okM l:=by
 obtain ⟨h1,h2,h3,h4,h5⟩:=jP_ h
 refine ⟨⟨fun o ho=>?_⟩,?_⟩
 ·have:=zeM_ (List.all_eq_true.1 h1 o ho)
  exact ⟨by omega,by omega⟩
 ·have:=zfZ_ l
  have:meN l=4+(boO l).length:=rfl
  omega
theorem zgZ_ {N:Int} {body rest:List Int} (hN:N=4+body.length) (hN2:N<=65535):
 tT (zf_ 1 2++zf_ N 2++body++rest)=1/\tN (zf_ 1 2++zf_ N 2++body++rest)=N/\bd (zf_ 1 2++zf_ N 2++body++rest)=body/\(zf_ 1 2++zf_ N 2++body++rest).drop N.toNat=rest/\(zf_ 1 2++zf_ N 2++body++rest).length=4+body.length+rest.length:=by
 have l2:(zf_ 1 2).length=2:=by have:=zn_ (n:=1) (w:=2) (by decide);omega
 have l3:(zf_ N 2).length=2:=by have:=zn_ (n:=N) (w:=2) (by decide);omega
 have e1:tT (zf_ 1 2++zf_ N 2++body++rest)=1:=by
  unfold tT;rw [List.append_assoc,List.append_assoc,List.take_left' l2];exact num2 (by decide)
 have e2:tN (zf_ 1 2++zf_ N 2++body++rest)=N:=by
  unfold tN;rw [List.append_assoc,List.append_assoc,List.drop_left' l2,List.take_left' l3];exact num2 (by omega)
 have hl:(zf_ 1 2++zf_ N 2++body++rest).length=4+body.length+rest.length:=by simp only [List.length_append];omega
 refine ⟨e1,e2,?_,?_,hl⟩
 ·unfold bd
  rw [e2,List.take_left' (by simp only [List.length_append];omega)]
  exact List.drop_left' (by rw [List.length_append];omega)
 ·exact List.drop_left' (by simp only [List.length_append];omega)
theorem zir_ {l:List OV} {b:List Int} (h:rgM l=true) (hx:∀ o ∈ l,0<=o.2.2.2.1):mdE (meB l++b)=0/\mdL (meB l++b)=l/\mdN (meB l++b)=(meB l).length:=by
 obtain ⟨h1,h2,h3,h4,h5⟩:=jP_ h
 have hz:=Y9_ (n:=meN l) (by omega)
 have hml:=zcW_ l (by omega)
 have e:meB l++b=zf_ 1 2++zf_ (meN l) 2++boO l++(List.replicate (pz (meN l)).toNat 0++b):=by unfold meB;simp only [List.append_assoc]
 obtain ⟨t1,t2,t3,t4,t5⟩:=zgZ_ (N:=meN l) (body:=boO l) (rest:=List.replicate (pz (meN l)).toNat 0++b) rfl (by omega)
 rw [<- e] at t1 t2 t3 t4 t5
 have hN:meN l=4+(boO l).length:=rfl
 simp only [List.length_append,List.length_replicate] at t5
 have hm:=zcU_ l [] h1 hx h2
 rw [List.nil_append] at hm
 have hZ:mdZ (meB l++b)=true:=by
  unfold mdZ;rw [t2,t4,List.take_left' List.length_replicate];exact y1_ _
 have hE:mdE (meB l++b)=0:=by
  rw [zfc_ (by rw [List.length_append];omega) t1 (by rw [t2,List.length_append];omega),t3,hm,hZ];rfl
 refine ⟨hE,?_,?_⟩
 ·unfold mdL;rw [if_pos hE,t3,hm]
 ·unfold mdN;rw [if_pos hE,t2];omega
theorem ziB_ {y:List Int} (h:8<=y.length):z7_ [4,4] y=([zS_ (y.take 4),zS_ ((y.drop 4).take 4)],0):=by
 have hr:zR_ [4,4]=true:=by decide
 unfold z7_
 rw [if_pos hr]
 have a4:zp_ 4=4:=by decide
 have t4:Int.toNat 4=4:=rfl
 have p4:(0:Int) < 4:=by decide
 simp only [Ze_,a4,List.length_drop,t4,if_pos p4]
 rw [if_neg (by omega),if_neg (by omega)]
 rfl
theorem zjo_ {y:List Int} (h:8<=y.length):z7_ [2,-6] y=if zF_ ((y.drop 2).take 6)=true then ([zS_ (y.take 2)],0) else ([],2):=by
 have hr:zR_ [2,-6]=true:=by decide
 unfold z7_
 rw [if_pos hr]
 have a2:zp_ 2=2:=by decide
 have a6:zp_ (-6)=6:=by decide
 have t2:Int.toNat 2=2:=rfl
 have t6:Int.toNat 6=6:=rfl
 have p2:(0:Int) < 2:=by decide
 have p6:¬ (0:Int) < -6:=by decide
 simp only [Ze_,a2,a6,List.length_drop,t2,t6,if_pos p2,if_neg p6]
 rw [if_neg (by omega),if_neg (by omega)]
 rfl
theorem zfC_ {y n:List Int} {s:Int} (h:16<=y.length) (h1:z7_ [4,4] y=(n,0)) (h2:z7_ [2,-6] (y.drop 8)=([s],0)):z7_ w13 y=(n++[s],0):=by
 rw [ziB_ (by omega)] at h1
 rw [zjo_ (by rw [List.length_drop];omega),List.drop_drop] at h2
 rw [zhN_ h]
 split at h2
 ·rename_i hz
  rw [if_pos hz]
  cases h1;cases h2;rfl
 ·cases h2
structure wfM24 (m:VMs):Prop where
 n:∀ q ∈ mN m,0<=q/\q<=18446744073709551615
 x:∀ o ∈ mX m,0<=o.2.2.2.1
 a:∀ o ∈ mA m,bysU o
theorem b8_ {w n:List Int} (h:Qg_ w n=true):(n.length:Int)=z4_ w:=by
 unfold Qg_ jn_ at h
 split at h
 ·rename_i hc;exact hc.2.symm
 ·cases h
theorem zeq_ {m:VMs} (h:(wrR m).2=0):∃ y z,Vn_ (mT m) (mN m) (mD m) (mX m) (mA m)=some z/\y=z++mD m/\wrR m=(y,0)/\Xi_ (Gi_ (decide (mT m=10)) (decide (mT m=13)) m)=true/\(y.length:Int)<=65527:=by
 unfold wrR at h ⊢
 cases hv:Uj_ (Vn_ (mT m) (mN m) (mD m) (mX m) (mA m)) (some (mD m)) with
 | none=>rw [hv] at h;cases h
 | some y=>
   rw [hv] at h
   obtain ⟨p,q,h1,h2,h3⟩:=jF_ hv
   cases h2
   dsimp only at h ⊢
   split at h
   ·rename_i hb
    split at h
    ·cases h
    ·rename_i hl
     exact ⟨y,p,h1,h3,by rw [if_pos hb,if_neg hl],hb,by omega⟩
   ·cases h
theorem zgm_ {m:VMs} (hw:wfM24 m) (h:(wrR m).2=0):jm_ (mT m) (wrR m).1=0/\(mT m=10\/mT m=13)/\(((ZQ_ (mT m) (wrR m).1).1,m.2.1,(ZQ_ (mT m) (wrR m).1).2.2):VMs)=m:=by
 obtain ⟨y,z,h1,h2,h3,h4,h5⟩:=zeq_ h
 rw [h3]
 have hbm:=zhj_.1 h4
 obtain ⟨t,xi,n,d,m5⟩:=m
 obtain ⟨el,x,a,m8⟩:=m5
 have hwn:∀ q ∈ n,0<=q/\q<=18446744073709551615:=hw.n
 have hwx:∀ o ∈ x,0<=o.2.2.2.1:=hw.x
 have hwa:∀ o ∈ a,bysU o:=hw.a
 replace h1:Vn_ t n d x a=some z:=h1
 replace h2:y=z++d:=h2
 show jm_ t y=0/\(t=10\/t=13)/\(((ZQ_ t y).1,xi,(ZQ_ t y).2.2):VMs)=(t,xi,n,d,el,x,a,m8)
 unfold Vn_ at h1
 by_cases h10:t=10
 ·subst h10
  rw [if_pos rfl] at h1
  split at h1
  ·cases h1
  ·rename_i hbad
   have hel:el=[]:=congrArg (fun q:VMs=>q.2.2.2.2.1) hbm
   have ha:a=[]:=congrArg (fun q:VMs=>q.2.2.2.2.2.2.1) hbm
   have hm8:m8=([],[],[],[],[],0,0,[],()):=congrArg (fun q:VMs=>q.2.2.2.2.2.2.2) hbm
   subst hel ha hm8
   obtain ⟨p,q,g1,g2,g3⟩:=jF_ h1
   obtain ⟨p1,p2,g4,g5,g6⟩:=jF_ g1
   obtain ⟨k1,k2⟩:=xF_ g4
   obtain ⟨_,k3⟩:=xF_ g2
   have hq:q=[0,0]:=by rw [<- k3];decide
   have hr:rgM x=true/\p2=meB x:=by
    unfold matO at g5;split at g5
    ·cases g5;exact ⟨by assumption,rfl⟩
    ·cases g5
   have hn5:=b8_ k1
   rw [show z4_ w10=5 by decide] at hn5
   have e:y=ZT_ w10 n++(meB x++([0,0]++d)):=by rw [h2,g3,g6,k2,hr.2,hq];simp only [List.append_assoc]
   obtain ⟨f1,f2⟩:=xI_ (meB x++([0,0]++d)) hwn k1
   rw [<- e] at f1
   rw [show (zD_ w10).toNat=16 by decide] at f2
   have hL:zA_ w10 y=n:=congrArg Prod.fst f1
   have hK:zx_ w10 y=0:=congrArg Prod.snd f1
   have hd:y.drop 16=meB x++([0,0]++d):=by rw [e,<- f2,List.drop_left]
   obtain ⟨m1,m2,m3⟩:=zir_ (b:=[0,0]++d) hr.1 hwx
   have hr10:r10 y=[0,0]++d:=by
    unfold r10;rw [hd,m3,Int.toNat_natCast,<- List.drop_drop,hd,List.drop_left]
   unfold Z4_ at hbad
   simp only [Bool.or_eq_true,decide_eq_true_eq] at hbad
   have z2:nz3 n 2=n.getD 2 0:=qj_ (by omega)
   have z1:nz3 n 1=n.getD 1 0:=qj_ (by omega)
   rw [z1,z2] at hbad
   have hE:e10 y=0:=by
    unfold e10
    rw [if_neg (not_not_intro hK),hL,if_neg (fun c=>hbad (.inl c)),hd,if_neg (not_not_intro m1),hr10,if_neg (by simp),if_neg]
    rintro (c | c)
    ·cases c
    ·exact hbad (.inr (by simp only [List.length_append,List.length_cons,List.length_nil] at c;omega))
   have hE2:jm_ 10 y=0:=by unfold jm_;rw [if_pos rfl,if_neg (fun c=>by omega),hE]
   refine ⟨hE2,.inl rfl,?_⟩
   have hv:ZQ_ 10 y=v10 y:=by unfold ZQ_;rw [if_pos hE2,if_pos rfl]
   rw [hv];unfold v10;rw [hL,hr10,hd,m2];try rfl
 ·rw [if_neg h10] at h1
  by_cases h13:t=13
  ·subst h13
   rw [if_pos rfl] at h1
   split at h1
   ·cases h1
   ·rename_i hbad
    have hel:el=[]:=congrArg (fun q:VMs=>q.2.2.2.2.1) hbm
    have hx:x=[]:=congrArg (fun q:VMs=>q.2.2.2.2.2.1) hbm
    have hm8:m8=([],[],[],[],[],0,0,[],()):=congrArg (fun q:VMs=>q.2.2.2.2.2.2.2) hbm
    subst hel hx hm8
    obtain ⟨p,q,g1,g2,g3⟩:=jF_ h1
    obtain ⟨p1,p2,g4,g5,g6⟩:=jF_ g1
    obtain ⟨k1,k2⟩:=xF_ g4
    obtain ⟨k3,k4⟩:=xF_ g5
    have hr:rgL a=true/\q=boA a:=by
     unfold actO at g2;split at g2
     ·cases g2;exact ⟨by assumption,rfl⟩
     ·cases g2
    obtain ⟨a1,a2,a3,a4⟩:=Kt_ hr.1
    have hn2:=b8_ k1
    rw [show z4_ [4,4]=2 by decide] at hn2
    have e:y=ZT_ [4,4] n++(ZT_ [2,-6] [szL a]++(boA a++d)):=by rw [h2,g3,g6,k2,k4,hr.2];simp only [List.append_assoc]
    obtain ⟨f1,f2⟩:=xI_ (ZT_ [2,-6] [szL a]++(boA a++d)) hwn k1
    obtain ⟨f3,f4⟩:=xI_ (boA a++d) (xs:=[szL a]) (fun q hq=>by rcases List.mem_singleton.1 hq with rfl;omega) k3
    rw [<- e] at f1
    rw [show (zD_ [4,4]).toNat=8 by decide] at f2
    rw [show (zD_ [2,-6]).toNat=8 by decide] at f4
    have hd8:y.drop 8=ZT_ [2,-6] [szL a]++(boA a++d):=by rw [e,<- f2,List.drop_left]
    have hd16:y.drop 16=boA a++d:=by
     rw [show (16:Nat)=8+8 from rfl,<- List.drop_drop,hd8,<- f4,List.drop_left]
    have hy16:y.length=16+((boA a).length+d.length):=by rw [e];simp only [List.length_append];omega
    rw [<- hd8] at f3
    have hF:=zfC_ (by omega) f1 f3
    have hL:zA_ w13 y=n++[szL a]:=congrArg Prod.fst hF
    have hK:zx_ w13 y=0:=congrArg Prod.snd hF
    have hm:m13 y=(boA a).length:=by
     unfold m13;rw [hL,<- a4]
     simp only [List.getD_eq_getElem?_getD,List.getElem?_append_right (show n.length<=2 by omega),show 2 - n.length=0 by omega];rfl
    have hA:(y.drop 16).take (m13 y).toNat=boA a:=by rw [hd16,hm,Int.toNat_natCast,List.take_left]
    obtain ⟨b1,b2⟩:=ziT_ hr.1 hwa
    have hD:y.drop (16+(m13 y).toNat)=d:=by rw [<- List.drop_drop,hd16,hm,Int.toNat_natCast,List.drop_left]
    unfold ZZ_ at hbad
    simp only [Bool.or_eq_true,Bool.and_eq_true,decide_eq_true_eq] at hbad
    have z1:nz3 n 1=n.getD 1 0:=qj_ (by omega)
    have z0:nz3 n 0=n.getD 0 0:=qj_ (by omega)
    rw [z1,z0] at hbad
    have l1:(zA_ w13 y).getD 1 0=n.getD 1 0:=by rw [hL,qj_ (by omega)]
    have l0:(zA_ w13 y).getD 0 0=n.getD 0 0:=by rw [hL,qj_ (by omega)]
    have hE:e13 y=0:=by
     unfold e13
     rw [if_neg (by omega),if_neg (by omega),l1,if_neg (fun c=>hbad (.inl c)),if_neg (by omega),hA,if_neg (not_not_intro b2),if_neg]
     rintro ⟨c1,c2⟩
     rw [l0] at c1
     exact hbad (.inr ⟨c1,by omega⟩)
    have hE2:jm_ 13 y=0:=by unfold jm_;rw [if_neg (by decide),if_pos rfl,if_neg (fun c=>by omega),hE]
    refine ⟨hE2,.inr rfl,?_⟩
    have hv:ZQ_ 13 y=v13 y:=by unfold ZQ_;rw [if_pos hE2,if_neg (by decide)]
    rw [hv];unfold v13;rw [hL,hA,hD,b1,List.take_left' (by omega)]
  ·rw [if_neg h13] at h1;cases h1
def n8 (q:P8):List Int:=[q.1,q.2.1,q.2.2.1,q.2.2.2.1,q.2.2.2.2.1,q.2.2.2.2.2.1,q.2.2.2.2.2.2.1,q.2.2.2.2.2.2.2.1]
def Hr_:IR:=
(sq (kr [0,1] [oD 4 (.nilrow (.int .u64)),
oD 5 (.mov (cI 0))])
(sq (sq (.reg [oM 10 0,
oC 11 184 [10],
oD 12 (.un .not 11)])
(.cond 12
(sq (.reg [oD 4 (.nilrow (.int .u64)),
oD 5 (.mov (cI 2))])
.ret)
.skip))
(sq (kr [0,1] [oD 6 (.nilrow (.int .u64))])
(sq (sq (.reg [oM 13 0,
oE 14 13,
oD 15 (.mov (cI 0))])
(.block 0
(.loop
(sq (kr [1,6,13,14,15] [oB 16 .lss 15 14])
(sq (.cond 16
.skip
(.exit 0))
(sq (.block 1
(sq (.reg [oI 17 1 13 15,
oL 18 17,
oM 8 18])
(sq (kr [1,6,8,13,14,15] [oM 19 8,
oM 20 8,
oD 21 (.un .neg 20),
oD 22 (.minmax true 19 21),
oM 9 22])
(sq (.block 2
(sq (kr [1,6,8,9,13,14,15] [oM 24 1,
oE 25 24,
oM 26 9,
oB 27 .lss 25 26,
oM 23 27])
(.cond 23
(sq (.reg [oD 4 (.nilrow (.int .u64)),
oD 5 (.mov (cI 1))])
.ret)
(sq (.reg [oM 29 8,
oB 30 .gtr 29 (cI 0),
oM 28 30])
(.cond 28
(kr [1,6,9,13,14,15] [oM 31 6,
oM 32 1,
oM 33 9,
oD 34 (.slice 1 32 none (some 33) none),
oC 35 193 [34],
oD 36 (.sliceAll (.int .u64) 1 [(0,1,35)]),
oD 37 (.append (.int .u64) 8 31 36),
oM 6 37])
(sq (kr [1,6,9,13,14,15] [oM 39 1,
oM 40 9,
oD 41 (.slice 1 39 none (some 40) none),
oC 42 194 [41],
oD 43 (.un .not 42),
oM 38 43])
(.cond 38
(sq (kr [] [oD 4 (.nilrow (.int .u64)),
oD 5 (.mov (cI 2))])
.ret)
.skip)))))))
(kr [1,6,9,13,14,15] [oM 44 1,
oM 45 9,
oD 46 (.slice 1 44 (some 45) none none),
oM 1 46])))))
(kr [1,6,13,14,15] [oB 47 .add 15 (cI 1),
oM 15 47])))))))
(sq (kr [6] [oM 48 6,
oM 4 48,
oD 5 (.mov (cI 0))])
.ret)))))
def hl_:List RD:=[.tmp 4 false none,.tmp 5 false none]
theorem hP_:zm_ Tryz.prog Tryz.f162 Hr_ hl_=true:=by kernel_rfl
def xk_:List AV->List Obj->Option (Prop × AV × List Obj)
 | [.imm (.int .i64) w,.imm (.int .u8) b],[]=>some ((True,.tup [.own 0,.int .i64 (zx_ w b)],[.row false (.int .u64) (zA_ w b)]))
 | _,_=>none
theorem Uk_:zd_ Tryz.prog 162 (RwF xk_).sum:=by
 refine qB_ Tryz.func162 hP_ (za_ (s:=RoF qK_) Qc_ (za_ (s:=RoF Ki_) Wo_ (za_ (s:=RoF J3_) yd_ (zc_ _)))) fun args objs p v o e=>?_
 unfold xk_ at e
 split at e
 ·rename_i w b
  cases e
  refine ⟨rfl,fun hw ho hp=>?_⟩
  change List Int at w
  change List Int at b
  have hb:b.length<=maxLen:=(hw (.imm (.int .u8) b) (by simp)).2
  unfold maxLen at hb
  repeat'(intro t ht;first|(cases t<;>first|(cases ht;done)|(try simp only[zg_]at ht))|((first|refine zb_ ht ?_|refine ht ?_ ?_|refine ht.1 ?_ ?_|refine ht ?_)<;>clear ht))
  all_goals first
   | exact True.intro
   | (intro r h1 h2;clear h1;refine h2 ⟨[1,6,13,14,15],Nat × List Int × List Int,(fun a=>a.1<=w.length/\a.2.1.length<=b.length/\a.2.2.length<=a.1/\Ze_ w b []=Ze_ (w.drop a.1) a.2.1 a.2.2),fun a=>[.imm (.int .u8) a.2.1,.own 0,.imm (.int .i64) w,.int .i64 w.length,.int .i64 a.1],fun a=>[.row false (.int .u64) a.2.2],fun a=>w.length - a.1,⟨(0,b,[]),⟨Nat.zero_le _,Nat.le_refl _,Nat.zero_le _,rfl⟩,rfl,rfl⟩,?_⟩;clear h2)
   | (have hr:zR_ w=false:=by assumption
      have hf:z7_ w b=([],2):=by unfold z7_;rw [hr];rfl
      unfold zA_ zx_;rw [hf];exact ⟨rfl,rfl⟩)
  rintro ⟨i,c,o⟩ ⟨hi,hc,ho,he⟩
  dsimp only at hi hc ho he
  have hr:zR_ w=true:=by assumption
  have hl:=(Zb_.1 hr).1
  repeat'(intro t ht;first|(cases t<;>first|(cases ht;done)|(try simp only[zg_]at ht))|((first|refine zb_ ht ?_|refine ht ?_ ?_|refine ht.1 ?_ ?_|refine ht ?_)<;>clear ht))
  all_goals first
   | ((try simp only [zj_,zk_,zi_] at*);omega)
   | (have hge:w.length<=i:=by omega
      rw [List.drop_of_length_le hge] at he
      have hf:z7_ w b=(o,0):=by unfold z7_;rw [if_pos hr,he];rfl
      unfold zA_ zx_;rw [hf];exact ⟨rfl,rfl⟩)
   | skip
  all_goals have hlt:i < w.length:=by omega
  all_goals have hkk:=(Zb_.1 hr).2 _ (zX_ (α:=Int) hlt 0)
  all_goals have ha:=Kh_ (n:=w.getD i 0)
  all_goals have hA:(if 0 - w.getD i 0 > w.getD i 0 then 0 - w.getD i 0 else w.getD i 0)=zp_ (w.getD i 0):=rfl
  all_goals first
   | exact True.intro
   | ((try simp only [zj_,zk_,zi_] at*);omega)
   | (have h1:(c.length:Int) < zp_ (w.getD i 0):=by assumption
      have hf:z7_ w b=([],1):=by unfold z7_;rw [if_pos hr,he];exact XI_ hlt h1
      unfold zA_ zx_;rw [hf];exact ⟨rfl,rfl⟩)
   | (have h1:¬ (c.length:Int) < zp_ (w.getD i 0):=by assumption
      first
       | (have h2:¬ 0 < w.getD i 0:=by assumption
          first
           | (have h3:zF_ (c.take (zp_ (w.getD i 0)).toNat)=true:=by assumption
              refine ⟨(i+1,c.drop (zp_ (w.getD i 0)).toNat,o),⟨hlt,?_,by dsimp only;omega,?_⟩,by dsimp only;omega,rfl,rfl⟩
              ·dsimp only;rw [List.length_drop];omega
              ·rw [he];exact Yv_ hlt h1 h2 h3)
           | (have h3:zF_ (c.take (zp_ (w.getD i 0)).toNat)=false:=by assumption
              have hf:z7_ w b=([],2):=by unfold z7_;rw [if_pos hr,he];exact uL_ hlt h1 h2 h3
              unfold zA_ zx_;rw [hf];exact ⟨rfl,rfl⟩))
       | (have h2:0 < w.getD i 0:=by assumption
          first
           | (show (c.take (zp_ (w.getD i 0)).toNat).length<=8;rw [List.length_take];omega)
           | (simp only [z0_,List.length_append,List.length_cons,List.length_nil];omega)
           | (refine ⟨(i+1,c.drop (zp_ (w.getD i 0)).toNat,o++[zS_ (c.take (zp_ (w.getD i 0)).toNat)]),⟨hlt,?_,?_,?_⟩,by dsimp only;omega,rfl,rfl⟩
              ·dsimp only;rw [List.length_drop];omega
              ·simp only [List.length_append,List.length_cons,List.length_nil];omega
              ·rw [he];exact uM_ hlt h1 h2)))
 ·cases e
def JT_:IR:=
(sq (kr [0,1] [oD 4 (.nilrow (.int .u64))])
(sq (sq (.reg [oM 7 0,
oC 8 23 [7],
oB 9 .neq 8 (cI 0)])
(.cond 9
(sq (.reg [oD 4 (.nilrow (.int .u64))])
.ret)
.skip))
(sq (kd [0,1] [(oM 11 1,[]),
(oM 12 0,[0]),
(oD 13 (.nilck 12),[1]),
(oA 14 0 13,[2]),
(oL 15 14,[3]),
(oM 16 0,[0,0,0,0,0]),
(oD 17 (.nilck 16),[1,0,0,0,0]),
(oA 18 1 17,[2,0,0,0,0]),
(oL 19 18,[3,0,0,0,0]),
(oD 20 (.slice 1 15 (some 19) none none),[8]),
(oC 21 162 [11,20],[]),
(oM 10 21,[]),
(oX 22 10 0,[]),
(oX 23 10 1,[0]),
(oM 5 22,[0]),
(oM 6 23,[])])
(sq (sq (kr [0,1,5,6] [oM 24 6])
(.block 0
(sq (.reg [oB 35 .eql 24 (cI 1),
oM 34 35])
(.cond 34
(kr [0,5] [oM 36 0,
oM 37 0,
oD 38 (.nilck 37),
oA 39 2 38,
oL 40 39,
oC 41 63 [36,40]])
(sq (.reg [oB 43 .eql 24 (cI 2),
oM 42 43])
(.cond 42
(kr [0,5] [oM 44 0,
oM 45 0,
oD 46 (.nilck 45),
oA 47 3 46,
oL 48 47,
oC 49 63 [44,48]])
(kd [0,1,5] [(oM 25 0,[]),
(oD 26 (.nilck 25),[]),
(oA 27 1 26,[]),
(oL 28 27,[]),
(oM 29 1,[0,0,0,0]),
(oC 30 163 [29],[1,0,0,0]),
(oB 31 .add 28 30,[]),
(oD 32 (.nilck 25),[]),
(oA 33 1 32,[]),
(oS 1 33 31,[])])))))))
(sq (kr [5] [oM 50 5,
oM 4 50])
.ret)))))
def Jw_:List RD:=[.tmp 4 false none]
theorem JE_:zm_ Tryz.prog Tryz.f107 JT_ Jw_=true:=by kernel_rfl
def ZP_:List AV->List Obj->Option (Prop × AV × List Obj)
 | [.ptr 0 0,.imm (.int .i64) w],[.box [.imm (.int .u8) b,.int .i64 p,.int .i64 sh,.int .i64 od,.int .i64 e,.bool true]]=>some ((0<=p/\p<=b.length/\b.length<=140737488355328,.own 1,[.box [.imm (.int .u8) b,.int .i64 (qy_ w b p e),.int .i64 sh,.int .i64 od,.int .i64 (ZW_ w b p sh od e),.bool true],.row false (.int .u64) (Qr_ w b p e)]))
 | _,_=>none
theorem Qu_:zd_ Tryz.prog 107 (RwF ZP_).sum:=by
 refine qB_ Tryz.func107 JE_ (za_ (s:=RoF zr_) zu_ (za_ (s:=RwF xk_) Uk_ (za_ (s:=RwF zt_) zw_ (za_ (s:=RoF Qs_) QL_ (zc_ _))))) fun args objs p v o e=>?_
 unfold ZP_ at e
 split at e
 ·rename_i w b p sh od e
  cases e
  refine ⟨rfl,fun hw ho hp=>?_⟩
  change List Int at w
  change List Int at b
  have hz:=Wy_ w
  repeat'(intro t ht;first|(cases t<;>first|(cases ht;done)|(try simp only[zg_]at ht))|((first|refine zb_ ht ?_|refine ht ?_ ?_|refine ht.1 ?_ ?_|refine ht ?_)<;>clear ht))
  all_goals first
   | exact True.intro
   | ((try simp only [zj_,zk_,zi_] at*);omega)
   | (refine ⟨rfl,?_⟩;unfold Qr_ qy_ ZW_;simp_all [zs_];done)
 ·cases e
theorem uJ_:∀ (w b o:List Int),(Ze_ w b o).1.length<=o.length+w.length
 | [],b,o=>by simp [Ze_]
 | n :: r,b,o=>by
   simp only [Ze_]
   split
   ·simp
   ·split
    ·have ih:=uJ_ r (b.drop (zp_ n).toNat) (o++[zS_ (b.take (zp_ n).toNat)])
     simp only [List.length_append,List.length_cons,List.length_nil] at ih ⊢;omega
    ·split
     ·have ih:=uJ_ r (b.drop (zp_ n).toNat) o
      simp only [List.length_cons];omega
     ·simp
theorem zc9_ (w b:List Int) (p e:Int):(Qr_ w b p e).length<=w.length:=by
 unfold Qr_ zA_ z7_
 split
 ·split
  ·have:=uJ_ w (b.drop p.toNat) [];simpa using this
  ·simp
 ·simp
theorem uN_:∀ (w b o:List Int),((Ze_ w b o).2=0\/(Ze_ w b o).2=1\/(Ze_ w b o).2=2)/\((Ze_ w b o).2=0->(w.map zp_).sum<=b.length)
 | [],b,o=>⟨.inl rfl,fun _=>by simp⟩
 | n :: r,b,o=>by
   have ha:=Kh_ (n:=n)
   have hd:(b.drop (zp_ n).toNat).length=b.length - (zp_ n).toNat:=List.length_drop
   simp only [Ze_]
   rw [List.map_cons,List.sum_cons]
   split
   ·exact ⟨.inr (.inl rfl),fun h=>by cases h⟩
   ·split
    ·have ih:=uN_ r (b.drop (zp_ n).toNat) (o++[zS_ (b.take (zp_ n).toNat)])
     exact ⟨ih.1,fun h=>by have:=ih.2 h;omega⟩
    ·split
     ·have ih:=uN_ r (b.drop (zp_ n).toNat) o
      exact ⟨ih.1,fun h=>by have:=ih.2 h;omega⟩
     ·exact ⟨.inr (.inr rfl),fun h=>by cases h⟩
theorem zfA_ (w b:List Int):(zx_ w b=0\/zx_ w b=1\/zx_ w b=2)/\(zx_ w b=0->zD_ w<=b.length):=by
 unfold zx_ z7_ zD_
 split
 ·exact uN_ w b []
 ·exact ⟨.inr (.inr rfl),fun h=>by cases h⟩
theorem HV_ {w b:List Int} {p e:Int} (h0:0<=p) (h1:p<=b.length):0<=qy_ w b p e/\qy_ w b p e<=b.length:=by
 have hk:=zfA_ w (b.drop p.toNat)
 have hz:=Wy_ w
 have hd:(b.drop p.toNat).length=b.length - p.toNat:=List.length_drop
 unfold qy_
 by_cases he:e=0
 ·rw [if_pos he]
  by_cases h2:zx_ w (b.drop p.toNat)=1
  ·rw [if_pos h2];exact ⟨h0,h1⟩
  ·rw [if_neg h2]
   by_cases h3:zx_ w (b.drop p.toNat)=2
   ·rw [if_pos h3];exact ⟨h0,h1⟩
   ·rw [if_neg h3]
    have:=hk.2 (by omega)
    omega
 ·rw [if_neg he];exact ⟨h0,h1⟩
theorem zeB_ {n:Int} {b:List Int} {p sh e:Int} (h0:0<=p) (h1:p<=b.length) (hs:sh ≠ 0):0<=Qt_ n b p sh e/\Qt_ n b p sh e<=b.length:=by
 have h2:zs_ e 10001 ≠ 0:=yM_ (by decide)
 have h3:zs_ e sh ≠ 0:=yM_ hs
 unfold Qt_
 by_cases h:Zw_ n b p sh e=0
 ·rw [if_pos h]
  unfold Zw_ at h
  by_cases hn:n < 0
  ·rw [if_pos hn] at h;exact absurd h h2
  ·rw [if_neg hn] at h
   by_cases hl:(b.length:Int) - p < n
   ·rw [if_pos hl] at h;exact absurd h h3
   ·omega
 ·rw [if_neg h];exact ⟨h0,h1⟩
def gE_:IR:=
(sq (kr [0] [oD 2 (.mov cF)])
(sq (kr [0] [oM 3 0,
oB 4 .eql 3 (cI 10),
oM 5 4,
oF 5 6 (.mov 0),
oF 5 7 (.bin .eql 6 (cI 13)),
oP 8 5 cT 7,
oM 2 8])
.ret))
def UH_:List RD:=[.tmp 2 true none]
theorem ga_:zm_ Tryz.prog Tryz.f32 gE_ UH_=true:=by kernel_rfl
def wg_:List AV->List Obj->Option (Prop × AV)
 | [.int .i64 t],[]=>some ((True,.bool (decide (t=10) || decide (t=13))))
 | _,_=>none
theorem Vy_:zd_ Tryz.prog 32 (RoF wg_).sum:=by
 refine zl_ Tryz.func32 ga_ (zc_ _) fun args objs p v e=>?_
 unfold wg_ at e
 split at e
 ·rename_i t
  cases e
  refine ⟨rfl,fun hw ho hp=>?_⟩
  repeat'(intro t ht;first|(cases t<;>first|(cases ht;done)|(try simp only[zg_]at ht;try(exfalso;first|contradiction|omega)))|((first|refine zb_ ht ?_|refine ht ?_ ?_|refine ht.1 ?_ ?_|refine ht ?_)<;>clear ht))
  all_goals first
   | exact True.intro
   | (refine ⟨congrArg AV.bool ?_,rfl⟩;simp_all;done)
 ·cases e
def JR_:IR:=
(sq (kr [0] [oD 2 (.mov cF)])
(sq (.reg [oM 3 0,
oE 4 3,
oB 5 .eql 4 (cI 0),
oM 2 5])
.ret))
def Ju_:List RD:=[.tmp 2 true none]
theorem JC_:zm_ Tryz.prog Tryz.f136 JR_ Ju_=true:=by kernel_rfl
def qr_:List AV->List Obj->Option (Prop × AV)
 | [.imm (.cons (.int .i64) (.cons (.sl (.int .u8)) .nil)) l],[]=>some ((True,.bool (decide ((l.length:Int)=0))))
 | _,_=>none
theorem jJ_:zd_ Tryz.prog 136 (RoF qr_).sum:=by
 refine zl_ Tryz.func136 JC_ (zc_ _) fun args objs p v e=>?_
 unfold qr_ at e
 split at e
 ·rename_i l
  cases e
  refine ⟨rfl,fun hw ho hp=>?_⟩
  repeat'(intro t ht;first|(cases t<;>first|(cases ht;done)|(try simp only[zg_]at ht))|((first|refine zb_ ht ?_|refine ht ?_ ?_|refine ht.1 ?_ ?_|refine ht ?_)<;>clear ht))
  all_goals first
   | exact True.intro
   | exact ⟨rfl,rfl⟩
 ·cases e
def w7_:IR:=
(sq (kr [0] [oD 2 (.mov cF)])
(sq (.reg [oM 3 0,
oE 4 3,
oB 5 .eql 4 (cI 0),
oM 2 5])
.ret))
def wC_:List RD:=[.tmp 2 true none]
theorem wS_:zm_ Tryz.prog Tryz.f137 w7_ wC_=true:=by kernel_rfl
def qM_:List AV->List Obj->Option (Prop × AV)
 | [.imm (.cons (.int .i64) (.cons (.int .i64) (.cons .bool (.cons (.int .u64) (.cons (.sl (.int .u8)) (.cons (.sl (.int .u8)) .nil)))))) l],[]=>some ((True,.bool (decide ((l.length:Int)=0))))
 | _,_=>none
theorem Jf_:zd_ Tryz.prog 137 (RoF qM_).sum:=by
 refine zl_ Tryz.func137 wS_ (zc_ _) fun args objs p v e=>?_
 unfold qM_ at e
 split at e
 ·rename_i l
  cases e
  refine ⟨rfl,fun hw ho hp=>?_⟩
  repeat'(intro t ht;first|(cases t<;>first|(cases ht;done)|(try simp only[zg_]at ht))|((first|refine zb_ ht ?_|refine ht ?_ ?_|refine ht.1 ?_ ?_|refine ht ?_)<;>clear ht))
  all_goals first
   | exact True.intro
   | exact ⟨rfl,rfl⟩
 ·cases e
def w9_:IR:=
(sq (kr [0] [oD 2 (.mov cF)])
(sq (.reg [oM 3 0,
oE 4 3,
oB 5 .eql 4 (cI 0),
oM 2 5])
.ret))
def wE_:List RD:=[.tmp 2 true none]
theorem wU_:zm_ Tryz.prog Tryz.f138 w9_ wE_=true:=by kernel_rfl
def qO_:List AV->List Obj->Option (Prop × AV)
 | [.imm ty0 l],[]=>qZ_ ty0 Y2 l fun l=>some ((True,.bool (decide ((l.length:Int)=0))))
 | _,_=>none
theorem Jh_:zd_ Tryz.prog 138 (RoF qO_).sum:=by
 refine zl_ Tryz.func138 wU_ (zc_ _) fun args objs p v e=>?_
 unfold qO_ at e
 split at e
 ·rename_i ty0 l
  obtain rfl:=Zx_ e
  replace e:=Zy_ e
  cases e
  refine ⟨rfl,fun hw ho hp=>?_⟩
  repeat'(intro t ht;first|(cases t<;>first|(cases ht;done)|(try simp only[zg_]at ht))|((first|refine zb_ ht ?_|refine ht ?_ ?_|refine ht.1 ?_ ?_|refine ht ?_)<;>clear ht))
  all_goals first
   | exact True.intro
   | exact ⟨rfl,rfl⟩
 ·cases e
def w8_:IR:=
(sq (kr [0] [oD 2 (.mov cF)])
(sq (.reg [oM 3 0,
oE 4 3,
oB 5 .eql 4 (cI 0),
oM 2 5])
.ret))
def wD_:List RD:=[.tmp 2 true none]
theorem wT_:zm_ Tryz.prog Tryz.f139 w8_ wD_=true:=by kernel_rfl
def qN_:List AV->List Obj->Option (Prop × AV)
 | [.imm ty0 l],[]=>qZ_ ty0 Y3 l fun l=>some ((True,.bool (decide ((l.length:Int)=0))))
 | _,_=>none
theorem Jg_:zd_ Tryz.prog 139 (RoF qN_).sum:=by
 refine zl_ Tryz.func139 wT_ (zc_ _) fun args objs p v e=>?_
 unfold qN_ at e
 split at e
 ·rename_i ty0 l
  obtain rfl:=Zx_ e
  replace e:=Zy_ e
  cases e
  refine ⟨rfl,fun hw ho hp=>?_⟩
  repeat'(intro t ht;first|(cases t<;>first|(cases ht;done)|(try simp only[zg_]at ht))|((first|refine zb_ ht ?_|refine ht ?_ ?_|refine ht.1 ?_ ?_|refine ht ?_)<;>clear ht))
  all_goals first
   | exact True.intro
   | exact ⟨rfl,rfl⟩
 ·cases e
def js_:IR:=
(sq (kr [0] [oD 2 (.mov cF)])
(sq (.reg [oM 3 0,
oE 4 3,
oB 5 .eql 4 (cI 0),
oM 2 5])
.ret))
def jl_:List RD:=[.tmp 2 true none]
theorem jq_:zm_ Tryz.prog Tryz.f140 js_ jl_=true:=by kernel_rfl
def Z5_:List AV->List Obj->Option (Prop × AV)
 | [.imm ty0 l],[]=>qZ_ ty0 Y4 l fun l=>some ((True,.bool (decide ((l.length:Int)=0))))
 | _,_=>none
theorem KW_:zd_ Tryz.prog 140 (RoF Z5_).sum:=by
 refine zl_ Tryz.func140 jq_ (zc_ _) fun args objs p v e=>?_
 unfold Z5_ at e
 split at e
 ·rename_i ty0 l
  obtain rfl:=Zx_ e
  replace e:=Zy_ e
  cases e
  refine ⟨rfl,fun hw ho hp=>?_⟩
  repeat'(intro t ht;first|(cases t<;>first|(cases ht;done)|(try simp only[zg_]at ht))|((first|refine zb_ ht ?_|refine ht ?_ ?_|refine ht.1 ?_ ?_|refine ht ?_)<;>clear ht))
  all_goals first
   | exact True.intro
   | exact ⟨rfl,rfl⟩
 ·cases e
def JS_:IR:=
(sq (kr [0] [oD 2 (.mov cF)])
(sq (.reg [oM 3 0,
oE 4 3,
oB 5 .eql 4 (cI 0),
oM 2 5])
.ret))
def Jv_:List RD:=[.tmp 2 true none]
theorem JD_:zm_ Tryz.prog Tryz.f141 JS_ Jv_=true:=by kernel_rfl
def qs_:List AV->List Obj->Option (Prop × AV)
 | [.imm (.cons (.int .i64) (.cons (.int .u64) (.cons (.int .u64) (.cons (.int .u64) (.cons (.sl (.int .u8)) .nil))))) l],[]=>some ((True,.bool (decide ((l.length:Int)=0))))
 | _,_=>none
theorem jK_:zd_ Tryz.prog 141 (RoF qs_).sum:=by
 refine zl_ Tryz.func141 JD_ (zc_ _) fun args objs p v e=>?_
 unfold qs_ at e
 split at e
 ·rename_i l
  cases e
  refine ⟨rfl,fun hw ho hp=>?_⟩
  repeat'(intro t ht;first|(cases t<;>first|(cases ht;done)|(try simp only[zg_]at ht))|((first|refine zb_ ht ?_|refine ht ?_ ?_|refine ht.1 ?_ ?_|refine ht ?_)<;>clear ht))
  all_goals first
   | exact True.intro
   | exact ⟨rfl,rfl⟩
 ·cases e
def jS_:IR:=
(sq (kr [0] [oD 2 (.mov cF)])
(sq (.reg [oM 3 0,
oE 4 3,
oB 5 .eql 4 (cI 0),
oM 2 5])
.ret))
def jQ_:List RD:=[.tmp 2 true none]
theorem jR_:zm_ Tryz.prog Tryz.f142 jS_ jQ_=true:=by kernel_rfl
def qe_:List AV->List Obj->Option (Prop × AV)
 | [.imm (.cons (.int .u64) (.cons (.int .u64) (.cons (.sl (.cons (.int .i64) (.cons (.int .u64) (.cons (.sl (.int .u8)) .nil)))) .nil))) l],[]=>some ((True,.bool (decide ((l.length:Int)=0))))
 | _,_=>none
theorem ji_:zd_ Tryz.prog 142 (RoF qe_).sum:=by
 refine zl_ Tryz.func142 jR_ (zc_ _) fun args objs p v e=>?_
 unfold qe_ at e
 split at e
 ·rename_i l
  cases e
  refine ⟨rfl,fun hw ho hp=>?_⟩
  repeat'(intro t ht;first|(cases t<;>first|(cases ht;done)|(try simp only[zg_]at ht))|((first|refine zb_ ht ?_|refine ht ?_ ?_|refine ht.1 ?_ ?_|refine ht ?_)<;>clear ht))
  all_goals first
   | exact True.intro
   | exact ⟨rfl,rfl⟩
 ·cases e
def JP_:IR:=
(sq (kr [0] [oD 2 (.mov cF)])
(sq (.reg [oM 3 0,
oE 4 3,
oB 5 .eql 4 (cI 0),
oM 2 5])
.ret))
def Js_:List RD:=[.tmp 2 true none]
theorem JA_:zm_ Tryz.prog Tryz.f143 JP_ Js_=true:=by kernel_rfl
def qp_:List AV->List Obj->Option (Prop × AV)
 | [.imm ty0 l],[]=>qZ_ ty0 Y8 l fun l=>some ((True,.bool (decide ((l.length:Int)=0))))
 | _,_=>none
theorem jH_:zd_ Tryz.prog 143 (RoF qp_).sum:=by
 refine zl_ Tryz.func143 JA_ (zc_ _) fun args objs p v e=>?_
 unfold qp_ at e
 split at e
 ·rename_i ty0 l
  obtain rfl:=Zx_ e
  replace e:=Zy_ e
  cases e
  refine ⟨rfl,fun hw ho hp=>?_⟩
  repeat'(intro t ht;first|(cases t<;>first|(cases ht;done)|(try simp only[zg_]at ht))|((first|refine zb_ ht ?_|refine ht ?_ ?_|refine ht.1 ?_ ?_|refine ht ?_)<;>clear ht))
  all_goals first
   | exact True.intro
   | exact ⟨rfl,rfl⟩
 ·cases e
def JQ_:IR:=
(sq (kr [0] [oD 2 (.mov cF)])
(sq (.reg [oM 3 0,
oE 4 3,
oB 5 .eql 4 (cI 0),
oM 2 5])
.ret))
def Jt_:List RD:=[.tmp 2 true none]
theorem JB_:zm_ Tryz.prog Tryz.f144 JQ_ Jt_=true:=by kernel_rfl
def qq_:List AV->List Obj->Option (Prop × AV)
 | [.imm ty0 l],[]=>qZ_ ty0 YC l fun l=>some ((True,.bool (decide ((l.length:Int)=0))))
 | _,_=>none
theorem jI_:zd_ Tryz.prog 144 (RoF qq_).sum:=by
 refine zl_ Tryz.func144 JB_ (zc_ _) fun args objs p v e=>?_
 unfold qq_ at e
 split at e
 ·rename_i ty0 l
  obtain rfl:=Zx_ e
  replace e:=Zy_ e
  cases e
  refine ⟨rfl,fun hw ho hp=>?_⟩
  repeat'(intro t ht;first|(cases t<;>first|(cases ht;done)|(try simp only[zg_]at ht))|((first|refine zb_ ht ?_|refine ht ?_ ?_|refine ht.1 ?_ ?_|refine ht ?_)<;>clear ht))
  all_goals first
   | exact True.intro
   | exact ⟨rfl,rfl⟩
 ·cases e
def WW_:IR:=
(sq (kr [0] [oD 2 (.mov cF)])
(sq (.reg [oM 3 0,
oE 4 3,
oB 5 .eql 4 (cI 0),
oM 2 5])
.ret))
def WA_:List RD:=[.tmp 2 true none]
theorem WI_:zm_ Tryz.prog Tryz.f145 WW_ WA_=true:=by kernel_rfl
def q7_:List AV->List Obj->Option (Prop × AV)
 | [.imm (.int .u64) l],[]=>some ((True,.bool (decide ((l.length:Int)=0))))
 | _,_=>none
theorem wy_:zd_ Tryz.prog 145 (RoF q7_).sum:=by
 refine zl_ Tryz.func145 WI_ (zc_ _) fun args objs p v e=>?_
 unfold q7_ at e
 split at e
 ·rename_i l
  cases e
  refine ⟨rfl,fun hw ho hp=>?_⟩
  change List Int at l
  repeat'(intro t ht;first|(cases t<;>first|(cases ht;done)|(try simp only[zg_]at ht))|((first|refine zb_ ht ?_|refine ht ?_ ?_|refine ht.1 ?_ ?_|refine ht ?_)<;>clear ht))
  all_goals first
   | exact True.intro
   | exact ⟨rfl,rfl⟩
 ·cases e
def XG_:IR:=
(sq (kr [0] [oD 2 (.mov cF)])
(sq (.reg [oM 3 0,
oE 4 3,
oB 5 .eql 4 (cI 0),
oM 2 5])
.ret))
def Xu_:List RD:=[.tmp 2 true none]
theorem Xz_:zm_ Tryz.prog Tryz.f146 XG_ Xu_=true:=by kernel_rfl
def Q3_:List AV->List Obj->Option (Prop × AV)
 | [.imm (.int .u8) l],[]=>some ((True,.bool (decide ((l.length:Int)=0))))
 | _,_=>none
theorem x2_:zd_ Tryz.prog 146 (RoF Q3_).sum:=by
 refine zl_ Tryz.func146 Xz_ (zc_ _) fun args objs p v e=>?_
 unfold Q3_ at e
 split at e
 ·rename_i l
  cases e
  refine ⟨rfl,fun hw ho hp=>?_⟩
  change List Int at l
  repeat'(intro t ht;first|(cases t<;>first|(cases ht;done)|(try simp only[zg_]at ht))|((first|refine zb_ ht ?_|refine ht ?_ ?_|refine ht.1 ?_ ?_|refine ht ?_)<;>clear ht))
  all_goals first
   | exact True.intro
   | exact ⟨rfl,rfl⟩
 ·cases e
def gO_:IR:=
(sq (kr [0] [oD 1 (.boxv 0),
oD 2 (.mov cF)])
(sq (kr [1] [oA 4 4 1,
oL 5 4,
oC 6 136 [5],
oM 7 6,
oT 7 8 (.fieldAddr 5 1),
oT 7 9 (.load none 8),
oT 7 10 (.call false (.f 137) [9]),
oP 11 7 10 cF,
oM 12 11,
oT 12 13 (.fieldAddr 6 1),
oT 12 14 (.load none 13),
oT 12 15 (.call false (.f 138) [14]),
oP 16 12 15 cF,
oM 17 16,
oT 17 18 (.fieldAddr 7 1),
oT 17 19 (.load none 18),
oT 17 20 (.call false (.f 139) [19]),
oP 21 17 20 cF,
oM 22 21,
oT 22 23 (.fieldAddr 8 1),
oT 22 24 (.load none 23),
oT 22 25 (.call false (.f 140) [24]),
oP 26 22 25 cF,
oM 27 26,
oT 27 28 (.fieldAddr 9 1),
oT 27 29 (.load none 28),
oT 27 30 (.call false (.f 141) [29]),
oP 31 27 30 cF,
oM 32 31,
oT 32 33 (.fieldAddr 10 1),
oT 32 34 (.load none 33),
oT 32 35 (.call false (.f 142) [34]),
oP 36 32 35 cF,
oM 37 36,
oT 37 38 (.fieldAddr 11 1),
oT 37 39 (.load none 38),
oT 37 40 (.call false (.f 143) [39]),
oP 41 37 40 cF,
oM 42 41,
oT 42 43 (.fieldAddr 14 1),
oT 42 44 (.load none 43),
oT 42 45 (.call false (.f 144) [44]),
oP 46 42 45 cF,
oM 3 46])
(sq (kr [1,3] [oM 47 3,
oM 48 47,
oT 48 49 (.fieldAddr 2 1),
oT 48 50 (.load none 49),
oT 48 51 (.call false (.f 145) [50]),
oP 52 48 51 cF,
oM 53 52,
oT 53 54 (.fieldAddr 3 1),
oT 53 55 (.load none 54),
oT 53 56 (.call false (.f 146) [55]),
oP 57 53 56 cF,
oM 58 57,
oT 58 59 (.fieldAddr 12 1),
oT 58 60 (.load none 59),
oT 58 61 (.bin .eql 60 (cI 0)),
oP 62 58 61 cF,
oM 63 62,
oT 63 64 (.fieldAddr 13 1),
oT 63 65 (.load none 64),
oT 63 66 (.bin .eql 65 (cI 0)),
oP 67 63 66 cF,
oM 2 67])
.ret)))
def UR_:List RD:=[.tmp 2 true none]
theorem gk_:zm_ Tryz.prog Tryz.f80 gO_ UR_=true:=by kernel_rfl
def wm_:List AV->List Obj->Option (Prop × AV)
 | [.agg zz0],[]=>yO_ YD zz0 fun ⟨t,xi,n,d,el,x,a,ins,bu,ba,qu,po,ki,fl,pa,_⟩=>some ((True,.bool (Xi_ (t,xi,n,d,el,x,a,ins,bu,ba,qu,po,ki,fl,pa,()))))
 | _,_=>none
theorem VE_:zd_ Tryz.prog 80 (RoF wm_).sum:=by
 refine zl_ Tryz.func80 gk_ (za_ (s:=RoF qr_) jJ_ (za_ (s:=RoF qM_) Jf_ (za_ (s:=RoF qO_) Jh_ (za_ (s:=RoF qN_) Jg_ (za_ (s:=RoF Z5_) KW_ (za_ (s:=RoF qs_) jK_ (za_ (s:=RoF qe_) ji_ (za_ (s:=RoF qp_) jH_ (za_ (s:=RoF qq_) jI_ (za_ (s:=RoF q7_) wy_ (za_ (s:=RoF Q3_) x2_ (zc_ _)))))))))))) fun args objs p v e=>?_
 unfold wm_ at e
 split at e
 ·rename_i zz0
  replace e:=KG_ e
  obtain ⟨⟨t,xi,n,d,el,x,a,ins,bu,ba,qu,po,ki,fl,pa,_⟩,hz,e⟩:=e
  replace hz:zz0=[.int .i64 t,.int .u32 xi,.imm (.int .u64) n,.imm (.int .u8) d,.imm YB el,.imm Y1 x,.imm Y2 a,.imm Y3 ins,.imm Y4 bu,.imm Y5 ba,.imm Y7 qu,.imm Y8 po,.int .i64 ki,.int .i64 fl,.imm YC pa]:=hz
  subst hz
  change Int at t
  change Int at xi
  change Int at ki
  change Int at fl
  cases e
  refine ⟨rfl,fun hw ho hp=>?_⟩
  change List Int at n
  change List Int at d
  clear hw ho
  repeat'(intro t ht;first|(cases t<;>first|(cases ht;done)|(try simp only[zg_]at ht;try(exfalso;first|contradiction|omega)))|((first|refine zb_ ht ?_|refine ht ?_ ?_|refine ht.1 ?_ ?_|refine ht ?_)<;>clear ht))
  all_goals first
   | exact True.intro
   | (refine ⟨congrArg AV.bool ?_,rfl⟩;rw [Bool.eq_iff_iff];unfold Xi_;simp only [Bool.and_eq_true,decide_eq_true_eq,reduceCtorEq,true_iff,false_iff];omega)
 ·cases e
theorem zjb_ {t:Int} {n d:List Int} {x:List OV} {a:List AC} {l:List Int} {e:Int} (h1:¬ t=10) (h2:¬ t=13):pkB t n d x a l e=l/\pkE t n d x a l e=zs_ e 10001/\(decide (t=10) && !Z4_ n d)=false/\(decide (t=13) && !ZZ_ n d)=false:=by
 unfold pkB pkE;rw [if_neg h1,if_neg h2,if_neg h1,if_neg h2,decide_eq_false h1,decide_eq_false h2];exact ⟨rfl,rfl,rfl,rfl⟩
theorem zib_ {n d:List Int} {x:List OV} {a:List AC} {l:List Int} {e:Int} (h:Z4_ n d=true):pkB 10 n d x a l e=l/\pkE 10 n d x a l e=zs_ e 10001/\(decide ((10:Int)=10) && !Z4_ n d)=false/\(decide ((10:Int)=13) && !ZZ_ n d)=false:=by
 unfold pkB pkE;rw [if_pos rfl,if_pos h,if_pos rfl,if_pos h,h];exact ⟨rfl,rfl,rfl,rfl⟩
theorem zjd_ {n d:List Int} {x:List OV} {a:List AC} {l:List Int} {e:Int} (h:Z4_ n d=false):pkB 10 n d x a l e=p10B n x l e/\pkE 10 n d x a l e=p10E n x l e/\(decide ((10:Int)=10) && !Z4_ n d)=true/\(decide ((10:Int)=13) && !ZZ_ n d)=false:=by
 unfold pkB pkE;rw [if_pos rfl,if_neg (by rw [h];decide),if_pos rfl,if_neg (by rw [h];decide),h];exact ⟨rfl,rfl,rfl,rfl⟩
theorem zia_ {n d:List Int} {x:List OV} {a:List AC} {l:List Int} {e:Int} (h:ZZ_ n d=true):pkB 13 n d x a l e=l/\pkE 13 n d x a l e=zs_ e 10001/\(decide ((13:Int)=10) && !Z4_ n d)=false/\(decide ((13:Int)=13) && !ZZ_ n d)=false:=by
 unfold pkB pkE;rw [if_neg (by decide),if_pos rfl,if_pos h,if_neg (by decide),if_pos rfl,if_pos h,h];exact ⟨rfl,rfl,rfl,rfl⟩
theorem zjc_ {n d:List Int} {x:List OV} {a:List AC} {l:List Int} {e:Int} (h:ZZ_ n d=false):pkB 13 n d x a l e=p13B n a l e/\pkE 13 n d x a l e=p13E n a l e/\(decide ((13:Int)=10) && !Z4_ n d)=false/\(decide ((13:Int)=13) && !ZZ_ n d)=true:=by
 unfold pkB pkE;rw [if_neg (by decide),if_pos rfl,if_neg (by rw [h];decide),if_neg (by decide),if_pos rfl,if_neg (by rw [h];decide),h];exact ⟨rfl,rfl,rfl,rfl⟩
theorem zhm_ {n d:List Int} (h:Z4_ n d=true):2 < nz3 n 2\/nz3 n 1 < (d.length:Int):=by
 unfold Z4_ at h;simpa using h
theorem zhn_ {n d:List Int} (h:Z4_ n d=false):¬ 2 < nz3 n 2/\¬ nz3 n 1 < (d.length:Int):=by
 unfold Z4_ at h;rw [Bool.or_eq_false_iff,decide_eq_false_iff_not,decide_eq_false_iff_not] at h;exact h
theorem zhk_ {n d:List Int} (h:ZZ_ n d=true):nz3 n 1=0\/(¬ nz3 n 0=4294967295/\0 < d.length):=by
 unfold ZZ_ at h;simpa using h
theorem zhl_ {n d:List Int} (h:ZZ_ n d=false):¬ nz3 n 1=0/\¬ (¬ nz3 n 0=4294967295/\0 < d.length):=by
 unfold ZZ_ at h;rw [Bool.or_eq_false_iff,decide_eq_false_iff_not,Bool.and_eq_false_iff,decide_eq_false_iff_not,decide_eq_false_iff_not] at h
 exact ⟨h.1,fun c=>h.2.elim (fun k=>k c.1) fun k=>k c.2⟩
theorem zcK_ {room:Int} (hr:room<=1000000):∀ (r:List OV) (l:List Int) (e:Int),l.length<=1000000->(puS room r l e).1.length<=1000000
 | [],l,e,h=>h
 | o :: r,l,e,h=>by unfold puS;exact zcK_ hr r _ _ (kV_ h hr)
theorem zcT_ {x:List OV} {l:List Int} {room e:Int} (h:l.length<=1000000) (hr:room<=1000000):(mpB x l room e).length<=1000000:=by
 unfold mpB;split
 ·refine kV_ ?_ hr
  unfold mpS;exact zcK_ hr _ _ _ (Qd_ h hr)
 ·exact h
def gC_:IR:=
(sq (kr [0,1] [oD 5 (.slice0 (.int .u64)),
oM 6 1,
oD 7 (.nilck 6),
oA 8 2 7,
oL 9 8,
oD 10 (.append (.int .u64) 8 5 9),
oD 11 (.sliceAll (.int .u64) 3 [(0,1,(.c (.int .u64 0))),(1,1,(.c (.int .u64 0))),(2,1,(.c (.int .u64 0)))]),
oD 12 (.append (.int .u64) 8 10 11),
oM 4 12])
(sq (.block 0
(sq (.block 5
(sq (.block 4
(sq (.block 3
(sq (.block 2
(.block 1
(sq (sq (sq (kd [0,1,4] [(oM 14 1,[]),
(oD 15 (.nilck 14),[]),
(oA 16 0 15,[]),
(oL 17 16,[]),
(oB 18 .eql 17 (cI 10),[]),
(oM 19 18,[]),
(oT 19 20 (.mov 4),[]),
(oT 19 21 (.indexSl 1 20 (cI 2)),[]),
(oT 19 22 (.load none 21),[]),
(oT 19 23 (.bin .gtr 22 (.c (.int .u64 2))),[]),
(oT 19 24 (.mov 23),[]),
(oF 24 25 (.mov 1),[]),
(oF 24 26 (.nilck 25),[]),
(oF 24 27 (.fieldAddr 3 26),[]),
(oF 24 28 (.load none 27),[]),
(oF 24 29 (.len 28),[]),
(oF 24 30 (.conv .u64 29),[]),
(oF 24 31 (.mov 4),[0,0,0,0,0,0]),
(oF 24 32 (.indexSl 1 31 (cI 1)),[1,0,0,0,0,0]),
(oF 24 33 (.load none 32),[2,0,0,0,0,0]),
(oF 24 34 (.bin .gtr 30 33),[]),
(oT 19 35 (.pick 24 cT 34),[]),
(oP 36 19 35 cF,[]),
(oM 13 36,[])])
(.cond 13
(.exit 1)
.skip))
(sq (sq (kr [0,1,4] [oM 38 1,
oD 39 (.nilck 38),
oA 40 0 39,
oL 41 40,
oB 42 .eql 41 (cI 13),
oM 43 42,
oT 43 44 (.mov 4),
oT 43 45 (.indexSl 1 44 (cI 1)),
oT 43 46 (.load none 45),
oT 43 47 (.bin .eql 46 (.c (.int .u64 0))),
oT 43 48 (.mov 47),
oF 48 49 (.mov 4),
oF 48 50 (.indexSl 1 49 (cI 0)),
oF 48 51 (.load none 50),
oF 48 52 (.bin .neq 51 (.c (.int .u64 4294967295))),
oF 48 53 (.mov 52),
oT 53 54 (.mov 1),
oT 53 55 (.nilck 54),
oT 53 56 (.fieldAddr 3 55),
oT 53 57 (.load none 56),
oT 53 58 (.len 57),
oT 53 59 (.bin .gtr 58 (cI 0)),
oF 48 60 (.pick 53 59 cF),
oT 43 61 (.pick 48 cT 60),
oP 62 43 61 cF,
oM 37 62])
(.cond 37
(.exit 2)
.skip))
(sq (sq (kr [0,1] [oM 64 1,
oD 65 (.nilck 64),
oA 66 0 65,
oL 67 66,
oB 68 .eql 67 (cI 10),
oM 63 68])
(.cond 63
(.exit 3)
.skip))
(sq (kr [0,1] [oM 70 1,
oD 71 (.nilck 70),
oA 72 0 71,
oL 73 72,
oB 74 .eql 73 (cI 13),
oM 69 74])
(.cond 69
(.exit 4)
.skip)))))
(.exit 5))))
(sq (kr [0,1] [oM 75 0,
oC 76 103 [75,(cI 10001)]])
(.exit 0))))
(sq (sq (kr [0,1] [oM 77 0,
oD 78 (.sliceAll (.int .i64) 5 [(0,1,(cI 4)),(1,1,(cI 2)),(2,1,(cI 1)),(3,1,(cI 1)),(4,1,(cI 8))]),
oM 79 1,
oD 80 (.nilck 79),
oA 81 2 80,
oL 82 81,
oC 83 99 [77,78,82]])
(sq (kr [0,1] [oM 84 0,
oM 85 1,
oD 86 (.nilck 85),
oA 87 5 86,
oL 88 87,
oC 89 101 [84,88]])
(sq (.reg [oM 90 0,
oD 91 (.sliceAll (.int .i64) 1 [(0,1,(cI (-2)))]),
oC 92 99 [90,91,(.c (.imm (.int .u64) []))]])
(kr [0,1] [oM 93 1,
oD 94 (.nilck 93),
oA 95 5 94,
oN (.store 1 95 (.c (.imm Y1 [])))]))))
(.exit 0))))
(sq (sq (kr [0,1] [oM 96 0,
oD 97 (.sliceAll (.int .i64) 2 [(0,1,(cI 4)),(1,1,(cI 4))]),
oM 98 1,
oD 99 (.nilck 98),
oA 100 2 99,
oL 101 100,
oC 102 99 [96,97,101]])
(sq (kr [0,1] [oM 103 0,
oD 104 (.sliceAll (.int .i64) 2 [(0,1,(cI 2)),(1,1,(cI (-6)))]),
oM 105 1,
oD 106 (.nilck 105),
oA 107 6 106,
oL 108 107,
oC 109 133 [108],
oD 110 (.conv .u64 109),
oD 111 (.sliceAll (.int .u64) 1 [(0,1,110)]),
oC 112 99 [103,104,111]])
(sq (kr [0,1] [oM 113 0,
oM 114 1,
oD 115 (.nilck 114),
oA 116 6 115,
oL 117 116,
oC 118 134 [113,117]])
(.reg [oM 119 1,
oD 120 (.nilck 119),
oA 121 6 120,
oN (.store 1 121 (.c (.imm Y2 [])))]))))
(.exit 0))))
(sq (kr [0,1] [oM 122 0,
oC 123 103 [122,(cI 10001)]])
(.exit 0))))
(sq (kr [0,1] [oM 124 0,
oM 125 1,
oD 126 (.nilck 125),
oA 127 3 126,
oL 128 127,
oC 129 117 [124,128]])
(kr [1] [oM 130 1,
oM 131 1,
oD 132 (.nilck 130),
oA 133 2 132,
oN (.store 1 133 (.c (.imm (.int .u64) []))),
oD 134 (.nilck 131),
oA 135 3 134,
oN (.store 1 135 (.c (.imm (.int .u8) [])))]))))
def UF_:List RD:=[]
theorem U8_:zm_ Tryz.prog Tryz.f78 gC_ UF_=true:=by kernel_rfl
def we_:List AV->List Obj->Option (Prop × AV × List Obj)
 | [.ptr 0 0,.ptr 1 0],[.box [.own 2,.int .i64 room,.mapv 3,.int .i64 e],.box zz0,.row false (.int .u8) l,.map sq (.int .i64) (.int .i64) h]=>yO_ YD zz0 fun ⟨tt,xi,n,d,el,x,a,ins,bu,ba,qu,po,ki,fl,pa,_⟩=>some ((room=65527/\l.length<=1000000/\okM x/\okL a/\d.length<=1000000/\n.length<=1000000,.tup [],[.box [.own 4,.int .i64 room,.mapv 3,.int .i64 (QH_ d (pkB tt n d x a l e) 65527 (pkE tt n d x a l e))],.box [.int .i64 tt,.int .u32 xi,.imm (.int .u64) ([]),.imm (.int .u8) ([]),.imm YB el,.imm Y1 ((if (decide (tt=10) && !Z4_ n d)=true then [] else x)),.imm Y2 ((if (decide (tt=13) && !ZZ_ n d)=true then [] else a)),.imm Y3 ins,.imm Y4 bu,.imm Y5 ba,.imm Y7 qu,.imm Y8 po,.int .i64 ki,.int .i64 fl,.imm YC pa],.dead,.map sq (.int .i64) (.int .i64) h,.row false (.int .u8) (QY_ d (pkB tt n d x a l e) 65527 (pkE tt n d x a l e))]))
 | _,_=>none
theorem Vw_:zd_ Tryz.prog 78 (RwF we_).sum:=by
 refine qB_ Tryz.func78 U8_ (za_ (s:=RwF zG_) zP_ (za_ (s:=RwF z6_) Zs_ (za_ (s:=RwF xu_) Uu_ (za_ (s:=RoF je_) Xe_ (za_ (s:=RwF X5_) ha_ (za_ (s:=RwF zE_) zL_ (zc_ _))))))) fun args objs p v o e=>?_
 unfold we_ at e
 split at e
 ·rename_i room e zz0 l sq h
  replace e:=KG_ e
  obtain ⟨⟨tt,xi,n,d,el,x,a,ins,bu,ba,qu,po,ki,fl,pa,_⟩,hz,e⟩:=e
  replace hz:zz0=[.int .i64 tt,.int .u32 xi,.imm (.int .u64) n,.imm (.int .u8) d,.imm YB el,.imm Y1 x,.imm Y2 a,.imm Y3 ins,.imm Y4 bu,.imm Y5 ba,.imm Y7 qu,.imm Y8 po,.int .i64 ki,.int .i64 fl,.imm YC pa]:=hz
  subst hz
  change Int at tt
  change Int at xi
  change Int at ki
  change Int at fl
  cases e
  refine ⟨rfl,fun hw ho hp=>?_⟩
  change List Int at n
  change List Int at d
  change List Int at l
  clear hw ho
  change List AC at a
  change List OV at x
  change List Int at n
  change List Int at d
  obtain ⟨rfl,hl,hx,ha,hd,hn⟩:=hp
  have z0:([]++n++[0,0,0]).getD (Int.toNat 0) 0=nz3 n 0:=rfl
  have z1:([]++n++[0,0,0]).getD (Int.toNat 1) 0=nz3 n 1:=rfl
  have z2:([]++n++[0,0,0]).getD (Int.toNat 2) 0=nz3 n 2:=rfl
  have zl:([]++n++[0,0,0]).length=n.length+3:=by simp
  have zm:([]++n).length=n.length:=rfl
  have hsz:0<=szL a/\szL a<=65528:=by
   cases hr:rgL a with
   | true=>have:=Kt_ hr;omega
   | false=>rw [zh3_ hr];decide
  have hr65:(65527:Int)<=1000000:=by decide
  have g1:=Qd_ (w:=w10) (xs:=n) (e:=e) hl hr65
  have g2:=zcT_ (x:=x) (e:=q2_ w10 n l 65527 e) g1 hr65
  have g3:=Qd_ (w:=[-2]) (xs:=[]) (e:=mpE x (QG_ w10 n l 65527 e) 65527 (q2_ w10 n l 65527 e)) g2 hr65
  have k1:=Qd_ (w:=[4,4]) (xs:=n) (e:=e) hl hr65
  have k2:=Qd_ (w:=[2,-6]) (xs:=[szL a]) (e:=q2_ [4,4] n l 65527 e) k1 hr65
  have k3:=zdi_ (x:=a) (e:=q2_ [2,-6] [szL a] (QG_ [4,4] n l 65527 e) 65527 (q2_ [4,4] n l 65527 e)) k2 hr65
  by_cases h10:tt=10
  ·subst h10
   by_cases hb:Z4_ n d=true
   ·skip
    have hB:=zhm_ hb
    obtain ⟨q1,q2,q3,q4⟩:=zib_ (x:=x) (a:=a) (l:=l) (e:=e) hb
    rw [q1,q2,q3,q4]
    clear g1 g2 g3 k1 k2 k3 q1 q2 q3 q4
    repeat'(intro t ht;first|(cases t<;>first|(cases ht;done)|(try simp only[zg_]at ht;try(exfalso;first|contradiction|omega)))|((first|refine zb_ ht ?_|refine ht ?_ ?_|refine ht.1 ?_ ?_|refine ht ?_)<;>clear ht))
    all_goals first
     | exact True.intro
     | (simp only [z0,z1,z2,zl,zm,List.length_nil,List.length_cons] at*;first | omega | (exfalso;omega) | ((try simp only [zj_,zk_,zi_] at*);omega))
     | exact ⟨by decide,by decide,hl,hd⟩
     | exact ⟨rfl,rfl⟩
   ·replace hb:Z4_ n d=false:=by simpa using hb
    have hB:=zhn_ hb
    obtain ⟨q1,q2,q3,q4⟩:=zjd_ (x:=x) (a:=a) (l:=l) (e:=e) hb
    rw [q1,q2,q3,q4]
    unfold p10B p10E
    clear k1 k2 k3 q1 q2 q3 q4
    repeat'(intro t ht;first|(cases t<;>first|(cases ht;done)|(try simp only[zg_]at ht;try(exfalso;first|contradiction|omega)))|((first|refine zb_ ht ?_|refine ht ?_ ?_|refine ht.1 ?_ ?_|refine ht ?_)<;>clear ht))
    all_goals first
     | exact True.intro
     | exact ⟨by decide,by decide,hl⟩
     | exact ⟨hx,by decide,by decide,g1⟩
     | exact ⟨by decide,by decide,g2⟩
     | exact ⟨by decide,by decide,g3,hd⟩
     | exact ⟨rfl,rfl⟩
     | (simp only [z0,z1,z2,zl,zm,List.length_nil,List.length_cons] at*;first | omega | (exfalso;omega) | ((try simp only [zj_,zk_,zi_] at*);omega))
  ·by_cases h13:tt=13
   ·subst h13
    by_cases hb:ZZ_ n d=true
    ·replace hb:ZZ_ n d=true:=hb
     have hB:=zhk_ hb
     obtain ⟨q1,q2,q3,q4⟩:=zia_ (x:=x) (a:=a) (l:=l) (e:=e) hb
     rw [q1,q2,q3,q4]
     clear g1 g2 g3 k1 k2 k3 q1 q2 q3 q4
     repeat'(intro t ht;first|(cases t<;>first|(cases ht;done)|(try simp only[zg_]at ht;try(exfalso;first|contradiction|omega)))|((first|refine zb_ ht ?_|refine ht ?_ ?_|refine ht.1 ?_ ?_|refine ht ?_)<;>clear ht))
     all_goals first
      | exact True.intro
      | (simp only [z0,z1,z2,zl,zm,List.length_nil,List.length_cons] at*;first | omega | (exfalso;omega) | ((try simp only [zj_,zk_,zi_] at*);omega))
      | exact ⟨by decide,by decide,hl,hd⟩
      | exact ⟨rfl,rfl⟩
    ·replace hb:ZZ_ n d=false:=by simpa using hb
     have hB:=zhl_ hb
     obtain ⟨q1,q2,q3,q4⟩:=zjc_ (x:=x) (a:=a) (l:=l) (e:=e) hb
     rw [q1,q2,q3,q4]
     unfold p13B p13E r13B r13E
     clear g1 g2 g3 q1 q2 q3 q4
     repeat'(intro t ht;first|(cases t<;>first|(cases ht;done)|(try simp only[zg_]at ht;try(exfalso;first|contradiction|omega)))|((first|refine zb_ ht ?_|refine ht ?_ ?_|refine ht.1 ?_ ?_|refine ht ?_)<;>clear ht))
     all_goals first
      | exact True.intro
      | exact ⟨by decide,by decide,hl⟩
      | exact ⟨by decide,by decide,k1⟩
      | exact ⟨ha,by decide,by decide,k2⟩
      | exact ⟨by decide,by decide,k3,hd⟩
      | exact ⟨rfl,rfl⟩
      | (simp only [z0,z1,z2,zl,zm,List.length_nil,List.length_cons] at*;first | omega | (exfalso;omega) | ((try simp only [zj_,zk_,zi_] at*);omega))
   ·obtain ⟨q1,q2,q3,q4⟩:=zjb_ (n:=n) (d:=d) (x:=x) (a:=a) (l:=l) (e:=e) h10 h13
    rw [q1,q2,q3,q4]
    clear g1 g2 g3 k1 k2 k3 q1 q2 q3 q4
    repeat'(intro t ht;first|(cases t<;>first|(cases ht;done)|(try simp only[zg_]at ht;try(exfalso;first|contradiction|omega)))|((first|refine zb_ ht ?_|refine ht ?_ ?_|refine ht.1 ?_ ?_|refine ht ?_)<;>clear ht))
    all_goals first
     | exact True.intro
     | (simp only [z0,z1,z2,zl,zm,List.length_nil,List.length_cons] at*;first | omega | (exfalso;omega) | ((try simp only [zj_,zk_,zi_] at*);omega))
     | exact ⟨by decide,by decide,hl,hd⟩
     | exact ⟨rfl,rfl⟩
 ·cases e
theorem zgU_ {b:List Int} {p e:Int} (hb:∀ x ∈ b,0<=x/\x<=255) (h0:0<=p) (h1:p<=b.length):0<=mtP b p e/\mtP b p e<=b.length:=by
 unfold mtP;split
 ·have h:=Hj_ (b.drop p.toNat) fun x hx=>hb x (List.mem_of_mem_drop hx)
  rw [List.length_drop] at h;omega
 ·exact ⟨h0,h1⟩
theorem v5_ {n:Nat} (h:n<=100000000):IntKind.u64.min<=(n:Int)/\(n:Int)<=IntKind.u64.max:=by simp only [zi_];omega
theorem xR_ (c:Prop) [Decidable c] (p:Nat) (b:List Int):(if c then b.drop p else []).length<=b.length:=by
 split
 ·rw [List.length_drop];omega
 ·exact Nat.zero_le _
theorem zgN_ {b:List Int} (hb:∀ x ∈ b,0<=x/\x<=255):0<=(o1L b).getD 2 0/\(o1L b).getD 2 0<=65535:=by
 have hm:=Hn_ hb
 unfold o1L Qr_
 rw [if_pos rfl,show (0:Int).toNat=0 from rfl,List.drop_zero]
 unfold m13 at hm
 by_cases hk:zx_ w13 b=0
 ·have:=(rowN hb hk).1
  rw [show z4_ w13=3 by decide] at this
  rw [qj_ (by omega)];exact hm
 ·rw [uI_ hk];exact ⟨by decide,by decide⟩
def HE_:IR:=
(sq (kr [0] [oD 2 (.box [.int .i64 0,.int .u32 0,.imm (.int .u64) [],.imm (.int .u8) [],.imm YB [],.imm Y1 [],.imm Y2 [],.imm Y3 [],.imm Y4 [],.imm Y5 [],.imm Y7 [],.imm Y8 [],.int .i64 0,.int .i64 0,.imm YC []])])
(sq (kr [0,2] [oM 5 0,
oD 6 (.sliceAll (.int .i64) 5 [(0,1,(cI 4)),(1,1,(cI 2)),(2,1,(cI 1)),(3,1,(cI 1)),(4,1,(cI 8))]),
oC 7 107 [5,6],
oD 8 (.sliceAll (.int .u64) 5 [(0,1,(.c (.int .u64 0))),(1,1,(.c (.int .u64 0))),(2,1,(.c (.int .u64 0))),(3,1,(.c (.int .u64 0))),(4,1,(.c (.int .u64 0)))]),
oD 9 (.append (.int .u64) 8 7 8),
oM 3 9])
(sq (sq (.reg [oM 10 3,
oD 11 (.indexSl 1 10 (cI 2)),
oL 12 11,
oB 13 .gtr 12 (.c (.int .u64 2))])
(.cond 13
(kr [0,2,3] [oM 14 0,
oC 15 63 [14,(cI 269)]])
.skip))
(sq (kd [0,2,3] [(oM 16 3,[]),
(oD 17 (.slice 1 16 none (some (cI 5)) none),[]),
(oM 18 0,[0,0]),
(oC 19 108 [18],[1,0]),
(oA 20 2 2,[0,0]),
(oS 1 20 17,[]),
(oA 21 5 2,[]),
(oS 1 21 19,[])])
(sq (.reg [oM 22 0,
oD 23 (.sliceAll (.int .i64) 1 [(0,1,(cI (-2)))]),
oC 24 107 [22,23]])
(sq (kr [0,2,3] [oM 25 0,
oD 26 (.mkfn 62 [25] []),
oM 4 26])
(sq (sq (.reg [oM 27 4,
oD 28 (.call false 27 []),
oA 29 3 2,
oS 1 29 28])
(sq (kd [0,2,3] [(oA 30 3 2,[]),
(oL 31 30,[]),
(oE 32 31,[]),
(oD 33 (.conv .u64 32),[]),
(oM 34 3,[0,0,0,0]),
(oD 35 (.indexSl 1 34 (cI 1)),[1,0,0,0]),
(oL 36 35,[2,0,0,0]),
(oB 37 .gtr 33 36,[])])
(.cond 37
(kr [0,2] [oM 38 0,
oC 39 63 [38,(cI 269)]])
.skip)))
(sq (kr [2] [oK 40 15 2,
oS 15 2 40])
.ret))))))))
def hy_:List RD:=[.cell 2 (some 15) true []]
theorem h2_:zm_ Tryz.prog Tryz.f86 HE_ hy_=true:=by kernel_rfl
def xs_:List AV->List Obj->Option (Prop × AV × List Obj)
 | [.ptr 0 0],[.box [.imm (.int .u8) b,.int .i64 p,.int .i64 sh,.int .i64 od,.int .i64 e,.bool true]]=>some ((p=0/\sh=263/\od=269/\e=0/\b.length<=100000000,.agg [.int .i64 0,.int .u32 0,.imm (.int .u64) ((i1L b).take 5),.imm (.int .u8) (iD b),.imm YB [],.imm Y1 (iX b),.imm Y2 [],.imm Y3 [],.imm Y4 [],.imm Y5 [],.imm Y7 [],.imm Y8 [],.int .i64 0,.int .i64 0,.imm YC []],[.box [.imm (.int .u8) b,.int .i64 (i5P b),.int .i64 sh,.int .i64 od,.int .i64 (i5E b),.bool true]]))
 | _,_=>none
theorem Us_:zd_ Tryz.prog 86 (RwF xs_).sum:=by
 refine qB_ Tryz.func86 h2_ (za_ (s:=RwF ZP_) Qu_ (za_ (s:=RwF zt_) zw_ (za_ (s:=RwF wl_) VD_ (za_ (s:=RwF ZA_) Z7_ (zc_ _))))) fun args objs p v o e=>?_
 unfold xs_ at e
 split at e
 ·rename_i b p sh od e
  cases e
  refine ⟨rfl,fun hw ho hp=>?_⟩
  change List Int at b
  have hb:∀ x ∈ (b:List Int),(0:Int)<=x/\x<=255:=fun x hx=>((ho _ (List.mem_cons_self ..)) (.imm (.int .u8) b) (by simp)).1 x hx
  clear hw ho
  obtain ⟨rfl,rfl,rfl,rfl,hl⟩:=hp
  have r1:=HV_ (w:=w10) (b:=b) (p:=0) (e:=0) (by decide) (by omega)
  have r2:=zgU_ (e:=i2E b) hb r1.1 r1.2
  have r3:=HV_ (w:=[-2]) (b:=b) (e:=i3E b) r2.1 r2.2
  have hcl:=zc9_ [4,2,1,1,8] b 0 0
  rw [show ([4,2,1,1,8]:List Int).length=5 from rfl] at hcl
  have hal:(Qr_ [4,2,1,1,8] b 0 0++[0,0,0,0,0]).length=(Qr_ [4,2,1,1,8] b 0 0).length+5:=by rw [List.length_append];rfl
  have hdl:∀ p:Nat,(b.drop p).length<=100000000:=fun p=>by rw [List.length_drop];omega
  unfold i3P at r3
  unfold i3E at r3
  by_cases h2:2 < (i1L b).getD 2 0
  ·have e2:i2E b=zs_ (ZW_ [4,2,1,1,8] b 0 263 269 0) 269:=if_pos h2
   unfold i5P i5E iX iD i4P i4E i3P i3E
   rw [e2] at r2 r3 ⊢
   unfold i1L w10
   repeat'(intro t ht;first|(cases t<;>first|(cases ht;done)|(try simp only[zg_]at ht;try(exfalso;first|contradiction|omega)))|((first|refine zb_ ht ?_|refine ht ?_ ?_|refine ht.1 ?_ ?_|refine ht ?_)<;>clear ht))
   all_goals first
    | exact True.intro
    | exact ⟨r1.1,r1.2,hl,by decide⟩
    | exact ⟨r2.1,r2.2,by omega⟩
    | exact ⟨r3.1,r3.2,by omega,by decide⟩
    | exact ⟨by omega,by omega,by omega⟩
    | (have h3:(Qr_ [4,2,1,1,8] b 0 0++[0,0,0,0,0]).getD 1 0 < _:=ht
       rw [if_pos h3];exact ⟨rfl,rfl⟩)
    | (have h3:¬ (Qr_ [4,2,1,1,8] b 0 0++[0,0,0,0,0]).getD 1 0 < _:=ht
       rw [if_neg h3];exact ⟨rfl,rfl⟩)
    | exact v5_ (Nat.le_trans (xR_ _ _ _) hl)
    | (simp only [hal,List.length_cons,List.length_nil];first | omega | (constructor<;>omega))
  ·have e2:i2E b=ZW_ [4,2,1,1,8] b 0 263 269 0:=if_neg h2
   unfold i5P i5E iX iD i4P i4E i3P i3E
   rw [e2] at r2 r3 ⊢
   unfold i1L w10
   repeat'(intro t ht;first|(cases t<;>first|(cases ht;done)|(try simp only[zg_]at ht;try(exfalso;first|contradiction|omega)))|((first|refine zb_ ht ?_|refine ht ?_ ?_|refine ht.1 ?_ ?_|refine ht ?_)<;>clear ht))
   all_goals first
    | exact True.intro
    | exact ⟨r1.1,r1.2,hl,by decide⟩
    | exact ⟨r2.1,r2.2,by omega⟩
    | exact ⟨r3.1,r3.2,by omega,by decide⟩
    | exact ⟨by omega,by omega,by omega⟩
    | (have h3:(Qr_ [4,2,1,1,8] b 0 0++[0,0,0,0,0]).getD 1 0 < _:=ht
       rw [if_pos h3];exact ⟨rfl,rfl⟩)
    | (have h3:¬ (Qr_ [4,2,1,1,8] b 0 0++[0,0,0,0,0]).getD 1 0 < _:=ht
       rw [if_neg h3];exact ⟨rfl,rfl⟩)
    | exact v5_ (Nat.le_trans (xR_ _ _ _) hl)
    | (simp only [hal,List.length_cons,List.length_nil];first | omega | (constructor<;>omega))
 ·cases e
def gD_:IR:=
(sq (kr [0] [oD 2 (.box [.int .i64 0,.int .u32 0,.imm (.int .u64) [],.imm (.int .u8) [],.imm YB [],.imm Y1 [],.imm Y2 [],.imm Y3 [],.imm Y4 [],.imm Y5 [],.imm Y7 [],.imm Y8 [],.int .i64 0,.int .i64 0,.imm YC []])])
(sq (kr [0,2] [oM 5 0,
oD 6 (.sliceAll (.int .i64) 4 [(0,1,(cI 4)),(1,1,(cI 4)),(2,1,(cI 2)),(3,1,(cI (-6)))]),
oC 7 107 [5,6],
oD 8 (.sliceAll (.int .u64) 3 [(0,1,(.c (.int .u64 0))),(1,1,(.c (.int .u64 0))),(2,1,(.c (.int .u64 0)))]),
oD 9 (.append (.int .u64) 8 7 8),
oM 3 9])
(sq (sq (.reg [oM 10 3,
oD 11 (.indexSl 1 10 (cI 1)),
oL 12 11,
oB 13 .eql 12 (.c (.int .u64 0))])
(.cond 13
(kr [0,2,3] [oM 14 0,
oC 15 63 [14,(cI 268)]])
.skip))
(sq (kd [0,2,3] [(oM 16 3,[]),
(oD 17 (.slice 1 16 none (some (cI 2)) none),[]),
(oM 18 0,[0,0]),
(oM 19 3,[0,0,0]),
(oD 20 (.indexSl 1 19 (cI 2)),[1,0,0]),
(oL 21 20,[2,0,0]),
(oD 22 (.conv .i64 21),[3,0,0]),
(oC 23 121 [18,22],[5,0]),
(oA 24 2 2,[0,0,0,0,0,0]),
(oS 1 24 17,[]),
(oA 25 6 2,[]),
(oS 1 25 23,[])])
(sq (kr [0,2,3] [oM 26 0,
oD 27 (.mkfn 62 [26] []),
oM 4 27])
(sq (sq (.reg [oM 28 4,
oD 29 (.call false 28 []),
oA 30 3 2,
oS 1 30 29])
(sq (kr [0,2,3] [oM 31 3,
oD 32 (.indexSl 1 31 (cI 0)),
oL 33 32,
oB 34 .neq 33 (.c (.int .u64 4294967295)),
oM 35 34,
oT 35 36 (.fieldAddr 3 2),
oT 35 37 (.load none 36),
oT 35 38 (.len 37),
oT 35 39 (.bin .gtr 38 (cI 0)),
oP 40 35 39 cF])
(.cond 40
(kr [0,2] [oM 41 0,
oC 42 63 [41,(cI 269)]])
.skip)))
(sq (kr [2] [oK 43 15 2,
oS 15 2 43])
.ret)))))))
def UG_:List RD:=[.cell 2 (some 15) true []]
theorem U9_:zm_ Tryz.prog Tryz.f87 gD_ UG_=true:=by kernel_rfl
def wf_:List AV->List Obj->Option (Prop × AV × List Obj)
 | [.ptr 0 0],[.box [.imm (.int .u8) b,.int .i64 p,.int .i64 sh,.int .i64 od,.int .i64 e,.bool true]]=>some ((p=0/\sh=263/\od=269/\e=0/\b.length<=100000000,.agg [.int .i64 0,.int .u32 0,.imm (.int .u64) ((o1L b).take 2),.imm (.int .u8) (uD b),.imm YB [],.imm Y1 [],.imm Y2 (uA b),.imm Y3 [],.imm Y4 [],.imm Y5 [],.imm Y7 [],.imm Y8 [],.int .i64 0,.int .i64 0,.imm YC []],[.box [.imm (.int .u8) b,.int .i64 (o4P b),.int .i64 sh,.int .i64 od,.int .i64 (o5E b),.bool true]]))
 | _,_=>none
theorem Vx_:zd_ Tryz.prog 87 (RwF wf_).sum:=by
 refine qB_ Tryz.func87 U9_ (za_ (s:=RwF ZP_) Qu_ (za_ (s:=RwF zt_) zw_ (za_ (s:=RwF xw_) Uw_ (za_ (s:=RwF ZA_) Z7_ (zc_ _))))) fun args objs p v o e=>?_
 unfold wf_ at e
 split at e
 ·rename_i b p sh od e
  cases e
  refine ⟨rfl,fun hw ho hp=>?_⟩
  change List Int at b
  have hb:∀ x ∈ (b:List Int),(0:Int)<=x/\x<=255:=fun x hx=>((ho _ (List.mem_cons_self ..)) (.imm (.int .u8) b) (by simp)).1 x hx
  clear hw ho
  obtain ⟨rfl,rfl,rfl,rfl,hl⟩:=hp
  have r1:=HV_ (w:=w13) (b:=b) (p:=0) (e:=0) (by decide) (by omega)
  have r2:=zeB_ (n:=(o1L b).getD 2 0) (b:=b) (sh:=263) (e:=o2E b) r1.1 r1.2 (by decide)
  have hcl:=zc9_ [4,4,2,-6] b 0 0
  rw [show ([4,4,2,-6]:List Int).length=4 from rfl] at hcl
  have hal:(Qr_ [4,4,2,-6] b 0 0++[0,0,0]).length=(Qr_ [4,4,2,-6] b 0 0).length+3:=by rw [List.length_append];rfl
  have hr2:=zgN_ hb
  by_cases h1:(o1L b).getD 1 0=0
  ·have e2:o2E b=zs_ (ZW_ [4,4,2,-6] b 0 263 269 0) 268:=if_pos h1
   repeat'(intro t ht;first|(cases t<;>first|(cases ht;done)|(try simp only[zg_]at ht;try(exfalso;first|contradiction|omega)))|((first|refine zb_ ht ?_|refine ht ?_ ?_|refine ht.1 ?_ ?_|refine ht ?_)<;>clear ht))
   all_goals (try rw [<- e2] at ht)
   all_goals (try rw [<- e2])
   all_goals first
    | exact True.intro
    | exact ⟨r1.1,r1.2,hl,by decide⟩
    | exact ⟨r2.1,r2.2,by omega,by decide⟩
    | exact ⟨by omega,by omega,by omega⟩
    | (have h0:¬ (o1L b).getD 0 0=4294967295:=by assumption
       have h3:0 < ((uD b).length:Int):=ht
       have q:o5E b=zs_ (o3E b) 269:=if_pos ⟨h0,h3⟩
       rw [q];exact ⟨rfl,rfl⟩)
    | (have h3:¬ 0 < ((uD b).length:Int):=ht
       have q:o5E b=o3E b:=if_neg fun c=>h3 c.2
       rw [q];exact ⟨rfl,rfl⟩)
    | (have h3:(o1L b).getD 0 0=4294967295:=ht
       have q:o5E b=o3E b:=if_neg fun c=>c.1 h3
       rw [q];exact ⟨rfl,rfl⟩)
    | exact v5_ (Nat.le_trans (xR_ _ _ _) hl)
    | (simp only [hal,List.length_cons,List.length_nil];first | omega | (constructor<;>omega))
    | exact ⟨Int.le_trans (by decide) hr2.1,Int.le_trans hr2.2 (by decide)⟩
  ·have e2:o2E b=ZW_ [4,4,2,-6] b 0 263 269 0:=if_neg h1
   repeat'(intro t ht;first|(cases t<;>first|(cases ht;done)|(try simp only[zg_]at ht;try(exfalso;first|contradiction|omega)))|((first|refine zb_ ht ?_|refine ht ?_ ?_|refine ht.1 ?_ ?_|refine ht ?_)<;>clear ht))
   all_goals (try rw [<- e2] at ht)
   all_goals (try rw [<- e2])
   all_goals first
    | exact True.intro
    | exact ⟨r1.1,r1.2,hl,by decide⟩
    | exact ⟨r2.1,r2.2,by omega,by decide⟩
    | exact ⟨by omega,by omega,by omega⟩
    | (have h0:¬ (o1L b).getD 0 0=4294967295:=by assumption
       have h3:0 < ((uD b).length:Int):=ht
       have q:o5E b=zs_ (o3E b) 269:=if_pos ⟨h0,h3⟩
       rw [q];exact ⟨rfl,rfl⟩)
    | (have h3:¬ 0 < ((uD b).length:Int):=ht
       have q:o5E b=o3E b:=if_neg fun c=>h3 c.2
       rw [q];exact ⟨rfl,rfl⟩)
    | (have h3:(o1L b).getD 0 0=4294967295:=ht
       have q:o5E b=o3E b:=if_neg fun c=>c.1 h3
       rw [q];exact ⟨rfl,rfl⟩)
    | exact v5_ (Nat.le_trans (xR_ _ _ _) hl)
    | (simp only [hal,List.length_cons,List.length_nil];first | omega | (constructor<;>omega))
    | exact ⟨Int.le_trans (by decide) hr2.1,Int.le_trans hr2.2 (by decide)⟩
 ·cases e
end Go.Eng
