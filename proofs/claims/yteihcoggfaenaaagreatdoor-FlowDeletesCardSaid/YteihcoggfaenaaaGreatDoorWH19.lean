/- Parts of the proof: X1, X2, M9, MA, P2, P3, P4, P5, P6, XG, I1. No condition. -/
import Derived.Test.YteihcoggfaenaaaGreatDoorProg
import Derived.Test.YteihcoggfaenaaaGreatDoorWH10
import Derived.KernelRfl
import Derived.Test.YteihcoggfaenaaaGreatDoorWH18
import Derived.Test.YteihcoggfaenaaaGreatDoorWH16
import Derived.Lib.BytesEntry
import Derived.Lib.Walk
import Derived.Laws.Externs
import Derived.Lib.Strings
import Derived.Lib.Slices
import Derived.Test.YteihcoggfaenaaaGreatDoorWH17
import Derived.Test.YteihcoggfaenaaaGreatDoorWH11
namespace Go.Eng
open Go.Proofs
set_option linter.unusedVariables false
set_option linter.unusedSimpArgs false
set_option maxRecDepth 100000
set_option maxHeartbeats 1000000
structure WrOk (room:Int) (f:List Int->Int->List Int × Int) (v:Option (List Int)):Prop where
 ok:∀ y,v=some y->∀ l:List Int,(l.length:Int)+y.length<=room->f l 0=(l++y,0)
 full:∀ y,v=some y->∀ l:List Int,(l.length:Int)<=room->¬ (l.length:Int)+y.length<=room->(f l 0).2 ≠ 0
 bad:v=none->∀ l:List Int,(f l 0).2 ≠ 0
 ne:∀ (l:List Int) (e:Int),e ≠ 0->(f l e).2 ≠ 0
def b0_ (a b:Option (List Int)):Option (List Int):=match a,b with | some x,some y=>some (x++y) | _,_=>none
theorem WrOk.seq {room:Int} {f g:List Int->Int->List Int × Int} {v w:Option (List Int)} (hf:WrOk room f v) (hg:WrOk room g w):WrOk room (fun l e=>g (f l e).1 (f l e).2) (b0_ v w):=by
 cases v with
 | none=>exact ⟨fun y h=>(by cases h),fun y h=>(by cases h),fun _ l=>hg.ne _ _ (hf.bad rfl l),fun l e h=>hg.ne _ _ (hf.ne l e h)⟩
 | some x=>
   cases w with
   | none=>
     refine ⟨fun y h=>(by cases h),fun y h=>(by cases h),fun _ l=>?_,fun l e h=>hg.ne _ _ (hf.ne l e h)⟩
     show (g (f l 0).1 (f l 0).2).2 ≠ 0
     by_cases h0:(f l 0).2=0
     ·rw [h0];exact hg.bad rfl _
     ·exact hg.ne _ _ h0
   | some z=>
     refine ⟨fun y h l hl=>?_,fun y h l h0 hl=>?_,fun h=>(by cases h),fun l e h=>hg.ne _ _ (hf.ne l e h)⟩
     ·cases h
      rw [List.length_append] at hl
      show g (f l 0).1 (f l 0).2=_
      rw [hf.ok x rfl l (by omega)]
      show g (l++x) 0=_
      rw [hg.ok z rfl _ (by rw [List.length_append];omega),List.append_assoc]
     ·cases h
      rw [List.length_append] at hl
      show (g (f l 0).1 (f l 0).2).2 ≠ 0
      by_cases c:(l.length:Int)+x.length<=room
      ·rw [hf.ok x rfl l c]
       exact hg.full z rfl _ (by rw [List.length_append];omega) (by rw [List.length_append];omega)
      ·exact hg.ne _ _ (hf.full x rfl l h0 c)
theorem WrOk.fin {room:Int} {f:List Int->Int->List Int × Int} {v:Option (List Int)} (h:WrOk room f v) (h0:0<=room):(∀ y,v=some y->(y.length:Int)<=room->f [] 0=(y,0))/\((∀ y,v=some y->room < (y.length:Int))->(f [] 0).2 ≠ 0):=by
 refine ⟨fun y e hl=>h.ok y e [] (by simpa using hl),fun hy=>?_⟩
 cases v with
 | none=>exact h.bad rfl []
 | some y=>have:=hy y rfl;exact h.full y rfl [] (by simpa using h0) (by simp;omega)
theorem up_ (room:Int) (x:List Int):WrOk room (fun l e=>(kB_ x l room e,QS_ x l room e)) (some x):=
 ⟨fun y h l hl=>by cases h;obtain ⟨a,b⟩:=q7_ (x:=x) (l:=l) (room:=room) (by omega);rw [a,b],fun y h l _ hl=>by cases h;exact xD_ (by omega),fun h=>(by cases h),fun l e h=>Ky_ h⟩
def uL_ (w xs:List Int):Option (List Int):=if ZX_ w xs=true then some (Zn_ w xs) else none
theorem zbH_ (room:Int) (w xs:List Int):WrOk room (fun l e=>(qj_ w xs l room e,qG_ w xs l room e)) (uL_ w xs):=by
 unfold uL_
 by_cases hk:ZX_ w xs=true
 ·have h:=up_ room (Zn_ w xs)
  rw [if_pos hk]
  unfold qj_ qG_
  simp only [if_pos hk]
  exact h
 ·rw [if_neg hk]
  unfold qj_ qG_
  simp only [if_neg hk]
  exact ⟨fun y h=>(by cases h),fun y h=>(by cases h),fun _ l=>by show (10001:Int) ≠ 0;decide,fun l e h=>QI_ h⟩
theorem HB_ {room:Int}:∀ (r:List OV) (l:List Int) (e:Int),e ≠ 0->(puS room r l e).2 ≠ 0
 | [],l,e,h=>h
 | o :: r,l,e,h=>by unfold puS;exact HB_ r _ _ (Ky_ (QI_ h))
theorem BI_ {room:Int}:∀ (r:List OV) (l:List Int),r.all rgO=true->(l.length:Int)<=room->¬ ((l.length:Int)+(boO r).length<=room)->(puS room r l 0).2 ≠ 0
 | [],l,_,h0,h1=>by exfalso;apply h1;show (l.length:Int)+0<=room;omega
 | o :: r,l,h,h0,h1=>by
   rw [List.all_cons,Bool.and_eq_true] at h
   obtain ⟨_,h2,h3,_⟩:=Hd_ h.1
   rw [show boO (o :: r)=ecO o++boO r from List.flatMap_cons,List.length_append] at h1
   have f0:zt_ 0 0=0:=rfl
   unfold puS
   rw [h2,h3,f0]
   by_cases hf:((ecO o).length:Int)<=room - l.length
   ·obtain ⟨b1,b2⟩:=q7_ hf
    rw [b1,b2]
    exact BI_ r _ h.2 (by rw [List.length_append];omega) (by rw [List.length_append];omega)
   ·exact HB_ _ _ _ (xD_ hf)
def H6_ (x:List OV):Option (List Int):=if rgM x=true then some (meB x) else none
theorem yt_ (room:Int) (x:List OV):WrOk room (fun l e=>(mpB x l room e,mpE x l room e)) (H6_ x):=by
 unfold H6_
 cases hr:rgM x with
 | false=>
   rw [if_neg (by decide)]
   refine ⟨fun y h=>(by cases h),fun y h=>(by cases h),fun _ l=>?_,fun l e h=>?_⟩
   ·show mpE x l room 0 ≠ 0;rw [(zge_ hr).2];decide
   ·show mpE x l room e ≠ 0;rw [(zge_ hr).2];exact QI_ h
 | true=>
   rw [if_pos rfl]
   obtain ⟨p1,_,_,p4,p5⟩:=Ja_ hr
   have hlen:=zdZ_ x (by omega)
   refine ⟨fun y h l hl=>?_,fun y h l h0 hl=>?_,fun h=>(by cases h),fun l e h=>?_⟩
   ·cases h
    obtain ⟨a,b⟩:=zkQ_ (l:=l) (room:=room) hr (by omega)
    show (mpB x l room 0,mpE x l room 0)=_;rw [a,b]
   ·cases h
    show mpE x l room 0 ≠ 0
    have hN:meN x=4+((boO x).length:Int):=rfl
    have hL:qc_ x=meN x:=(Ja_ hr).2.2.1
    unfold mpE mpS
    rw [if_pos hr]
    by_cases c1:(4:Int)<=room - l.length
    ·have hk:ZX_ [2,2] [1,qc_ x]=true:=by
      rw [hL];exact (hh_ (a:=1) (n:=meN x) (by omega) (by omega)).2
     have hs:=KO_ hk
     rw [show zG_ [2,2]=4 by decide] at hs
     have r1:qj_ [2,2] [1,qc_ x] l room 0=l++Zn_ [2,2] [1,qc_ x]/\qG_ [2,2] [1,qc_ x] l room 0=0:=by
      unfold qj_ qG_;rw [if_pos hk,if_pos hk];exact q7_ (by omega)
     rw [r1.1,r1.2]
     by_cases c2:((l++Zn_ [2,2] [1,qc_ x]).length:Int)+(boO x).length<=room
     ·rw [zcc_ x _ p1 c2]
      refine xD_ ?_
      unfold mpZ
      rw [List.length_replicate,hL,List.length_append,List.length_append]
      rw [List.length_append] at c2
      rw [hL] at hs
      have:=vO_ (n:=meN x) (by omega)
      omega
     ·exact Ky_ (BI_ x _ p1 (by rw [List.length_append];omega) c2)
    ·have hk:ZX_ [2,2] [1,qc_ x]=true:=by
      rw [hL];exact (hh_ (a:=1) (n:=meN x) (by omega) (by omega)).2
     have hs:=KO_ hk
     rw [show zG_ [2,2]=4 by decide] at hs
     refine Ky_ (HB_ _ _ _ ?_)
     unfold qG_;rw [if_pos hk];exact xD_ (by omega)
   ·show mpE x l room e ≠ 0
    unfold mpE mpS;rw [if_pos hr]
    exact Ky_ (HB_ _ _ _ (zhJ_ h))
def actO (x:List AC):Option (List Int):=if rgL x=true then some (boA x) else none
theorem zht_ (room:Int) (x:List AC):WrOk room (fun l e=>(apB x l room e,apE x l room e)) (actO x):=by
 unfold actO
 cases hr:rgL x with
 | false=>
   rw [if_neg (by decide)]
   refine ⟨fun y h=>(by cases h),fun y h=>(by cases h),fun _ l=>?_,fun l e h=>?_⟩
   ·show apE x l room 0 ≠ 0;rw [(zhc_ hr).2];decide
   ·show apE x l room e ≠ 0;rw [(zhc_ hr).2];exact QI_ h
 | true=>
   rw [if_pos rfl]
   refine ⟨fun y h l hl=>?_,fun y h l h0 hl=>?_,fun h=>(by cases h),fun l e h=>zkj_ h⟩
   ·cases h
    obtain ⟨a,b⟩:=zld_ (l:=l) hr hl
    show (apB x l room 0,apE x l room 0)=_;rw [a,b]
   ·cases h
    show apE x l room 0 ≠ 0
    unfold apE;rw [if_pos hr]
    exact bY_ _ _ (Jb_ hr).1 h0 hl
theorem x0_ {w n y:List Int} (h:uL_ w n=some y):ZX_ w n=true/\Zn_ w n=y:=by
 unfold uL_ at h;split at h
 ·cases h;exact ⟨by assumption,rfl⟩
 ·cases h
theorem kp_ {a b:Option (List Int)} {y:List Int} (h:b0_ a b=some y):∃ p q,a=some p/\b=some q/\y=p++q:=by
 cases a with
 | none=>cases h
 | some p=>cases b with
   | none=>cases h
   | some q=>cases h;exact ⟨p,q,rfl,rfl,rfl⟩
theorem Jv_ {a b:List Int}:b0_ (some a) (some b)=some (a++b):=rfl
theorem zfm_ {a:List AC} {y:List Int} (h:actO a=some y):rgL a=true/\boA a=y:=by
 unfold actO at h;split at h
 ·cases h;exact ⟨by assumption,rfl⟩
 ·cases h
theorem ziB_ {x:List AC} {l:List Int} {room e:Int} (h:l.length<=1000000) (hr:room<=1000000):(apB x l room e).length<=1000000:=by
 unfold apB;split
 ·exact zdw_ hr _ _ _ h
 ·exact h
def Q9_ (m:VMs):Bool:=decide (m.2.2.1.length=0) && decide (m.2.2.2.1.length=0) && decide (m.2.2.2.2.1.length=0) && decide (m.2.2.2.2.2.1.length=0) && decide (m.2.2.2.2.2.2.1.length=0) && decide (m.2.2.2.2.2.2.2.1.length=0) && decide (m.2.2.2.2.2.2.2.2.1.length=0) && decide (m.2.2.2.2.2.2.2.2.2.1.length=0) && decide (m.2.2.2.2.2.2.2.2.2.2.1.length=0) && decide (m.2.2.2.2.2.2.2.2.2.2.2.1.length=0) && decide (m.2.2.2.2.2.2.2.2.2.2.2.2.1=0) && decide (m.2.2.2.2.2.2.2.2.2.2.2.2.2.1=0) && decide (m.2.2.2.2.2.2.2.2.2.2.2.2.2.2.1.length=0)
theorem ziy_ {m:VMs}:Q9_ m=true ↔ m=(m.1,m.2.1,[],[],[],[],[],[],[],[],[],[],0,0,[],()):=by
 obtain ⟨a0,a1,a2,a3,a4,a5,a6,a7,a8,a9,a10,a11,a12,a13,a14,_⟩:=m
 unfold Q9_
 simp only [Bool.and_eq_true,decide_eq_true_eq,List.length_eq_zero_iff,Prod.mk.injEq,true_and,and_true,and_assoc]
abbrev mT (m:VMs):=m.1
abbrev mN (m:VMs):=m.2.2.1
abbrev mX (m:VMs):=m.2.2.2.2.2.1
theorem zbo_ (pre:List OV) (o:OV) (r:List OV):ckS pre (o :: r)=if pre.any (fun x=>alO x o)=true then (((pre.length:Nat):Int),1035) else if VL_ pre o.1 o.2.1=true then ckS (pre++[o]) r else (((pre.length:Nat):Int),1034):=rfl
theorem zis_ (pre:List OV):ckS pre []=(0,0):=rfl
theorem zej_:∀ (r pre s:List OV),ckS pre (r++s)=if (ckS pre r).2=0 then ckS (pre++r) s else ckS pre r
 | [],pre,s=>by
   rw [List.nil_append,List.append_nil,zis_,if_pos rfl]
 | o :: r,pre,s=>by
   rw [List.cons_append,zbo_,zbo_ pre o r]
   by_cases h1:pre.any (fun x=>alO x o)=true
   ·simp only [if_pos h1];rw [if_neg (by decide)]
   ·simp only [if_neg h1]
    by_cases h2:VL_ pre o.1 o.2.1=true
    ·simp only [if_pos h2]
     rw [zej_ r (pre++[o]) s,List.append_assoc,List.singleton_append]
    ·simp only [if_neg h2];rw [if_neg (by decide)]
theorem zir_ {r s:List OV} (h:(ckS [] (r++s)).2=0):(ckS [] r).2=0:=by
 rw [zej_] at h
 by_cases h1:(ckS [] r).2=0
 ·exact h1
 ·rw [if_neg h1] at h;exact h
theorem zh4_ {acc:List OV} {y:List Int} (h:¬ y.length=0) (h1:zQ_ y=0) (h2:(ckS [] (acc++[vO y])).2=0) (hn:1<=Zg_ y):mlG acc y=mlG (acc++[vO y]) (y.drop (Zg_ y).toNat):=by
 rw [mlG,if_neg h,if_neg (not_not_intro h1),if_neg (not_not_intro h2),show max 1 (Zg_ y).toNat=(Zg_ y).toNat by omega]
theorem zgQ_ (o:OV):4<=(ecO o).length:=by
 have:=zk_ (n:=o.1) (w:=2) (by decide)
 unfold ecO Qh_;simp only [List.length_append,List.length_cons];omega
theorem gm_ (o:OV) (r:List OV):boO (o :: r)=ecO o++boO r:=List.flatMap_cons
theorem zdV_:∀ (r acc:List OV),r.all rgO=true->(∀ o ∈ r,0<=o.2.2.2.1)->(ckS [] (acc++r)).2=0->mlG acc (boO r)=(acc++r,0)
 | [],acc,_,_,_=>by rw [y1_ (by rfl),List.append_nil]
 | o :: r,acc,h,hx,hc=>by
   rw [List.all_cons,Bool.and_eq_true] at h
   have hr:zL_ o.1 o.2.1 o.2.2.1 o.2.2.2.1 o.2.2.2.2.1 o.2.2.2.2.2.1=true:=h.1
   obtain ⟨D1,D2,D3,D4,D5,D6,D7,D8⟩:=zef_ (b:=boO r) hr (hx o (List.mem_cons_self ..))
   have hge:=zgQ_ o
   have hv:vO (ecO o++boO r)=o:=by
    unfold vO ecO;rw [D2,D3,D4,D5,D6,D7]
   have hE:zQ_ (ecO o++boO r)=0:=D1
   have hN:Zg_ (ecO o++boO r)=(ecO o).length:=D8
   have ha:acc++o :: r=(acc++[o])++r:=by rw [List.append_assoc];rfl
   have hc1:(ckS [] (acc++[o])).2=0:=by rw [ha] at hc;exact zir_ hc
   rw [gm_,zh4_ (by rw [List.length_append];omega) hE (by rw [hv];exact hc1) (by rw [hN];omega),hv,hN,Int.toNat_natCast,List.drop_left]
   rw [zdV_ r (acc++[o]) h.2 (fun o ho=>hx o (List.mem_cons_of_mem _ ho)) (by rw [<- ha];exact hc),<- ha]
theorem zdW_:∀ (n:Nat) (y:List Int) (acc l:List OV),y.length<=n->(∀ x ∈ y,0<=x/\x<=255)->mlG acc y=(l,0)->∃ r,l=acc++r/\r.all rgO=true/\boO r=y/\((ckS [] acc).2=0->(ckS [] l).2=0)
 | 0,y,acc,l,hn,hb,h=>by
   rw [y1_ (by omega)] at h
   cases h
   refine ⟨[],by rw [List.append_nil],rfl,?_,fun h=>h⟩
   rw [List.eq_nil_of_length_eq_zero (show y.length=0 by omega)];rfl
 | n+1,y,acc,l,hn,hb,h=>by
   by_cases h0:y.length=0
   ·rw [y1_ h0] at h
    cases h
    refine ⟨[],by rw [List.append_nil],rfl,?_,fun h=>h⟩
    rw [List.eq_nil_of_length_eq_zero h0];rfl
   ·by_cases h1:zQ_ y=0
    ·by_cases h2:(ckS [] (acc++[vO y])).2=0
     ·obtain ⟨g1,g2⟩:=ui_ hb h1
      rw [zcA_ hb h0 h1 h2] at h
      obtain ⟨r,e1,e2,e3,e4⟩:=zdW_ n (y.drop (Zg_ y).toNat) (acc++[vO y]) l (by rw [List.length_drop];omega) (fun x hx=>hb x (List.mem_of_mem_drop hx)) h
      obtain ⟨f1,f2,_,_⟩:=uf_ hb h1
      refine ⟨vO y :: r,?_,?_,?_,fun _=>e4 h2⟩
      ·rw [e1,List.append_assoc];rfl
      ·rw [List.all_cons,e2,Bool.and_true];exact f1
      ·rw [gm_,e3]
       have:ecO (vO y)=y.take (Zg_ y).toNat:=f2
       rw [this,List.take_append_drop]
     ·rw [zcB_ h0 h1 h2] at h
      exact absurd (congrArg Prod.snd h) h2
    ·rw [H3_ h0 h1] at h
     exact absurd (congrArg Prod.snd h) h1
theorem zg6_:∀ (l:List OV),4*l.length<=(boO l).length
 | []=>Nat.zero_le _
 | o :: r=>by
   have:=zg6_ r
   have:=zgQ_ o
   rw [gm_,List.length_append,List.length_cons];omega
theorem ziQ_ {l:List OV} (h:rgM l=true):okM l:=by
 obtain ⟨h1,h2,h3,h4,h5⟩:=Ja_ h
 refine ⟨⟨fun o ho=>?_⟩,?_⟩
 ·have:=zfM_ (List.all_eq_true.1 h1 o ho)
  exact ⟨by omega,by omega⟩
 ·have:=zg6_ l
  have:meN l=4+(boO l).length:=rfl
  omega
theorem zh5_ {N:Int} {body rest:List Int} (hN:N=4+body.length) (hN2:N<=65535):
 tT (ze_ 1 2++ze_ N 2++body++rest)=1/\tN (ze_ 1 2++ze_ N 2++body++rest)=N/\bd (ze_ 1 2++ze_ N 2++body++rest)=body/\(ze_ 1 2++ze_ N 2++body++rest).drop N.toNat=rest/\(ze_ 1 2++ze_ N 2++body++rest).length=4+body.length+rest.length:=by
 have l2:(ze_ 1 2).length=2:=by have:=zk_ (n:=1) (w:=2) (by decide);omega
 have l3:(ze_ N 2).length=2:=by have:=zk_ (n:=N) (w:=2) (by decide);omega
 have e1:tT (ze_ 1 2++ze_ N 2++body++rest)=1:=by
  unfold tT;rw [List.append_assoc,List.append_assoc,List.take_left' l2];exact num2 (by decide)
 have e2:tN (ze_ 1 2++ze_ N 2++body++rest)=N:=by
  unfold tN;rw [List.append_assoc,List.append_assoc,List.drop_left' l2,List.take_left' l3];exact num2 (by omega)
 have hl:(ze_ 1 2++ze_ N 2++body++rest).length=4+body.length+rest.length:=by simp only [List.length_append];omega
 refine ⟨e1,e2,?_,?_,hl⟩
 ·unfold bd
  rw [e2,List.take_left' (by simp only [List.length_append];omega)]
  exact List.drop_left' (by rw [List.length_append];omega)
 ·exact List.drop_left' (by simp only [List.length_append];omega)
theorem zjL_ {l:List OV} {b:List Int} (h:rgM l=true) (hx:∀ o ∈ l,0<=o.2.2.2.1):mdE (meB l++b)=0/\mdL (meB l++b)=l/\mdN (meB l++b)=(meB l).length:=by
 obtain ⟨h1,h2,h3,h4,h5⟩:=Ja_ h
 have hz:=vO_ (n:=meN l) (by omega)
 have hml:=zdZ_ l (by omega)
 have e:meB l++b=ze_ 1 2++ze_ (meN l) 2++boO l++(List.replicate (pz (meN l)).toNat 0++b):=by unfold meB;simp only [List.append_assoc]
 obtain ⟨t1,t2,t3,t4,t5⟩:=zh5_ (N:=meN l) (body:=boO l) (rest:=List.replicate (pz (meN l)).toNat 0++b) rfl (by omega)
 rw [<- e] at t1 t2 t3 t4 t5
 have hN:meN l=4+(boO l).length:=rfl
 simp only [List.length_append,List.length_replicate] at t5
 have hm:=zdV_ l [] h1 hx h2
 rw [List.nil_append] at hm
 have hZ:mdZ (meB l++b)=true:=by
  unfold mdZ;rw [t2,t4,List.take_left' List.length_replicate];exact Yv_ _
 have hE:mdE (meB l++b)=0:=by
  rw [ziV_ (by rw [List.length_append];omega) t1 (by rw [t2,List.length_append];omega),t3,hm,hZ];rfl
 refine ⟨hE,?_,?_⟩
 ·unfold mdL;rw [if_pos hE,t3,hm]
 ·unfold mdN;rw [if_pos hE,t2];omega
theorem zjM_ {b:List Int} (hb:∀ x ∈ b,0<=x/\x<=255) (h0:mdE b=0):rgM (mdL b)=true/\meB (mdL b)=b.take (mdN b).toNat/\0<=mdN b/\mdN b<=b.length:=by
 have hn2:0<=tN b/\tN b<=65535:=kO_ (a:=2) hb
 have hz:=vO_ hn2.1
 have h4:¬ b.length < 4:=fun h=>by unfold mdE at h0;rw [if_pos h] at h0;cases h0
 have ht:tT b=1:=Classical.byContradiction fun h=>by unfold mdE at h0;rw [if_neg h4,if_pos h] at h0;cases h0
 have hr:¬ (tN b < 4\/65528 < tN b\/b.length < tN b+pz (tN b)):=fun h=>by unfold mdE at h0;rw [if_neg h4,if_neg (not_not_intro ht),if_pos h] at h0;cases h0
 have hm:=ziV_ h4 ht hr
 have hg:(mlG [] (bd b)).2=0:=Classical.byContradiction fun h=>by rw [if_pos h] at hm;exact h (hm.symm.trans h0)
 rw [if_neg (not_not_intro hg)] at hm
 have hZ:mdZ b=true:=Classical.byContradiction fun h=>by rw [if_neg h] at hm;rw [hm] at h0;cases h0
 have hL:mdL b=(mlG [] (bd b)).1:=if_pos h0
 have hN:mdN b=tN b+pz (tN b):=if_pos h0
 have hbb:∀ x ∈ bd b,0<=x/\x<=255:=fun x hx=>hb x (List.mem_of_mem_take (List.mem_of_mem_drop hx))
 obtain ⟨r,e1,e2,e3,e4⟩:=zdW_ (bd b).length (bd b) [] (mlG [] (bd b)).1 (Nat.le_refl _) hbb (Prod.ext rfl hg)
 rw [List.nil_append] at e1
 rw [<- hL] at e1 e4
 rw [<- e1] at e2 e3
 have hck:=e4 rfl
 have hbl:(bd b).length=(tN b).toNat - 4:=by unfold bd;rw [List.length_drop,List.length_take];omega
 have hme:meN (mdL b)=tN b:=by unfold meN;rw [e3];omega
 have hlo:qc_ (mdL b)=tN b:=by rw [<- hme];unfold qc_ meN;rw [H8_ _ e2]
 refine ⟨?_,?_,by omega,by omega⟩
 ·unfold rgM;rw [e2,hck,hlo,decide_eq_true (show tN b<=65528 by omega)];rfl
 ·have b1:ze_ (tT b) 2=b.take 2:=qh_ 2 (b.take 2) (by decide) (by rw [List.length_take];omega) fun x hx=>hb x (List.mem_of_mem_take hx)
  have b2:ze_ (tN b) 2=(b.drop 2).take 2:=qh_ 2 ((b.drop 2).take 2) (by decide) (by rw [List.length_take,List.length_drop];omega) fun x hx=>hb x (List.mem_of_mem_drop (List.mem_of_mem_take hx))
  rw [ht] at b1
  have hsplit:b.take (tN b).toNat=b.take 2++(b.drop 2).take 2++bd b:=by
   have e1:b.take 4=b.take 2++(b.drop 2).take 2:=by rw [<- List.take_add]
   rw [<- e1]
   unfold bd
   have e2:b.take 4=(b.take (tN b).toNat).take 4:=by rw [List.take_take,Nat.min_eq_left (by omega)]
   rw [e2,List.take_append_drop]
  have hrep:List.replicate (pz (tN b)).toNat 0=(b.drop (tN b).toNat).take (pz (tN b)).toNat:=by
   have:=um_ hZ
   rw [this,List.length_take,List.length_drop,Nat.min_eq_left (by omega)]
  unfold meB
  rw [hme,e3,b1,b2,<- hsplit,hrep,hN,<- List.take_add]
  congr 1;omega
def n8 (q:P8):List Int:=[q.1,q.2.1,q.2.2.1,q.2.2.2.1,q.2.2.2.2.1,q.2.2.2.2.2.1,q.2.2.2.2.2.2.1,q.2.2.2.2.2.2.2.1]
def be_:IR:=
(sq (kr [0,1] [oD 4 (.nilrow (.int .u64)),
oD 5 (.mov (cI 0))])
(sq (sq (.reg [oM 10 0,
oC 11 113 [10],
oD 12 (.un .not 11)])
(.cond 12
(sq (.reg [oD 4 (.nilrow (.int .u64)),
oD 5 (.mov (cI 2))])
.ret)
.skip))
(sq (kr [0,1] [oD 6 (.nilrow (.int .u64))])
(sq (sq (.reg [oM 13 0,
oE 14 13,
oD 15 (.mov (cI 0))])
(.block 0
(.loop
(sq (kr [1,6,13,14,15] [oB 16 .lss 15 14])
(sq (.cond 16
.skip
(.exit 0))
(sq (.block 1
(sq (.reg [oI 17 1 13 15,
oL 18 17,
oM 8 18])
(sq (kr [1,6,8,13,14,15] [oM 19 8,
oM 20 8,
oD 21 (.un .neg 20),
oD 22 (.minmax true 19 21),
oM 9 22])
(sq (.block 2
(sq (kr [1,6,8,9,13,14,15] [oM 24 1,
oE 25 24,
oM 26 9,
oB 27 .lss 25 26,
oM 23 27])
(.cond 23
(sq (.reg [oD 4 (.nilrow (.int .u64)),
oD 5 (.mov (cI 1))])
.ret)
(sq (.reg [oM 29 8,
oB 30 .gtr 29 (cI 0),
oM 28 30])
(.cond 28
(kr [1,6,9,13,14,15] [oM 31 6,
oM 32 1,
oM 33 9,
oD 34 (.slice 1 32 none (some 33) none),
oC 35 129 [34],
oD 36 (.sliceAll (.int .u64) 1 [(0,1,35)]),
oD 37 (.append (.int .u64) 8 31 36),
oM 6 37])
(sq (kr [1,6,9,13,14,15] [oM 39 1,
oM 40 9,
oD 41 (.slice 1 39 none (some 40) none),
oC 42 130 [41],
oD 43 (.un .not 42),
oM 38 43])
(.cond 38
(sq (kr [] [oD 4 (.nilrow (.int .u64)),
oD 5 (.mov (cI 2))])
.ret)
.skip)))))))
(kr [1,6,9,13,14,15] [oM 44 1,
oM 45 9,
oD 46 (.slice 1 44 (some 45) none none),
oM 1 46])))))
(kr [1,6,13,14,15] [oB 47 .add 15 (cI 1),
oM 15 47])))))))
(sq (kr [6] [oM 48 6,
oM 4 48,
oD 5 (.mov (cI 0))])
.ret)))))
def Hh_:List RD:=[.tmp 4 false none,.tmp 5 false none]
theorem HG_:zj_ Tryz.prog Tryz.f93 be_ Hh_=true:=by kernel_rfl
def xK_:List AV->List Obj->Option (Prop × AV × List Obj)
 | [.imm (.int .i64) w,.imm (.int .u8) b],[]=>some ((True,.tup [.own 0,.int .i64 (zZ_ w b)],[.row false (.int .u64) (zP_ w b)]))
 | _,_=>none
theorem gB_:zd_ Tryz.prog 93 (RwF xK_).sum:=by
 refine qg_ Tryz.func93 HG_ (za_ (s:=RoF qS_) Qm_ (za_ (s:=RoF Kz_) WJ_ (za_ (s:=RoF wr_) yw_ (zc_ _)))) fun args objs p v o e=>?_
 unfold xK_ at e
 split at e
 ·rename_i w b
  cases e
  refine ⟨rfl,fun hw ho hp=>?_⟩
  change List Int at w
  change List Int at b
  have hb:b.length<=maxLen:=(hw (.imm (.int .u8) b) (by simp)).2
  unfold maxLen at hb
  repeat'(intro t ht;first|(cases t<;>first|(cases ht;done)|(try simp only[zg_]at ht))|((first|refine zb_ ht ?_|refine ht ?_ ?_|refine ht.1 ?_ ?_|refine ht ?_)<;>clear ht))
  all_goals first
   | exact True.intro
   | (intro r h1 h2;clear h1;refine h2 ⟨[1,6,13,14,15],Nat × List Int × List Int,(fun a=>a.1<=w.length/\a.2.1.length<=b.length/\a.2.2.length<=a.1/\Zy_ w b []=Zy_ (w.drop a.1) a.2.1 a.2.2),fun a=>[.imm (.int .u8) a.2.1,.own 0,.imm (.int .i64) w,.int .i64 w.length,.int .i64 a.1],fun a=>[.row false (.int .u64) a.2.2],fun a=>w.length - a.1,⟨(0,b,[]),⟨Nat.zero_le _,Nat.le_refl _,Nat.zero_le _,rfl⟩,rfl,rfl⟩,?_⟩;clear h2)
   | (have hr:Zw_ w=false:=by assumption
      have hf:ZE_ w b=([],2):=by unfold ZE_;rw [hr];rfl
      unfold zP_ zZ_;rw [hf];exact ⟨rfl,rfl⟩)
  rintro ⟨i,c,o⟩ ⟨hi,hc,ho,he⟩
  dsimp only at hi hc ho he
  have hr:Zw_ w=true:=by assumption
  have hl:=(ZD_.1 hr).1
  repeat'(intro t ht;first|(cases t<;>first|(cases ht;done)|(try simp only[zg_]at ht))|((first|refine zb_ ht ?_|refine ht ?_ ?_|refine ht.1 ?_ ?_|refine ht ?_)<;>clear ht))
  all_goals first
   | ((try simp only [zm_,zn_,zl_] at*);omega)
   | (have hge:w.length<=i:=by omega
      rw [List.drop_of_length_le hge] at he
      have hf:ZE_ w b=(o,0):=by unfold ZE_;rw [if_pos hr,he];rfl
      unfold zP_ zZ_;rw [hf];exact ⟨rfl,rfl⟩)
   | skip
  all_goals have hlt:i < w.length:=by omega
  all_goals have hkk:=(ZD_.1 hr).2 _ (zU_ (α:=Int) hlt 0)
  all_goals have ha:=wq_ (n:=w.getD i 0)
  all_goals have hA:(if 0 - w.getD i 0 > w.getD i 0 then 0 - w.getD i 0 else w.getD i 0)=zv_ (w.getD i 0):=rfl
  all_goals first
   | exact True.intro
   | ((try simp only [zm_,zn_,zl_] at*);omega)
   | (have h1:(c.length:Int) < zv_ (w.getD i 0):=by assumption
      have hf:ZE_ w b=([],1):=by unfold ZE_;rw [if_pos hr,he];exact U3_ hlt h1
      unfold zP_ zZ_;rw [hf];exact ⟨rfl,rfl⟩)
   | (have h1:¬ (c.length:Int) < zv_ (w.getD i 0):=by assumption
      first
       | (have h2:¬ 0 < w.getD i 0:=by assumption
          first
           | (have h3:ZB_ (c.take (zv_ (w.getD i 0)).toNat)=true:=by assumption
              refine ⟨(i+1,c.drop (zv_ (w.getD i 0)).toNat,o),⟨hlt,?_,by dsimp only;omega,?_⟩,by dsimp only;omega,rfl,rfl⟩
              ·dsimp only;rw [List.length_drop];omega
              ·rw [he];exact hr_ hlt h1 h2 h3)
           | (have h3:ZB_ (c.take (zv_ (w.getD i 0)).toNat)=false:=by assumption
              have hf:ZE_ w b=([],2):=by unfold ZE_;rw [if_pos hr,he];exact za1_ hlt h1 h2 h3
              unfold zP_ zZ_;rw [hf];exact ⟨rfl,rfl⟩))
       | (have h2:0 < w.getD i 0:=by assumption
          first
           | (show (c.take (zv_ (w.getD i 0)).toNat).length<=8;rw [List.length_take];omega)
           | (simp only [qd_,List.length_append,List.length_cons,List.length_nil];omega)
           | (refine ⟨(i+1,c.drop (zv_ (w.getD i 0)).toNat,o++[Zx_ (c.take (zv_ (w.getD i 0)).toNat)]),⟨hlt,?_,?_,?_⟩,by dsimp only;omega,rfl,rfl⟩
              ·dsimp only;rw [List.length_drop];omega
              ·simp only [List.length_append,List.length_cons,List.length_nil];omega
              ·rw [he];exact za2_ hlt h1 h2)))
 ·cases e
def wf_:IR:=
(sq (kr [0,1] [oD 4 (.nilrow (.int .u64))])
(sq (sq (.reg [oM 7 0,
oC 8 43 [7],
oB 9 .neq 8 (cI 0)])
(.cond 9
(sq (.reg [oD 4 (.nilrow (.int .u64))])
.ret)
.skip))
(sq (kd [0,1] [(oM 11 1,[]),
(oM 12 0,[0]),
(oD 13 (.nilck 12),[1]),
(oA 14 0 13,[2]),
(oL 15 14,[3]),
(oM 16 0,[0,0,0,0,0]),
(oD 17 (.nilck 16),[1,0,0,0,0]),
(oA 18 1 17,[2,0,0,0,0]),
(oL 19 18,[3,0,0,0,0]),
(oD 20 (.slice 1 15 (some 19) none none),[8]),
(oC 21 93 [11,20],[]),
(oM 10 21,[]),
(oX 22 10 0,[]),
(oX 23 10 1,[0]),
(oM 5 22,[0]),
(oM 6 23,[])])
(sq (sq (kr [0,1,5,6] [oM 24 6])
(.block 0
(sq (.reg [oB 35 .eql 24 (cI 1),
oM 34 35])
(.cond 34
(kr [0,5] [oM 36 0,
oM 37 0,
oD 38 (.nilck 37),
oA 39 2 38,
oL 40 39,
oC 41 44 [36,40]])
(sq (.reg [oB 43 .eql 24 (cI 2),
oM 42 43])
(.cond 42
(kr [0,5] [oM 44 0,
oM 45 0,
oD 46 (.nilck 45),
oA 47 3 46,
oL 48 47,
oC 49 44 [44,48]])
(kd [0,1,5] [(oM 25 0,[]),
(oD 26 (.nilck 25),[]),
(oA 27 1 26,[]),
(oL 28 27,[]),
(oM 29 1,[0,0,0,0]),
(oC 30 94 [29],[1,0,0,0]),
(oB 31 .add 28 30,[]),
(oD 32 (.nilck 25),[]),
(oA 33 1 32,[]),
(oS 1 33 31,[])])))))))
(sq (kr [5] [oM 50 5,
oM 4 50])
.ret)))))
def JT_:List RD:=[.tmp 4 false none]
theorem J1_:zj_ Tryz.prog Tryz.f42 wf_ JT_=true:=by kernel_rfl
def ZS_:List AV->List Obj->Option (Prop × AV × List Obj)
 | [.ptr 0 0,.imm (.int .i64) w],[.box [.imm (.int .u8) b,.int .i64 p,.int .i64 sh,.int .i64 od,.int .i64 e,.bool true]]=>some ((0<=p/\p<=b.length/\b.length<=140737488355328,.own 1,[.box [.imm (.int .u8) b,.int .i64 (ky_ w b p e),.int .i64 sh,.int .i64 od,.int .i64 (k8_ w b p sh od e),.bool true],.row false (.int .u64) (QR_ w b p e)]))
 | _,_=>none
theorem QF_:zd_ Tryz.prog 42 (RwF ZS_).sum:=by
 refine qg_ Tryz.func42 J1_ (za_ (s:=RoF zp_) zq_ (za_ (s:=RwF xK_) gB_ (za_ (s:=RwF zr_) zs_ (za_ (s:=RoF QD_) QU_ (zc_ _))))) fun args objs p v o e=>?_
 unfold ZS_ at e
 split at e
 ·rename_i w b p sh od e
  cases e
  refine ⟨rfl,fun hw ho hp=>?_⟩
  change List Int at w
  change List Int at b
  have hz:=WX_ w
  repeat'(intro t ht;first|(cases t<;>first|(cases ht;done)|(try simp only[zg_]at ht))|((first|refine zb_ ht ?_|refine ht ?_ ?_|refine ht.1 ?_ ?_|refine ht ?_)<;>clear ht))
  all_goals first
   | exact True.intro
   | ((try simp only [zm_,zn_,zl_] at*);omega)
   | (refine ⟨rfl,?_⟩;unfold QR_ ky_ k8_;simp_all [zt_];done)
 ·cases e
theorem U4_:∀ (w b o:List Int),(Zy_ w b o).1.length<=o.length+w.length
 | [],b,o=>by simp [Zy_]
 | n :: r,b,o=>by
   simp only [Zy_]
   split
   ·simp
   ·split
    ·have ih:=U4_ r (b.drop (zv_ n).toNat) (o++[Zx_ (b.take (zv_ n).toNat)])
     simp only [List.length_append,List.length_cons,List.length_nil] at ih ⊢;omega
    ·split
     ·have ih:=U4_ r (b.drop (zv_ n).toNat) o
      simp only [List.length_cons];omega
     ·simp
theorem zeg_ (w b:List Int) (p e:Int):(QR_ w b p e).length<=w.length:=by
 unfold QR_ zP_ ZE_
 split
 ·split
  ·have:=U4_ w (b.drop p.toNat) [];simpa using this
  ·simp
 ·simp
theorem U5_:∀ (w b o:List Int),((Zy_ w b o).2=0\/(Zy_ w b o).2=1\/(Zy_ w b o).2=2)/\((Zy_ w b o).2=0->(w.map zv_).sum<=b.length)
 | [],b,o=>⟨.inl rfl,fun _=>by simp⟩
 | n :: r,b,o=>by
   have ha:=wq_ (n:=n)
   have hd:(b.drop (zv_ n).toNat).length=b.length - (zv_ n).toNat:=List.length_drop
   simp only [Zy_]
   rw [List.map_cons,List.sum_cons]
   split
   ·exact ⟨.inr (.inl rfl),fun h=>by cases h⟩
   ·split
    ·have ih:=U5_ r (b.drop (zv_ n).toNat) (o++[Zx_ (b.take (zv_ n).toNat)])
     exact ⟨ih.1,fun h=>by have:=ih.2 h;omega⟩
    ·split
     ·have ih:=U5_ r (b.drop (zv_ n).toNat) o
      exact ⟨ih.1,fun h=>by have:=ih.2 h;omega⟩
     ·exact ⟨.inr (.inr rfl),fun h=>by cases h⟩
theorem zgI_ (w b:List Int):(zZ_ w b=0\/zZ_ w b=1\/zZ_ w b=2)/\(zZ_ w b=0->zG_ w<=b.length):=by
 unfold zZ_ ZE_ zG_
 split
 ·exact U5_ w b []
 ·exact ⟨.inr (.inr rfl),fun h=>by cases h⟩
theorem zip_ {w b:List Int} {p e:Int} (h0:0<=p) (h1:p<=b.length):0<=ky_ w b p e/\ky_ w b p e<=b.length:=by
 have hk:=zgI_ w (b.drop p.toNat)
 have hz:=WX_ w
 have hd:(b.drop p.toNat).length=b.length - p.toNat:=List.length_drop
 unfold ky_
 by_cases he:e=0
 ·rw [if_pos he]
  by_cases h2:zZ_ w (b.drop p.toNat)=1
  ·rw [if_pos h2];exact ⟨h0,h1⟩
  ·rw [if_neg h2]
   by_cases h3:zZ_ w (b.drop p.toNat)=2
   ·rw [if_pos h3];exact ⟨h0,h1⟩
   ·rw [if_neg h3]
    have:=hk.2 (by omega)
    omega
 ·rw [if_neg he];exact ⟨h0,h1⟩
theorem rowN {w b:List Int} (hb:∀ x ∈ b,0<=x/\x<=255) (h:zZ_ w b=0):((zP_ w b).length:Int)=zB_ w/\zG_ w<=b.length:=by
 obtain ⟨p1,p2,p3⟩:=kw_ hb (show ZE_ w b=(zP_ w b,0) from Prod.ext rfl h)
 unfold ZX_ k2_ at p1
 split at p1
 ·rename_i hc;exact ⟨hc.2.symm,p3⟩
 ·cases p1
theorem W5_ {w n:List Int} (h:ZX_ w n=true):(n.length:Int)=zB_ w:=by
 unfold ZX_ k2_ at h
 split at h
 ·rename_i hc;exact hc.2.symm
 ·cases h
theorem Yc_ {e x:Int} (h:e ≠ 0):zt_ e x=e:=by unfold zt_;rw [if_neg h]
def zMs:VMs:=(0,0,[],[],[],[],[],[],[],[],[],[],0,0,[],())
theorem zdK_ {room:Int} (hr:room<=1000000):∀ (r:List OV) (l:List Int) (e:Int),l.length<=1000000->(puS room r l e).1.length<=1000000
 | [],l,e,h=>h
 | o :: r,l,e,h=>by unfold puS;exact zdK_ hr r _ _ (Q8_ h hr)
theorem zdU_ {x:List OV} {l:List Int} {room e:Int} (h:l.length<=1000000) (hr:room<=1000000):(mpB x l room e).length<=1000000:=by
 unfold mpB;split
 ·refine Q8_ ?_ hr
  unfold mpS;exact zdK_ hr _ _ _ (j8_ h hr)
 ·exact h
theorem H2_ {b:List Int} {p e:Int} (hb:∀ x ∈ b,0<=x/\x<=255) (h0:0<=p) (h1:p<=b.length):0<=mtP b p e/\mtP b p e<=b.length:=by
 unfold mtP;split
 ·have h:=zcG_ (b.drop p.toNat) fun x hx=>hb x (List.mem_of_mem_drop hx)
  rw [List.length_drop] at h;omega
 ·exact ⟨h0,h1⟩
theorem K1_ (e:Int):kn_ [] e=e:=by unfold kn_;split<;>simp_all
theorem ug_ {l:List Int} {e:Int} (h:kn_ [] e=0):qE_ l [] e=l/\e=0:=by
 rw [K1_] at h;subst h;exact ⟨rfl,rfl⟩
theorem jv_ (e:Int):¬ zt_ e 263=0:=by unfold zt_;split<;>omega
theorem zhM_ {a:AC} (h:rgA a=true):lenA a:=by
 by_cases h25:a.1=25
 ·obtain ⟨_,_,hd,_,_,_,hR⟩:=x1_ h25 h
  have hn:=qk_ hR
  unfold lenA;rw [hd]
  refine ⟨?_,?_,by decide⟩<;>omega
 ·obtain ⟨k1,k2,k3,k4,k5,k6,k7⟩:=KX_ h25 h
  obtain ⟨_,_,_,_,e5,e6⟩:=hf_ k2
  unfold lenA;rw [e5,e6]
  refine ⟨by decide,by decide,?_⟩
  rcases k7 with ⟨_,_,k⟩ | ⟨_,k⟩
  ·omega
  ·rw [k];decide
theorem zjp_ {l:List AC} (h:rgL l=true):okL l:=by
 obtain ⟨h1,h2,_⟩:=Jb_ h
 exact ⟨fun o ho=>zhM_ (List.all_eq_true.1 h1 o ho),by omega⟩
theorem zid_ (w b:List Int):(zP_ w b).length<=w.length:=by
 have h:=zeg_ w b 0 0
 unfold QR_ at h;rw [if_pos rfl] at h;exact h
def wd_:IR:=
(sq (kr [0] [oD 2 (.mov cF)])
(sq (.reg [oM 3 0,
oE 4 3,
oB 5 .eql 4 (cI 0),
oM 2 5])
.ret))
def JR_:List RD:=[.tmp 2 true none]
theorem JZ_:zj_ Tryz.prog Tryz.f74 wd_ JR_=true:=by kernel_rfl
def qx_:List AV->List Obj->Option (Prop × AV)
 | [.imm (.cons (.int .i64) (.cons (.sl (.int .u8)) .nil)) l],[]=>some ((True,.bool (decide ((l.length:Int)=0))))
 | _,_=>none
theorem j2_:zd_ Tryz.prog 74 (RoF qx_).sum:=by
 refine zi_ Tryz.func74 JZ_ (zc_ _) fun args objs p v e=>?_
 unfold qx_ at e
 split at e
 ·rename_i l
  cases e
  refine ⟨rfl,fun hw ho hp=>?_⟩
  repeat'(intro t ht;first|(cases t<;>first|(cases ht;done)|(try simp only[zg_]at ht))|((first|refine zb_ ht ?_|refine ht ?_ ?_|refine ht.1 ?_ ?_|refine ht ?_)<;>clear ht))
  all_goals first
   | exact True.intro
   | exact ⟨rfl,rfl⟩
 ·cases e
def Wr_:IR:=
(sq (kr [0] [oD 2 (.mov cF)])
(sq (.reg [oM 3 0,
oE 4 3,
oB 5 .eql 4 (cI 0),
oM 2 5])
.ret))
def wW_:List RD:=[.tmp 2 true none]
theorem Wc_:zj_ Tryz.prog Tryz.f75 Wr_ wW_=true:=by kernel_rfl
def qU_:List AV->List Obj->Option (Prop × AV)
 | [.imm (.cons (.int .i64) (.cons (.int .i64) (.cons .bool (.cons (.int .u64) (.cons (.sl (.int .u8)) (.cons (.sl (.int .u8)) .nil)))))) l],[]=>some ((True,.bool (decide ((l.length:Int)=0))))
 | _,_=>none
theorem JC_:zd_ Tryz.prog 75 (RoF qU_).sum:=by
 refine zi_ Tryz.func75 Wc_ (zc_ _) fun args objs p v e=>?_
 unfold qU_ at e
 split at e
 ·rename_i l
  cases e
  refine ⟨rfl,fun hw ho hp=>?_⟩
  repeat'(intro t ht;first|(cases t<;>first|(cases ht;done)|(try simp only[zg_]at ht))|((first|refine zb_ ht ?_|refine ht ?_ ?_|refine ht.1 ?_ ?_|refine ht ?_)<;>clear ht))
  all_goals first
   | exact True.intro
   | exact ⟨rfl,rfl⟩
 ·cases e
def Wt_:IR:=
(sq (kr [0] [oD 2 (.mov cF)])
(sq (.reg [oM 3 0,
oE 4 3,
oB 5 .eql 4 (cI 0),
oM 2 5])
.ret))
def wY_:List RD:=[.tmp 2 true none]
theorem We_:zj_ Tryz.prog Tryz.f76 Wt_ wY_=true:=by kernel_rfl
def qW_:List AV->List Obj->Option (Prop × AV)
 | [.imm ty0 l],[]=>ZM_ ty0 Y2 l fun l=>some ((True,.bool (decide ((l.length:Int)=0))))
 | _,_=>none
theorem JE_:zd_ Tryz.prog 76 (RoF qW_).sum:=by
 refine zi_ Tryz.func76 We_ (zc_ _) fun args objs p v e=>?_
 unfold qW_ at e
 split at e
 ·rename_i ty0 l
  obtain rfl:=zN_ e
  replace e:=zO_ e
  cases e
  refine ⟨rfl,fun hw ho hp=>?_⟩
  repeat'(intro t ht;first|(cases t<;>first|(cases ht;done)|(try simp only[zg_]at ht))|((first|refine zb_ ht ?_|refine ht ?_ ?_|refine ht.1 ?_ ?_|refine ht ?_)<;>clear ht))
  all_goals first
   | exact True.intro
   | exact ⟨rfl,rfl⟩
 ·cases e
def Ws_:IR:=
(sq (kr [0] [oD 2 (.mov cF)])
(sq (.reg [oM 3 0,
oE 4 3,
oB 5 .eql 4 (cI 0),
oM 2 5])
.ret))
def wX_:List RD:=[.tmp 2 true none]
theorem Wd_:zj_ Tryz.prog Tryz.f77 Ws_ wX_=true:=by kernel_rfl
def qV_:List AV->List Obj->Option (Prop × AV)
 | [.imm ty0 l],[]=>ZM_ ty0 Y3 l fun l=>some ((True,.bool (decide ((l.length:Int)=0))))
 | _,_=>none
theorem JD_:zd_ Tryz.prog 77 (RoF qV_).sum:=by
 refine zi_ Tryz.func77 Wd_ (zc_ _) fun args objs p v e=>?_
 unfold qV_ at e
 split at e
 ·rename_i ty0 l
  obtain rfl:=zN_ e
  replace e:=zO_ e
  cases e
  refine ⟨rfl,fun hw ho hp=>?_⟩
  repeat'(intro t ht;first|(cases t<;>first|(cases ht;done)|(try simp only[zg_]at ht))|((first|refine zb_ ht ?_|refine ht ?_ ?_|refine ht.1 ?_ ?_|refine ht ?_)<;>clear ht))
  all_goals first
   | exact True.intro
   | exact ⟨rfl,rfl⟩
 ·cases e
def jL_:IR:=
(sq (kr [0] [oD 2 (.mov cF)])
(sq (.reg [oM 3 0,
oE 4 3,
oB 5 .eql 4 (cI 0),
oM 2 5])
.ret))
def jH_:List RD:=[.tmp 2 true none]
theorem jI_:zj_ Tryz.prog Tryz.f78 jL_ jH_=true:=by kernel_rfl
def qe_:List AV->List Obj->Option (Prop × AV)
 | [.imm ty0 l],[]=>ZM_ ty0 Y4 l fun l=>some ((True,.bool (decide ((l.length:Int)=0))))
 | _,_=>none
theorem jj_:zd_ Tryz.prog 78 (RoF qe_).sum:=by
 refine zi_ Tryz.func78 jI_ (zc_ _) fun args objs p v e=>?_
 unfold qe_ at e
 split at e
 ·rename_i ty0 l
  obtain rfl:=zN_ e
  replace e:=zO_ e
  cases e
  refine ⟨rfl,fun hw ho hp=>?_⟩
  repeat'(intro t ht;first|(cases t<;>first|(cases ht;done)|(try simp only[zg_]at ht))|((first|refine zb_ ht ?_|refine ht ?_ ?_|refine ht.1 ?_ ?_|refine ht ?_)<;>clear ht))
  all_goals first
   | exact True.intro
   | exact ⟨rfl,rfl⟩
 ·cases e
def we_:IR:=
(sq (kr [0] [oD 2 (.mov cF)])
(sq (.reg [oM 3 0,
oE 4 3,
oB 5 .eql 4 (cI 0),
oM 2 5])
.ret))
def JS_:List RD:=[.tmp 2 true none]
theorem J0_:zj_ Tryz.prog Tryz.f79 we_ JS_=true:=by kernel_rfl
def qy_:List AV->List Obj->Option (Prop × AV)
 | [.imm (.cons (.int .i64) (.cons (.int .u64) (.cons (.int .u64) (.cons (.int .u64) (.cons (.sl (.int .u8)) .nil))))) l],[]=>some ((True,.bool (decide ((l.length:Int)=0))))
 | _,_=>none
theorem j3_:zd_ Tryz.prog 79 (RoF qy_).sum:=by
 refine zi_ Tryz.func79 J0_ (zc_ _) fun args objs p v e=>?_
 unfold qy_ at e
 split at e
 ·rename_i l
  cases e
  refine ⟨rfl,fun hw ho hp=>?_⟩
  repeat'(intro t ht;first|(cases t<;>first|(cases ht;done)|(try simp only[zg_]at ht))|((first|refine zb_ ht ?_|refine ht ?_ ?_|refine ht.1 ?_ ?_|refine ht ?_)<;>clear ht))
  all_goals first
   | exact True.intro
   | exact ⟨rfl,rfl⟩
 ·cases e
def Jg_:IR:=
(sq (kr [0] [oD 2 (.mov cF)])
(sq (.reg [oM 3 0,
oE 4 3,
oB 5 .eql 4 (cI 0),
oM 2 5])
.ret))
def Jc_:List RD:=[.tmp 2 true none]
theorem Je_:zj_ Tryz.prog Tryz.f80 Jg_ Jc_=true:=by kernel_rfl
def qn_:List AV->List Obj->Option (Prop × AV)
 | [.imm (.cons (.int .u64) (.cons (.int .u64) (.cons (.sl (.cons (.int .i64) (.cons (.int .u64) (.cons (.sl (.int .u8)) .nil)))) .nil))) l],[]=>some ((True,.bool (decide ((l.length:Int)=0))))
 | _,_=>none
theorem jF_:zd_ Tryz.prog 80 (RoF qn_).sum:=by
 refine zi_ Tryz.func80 Je_ (zc_ _) fun args objs p v e=>?_
 unfold qn_ at e
 split at e
 ·rename_i l
  cases e
  refine ⟨rfl,fun hw ho hp=>?_⟩
  repeat'(intro t ht;first|(cases t<;>first|(cases ht;done)|(try simp only[zg_]at ht))|((first|refine zb_ ht ?_|refine ht ?_ ?_|refine ht.1 ?_ ?_|refine ht ?_)<;>clear ht))
  all_goals first
   | exact True.intro
   | exact ⟨rfl,rfl⟩
 ·cases e
def wb_:IR:=
(sq (kr [0] [oD 2 (.mov cF)])
(sq (.reg [oM 3 0,
oE 4 3,
oB 5 .eql 4 (cI 0),
oM 2 5])
.ret))
def JP_:List RD:=[.tmp 2 true none]
theorem JX_:zj_ Tryz.prog Tryz.f81 wb_ JP_=true:=by kernel_rfl
def qv_:List AV->List Obj->Option (Prop × AV)
 | [.imm ty0 l],[]=>ZM_ ty0 Y8 l fun l=>some ((True,.bool (decide ((l.length:Int)=0))))
 | _,_=>none
theorem j0_:zd_ Tryz.prog 81 (RoF qv_).sum:=by
 refine zi_ Tryz.func81 JX_ (zc_ _) fun args objs p v e=>?_
 unfold qv_ at e
 split at e
 ·rename_i ty0 l
  obtain rfl:=zN_ e
  replace e:=zO_ e
  cases e
  refine ⟨rfl,fun hw ho hp=>?_⟩
  repeat'(intro t ht;first|(cases t<;>first|(cases ht;done)|(try simp only[zg_]at ht))|((first|refine zb_ ht ?_|refine ht ?_ ?_|refine ht.1 ?_ ?_|refine ht ?_)<;>clear ht))
  all_goals first
   | exact True.intro
   | exact ⟨rfl,rfl⟩
 ·cases e
def wc_:IR:=
(sq (kr [0] [oD 2 (.mov cF)])
(sq (.reg [oM 3 0,
oE 4 3,
oB 5 .eql 4 (cI 0),
oM 2 5])
.ret))
def JQ_:List RD:=[.tmp 2 true none]
theorem JY_:zj_ Tryz.prog Tryz.f82 wc_ JQ_=true:=by kernel_rfl
def qw_:List AV->List Obj->Option (Prop × AV)
 | [.imm ty0 l],[]=>ZM_ ty0 YC l fun l=>some ((True,.bool (decide ((l.length:Int)=0))))
 | _,_=>none
theorem j1_:zd_ Tryz.prog 82 (RoF qw_).sum:=by
 refine zi_ Tryz.func82 JY_ (zc_ _) fun args objs p v e=>?_
 unfold qw_ at e
 split at e
 ·rename_i ty0 l
  obtain rfl:=zN_ e
  replace e:=zO_ e
  cases e
  refine ⟨rfl,fun hw ho hp=>?_⟩
  repeat'(intro t ht;first|(cases t<;>first|(cases ht;done)|(try simp only[zg_]at ht))|((first|refine zb_ ht ?_|refine ht ?_ ?_|refine ht.1 ?_ ?_|refine ht ?_)<;>clear ht))
  all_goals first
   | exact True.intro
   | exact ⟨rfl,rfl⟩
 ·cases e
def xk_:IR:=
(sq (kr [0] [oD 2 (.mov cF)])
(sq (.reg [oM 3 0,
oE 4 3,
oB 5 .eql 4 (cI 0),
oM 2 5])
.ret))
def WY_:List RD:=[.tmp 2 true none]
theorem W7_:zj_ Tryz.prog Tryz.f83 xk_ WY_=true:=by kernel_rfl
def Qi_:List AV->List Obj->Option (Prop × AV)
 | [.imm (.int .u64) l],[]=>some ((True,.bool (decide ((l.length:Int)=0))))
 | _,_=>none
theorem wT_:zd_ Tryz.prog 83 (RoF Qi_).sum:=by
 refine zi_ Tryz.func83 W7_ (zc_ _) fun args objs p v e=>?_
 unfold Qi_ at e
 split at e
 ·rename_i l
  cases e
  refine ⟨rfl,fun hw ho hp=>?_⟩
  change List Int at l
  repeat'(intro t ht;first|(cases t<;>first|(cases ht;done)|(try simp only[zg_]at ht))|((first|refine zb_ ht ?_|refine ht ?_ ?_|refine ht.1 ?_ ?_|refine ht ?_)<;>clear ht))
  all_goals first
   | exact True.intro
   | exact ⟨rfl,rfl⟩
 ·cases e
def X3_:IR:=
(sq (kr [0] [oD 2 (.mov cF)])
(sq (.reg [oM 3 0,
oE 4 3,
oB 5 .eql 4 (cI 0),
oM 2 5])
.ret))
def XR_:List RD:=[.tmp 2 true none]
theorem XW_:zj_ Tryz.prog Tryz.f84 X3_ XR_=true:=by kernel_rfl
def kc_:List AV->List Obj->Option (Prop × AV)
 | [.imm (.int .u8) l],[]=>some ((True,.bool (decide ((l.length:Int)=0))))
 | _,_=>none
theorem Xt_:zd_ Tryz.prog 84 (RoF kc_).sum:=by
 refine zi_ Tryz.func84 XW_ (zc_ _) fun args objs p v e=>?_
 unfold kc_ at e
 split at e
 ·rename_i l
  cases e
  refine ⟨rfl,fun hw ho hp=>?_⟩
  change List Int at l
  repeat'(intro t ht;first|(cases t<;>first|(cases ht;done)|(try simp only[zg_]at ht))|((first|refine zb_ ht ?_|refine ht ?_ ?_|refine ht.1 ?_ ?_|refine ht ?_)<;>clear ht))
  all_goals first
   | exact True.intro
   | exact ⟨rfl,rfl⟩
 ·cases e
def GS_:IR:=
(sq (kr [0] [oD 1 (.boxv 0),
oD 2 (.mov cF)])
(sq (kr [1] [oA 4 4 1,
oL 5 4,
oC 6 74 [5],
oM 7 6,
oT 7 8 (.fieldAddr 5 1),
oT 7 9 (.load none 8),
oT 7 10 (.call false (.f 75) [9]),
oP 11 7 10 cF,
oM 12 11,
oT 12 13 (.fieldAddr 6 1),
oT 12 14 (.load none 13),
oT 12 15 (.call false (.f 76) [14]),
oP 16 12 15 cF,
oM 17 16,
oT 17 18 (.fieldAddr 7 1),
oT 17 19 (.load none 18),
oT 17 20 (.call false (.f 77) [19]),
oP 21 17 20 cF,
oM 22 21,
oT 22 23 (.fieldAddr 8 1),
oT 22 24 (.load none 23),
oT 22 25 (.call false (.f 78) [24]),
oP 26 22 25 cF,
oM 27 26,
oT 27 28 (.fieldAddr 9 1),
oT 27 29 (.load none 28),
oT 27 30 (.call false (.f 79) [29]),
oP 31 27 30 cF,
oM 32 31,
oT 32 33 (.fieldAddr 10 1),
oT 32 34 (.load none 33),
oT 32 35 (.call false (.f 80) [34]),
oP 36 32 35 cF,
oM 37 36,
oT 37 38 (.fieldAddr 11 1),
oT 37 39 (.load none 38),
oT 37 40 (.call false (.f 81) [39]),
oP 41 37 40 cF,
oM 42 41,
oT 42 43 (.fieldAddr 14 1),
oT 42 44 (.load none 43),
oT 42 45 (.call false (.f 82) [44]),
oP 46 42 45 cF,
oM 3 46])
(sq (kr [1,3] [oM 47 3,
oM 48 47,
oT 48 49 (.fieldAddr 2 1),
oT 48 50 (.load none 49),
oT 48 51 (.call false (.f 83) [50]),
oP 52 48 51 cF,
oM 53 52,
oT 53 54 (.fieldAddr 3 1),
oT 53 55 (.load none 54),
oT 53 56 (.call false (.f 84) [55]),
oP 57 53 56 cF,
oM 58 57,
oT 58 59 (.fieldAddr 12 1),
oT 58 60 (.load none 59),
oT 58 61 (.bin .eql 60 (cI 0)),
oP 62 58 61 cF,
oM 63 62,
oT 63 64 (.fieldAddr 13 1),
oT 63 65 (.load none 64),
oT 63 66 (.bin .eql 65 (cI 0)),
oP 67 63 66 cF,
oM 2 67])
.ret)))
def gZ_:List RD:=[.tmp 2 true none]
theorem Gp_:zj_ Tryz.prog Tryz.f33 GS_ gZ_=true:=by kernel_rfl
def KI_:List AV->List Obj->Option (Prop × AV)
 | [.agg zz0],[]=>Jn_ YD zz0 fun ⟨t,xi,n,d,el,x,a,ins,bu,ba,qu,po,ki,fl,pa,_⟩=>some ((True,.bool (Q9_ (t,xi,n,d,el,x,a,ins,bu,ba,qu,po,ki,fl,pa,()))))
 | _,_=>none
theorem WT_:zd_ Tryz.prog 33 (RoF KI_).sum:=by
 refine zi_ Tryz.func33 Gp_ (za_ (s:=RoF qx_) j2_ (za_ (s:=RoF qU_) JC_ (za_ (s:=RoF qW_) JE_ (za_ (s:=RoF qV_) JD_ (za_ (s:=RoF qe_) jj_ (za_ (s:=RoF qy_) j3_ (za_ (s:=RoF qn_) jF_ (za_ (s:=RoF qv_) j0_ (za_ (s:=RoF qw_) j1_ (za_ (s:=RoF Qi_) wT_ (za_ (s:=RoF kc_) Xt_ (zc_ _)))))))))))) fun args objs p v e=>?_
 unfold KI_ at e
 split at e
 ·rename_i zz0
  replace e:=qR_ e
  obtain ⟨⟨t,xi,n,d,el,x,a,ins,bu,ba,qu,po,ki,fl,pa,_⟩,hz,e⟩:=e
  replace hz:zz0=[.int .i64 t,.int .u32 xi,.imm (.int .u64) n,.imm (.int .u8) d,.imm YB el,.imm Y1 x,.imm Y2 a,.imm Y3 ins,.imm Y4 bu,.imm Y5 ba,.imm Y7 qu,.imm Y8 po,.int .i64 ki,.int .i64 fl,.imm YC pa]:=hz
  subst hz
  change Int at t
  change Int at xi
  change Int at ki
  change Int at fl
  cases e
  refine ⟨rfl,fun hw ho hp=>?_⟩
  change List Int at n
  change List Int at d
  clear hw ho
  repeat'(intro t ht;first|(cases t<;>first|(cases ht;done)|(try simp only[zg_]at ht;try(exfalso;first|contradiction|omega)))|((first|refine zb_ ht ?_|refine ht ?_ ?_|refine ht.1 ?_ ?_|refine ht ?_)<;>clear ht))
  all_goals first
   | exact True.intro
   | (refine ⟨congrArg AV.bool ?_,rfl⟩;rw [Bool.eq_iff_iff];unfold Q9_;simp only [Bool.and_eq_true,decide_eq_true_eq,reduceCtorEq,true_iff,false_iff];omega)
 ·cases e
abbrev VIt:=Int × List Int × Unit
def wI (t:Int):List Int:=if t=1 then [1,-3] else if t=2 then [-4,8,8] else if t=3\/t=4\/t=5 then [-4] else if t=6\/t=65535 then [4] else []
def kI (t:Int):Bool:=decide (t=1) || decide (t=2) || decide (t=3) || decide (t=4) || decide (t=5) || decide (t=6) || decide (t=65535)
def dI (t:Int):Bool:=decide (t=3) || decide (t=4)
def mI (t:Int):Bool:=decide (t=3) || decide (t=4) || decide (t=65535)
def qI (t a b:Int):Int:=if t=1/\254 < a then 771 else if t=2/\¬ Qe_ .andNot .u64 a b=0 then 772 else 0
def nuI (t:Int):Int:=zB_ (wI t)
def sI (t:Int):Int:=zG_ (wI t)
theorem UE_ {t:Int} (h:kI t=true):t=1\/t=2\/t=3\/t=4\/t=5\/t=6\/t=65535:=by
 unfold kI at h;simp only [Bool.or_eq_true,decide_eq_true_eq] at h;omega
theorem b1_ {t:Int} (h:kI t=true):(sI t=4\/sI t=20)/\0<=nuI t/\nuI t<=2:=by
 rcases UE_ h with rfl | rfl | rfl | rfl | rfl | rfl | rfl<;>decide
theorem ziW_ {t:Int} (h:kI t=true):0<=t/\t<=65535:=by have:=UE_ h;omega
def xI (i:VIn):List Int:=[i.2.1,i.2.2.1].take (nuI i.1).toNat
theorem zi8_ {n a b:Int} (h0:0<=n/\n<=2) (h2:2<=n\/b=0) (h1:1<=n\/a=0):([a,b].take n.toNat++[0,0]).getD 0 0=a/\([a,b].take n.toNat++[0,0]).getD 1 0=b:=by
 have:n=0\/n=1\/n=2:=by omega
 rcases this with rfl | rfl | rfl
 ·obtain rfl:a=0:=by omega
  obtain rfl:b=0:=by omega
  exact ⟨rfl,rfl⟩
 ·obtain rfl:b=0:=by omega
  exact ⟨rfl,rfl⟩
 ·exact ⟨rfl,rfl⟩
theorem zkx_ {n:Int} {l:List Int} (h0:0<=n/\n<=2) (h:(l.length:Int)=n):[(l++[0,0]).getD 0 0,(l++[0,0]).getD 1 0].take n.toNat=l/\(2<=n\/(l++[0,0]).getD 1 0=0)/\(1<=n\/(l++[0,0]).getD 0 0=0):=by
 subst h
 rcases l with _ | ⟨p,_ | ⟨q,_ | ⟨r,s⟩⟩⟩
 ·exact ⟨rfl,.inr rfl,.inr rfl⟩
 ·exact ⟨rfl,.inr rfl,.inl (by simp)⟩
 ·exact ⟨rfl,.inl (by simp),.inl (by simp)⟩
 ·simp only [List.length_cons] at h0;omega
def gdI (i:VIn):Bool:=kI i.1 && decide (qI i.1 i.2.1 i.2.2.1=0) && (decide (2<=nuI i.1) || decide (i.2.2.1=0)) && (decide (1<=nuI i.1) || decide (i.2.1=0)) && (dI i.1 || decide (i.2.2.2.1.length=0)) && (decide (i.1=65535) || decide (i.2.2.2.2.1.length=0)) && decide (i.2.2.2.2.1.length % 8=0)
def byI (i:VIn):Option (List Int):=b0_ (b0_ (uL_ (wI i.1) (xI i)) (actO i.2.2.2.1)) (some i.2.2.2.2.1)
def bdO (i:VIn):Option (List Int):=if gdI i=true then (match byI i with | some y=>if (65524:Int) < y.length then none else some y | none=>none) else none
structure BdOk (i:VIn) (y:List Int):Prop where
 k:kI i.1=true
 q:qI i.1 i.2.1 i.2.2.1=0
 b:2<=nuI i.1\/i.2.2.1=0
 a:1<=nuI i.1\/i.2.1=0
 d:dI i.1=true\/i.2.2.2.1=[]
 e:i.1=65535\/i.2.2.2.2.1=[]
 m:i.2.2.2.2.1.length % 8=0
 p:ZX_ (wI i.1) (xI i)=true
 r:rgL i.2.2.2.1=true
 s:y=Zn_ (wI i.1) (xI i)++boA i.2.2.2.1++i.2.2.2.2.1
 l:(y.length:Int)<=65524
theorem ud_ {i:VIn}:gdI i=true ↔ kI i.1=true/\qI i.1 i.2.1 i.2.2.1=0/\(2<=nuI i.1\/i.2.2.1=0)/\(1<=nuI i.1\/i.2.1=0)/\(dI i.1=true\/i.2.2.2.1=[])/\(i.1=65535\/i.2.2.2.2.1=[])/\i.2.2.2.2.1.length % 8=0:=by
 unfold gdI
 simp only [Bool.and_eq_true,Bool.or_eq_true,decide_eq_true_eq,List.length_eq_zero_iff,and_assoc]
theorem Xe_ {i:VIn} {y:List Int}:bdO i=some y ↔ BdOk i y:=by
 constructor
 ·intro h
  unfold bdO at h
  split at h
  ·rename_i hg
   obtain ⟨g1,g2,g3,g4,g5,g6,g7⟩:=ud_.1 hg
   cases hy:byI i with
   | none=>rw [hy] at h;cases h
   | some z=>
     rw [hy] at h
     dsimp only at h
     split at h
     ·cases h
     ·rename_i hl
      cases h
      unfold byI at hy
      obtain ⟨p,q,w1,w2,w3⟩:=kp_ hy
      obtain ⟨p1,p2,w4,w5,w6⟩:=kp_ w1
      obtain ⟨k1,k2⟩:=x0_ w4
      obtain ⟨k3,k4⟩:=zfm_ w5
      cases w2
      exact ⟨g1,g2,g3,g4,g5,g6,g7,k1,k3,by rw [w3,w6,k2,k4],by omega⟩
  ·cases h
 ·rintro ⟨g1,g2,g3,g4,g5,g6,g7,g8,g9,rfl,g11⟩
  unfold bdO byI
  have e1:uL_ (wI i.1) (xI i)=some (Zn_ (wI i.1) (xI i)):=if_pos g8
  have e2:actO i.2.2.2.1=some (boA i.2.2.2.1):=if_pos g9
  rw [if_pos (ud_.2 ⟨g1,g2,g3,g4,g5,g6,g7⟩),e1,e2,Jv_,Jv_]
  dsimp only
  rw [if_neg (by omega)]
theorem zi6_:∀ {l:List AC},l.all rgA=true->(boA l).length % 8=0
 | [],_=>rfl
 | a :: r,h=>by
   rw [List.all_cons,Bool.and_eq_true] at h
   have h1:=(us_ h.1).2.2.2
   have h2:=zi6_ h.2
   rw [K4_,List.length_append];omega
theorem zi7_ {i:VIn} (ha:0<=i.2.1/\i.2.1<=18446744073709551615) (hb:0<=i.2.2.1/\i.2.2.1<=18446744073709551615):∀ z ∈ xI i,0<=z/\z<=18446744073709551615:=fun z hz=>by
 have:=List.mem_of_mem_take hz
 simp only [List.mem_cons,List.not_mem_nil,or_false] at this
 rcases this with rfl | rfl<;>assumption
theorem Ua_ {w xs:List Int} (h:ZX_ w xs=true):((Zn_ w xs).length:Int)=zG_ w:=KO_ h
theorem zdj_ {i:VIn} {y:List Int} (h:bdO i=some y):y.length % 8=4/\4<=y.length/\(y.length:Int)<=65524:=by
 have g:=Xe_.1 h
 have h1:=Ua_ g.p
 have h2:=zi6_ (Jb_ g.r).1
 have h3:=(b1_ g.k).1
 unfold sI at h3
 have hl:=g.l
 have hm:=g.m
 have hy:=congrArg List.length g.s
 rw [List.length_append,List.length_append] at hy
 omega
def enH (t:Int) (y:List Int):List Int:=ze_ t 2++ze_ (4+y.length) 2++y
theorem Ye_ (t:Int) (y:List Int):(enH t y).length=4+y.length:=by
 have l2:(ze_ t 2).length=2:=by have:=zk_ (n:=t) (w:=2) (by decide);omega
 have l3:(ze_ (4+y.length) 2).length=2:=by have:=zk_ (n:=4+(y.length:Int)) (w:=2) (by decide);omega
 unfold enH;simp only [List.length_append];omega
def bdY (i:VIn):List Int:=(bdO i).getD []
def enI (i:VIn):List Int:=enH i.1 (bdY i)
def itI (i:VIn):VIt:=(i.1,bdY i,())
def boI (l:List VIn):List Int:=l.flatMap enI
theorem gn_ (i:VIn) (r:List VIn):boI (i :: r)=enI i++boI r:=List.flatMap_cons
def snI (acc:List VIn) (t:Int):Bool:=acc.any fun i=>decide (i.1=t)
def dbI (acc:List VIn) (t:Int):Bool:=snI acc t && decide (¬ t=65535)
def gdL (acc:List VIn):List VIn->Bool
 | []=>true
 | i :: r=>(bdO i).isSome && !dbI acc i.1 && gdL (acc++[i]) r
theorem zgK_ {acc l:List VIn} {i:Nat} {d:VIn} (h:i < l.length):gdL acc (l.drop i)=((bdO (l.getD i d)).isSome && !dbI acc (l.getD i d).1 && gdL (acc++[l.getD i d]) (l.drop (i+1))):=by
 rw [zI_ h d];rfl
def rgI (l:List VIn):Bool:=gdL [] l && decide ((boI l).length<=65528)
def ieL (l:List VIn):List Int:=if rgI l=true then boI l else []
def ieE (l:List VIn):Int:=if rgI l=true then 0 else 10001
theorem go_ {i:VIn} {y:List Int} (h:bdO i=some y):bdY i=y:=by unfold bdY;rw [h];rfl
theorem uc_:∀ {l acc:List VIn},gdL acc l=true->∀ i ∈ l,(bdO i).isSome=true
 | i :: r,acc,h,j,hj=>by
   unfold gdL at h
   simp only [Bool.and_eq_true] at h
   rcases List.mem_cons.1 hj with rfl | hj
   ·exact h.1.1
   ·exact uc_ h.2 j hj
theorem zel_:∀ {l:List VIn},(∀ i ∈ l,(bdO i).isSome=true)->8*l.length<=(boI l).length/\(boI l).length % 8=0/\(boI l).length<=65528*l.length
 | [],_=>⟨Nat.le_refl _,rfl,Nat.le_refl _⟩
 | i :: r,h=>by
   obtain ⟨y,hy⟩:=Option.isSome_iff_exists.1 (h i (List.mem_cons_self ..))
   obtain ⟨i1,i2,i3⟩:=zel_ (l:=r) fun j hj=>h j (List.mem_cons_of_mem _ hj)
   obtain ⟨b1,b2,b3⟩:=zdj_ hy
   have e:=Ye_ i.1 (bdY i)
   rw [go_ hy] at e
   rw [gn_,List.length_append,List.length_cons]
   unfold enI;rw [go_ hy];omega
def o5N (t:Int) (x:List Int):List Int:=QR_ (wI t) x 0 0++[0,0]
def o5A (t:Int) (x:List Int):Int:=(o5N t x).getD 0 0
def o5B (t:Int) (x:List Int):Int:=(o5N t x).getD 1 0
def o5K (t:Int) (x:List Int):Bool:=decide (zZ_ (wI t) x=0) && (mI t || decide ((x.length:Int)<=sI t))
def o5R (t:Int) (x:List Int):List Int:=x.drop (sI t).toNat
def o5E (s:Bool) (t:Int) (x:List Int):Int:=if kI t=false then 769 else if s=true/\¬ t=65535 then 778 else if o5K t x=false then 776 else if t=65535 then 0 else if ¬ qI t (o5A t x) (o5B t x)=0 then qI t (o5A t x) (o5B t x) else adE (o5R t x)
def o5V (s:Bool) (t:Int) (x:List Int):VIn:=if kI t=false\/(s=true/\¬ t=65535) then (t,0,0,[],[],()) else (t,o5A t x,o5B t x,(if o5E s t x=0/\¬ t=65535 then adL (o5R t x) else []),(if o5K t x=true/\t=65535 then o5R t x else []),())
def inE (acc:List VIn) (y:List Int):Int:=if ¬ tlE y 8 8 776=0 then tlE y 8 8 776 else o5E (snI acc (tT y)) (tT y) (bd y)
def vI (acc:List VIn) (y:List Int):VIn:=o5V (snI acc (tT y)) (tT y) (bd y)
def inG (acc:List VIn) (y:List Int):List VIn × Int:=
 if y.length=0 then (acc,0) else if ¬ inE acc y=0 then ([],inE acc y) else inG (acc++[vI acc y]) (y.drop (max 1 (tN y).toNat))
termination_by y.length
decreasing_by all_goals (rw [List.length_drop];omega)
theorem x6_ {acc:List VIn} {y:List Int} (h:y.length=0):inG acc y=(acc,0):=by rw [inG,if_pos h]
theorem wj_ {acc:List VIn} {y:List Int} (h:¬ y.length=0) (h2:¬ inE acc y=0):inG acc y=([],inE acc y):=by rw [inG,if_neg h,if_pos h2]
theorem UY_ {acc:List VIn} {y:List Int} (h:¬ y.length=0) (h2:inE acc y=0) (hn:1<=tN y):inG acc y=inG (acc++[vI acc y]) (y.drop (tN y).toNat):=by
 rw [inG,if_neg h,if_neg (not_not_intro h2),show max 1 (tN y).toNat=(tN y).toNat by omega]
def idE (b:List Int):Int:=if ¬ (inG [] b).2=0 then (inG [] b).2 else if 65528 < b.length then 776 else 0
def idL (b:List Int):List VIn:=if idE b=0 then (inG [] b).1 else []
theorem Y6_ {b:List Int} {e:Int} (h:(inG [] b).2=e) (h0:¬ e=0):idL b=[]/\idE b=e:=by
 have:idE b=e:=by unfold idE;rw [h,if_pos h0]
 exact ⟨by unfold idL;rw [this,if_neg h0],this⟩
theorem bA_ {b:List Int} {acc:List VIn} (h:inG [] b=(acc,0)):(65528 < b.length->idL b=[]/\idE b=776)/\(¬ 65528 < b.length->idL b=acc/\idE b=0):=by
 have e:idE b=if 65528 < b.length then 776 else 0:=by unfold idE;rw [h];rfl
 constructor
 ·intro hl
  rw [if_pos hl] at e
  exact ⟨by unfold idL;rw [e];rfl,e⟩
 ·intro hl
  rw [if_neg hl] at e
  exact ⟨by unfold idL;rw [e,h];rfl,e⟩
theorem ur_ {b:List Int} {bad:Int} (hT:tlE b 8 8 bad=0) (hbad:bad ≠ 0):4<=b.length/\8<=tN b/\(tN b).tmod 8=0/\tN b<=b.length:=by
 unfold tlE at hT
 by_cases h1:b.length < 4
 ·rw [if_pos h1] at hT;exact absurd hT hbad
 ·rw [if_neg h1] at hT
  by_cases h2:tN b < 8\/¬ (tN b).tmod 8=0
  ·rw [if_pos h2] at hT;exact absurd hT hbad
  ·rw [if_neg h2] at hT
   by_cases h3:(b.length:Int) < tN b
   ·rw [if_pos h3] at hT;exact absurd hT hbad
   ·omega
theorem zgC_ {acc:List VIn} {b:List Int} (h0:inE acc b=0):tlE b 8 8 776=0/\o5E (snI acc (tT b)) (tT b) (bd b)=0:=by
 unfold inE at h0
 by_cases h:tlE b 8 8 776=0
 ·rw [if_neg (not_not_intro h)] at h0;exact ⟨h,h0⟩
 ·rw [if_pos h] at h0;exact absurd h0 h
theorem UX_ {acc:List VIn} {b:List Int} (h0:inE acc b=0):8<=tN b/\tN b<=b.length/\(tN b).tmod 8=0:=by
 obtain ⟨p1,p2,p3,p4⟩:=ur_ (zgC_ h0).1 (by decide)
 exact ⟨p2,p4,p3⟩
structure OkI (s:Bool) (t:Int) (x:List Int):Prop where
 k:kI t=true
 s:s=false\/t=65535
 o:o5K t x=true
 q:qI t (o5A t x) (o5B t x)=0
 a:t=65535\/adE (o5R t x)=0
theorem qI_x {a b:Int}:qI 65535 a b=0:=by unfold qI;rw [if_neg (by omega),if_neg (by omega)]
theorem zcu_ {s:Bool} {t:Int} {x:List Int}:o5E s t x=0 ↔ OkI s t x:=by
 unfold o5E
 constructor
 ·intro h
  cases hk:kI t with
  | false=>rw [if_pos hk] at h;cases h
  | true=>
    rw [if_neg (by rw [hk];decide)] at h
    by_cases hs:s=true/\¬ t=65535
    ·rw [if_pos hs] at h;cases h
    ·rw [if_neg hs] at h
     have hs':s=false\/t=65535:=by
      cases s with
      | false=>exact .inl rfl
      | true=>exact .inr (Decidable.of_not_not fun c=>hs ⟨rfl,c⟩)
     cases ho:o5K t x with
     | false=>rw [if_pos ho] at h;cases h
     | true=>
       rw [if_neg (by rw [ho];decide)] at h
       by_cases hx:t=65535
       ·subst hx;exact ⟨hk,.inr rfl,ho,qI_x,.inl rfl⟩
       ·rw [if_neg hx] at h
        by_cases hq:qI t (o5A t x) (o5B t x)=0
        ·rw [if_neg (not_not_intro hq)] at h
         exact ⟨hk,hs',ho,hq,.inr h⟩
        ·rw [if_pos hq] at h;exact absurd h hq
 ·rintro ⟨h1,h2,h3,h4,h5⟩
  have h2':¬ (s=true/\¬ t=65535):=by
   rintro ⟨c1,c2⟩
   rcases h2 with h2 | h2
   ·rw [h2] at c1;cases c1
   ·exact c2 h2
  rw [if_neg (by rw [h1];decide),if_neg h2',if_neg (by rw [h3];decide)]
  by_cases hx:t=65535
  ·rw [if_pos hx]
  ·rw [if_neg hx,if_neg (not_not_intro h4)]
   rcases h5 with h5 | h5
   ·exact absurd h5 hx
   ·exact h5
theorem ziT_ {s:Bool} {t:Int} {x:List Int} (h:OkI s t x):o5V s t x=(t,o5A t x,o5B t x,(if t=65535 then [] else adL (o5R t x)),(if t=65535 then o5R t x else []),()):=by
 have h0:=zcu_.2 h
 unfold o5V
 have h2:¬ (kI t=false\/(s=true/\¬ t=65535)):=by
  rintro (c | c)
  ·rw [h.k] at c;cases c
  ·rcases h.s with e | e
   ·rw [e] at c;cases c.1
   ·exact c.2 e
 rw [if_neg h2]
 by_cases hx:t=65535
 ·rw [if_neg (fun c=>c.2 hx),if_pos ⟨h.o,hx⟩,if_pos hx,if_pos hx]
 ·rw [if_pos ⟨h0,hx⟩,if_neg (fun c=>hx c.2),if_neg hx,if_neg hx]
structure wfI (i:VIn):Prop where
 a:0<=i.2.1/\i.2.1<=18446744073709551615
 b:0<=i.2.2.1/\i.2.2.1<=18446744073709551615
 c:∀ a ∈ i.2.2.2.1,bysU a
theorem zkW_ {t:Int} {body rest:List Int} (ht:0<=t/\t<=65535) (h8:4<=body.length) (hm:body.length % 8=4) (hN2:(body.length:Int)<=65524):
 tT (enH t body++rest)=t/\tN (enH t body++rest)=4+body.length/\tlE (enH t body++rest) 8 8 776=0/\bd (enH t body++rest)=body:=by
 obtain ⟨e1,e2,e3,e4⟩:=zaZ_ (t:=t) (N:=4+body.length) (body:=body) (rest:=rest) ht rfl (by omega) (by omega) (by omega)
 refine ⟨e1,e2,?_,e4⟩
 have e5:(4<=(enH t body++rest).length/\8<=tN (enH t body++rest)/\(tN (enH t body++rest)).tmod 8=0/\tN (enH t body++rest)<=(enH t body++rest).length):=ur_ (bad:=514) e3 (by decide)
 unfold tlE
 rw [if_neg (by omega),if_neg (by omega),if_neg (by omega)]
theorem zjS_ {i:VIn} {y rest:List Int} {acc:List VIn} (h:bdO i=some y) (hw:wfI i) (hs:dbI acc i.1=false):inE acc (enI i++rest)=0/\vI acc (enI i++rest)=i/\tN (enI i++rest)=(enI i).length:=by
 have g:=Xe_.1 h
 obtain ⟨b1,b2,b3⟩:=zdj_ h
 have hy:=go_ h
 obtain ⟨e1,e2,e3,e4⟩:=zkW_ (rest:=rest) (ziW_ g.k) b2 b1 b3
 have eI:enI i=enH i.1 y:=by unfold enI;rw [hy]
 rw [<- eI] at e1 e2 e3 e4
 obtain ⟨w1,w2,w3⟩:=b1_ g.k
 have hpz:=Ua_ g.p
 have gy:y=Zn_ (wI i.1) (xI i)++(boA i.2.2.2.1++i.2.2.2.2.1):=by rw [g.s,List.append_assoc]
 obtain ⟨f1,f2⟩:=YM_ (boA i.2.2.2.1++i.2.2.2.2.1) (zi7_ hw.a hw.b) g.p
 rw [<- gy] at f1
 have gL:zP_ (wI i.1) y=xI i:=congrArg Prod.fst f1
 have gK:zZ_ (wI i.1) y=0:=congrArg Prod.snd f1
 have hN:o5N i.1 y=xI i++[0,0]:=by
  unfold o5N QR_;rw [if_pos rfl,show (0:Int).toNat=0 from rfl,List.drop_zero,gL]
 obtain ⟨n1,n2⟩:=zi8_ ⟨w2,w3⟩ g.b g.a
 have hA:o5A i.1 y=i.2.1:=by unfold o5A;rw [hN];exact n1
 have hB:o5B i.1 y=i.2.2.1:=by unfold o5B;rw [hN];exact n2
 have hR:o5R i.1 y=boA i.2.2.2.1++i.2.2.2.2.1:=by
  unfold o5R sI;rw [gy];exact List.drop_left' (by omega)
 have hsI:snI acc i.1=false\/i.1=65535:=by
  unfold dbI at hs
  rcases Bool.and_eq_false_iff.1 hs with c | c
  ·exact .inl c
  ·exact .inr (Decidable.of_not_not (of_decide_eq_false c))
 have hO:OkI (snI acc i.1) i.1 y:=by
  refine ⟨g.k,hsI,?_,by rw [hA,hB];exact g.q,?_⟩
  ·unfold o5K
   rw [decide_eq_true gK,Bool.true_and,Bool.or_eq_true,decide_eq_true_eq]
   by_cases hx:i.1=65535
   ·left;unfold mI;rw [decide_eq_true hx];simp
   ·rcases g.d with d | d
    ·left;unfold mI;unfold dI at d;rw [d];rfl
    ·right
     rcases g.e with e | e
     ·exact absurd e hx
     ·have hyl:=congrArg List.length gy
      rw [d,e] at hyl
      simp only [List.length_append,List.length_nil] at hyl
      rw [show (boA ([]:List AC)).length=0 from rfl] at hyl
      unfold sI;omega
  ·by_cases hx:i.1=65535
   ·exact .inl hx
   ·rcases g.e with e | e
    ·exact absurd e hx
    ·right
     rw [hR,e,List.append_nil]
     exact (zhh_ g.r hw.c).2
 have hE:inE acc (enI i++rest)=0:=by
  unfold inE;rw [if_neg (not_not_intro e3),e1,e4];exact zcu_.2 hO
 refine ⟨hE,?_,?_⟩
 ·unfold vI;rw [e1,e4,ziT_ hO,hA,hB,hR]
  obtain ⟨t,a,b,ac,d,u⟩:=i
  refine Prod.ext rfl (Prod.ext rfl (Prod.ext rfl (Prod.ext ?_ (Prod.ext ?_ rfl))))
  ·show (if t=65535 then [] else adL (boA ac++d))=ac
   by_cases hx:t=65535
   ·rw [if_pos hx]
    rcases g.d with e | e
    ·exfalso;rw [show ((t,a,b,ac,d,u):VIn).1=t from rfl,hx] at e;exact absurd e (by decide)
    ·exact e.symm
   ·rw [if_neg hx]
    rcases g.e with e | e
    ·exact absurd e hx
    ·rw [show d=[] from e,List.append_nil];exact (zhh_ g.r hw.c).1
  ·show (if t=65535 then boA ac++d else [])=d
   by_cases hx:t=65535
   ·rw [if_pos hx]
    rcases g.d with e | e
    ·exfalso;rw [show ((t,a,b,ac,d,u):VIn).1=t from rfl,hx] at e;exact absurd e (by decide)
    ·rw [show ac=[] from e];rfl
   ·rw [if_neg hx]
    rcases g.e with e | e
    ·exact absurd e hx
    ·exact e.symm
 ·rw [e2,eI,Ye_];omega
theorem zd8_:∀ (r acc:List VIn),gdL acc r=true->(∀ i ∈ r,wfI i)->inG acc (boI r)=(acc++r,0)
 | [],acc,_,_=>by rw [x6_ (by rfl),List.append_nil]
 | i :: r,acc,h,hu=>by
   unfold gdL at h
   simp only [Bool.and_eq_true,Bool.not_eq_true'] at h
   obtain ⟨y,hy⟩:=Option.isSome_iff_exists.1 h.1.1
   obtain ⟨e1,e2,e3⟩:=zjS_ (rest:=boI r) hy (hu i (List.mem_cons_self ..)) h.1.2
   obtain ⟨g1,g2,_⟩:=UX_ e1
   rw [List.length_append] at g2
   rw [gn_,UY_ (by rw [List.length_append];omega) e1 (by omega),e2,e3,Int.toNat_natCast,List.drop_left,zd8_ r (acc++[i]) h.2 (fun j hj=>hu j (List.mem_cons_of_mem _ hj)),List.append_assoc];rfl
theorem zjX_ {l:List VIn} (h:rgI l=true) (hu:∀ i ∈ l,wfI i):idL (boI l)=l/\idE (boI l)=0:=by
 unfold rgI at h
 simp only [Bool.and_eq_true,decide_eq_true_eq] at h
 have hg:=zd8_ l [] h.1 hu
 rw [List.nil_append] at hg
 exact (bA_ hg).2 (by omega)
theorem zjl_ {w b:List Int} (hb:∀ x ∈ b,0<=x/\x<=255) (h:zZ_ w b=0):((zP_ w b).length:Int)=zB_ w:=by
 obtain ⟨p1,_,_⟩:=kw_ hb (show ZE_ w b=(zP_ w b,0) from Prod.ext rfl h)
 unfold ZX_ k2_ at p1
 split at p1
 ·rename_i hc;exact hc.2.symm
 ·cases p1
theorem zkl_:adL []=[]/\adE []=0:=(vn_ (Xf_ rfl)).2 (by decide)
theorem zjT_ {acc:List VIn} {b:List Int} (hb:∀ x ∈ b,0<=x/\x<=255) (h0:inE acc b=0):(bdO (vI acc b)).isSome=true/\dbI acc (vI acc b).1=false/\enI (vI acc b)=b.take (tN b).toNat:=by
 obtain ⟨hT,hO⟩:=zgC_ h0
 obtain ⟨c1,c2,c3,c4⟩:=ur_ hT (by decide)
 have hN0:0<=tN b/\tN b<=65535:=kO_ (a:=2) hb
 have hT0:0<=tT b/\tT b<=65535:=kO_ (a:=0) hb
 rw [Int.tmod_eq_emod_of_nonneg hN0.1] at c3
 have hbl:(bd b).length=(tN b).toNat - 4:=by unfold bd;rw [List.length_drop,List.length_take];omega
 have hbb:∀ x ∈ bd b,0<=x/\x<=255:=fun x hx=>hb x (List.mem_of_mem_take (List.mem_of_mem_drop hx))
 have b1:ze_ (tT b) 2=b.take 2:=qh_ 2 (b.take 2) (by decide) (by rw [List.length_take];omega) fun x hx=>hb x (List.mem_of_mem_take hx)
 have b2:ze_ (tN b) 2=(b.drop 2).take 2:=qh_ 2 ((b.drop 2).take 2) (by decide) (by rw [List.length_take,List.length_drop];omega) fun x hx=>hb x (List.mem_of_mem_drop (List.mem_of_mem_take hx))
 have hsplit:b.take (tN b).toNat=b.take 2++(b.drop 2).take 2++bd b:=by
  have e1:b.take 4=b.take 2++(b.drop 2).take 2:=by rw [<- List.take_add]
  rw [<- e1]
  unfold bd
  have e2:b.take 4=(b.take (tN b).toNat).take 4:=by rw [List.take_take,Nat.min_eq_left (by omega)]
  rw [e2,List.take_append_drop]
 have hen:enH (tT b) (bd b)=b.take (tN b).toNat:=by
  unfold enH;rw [hbl,show (4+(((tN b).toNat - 4:Nat):Int))=tN b by omega,b1,b2,hsplit]
 have g:=zcu_.1 hO
 have hv:vI acc b=(tT b,o5A (tT b) (bd b),o5B (tT b) (bd b),(if tT b=65535 then [] else adL (o5R (tT b) (bd b))),(if tT b=65535 then o5R (tT b) (bd b) else []),()):=ziT_ g
 have hk:=g.o
 unfold o5K at hk
 rw [Bool.and_eq_true,decide_eq_true_eq,Bool.or_eq_true,decide_eq_true_eq] at hk
 obtain ⟨p1,p2,p3⟩:=kw_ hbb (show ZE_ (wI (tT b)) (bd b)=(zP_ (wI (tT b)) (bd b),0) from Prod.ext rfl hk.1)
 have hcl:((zP_ (wI (tT b)) (bd b)).length:Int)=nuI (tT b):=(zjl_ hbb hk.1)
 obtain ⟨w1,w2,w3⟩:=b1_ g.k
 obtain ⟨n1,n2,n3⟩:=zkx_ ⟨w2,w3⟩ hcl
 have hN:o5N (tT b) (bd b)=zP_ (wI (tT b)) (bd b)++[0,0]:=by
  unfold o5N QR_;rw [if_pos rfl,show (0:Int).toNat=0 from rfl,List.drop_zero]
 have hx:xI (vI acc b)=zP_ (wI (tT b)) (bd b):=by
  unfold xI;rw [hv]
  show [o5A (tT b) (bd b),o5B (tT b) (bd b)].take (nuI (tT b)).toNat=_
  unfold o5A o5B;rw [hN];exact n1
 have hRb:∀ x ∈ o5R (tT b) (bd b),0<=x/\x<=255:=fun x hx=>hbb x (List.mem_of_mem_drop hx)
 have hRl:(o5R (tT b) (bd b)).length=(bd b).length - (sI (tT b)).toNat:=by unfold o5R;rw [List.length_drop]
 have hsum:(bd b)=Zn_ (wI (tT b)) (zP_ (wI (tT b)) (bd b))++o5R (tT b) (bd b):=by
  unfold o5R sI;rw [p2,List.take_append_drop]
 have key:BdOk (vI acc b) (bd b):=by
  by_cases h6:tT b=65535
  ·rw [if_pos h6,if_pos h6] at hv
   refine ⟨by rw [hv];exact g.k,by rw [hv];exact g.q,?_,?_,by rw [hv];exact .inr rfl,by rw [hv];exact .inl h6,?_,by rw [hx,hv];exact p1,by rw [hv];rfl,?_,by omega⟩
   ·rw [hv];show 2<=nuI (tT b)\/o5B (tT b) (bd b)=0
    unfold o5B;rw [hN];exact n2
   ·rw [hv];show 1<=nuI (tT b)\/o5A (tT b) (bd b)=0
    unfold o5A;rw [hN];exact n3
   ·rw [hv];show (o5R (tT b) (bd b)).length % 8=0
    have:sI (tT b)=4:=by rw [h6];decide
    omega
   ·rw [hx,hv];show bd b=Zn_ (wI (tT b)) _++boA []++o5R (tT b) (bd b)
    rw [show boA []=[] from rfl,List.append_nil];exact hsum
  ·rw [if_neg h6,if_neg h6] at hv
   have ha:adE (o5R (tT b) (bd b))=0:=by
    rcases g.a with c | c
    ·exact absurd c h6
    ·exact c
   obtain ⟨a1,a2,a3⟩:=zkm_ hRb ha
   refine ⟨by rw [hv];exact g.k,by rw [hv];exact g.q,?_,?_,?_,by rw [hv];exact .inr rfl,by rw [hv];rfl,by rw [hx,hv];exact p1,by rw [hv];exact a1,?_,by omega⟩
   ·rw [hv];show 2<=nuI (tT b)\/o5B (tT b) (bd b)=0
    unfold o5B;rw [hN];exact n2
   ·rw [hv];show 1<=nuI (tT b)\/o5A (tT b) (bd b)=0
    unfold o5A;rw [hN];exact n3
   ·rw [hv];show dI (tT b)=true\/adL (o5R (tT b) (bd b))=[]
    rcases hk.2 with c | c
    ·left
     unfold mI at c;rw [decide_eq_false h6,Bool.or_false] at c;exact c
    ·right
     have:o5R (tT b) (bd b)=[]:=List.eq_nil_of_length_eq_zero (by omega)
     rw [this];exact zkl_.1
   ·rw [hx,hv];show bd b=Zn_ (wI (tT b)) _++boA (adL (o5R (tT b) (bd b)))++[]
    rw [a2,List.append_nil];exact hsum
 have hb2:=Xe_.2 key
 refine ⟨by rw [hb2];rfl,?_,?_⟩
 ·rw [hv];show dbI acc (tT b)=false
  unfold dbI
  rcases g.s with e | e
  ·rw [e];rfl
  ·rw [decide_eq_false (not_not_intro e),Bool.and_false]
 ·unfold enI;rw [go_ hb2,hv];exact hen
theorem zd9_:∀ (n:Nat) (y:List Int) (acc l:List VIn),y.length<=n->(∀ x ∈ y,0<=x/\x<=255)->inG acc y=(l,0)->∃ r,l=acc++r/\gdL acc r=true/\boI r=y
 | 0,y,acc,l,hn,hb,h=>by
   rw [x6_ (by omega)] at h
   cases h
   refine ⟨[],by rw [List.append_nil],rfl,?_⟩
   rw [List.eq_nil_of_length_eq_zero (show y.length=0 by omega)];rfl
 | n+1,y,acc,l,hn,hb,h=>by
   by_cases h0:y.length=0
   ·rw [x6_ h0] at h
    cases h
    refine ⟨[],by rw [List.append_nil],rfl,?_⟩
    rw [List.eq_nil_of_length_eq_zero h0];rfl
   ·by_cases h2:inE acc y=0
    ·obtain ⟨g1,g2,_⟩:=UX_ h2
     rw [UY_ h0 h2 (by omega)] at h
     obtain ⟨r,e1,e2,e3⟩:=zd9_ n (y.drop (tN y).toNat) (acc++[vI acc y]) l (by rw [List.length_drop];omega) (fun x hx=>hb x (List.mem_of_mem_drop hx)) h
     obtain ⟨f1,f2,f3⟩:=zjT_ hb h2
     refine ⟨vI acc y :: r,?_,?_,?_⟩
     ·rw [e1,List.append_assoc];rfl
     ·unfold gdL;rw [f1,f2,e2];rfl
     ·rw [gn_,e3,f3,List.take_append_drop]
    ·rw [wj_ h0 h2] at h
     exact absurd (congrArg Prod.snd h) h2
theorem zjY_ {b:List Int} (hb:∀ x ∈ b,0<=x/\x<=255) (h:idE b=0):rgI (idL b)=true/\boI (idL b)=b/\b.length<=65528:=by
 have h1:(inG [] b).2=0:=Classical.byContradiction fun hn=>by
  unfold idE at h;rw [if_pos hn] at h;exact hn h
 have h2:¬ 65528 < b.length:=fun hl=>by
  unfold idE at h;rw [if_neg (not_not_intro h1),if_pos hl] at h;cases h
 have hL:idL b=(inG [] b).1:=if_pos h
 obtain ⟨r,e1,e2,e3⟩:=zd9_ b.length b [] (inG [] b).1 (Nat.le_refl _) hb (Prod.ext rfl h1)
 rw [List.nil_append] at e1
 rw [hL]
 rw [<- e1] at e2 e3
 refine ⟨?_,e3,by omega⟩
 unfold rgI;rw [e2,e3,Bool.true_and,decide_eq_true_eq];omega
end Go.Eng
