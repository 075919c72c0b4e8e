/- Parts of the proof: X1, X2, X3, M9, MA, X4, X5, P2, P3, P4, P5, P6. No condition. -/
import Derived.Test.YtiejmanmofemeaaGreatDoorProg
import Derived.Test.YtiejmanmofemeaaGreatDoorWB10
import Derived.KernelRfl
import Derived.Test.YtiejmanmofemeaaGreatDoorWB21
import Derived.Test.YtiejmanmofemeaaGreatDoorWB19
import Derived.Lib.BytesEntry
import Derived.Lib.Walk
import Derived.Laws.Externs
import Derived.Lib.Strings
import Derived.Lib.Slices
import Derived.Test.YtiejmanmofemeaaGreatDoorWB11
import Derived.Test.YtiejmanmofemeaaGreatDoorWB12
namespace Go.Eng
open Go.Proofs
set_option linter.unusedVariables false
set_option linter.unusedSimpArgs false
set_option maxRecDepth 100000
set_option maxHeartbeats 1000000
structure WrOk (room:Int) (f:List Int->Int->List Int × Int) (v:Option (List Int)):Prop where
 ok:∀ y,v=some y->∀ l:List Int,(l.length:Int)+y.length<=room->f l 0=(l++y,0)
 full:∀ y,v=some y->∀ l:List Int,(l.length:Int)<=room->¬ (l.length:Int)+y.length<=room->(f l 0).2 ≠ 0
 bad:v=none->∀ l:List Int,(f l 0).2 ≠ 0
 ne:∀ (l:List Int) (e:Int),e ≠ 0->(f l e).2 ≠ 0
def KP_ (a b:Option (List Int)):Option (List Int):=match a,b with | some x,some y=>some (x++y) | _,_=>none
theorem WrOk.seq {room:Int} {f g:List Int->Int->List Int × Int} {v w:Option (List Int)} (hf:WrOk room f v) (hg:WrOk room g w):WrOk room (fun l e=>g (f l e).1 (f l e).2) (KP_ v w):=by
 cases v with
 | none=>exact ⟨fun y h=>(by cases h),fun y h=>(by cases h),fun _ l=>hg.ne _ _ (hf.bad rfl l),fun l e h=>hg.ne _ _ (hf.ne l e h)⟩
 | some x=>
   cases w with
   | none=>
     refine ⟨fun y h=>(by cases h),fun y h=>(by cases h),fun _ l=>?_,fun l e h=>hg.ne _ _ (hf.ne l e h)⟩
     show (g (f l 0).1 (f l 0).2).2 ≠ 0
     by_cases h0:(f l 0).2=0
     ·rw [h0];exact hg.bad rfl _
     ·exact hg.ne _ _ h0
   | some z=>
     refine ⟨fun y h l hl=>?_,fun y h l h0 hl=>?_,fun h=>(by cases h),fun l e h=>hg.ne _ _ (hf.ne l e h)⟩
     ·cases h
      rw [List.length_append] at hl
      show g (f l 0).1 (f l 0).2=_
      rw [hf.ok x rfl l (by omega)]
      show g (l++x) 0=_
      rw [hg.ok z rfl _ (by rw [List.length_append];omega),List.append_assoc]
     ·cases h
      rw [List.length_append] at hl
      show (g (f l 0).1 (f l 0).2).2 ≠ 0
      by_cases c:(l.length:Int)+x.length<=room
      ·rw [hf.ok x rfl l c]
       exact hg.full z rfl _ (by rw [List.length_append];omega) (by rw [List.length_append];omega)
      ·exact hg.ne _ _ (hf.full x rfl l h0 c)
theorem WrOk.fin {room:Int} {f:List Int->Int->List Int × Int} {v:Option (List Int)} (h:WrOk room f v) (h0:0<=room):(∀ y,v=some y->(y.length:Int)<=room->f [] 0=(y,0))/\((∀ y,v=some y->room < (y.length:Int))->(f [] 0).2 ≠ 0):=by
 refine ⟨fun y e hl=>h.ok y e [] (by simpa using hl),fun hy=>?_⟩
 cases v with
 | none=>exact h.bad rfl []
 | some y=>have:=hy y rfl;exact h.full y rfl [] (by simpa using h0) (by simp;omega)
theorem BE_ (room:Int) (x:List Int):WrOk room (fun l e=>(kb_ x l room e,QT_ x l room e)) (some x):=
 ⟨fun y h l hl=>by cases h;obtain ⟨a,b⟩:=KC_ (x:=x) (l:=l) (room:=room) (by omega);rw [a,b],fun y h l _ hl=>by cases h;exact xB_ (by omega),fun h=>(by cases h),fun l e h=>wp_ h⟩
def kz_ (w xs:List Int):Option (List Int):=if ZM_ w xs=true then some (Zm_ w xs) else none
theorem hY_ (room:Int) (w xs:List Int):WrOk room (fun l e=>(QS_ w xs l room e,Qi_ w xs l room e)) (kz_ w xs):=by
 unfold kz_
 by_cases hk:ZM_ w xs=true
 ·have h:=BE_ room (Zm_ w xs)
  rw [if_pos hk]
  unfold QS_ Qi_
  simp only [if_pos hk]
  exact h
 ·rw [if_neg hk]
  unfold QS_ Qi_
  simp only [if_neg hk]
  exact ⟨fun y h=>(by cases h),fun y h=>(by cases h),fun _ l=>by show (10001:Int) ≠ 0;decide,fun l e h=>QL_ h⟩
theorem HZ_ {room:Int}:∀ (r:List OV) (l:List Int) (e:Int),e ≠ 0->(puS room r l e).2 ≠ 0
 | [],l,e,h=>h
 | o :: r,l,e,h=>by unfold puS;exact HZ_ r _ _ (wp_ (QL_ h))
theorem zay_ {room:Int}:∀ (r:List OV) (l:List Int),r.all rgO=true->(l.length:Int)<=room->¬ ((l.length:Int)+(boO r).length<=room)->(puS room r l 0).2 ≠ 0
 | [],l,_,h0,h1=>by exfalso;apply h1;show (l.length:Int)+0<=room;omega
 | o :: r,l,h,h0,h1=>by
   rw [List.all_cons,Bool.and_eq_true] at h
   obtain ⟨_,h2,h3,_⟩:=x2_ h.1
   rw [show boO (o :: r)=ecO o++boO r from List.flatMap_cons,List.length_append] at h1
   have f0:zs_ 0 0=0:=rfl
   unfold puS
   rw [h2,h3,f0]
   by_cases hf:((ecO o).length:Int)<=room - l.length
   ·obtain ⟨b1,b2⟩:=KC_ hf
    rw [b1,b2]
    exact zay_ r _ h.2 (by rw [List.length_append];omega) (by rw [List.length_append];omega)
   ·exact HZ_ _ _ _ (xB_ hf)
def bF_ (x:List OV):Option (List Int):=if rgM x=true then some (meB x) else none
theorem zgn_ (room:Int) (x:List OV):WrOk room (fun l e=>(mpB x l room e,mpE x l room e)) (bF_ x):=by
 unfold bF_
 cases hr:rgM x with
 | false=>
   rw [if_neg (by decide)]
   refine ⟨fun y h=>(by cases h),fun y h=>(by cases h),fun _ l=>?_,fun l e h=>?_⟩
   ·show mpE x l room 0 ≠ 0;rw [(zg3_ hr).2];decide
   ·show mpE x l room e ≠ 0;rw [(zg3_ hr).2];exact QL_ h
 | true=>
   rw [if_pos rfl]
   obtain ⟨p1,_,_,p4,p5⟩:=kB_ hr
   have hlen:=bD_ x (by omega)
   refine ⟨fun y h l hl=>?_,fun y h l h0 hl=>?_,fun h=>(by cases h),fun l e h=>?_⟩
   ·cases h
    obtain ⟨a,b⟩:=zlt_ (l:=l) (room:=room) hr (by omega)
    show (mpB x l room 0,mpE x l room 0)=_;rw [a,b]
   ·cases h
    show mpE x l room 0 ≠ 0
    have hN:meN x=4+((boO x).length:Int):=rfl
    have hL:Z3_ x=meN x:=(kB_ hr).2.2.1
    unfold mpE mpS
    rw [if_pos hr]
    by_cases c1:(4:Int)<=room - l.length
    ·have hk:ZM_ [2,2] [1,Z3_ x]=true:=by
      rw [hL];exact (BT_ (a:=1) (n:=meN x) (by omega) (by omega)).2
     have hs:=Jd_ hk
     rw [show zE_ [2,2]=4 by decide] at hs
     have r1:QS_ [2,2] [1,Z3_ x] l room 0=l++Zm_ [2,2] [1,Z3_ x]/\Qi_ [2,2] [1,Z3_ x] l room 0=0:=by
      unfold QS_ Qi_;rw [if_pos hk,if_pos hk];exact KC_ (by omega)
     rw [r1.1,r1.2]
     by_cases c2:((l++Zm_ [2,2] [1,Z3_ x]).length:Int)+(boO x).length<=room
     ·rw [zdc_ x _ p1 c2]
      refine xB_ ?_
      unfold mpZ
      rw [List.length_replicate,hL,List.length_append,List.length_append]
      rw [List.length_append] at c2
      rw [hL] at hs
      have:=XO_ (n:=meN x) (by omega)
      omega
     ·exact wp_ (zay_ x _ p1 (by rw [List.length_append];omega) c2)
    ·have hk:ZM_ [2,2] [1,Z3_ x]=true:=by
      rw [hL];exact (BT_ (a:=1) (n:=meN x) (by omega) (by omega)).2
     have hs:=Jd_ hk
     rw [show zE_ [2,2]=4 by decide] at hs
     refine wp_ (HZ_ _ _ _ ?_)
     unfold Qi_;rw [if_pos hk];exact xB_ (by omega)
   ·show mpE x l room e ≠ 0
    unfold mpE mpS;rw [if_pos hr]
    exact wp_ (HZ_ _ _ _ (zis_ h))
def Bw_ (x:List AC):Option (List Int):=if rgL x=true then some (boA x) else none
theorem zih_ (room:Int) (x:List AC):WrOk room (fun l e=>(apB x l room e,apE x l room e)) (Bw_ x):=by
 unfold Bw_
 cases hr:rgL x with
 | false=>
   rw [if_neg (by decide)]
   refine ⟨fun y h=>(by cases h),fun y h=>(by cases h),fun _ l=>?_,fun l e h=>?_⟩
   ·show apE x l room 0 ≠ 0;rw [(zh2_ hr).2];decide
   ·show apE x l room e ≠ 0;rw [(zh2_ hr).2];exact QL_ h
 | true=>
   rw [if_pos rfl]
   refine ⟨fun y h l hl=>?_,fun y h l h0 hl=>?_,fun h=>(by cases h),fun l e h=>zkU_ h⟩
   ·cases h
    obtain ⟨a,b⟩:=zlM_ (l:=l) hr hl
    show (apB x l room 0,apE x l room 0)=_;rw [a,b]
   ·cases h
    show apE x l room 0 ≠ 0
    unfold apE;rw [if_pos hr]
    exact BG_ _ _ (qg_ hr).1 h0 hl
theorem zk7_ (room:Int) (B:List Int->Int->List Int):WrOk room (fun l e=>(B l e,zs_ e 10001)) none:=
 ⟨fun y h=>(by cases h),fun y h=>(by cases h),fun _ l=>(by decide:(10001:Int) ≠ 0),fun l e h=>QL_ h⟩
theorem x1_ {w n y:List Int} (h:kz_ w n=some y):ZM_ w n=true/\Zm_ w n=y:=by
 unfold kz_ at h;split at h
 ·cases h;exact ⟨by assumption,rfl⟩
 ·cases h
theorem j2_ {a b:Option (List Int)} {y:List Int} (h:KP_ a b=some y):∃ p q,a=some p/\b=some q/\y=p++q:=by
 cases a with
 | none=>cases h
 | some p=>cases b with
   | none=>cases h
   | some q=>cases h;exact ⟨p,q,rfl,rfl,rfl⟩
theorem yM_ {a b:List Int}:KP_ (some a) (some b)=some (a++b):=rfl
theorem zfj_ {x:List AC} {l:List Int} {room e:Int} (h:l.length<=1000000) (hr:room<=1000000):(apB x l room e).length<=1000000:=by
 unfold apB;split
 ·exact zeA_ hr _ _ _ h
 ·exact h
def w10:List Int:=[4,2,1,1,8]
def nz3 (n:List Int) (i:Nat):Int:=(n++[0,0,0]).getD i 0
def Zy_ (n d:List Int):Bool:=decide (2 < nz3 n 2) || decide (nz3 n 1 < (d.length:Int))
def Zr_ (n d:List Int):Bool:=decide (nz3 n 1=0) || (decide (¬ nz3 n 0=4294967295) && decide (0 < d.length))
def p10B (n:List Int) (x:List OV) (l:List Int) (e:Int):List Int:=QS_ [-2] [] (mpB x (QS_ w10 n l 65527 e) 65527 (Qi_ w10 n l 65527 e)) 65527 (mpE x (QS_ w10 n l 65527 e) 65527 (Qi_ w10 n l 65527 e))
def p10E (n:List Int) (x:List OV) (l:List Int) (e:Int):Int:=Qi_ [-2] [] (mpB x (QS_ w10 n l 65527 e) 65527 (Qi_ w10 n l 65527 e)) 65527 (mpE x (QS_ w10 n l 65527 e) 65527 (Qi_ w10 n l 65527 e))
def r13B (n:List Int) (a:List AC) (l:List Int) (e:Int):List Int:=QS_ [2,-6] [szL a] (QS_ [4,4] n l 65527 e) 65527 (Qi_ [4,4] n l 65527 e)
def r13E (n:List Int) (a:List AC) (l:List Int) (e:Int):Int:=Qi_ [2,-6] [szL a] (QS_ [4,4] n l 65527 e) 65527 (Qi_ [4,4] n l 65527 e)
def p13B (n:List Int) (a:List AC) (l:List Int) (e:Int):List Int:=apB a (r13B n a l e) 65527 (r13E n a l e)
def p13E (n:List Int) (a:List AC) (l:List Int) (e:Int):Int:=apE a (r13B n a l e) 65527 (r13E n a l e)
def pkB (t:Int) (n d:List Int) (x:List OV) (a:List AC) (l:List Int) (e:Int):List Int:=if t=10 then (if Zy_ n d=true then l else p10B n x l e) else if t=13 then (if Zr_ n d=true then l else p13B n a l e) else l
def pkE (t:Int) (n d:List Int) (x:List OV) (a:List AC) (l:List Int) (e:Int):Int:=if t=10 then (if Zy_ n d=true then zs_ e 10001 else p10E n x l e) else if t=13 then (if Zr_ n d=true then zs_ e 10001 else p13E n a l e) else zs_ e 10001
def vO10 (n:List Int) (x:List OV):Option (List Int):=KP_ (KP_ (kz_ w10 n) (bF_ x)) (kz_ [-2] [])
def vO13 (n:List Int) (a:List AC):Option (List Int):=KP_ (KP_ (kz_ [4,4] n) (kz_ [2,-6] [szL a])) (Bw_ a)
def Qf_ (t:Int) (n d:List Int) (x:List OV) (a:List AC):Option (List Int):=if t=10 then (if Zy_ n d=true then none else vO10 n x) else if t=13 then (if Zr_ n d=true then none else vO13 n a) else none
theorem zk8_ (t:Int) (n d:List Int) (x:List OV) (a:List AC):WrOk 65527 (fun l e=>(kb_ d (pkB t n d x a l e) 65527 (pkE t n d x a l e),QT_ d (pkB t n d x a l e) 65527 (pkE t n d x a l e))) (KP_ (Qf_ t n d x a) (some d)):=by
 refine WrOk.seq (f:=fun l e=>(pkB t n d x a l e,pkE t n d x a l e)) (v:=Qf_ t n d x a) ?_ (BE_ 65527 d)
 have hno:=zk7_ 65527 fun l _=>l
 unfold pkB pkE Qf_
 by_cases h10:t=10
 ·simp only [if_pos h10]
  cases hb:Zy_ n d with
  | true=>exact hno
  | false=>exact ((hY_ 65527 w10 n).seq (zgn_ 65527 x)).seq (hY_ 65527 [-2] [])
 ·simp only [if_neg h10]
  by_cases h13:t=13
  ·simp only [if_pos h13]
   cases hb:Zr_ n d with
   | true=>exact hno
   | false=>exact ((hY_ 65527 [4,4] n).seq (hY_ 65527 [2,-6] [szL a])).seq (zih_ 65527 a)
  ·simp only [if_neg h13];exact hno
def kt_ (m:VMs):Bool:=decide (m.2.2.1.length=0) && decide (m.2.2.2.1.length=0) && decide (m.2.2.2.2.1.length=0) && decide (m.2.2.2.2.2.1.length=0) && decide (m.2.2.2.2.2.2.1.length=0) && decide (m.2.2.2.2.2.2.2.1.length=0) && decide (m.2.2.2.2.2.2.2.2.1.length=0) && decide (m.2.2.2.2.2.2.2.2.2.1.length=0) && decide (m.2.2.2.2.2.2.2.2.2.2.1.length=0) && decide (m.2.2.2.2.2.2.2.2.2.2.2.1.length=0) && decide (m.2.2.2.2.2.2.2.2.2.2.2.2.1=0) && decide (m.2.2.2.2.2.2.2.2.2.2.2.2.2.1=0) && decide (m.2.2.2.2.2.2.2.2.2.2.2.2.2.2.1.length=0)
theorem zjh_ {m:VMs}:kt_ m=true ↔ m=(m.1,m.2.1,[],[],[],[],[],[],[],[],[],[],0,0,[],()):=by
 obtain ⟨a0,a1,a2,a3,a4,a5,a6,a7,a8,a9,a10,a11,a12,a13,a14,_⟩:=m
 unfold kt_
 simp only [Bool.and_eq_true,decide_eq_true_eq,List.length_eq_zero_iff,Prod.mk.injEq,true_and,and_true,and_assoc]
abbrev mT (m:VMs):=m.1
abbrev mN (m:VMs):=m.2.2.1
abbrev mD (m:VMs):=m.2.2.2.1
abbrev mX (m:VMs):=m.2.2.2.2.2.1
abbrev mA (m:VMs):=m.2.2.2.2.2.2.1
def XP_ (b10 b13:Bool) (m:VMs):VMs:=(m.1,m.2.1,[],[],m.2.2.2.2.1,(if b10=true then [] else mX m),(if b13=true then [] else mA m),m.2.2.2.2.2.2.2)
def wrR (m:VMs):List Int × Int:=match KP_ (Qf_ (mT m) (mN m) (mD m) (mX m) (mA m)) (some (mD m)) with
 | some y=>if kt_ (XP_ (decide (mT m=10)) (decide (mT m=13)) m)=true then (if (65527:Int) < y.length then ([],10001) else (y,0)) else ([],10001)
 | none=>([],10001)
def hC_ (m:VMs):List Int × Int:=(kb_ (mD m) (pkB (mT m) (mN m) (mD m) (mX m) (mA m) [] 0) 65527 (pkE (mT m) (mN m) (mD m) (mX m) (mA m) [] 0),QT_ (mD m) (pkB (mT m) (mN m) (mD m) (mX m) (mA m) [] 0) 65527 (pkE (mT m) (mN m) (mD m) (mX m) (mA m) [] 0))
theorem zig_ (m:VMs):(((hC_ m).2=0/\kt_ (XP_ (decide (mT m=10) && !Zy_ (mN m) (mD m)) (decide (mT m=13) && !Zr_ (mN m) (mD m)) m)=true)->wrR m=((hC_ m).1,0))/\(¬ ((hC_ m).2=0/\kt_ (XP_ (decide (mT m=10) && !Zy_ (mN m) (mD m)) (decide (mT m=13) && !Zr_ (mN m) (mD m)) m)=true)->wrR m=([],10001)):=by
 obtain ⟨f1,f2⟩:=(zk8_ (mT m) (mN m) (mD m) (mX m) (mA m)).fin (by decide)
 unfold wrR
 cases hv:KP_ (Qf_ (mT m) (mN m) (mD m) (mX m) (mA m)) (some (mD m)) with
 | none=>
   have h:(hC_ m).2 ≠ 0:=f2 fun y e=>by rw [hv] at e;cases e
   exact ⟨fun k=>absurd k.1 h,fun _=>rfl⟩
 | some y=>
   have hb10:(decide (mT m=10) && !Zy_ (mN m) (mD m))=decide (mT m=10):=by
    cases hb:Zy_ (mN m) (mD m) with
    | false=>simp
    | true=>
      by_cases h:mT m=10
      ·exfalso;unfold Qf_ at hv;rw [if_pos h,hb] at hv;cases hv
      ·rw [decide_eq_false h];rfl
   have hb13:(decide (mT m=13) && !Zr_ (mN m) (mD m))=decide (mT m=13):=by
    cases hb:Zr_ (mN m) (mD m) with
    | false=>simp
    | true=>
      by_cases h:mT m=13
      ·exfalso;unfold Qf_ at hv;rw [if_neg (by rw [h];decide),if_pos h,hb] at hv;cases hv
      ·rw [decide_eq_false h];rfl
   rw [hb10,hb13]
   dsimp only
   by_cases hl:(65527:Int) < y.length
   ·have h:(hC_ m).2 ≠ 0:=f2 fun y' e=>by rw [hv] at e;cases e;exact hl
    refine ⟨fun k=>absurd k.1 h,fun _=>?_⟩
    split<;>simp [hl]
   ·have h:hC_ m=(y,0):=f1 y hv (by omega)
    rw [h]
    constructor
    ·intro k;rw [if_pos k.2,if_neg hl]
    ·intro k;rw [if_neg fun q=>k ⟨rfl,q⟩]
theorem rowN {w b:List Int} (hb:∀ x ∈ b,0<=x/\x<=255) (h:zI_ w b=0):((zC_ w b).length:Int)=zq_ w/\zE_ w<=b.length:=by
 obtain ⟨p1,p2,p3⟩:=kD_ hb (show Zh_ w b=(zC_ w b,0) from Prod.ext rfl h)
 unfold ZM_ Q2_ at p1
 split at p1
 ·rename_i hc;exact ⟨hc.2.symm,p3⟩
 ·cases p1
theorem ze7_ (b:List Int):zI_ [-2] b=if b.length < 2 then 1 else if zX_ (b.take 2)=true then 0 else 2:=by
 have hr:zP_ [-2]=true:=by decide
 unfold zI_ Zh_
 rw [if_pos hr]
 have a2:zp_ (-2)=2:=by decide
 have t2:Int.toNat 2=2:=rfl
 have p2:¬ (0:Int) < -2:=by decide
 simp only [Zq_,a2,t2,if_neg p2]
 by_cases h:b.length < 2
 ·rw [if_pos h,if_pos (by omega)]
 ·rw [if_neg h,if_neg (by omega)]
  split<;>rfl
theorem zbX_:∀ (w b o:List Int),(∀ n ∈ w,0 < n)->(Zq_ w b o).2 ≠ 2
 | [],b,o,_=>by unfold Zq_;exact (by decide:(0:Int) ≠ 2)
 | n :: r,b,o,h=>by
   unfold Zq_
   split
   ·exact (by decide:(1:Int) ≠ 2)
   ·rw [if_pos (h n (List.mem_cons_self ..))]
    exact zbX_ r _ _ fun k hk=>h k (List.mem_cons_of_mem _ hk)
theorem zkB_ (b:List Int):zI_ w10 b ≠ 2:=by
 unfold zI_ Zh_
 rw [if_pos (by decide)]
 exact zbX_ _ _ _ (by decide)
def w13:List Int:=[4,4,2,-6]
theorem zhy_ {y:List Int} (h:16<=y.length):Zh_ w13 y=if zX_ ((y.drop 10).take 6)=true then ([z8_ (y.take 4),z8_ ((y.drop 4).take 4),z8_ ((y.drop 8).take 2)],0) else ([],2):=by
 have hr:zP_ w13=true:=by decide
 unfold Zh_
 rw [if_pos hr]
 have a4:zp_ 4=4:=by decide
 have a2:zp_ 2=2:=by decide
 have a6:zp_ (-6)=6:=by decide
 have t4:Int.toNat 4=4:=rfl
 have t2:Int.toNat 2=2:=rfl
 have t6:Int.toNat 6=6:=rfl
 have p4:(0:Int) < 4:=by decide
 have p2:(0:Int) < 2:=by decide
 have p6:¬ (0:Int) < -6:=by decide
 unfold w13
 simp only [Zq_,a4,a2,a6,List.length_drop,t4,t2,t6,if_pos p4,if_pos p2,if_neg p6,List.drop_drop]
 rw [if_neg (by omega),if_neg (by omega),if_neg (by omega),if_neg (by omega)]
 rfl
def m13 (b:List Int):Int:=(zC_ w13 b).getD 2 0
theorem bH_ {b:List Int} (hb:∀ x ∈ b,0<=x/\x<=255):0<=m13 b/\m13 b<=65535:=by
 unfold m13
 by_cases hk:zI_ w13 b=0
 ·have hs:=(rowN hb hk).2
  rw [show zE_ w13=16 by decide] at hs
  have hg:=zhy_ (y:=b) (by omega)
  have hq:=x4_ ((b.drop 8).take 2) fun x hx=>hb x (List.mem_of_mem_drop (List.mem_of_mem_take hx))
  have hl:((b.drop 8).take 2).length=2:=by rw [List.length_take,List.length_drop];omega
  rw [hl] at hq
  unfold zC_;rw [hg]
  split
  ·show 0<=z8_ ((b.drop 8).take 2)/\z8_ ((b.drop 8).take 2)<=65535
   omega
  ·exact ⟨by decide,by decide⟩
 ·rw [UQ_ hk];exact ⟨by decide,by decide⟩
def r10 (b:List Int):List Int:=b.drop (16+(mdN (b.drop 16)).toNat)
def e10 (b:List Int):Int:=if zI_ w10 b ≠ 0 then 263 else if 2 < (zC_ w10 b).getD 2 0 then 269 else if mdE (b.drop 16) ≠ 0 then mdE (b.drop 16) else if (r10 b).length < 2 then 263 else if zX_ ((r10 b).take 2)=false\/(zC_ w10 b).getD 1 0 < ((r10 b).length:Int) - 2 then 269 else 0
def e13 (b:List Int):Int:=if zI_ w13 b=1 then 263 else if zI_ w13 b=2 then 269 else if (zC_ w13 b).getD 1 0=0 then 268 else if (b.length:Int) < 16+m13 b then 263 else if adE ((b.drop 16).take (m13 b).toNat) ≠ 0 then adE ((b.drop 16).take (m13 b).toNat) else if ¬ (zC_ w13 b).getD 0 0=4294967295/\16+m13 b < b.length then 269 else 0
def v10 (b:List Int):VMs:=(10,0,zC_ w10 b,(r10 b).drop 2,[],mdL (b.drop 16),[],[],[],[],[],[],0,0,[],())
def v13 (b:List Int):VMs:=(13,0,(zC_ w13 b).take 2,b.drop (16+(m13 b).toNat),[],[],adL ((b.drop 16).take (m13 b).toNat),[],[],[],[],[],0,0,[],())
def zMs:VMs:=(0,0,[],[],[],[],[],[],[],[],[],[],0,0,[],())
def jM_ (t:Int) (b:List Int):Int:=if t=10 then (if e10 b=0/\(65527:Int) < b.length then 263 else e10 b) else if t=13 then (if e13 b=0/\(65527:Int) < b.length then 263 else e13 b) else 10001
def Z0_ (t:Int) (b:List Int):VMs:=if jM_ t b=0 then (if t=10 then v10 b else v13 b) else zMs
def i1L (b:List Int):List Int:=Qy_ w10 b 0 0++[0,0,0,0,0]
def i2E (b:List Int):Int:=if 2 < (i1L b).getD 2 0 then zs_ (Z6_ w10 b 0 263 269 0) 269 else Z6_ w10 b 0 263 269 0
def i3P (b:List Int):Int:=mtP b (qK_ w10 b 0 0) (i2E b)
def i3E (b:List Int):Int:=mtE b (qK_ w10 b 0 0) (i2E b)
def i4P (b:List Int):Int:=qK_ [-2] b (i3P b) (i3E b)
def i4E (b:List Int):Int:=Z6_ [-2] b (i3P b) 263 269 (i3E b)
def iD (b:List Int):List Int:=if i4E b=0 then b.drop (i4P b).toNat else []
def i5P (b:List Int):Int:=if i4E b=0 then (b.length:Int) else i4P b
def i5E (b:List Int):Int:=if (i1L b).getD 1 0 < ((iD b).length:Int) then zs_ (i4E b) 269 else i4E b
def iX (b:List Int):List OV:=mtL b (qK_ w10 b 0 0) (i2E b)
def o1L (b:List Int):List Int:=Qy_ w13 b 0 0++[0,0,0]
def o2E (b:List Int):Int:=if (o1L b).getD 1 0=0 then zs_ (Z6_ w13 b 0 263 269 0) 268 else Z6_ w13 b 0 263 269 0
def o3P (b:List Int):Int:=QG_ ((o1L b).getD 2 0) b (qK_ w13 b 0 0) 263 (o2E b)
def o3E (b:List Int):Int:=atE ((o1L b).getD 2 0) b (qK_ w13 b 0 0) 263 (o2E b)
def uA (b:List Int):List AC:=atL ((o1L b).getD 2 0) b (qK_ w13 b 0 0) 263 (o2E b)
def uD (b:List Int):List Int:=if o3E b=0 then b.drop (o3P b).toNat else []
def o4P (b:List Int):Int:=if o3E b=0 then (b.length:Int) else o3P b
def o5E (b:List Int):Int:=if ¬ (o1L b).getD 0 0=4294967295/\0 < ((uD b).length:Int) then zs_ (o3E b) 269 else o3E b
theorem Jh_ {e x:Int} (h:e ≠ 0):zs_ e x=e:=by unfold zs_;rw [if_neg h]
theorem Bm_ {w b:List Int} {p sh od e:Int} (h:e ≠ 0):Z6_ w b p sh od e=e:=by unfold Z6_;rw [if_neg h]
theorem Ze_ {l r:List Int} {i:Nat} (h:i < l.length):(l++r).getD i 0=l.getD i 0:=by
 simp only [List.getD_eq_getElem?_getD,List.getElem?_append_left h]
theorem zlx_ {b:List Int} (hb:∀ x ∈ b,0<=x/\x<=255):i5E b=e10 b/\(e10 b=0->(i1L b).take 5=zC_ w10 b/\iD b=(r10 b).drop 2/\iX b=mdL (b.drop 16)):=by
 by_cases hk:zI_ w10 b=0
 ·obtain ⟨n1,n2⟩:=rowN hb hk
  rw [show zq_ w10=5 by decide] at n1
  rw [show zE_ w10=16 by decide] at n2
  have n1':(zC_ w10 b).length=5:=by omega
  have c1:Z6_ w10 b 0 263 269 0=0:=by unfold Z6_;rw [if_pos rfl];show (if zI_ w10 b=1 then (263:Int) else if zI_ w10 b=2 then 269 else 0)=0;rw [hk];rfl
  have c2:qK_ w10 b 0 0=16:=by unfold qK_;rw [if_pos rfl];show (if zI_ w10 b=1 then (0:Int) else if zI_ w10 b=2 then 0 else 0+zE_ w10)=16;rw [hk];decide
  have c3:i1L b=zC_ w10 b++[0,0,0,0,0]:=rfl
  have g2:(i1L b).getD 2 0=(zC_ w10 b).getD 2 0:=by rw [c3,Ze_ (by omega)]
  have g1:(i1L b).getD 1 0=(zC_ w10 b).getD 1 0:=by rw [c3,Ze_ (by omega)]
  have t5:(i1L b).take 5=zC_ w10 b:=by rw [c3,<- n1',List.take_left]
  unfold e10
  rw [if_neg (not_not_intro hk)]
  by_cases h2:2 < (zC_ w10 b).getD 2 0
  ·have e2:i2E b=269:=by unfold i2E;rw [g2,if_pos h2,c1];rfl
   have e3:i3E b=269:=by unfold i3E mtE;rw [e2];rfl
   have e4:i4E b=269:=by unfold i4E;rw [e3];exact Bm_ (by decide)
   rw [if_pos h2]
   refine ⟨?_,fun h=>by cases h⟩
   unfold i5E;rw [e4];split<;>rfl
  ·have e2:i2E b=0:=by unfold i2E;rw [g2,if_neg h2,c1]
   have e3:i3E b=mdE (b.drop 16):=by unfold i3E mtE;rw [e2,if_pos rfl,c2];rfl
   have p3:i3P b=16+mdN (b.drop 16):=by unfold i3P mtP;rw [e2,if_pos rfl,c2];rfl
   have x3:iX b=mdL (b.drop 16):=by unfold iX mtL;rw [e2,if_pos rfl,c2];rfl
   rw [if_neg h2]
   by_cases h3:mdE (b.drop 16)=0
   ·have hN:=zdK_ (b.drop 16) fun x hx=>hb x (List.mem_of_mem_drop hx)
    rw [List.length_drop] at hN
    have d3:b.drop (i3P b).toNat=r10 b:=by rw [p3];unfold r10;congr 1;omega
    have hlen:((r10 b).length:Int)=b.length - (16+mdN (b.drop 16)):=by unfold r10;rw [List.length_drop];omega
    rw [if_neg (not_not_intro h3)]
    rw [h3] at e3
    by_cases h4:(r10 b).length < 2
    ·have e4:i4E b=263:=by
      unfold i4E Z6_;rw [e3,if_pos rfl,d3,ze7_,if_pos h4];rfl
     rw [if_pos h4]
     refine ⟨?_,fun h=>by cases h⟩
     unfold i5E;rw [e4];split<;>rfl
    ·rw [if_neg h4]
     by_cases h5:zX_ ((r10 b).take 2)=true
     ·have e4:i4E b=0:=by
       unfold i4E Z6_;rw [e3,if_pos rfl,d3,ze7_,if_neg h4,if_pos h5];rfl
      have p4:i4P b=i3P b+2:=by
       unfold i4P qK_;rw [e3,if_pos rfl,d3,ze7_,if_neg h4,if_pos h5];rfl
      have dD:iD b=(r10 b).drop 2:=by
       unfold iD;rw [if_pos e4,p4,<- d3,List.drop_drop];congr 1;omega
      have hl:((iD b).length:Int)=(r10 b).length - 2:=by rw [dD,List.length_drop];omega
      have z:¬ zX_ ((r10 b).take 2)=false:=by rw [h5];decide
      by_cases h6:(zC_ w10 b).getD 1 0 < ((r10 b).length:Int) - 2
      ·rw [if_pos (.inr h6)]
       refine ⟨?_,fun h=>by cases h⟩
       unfold i5E;rw [g1,hl,if_pos h6,e4];rfl
      ·rw [if_neg (fun h=>h.elim z h6)]
       refine ⟨?_,fun _=>⟨t5,dD,x3⟩⟩
       unfold i5E;rw [g1,hl,if_neg h6,e4]
     ·have e4:i4E b=269:=by
       unfold i4E Z6_;rw [e3,if_pos rfl,d3,ze7_,if_neg h4,if_neg h5];rfl
      rw [if_pos (.inl (by simpa using h5))]
      refine ⟨?_,fun h=>by cases h⟩
      unfold i5E;rw [e4];split<;>rfl
   ·rw [if_pos h3]
    have e4:i4E b=mdE (b.drop 16):=by unfold i4E;rw [e3];exact Bm_ h3
    refine ⟨?_,fun h=>absurd h h3⟩
    unfold i5E;rw [e4,Jh_ h3];split<;>rfl
 ·have c1:Z6_ w10 b 0 263 269 0=263:=by
   unfold Z6_;rw [if_pos rfl]
   show (if zI_ w10 b=1 then (263:Int) else if zI_ w10 b=2 then 269 else 0)=263
   have:=Yw_ w10 b
   have:=zkB_ b
   rw [if_pos (by omega)]
  have e2:i2E b=263:=by unfold i2E;rw [c1];split<;>rfl
  have e3:i3E b=263:=by unfold i3E mtE;rw [e2];rfl
  have e4:i4E b=263:=by unfold i4E;rw [e3];exact Bm_ (by decide)
  unfold e10
  rw [if_pos hk]
  refine ⟨?_,fun h=>by cases h⟩
  unfold i5E;rw [e4];split<;>rfl
theorem zkg_ {b:List Int} (hb:∀ x ∈ b,0<=x/\x<=255):o5E b=e13 b/\(e13 b=0->(o1L b).take 2=(zC_ w13 b).take 2/\uD b=b.drop (16+(m13 b).toNat)/\uA b=adL ((b.drop 16).take (m13 b).toNat)):=by
 have hK:=Yw_ w13 b
 have bad:∀ e:Int,e ≠ 0->Z6_ w13 b 0 263 269 0=e->o5E b=e:=fun e h c=>by
  have e2:o2E b=e:=by unfold o2E;rw [c,Jh_ h];split<;>rfl
  have t:∀ n,ZA_ n b (qK_ w13 b 0 0) 263 e=e:=fun n=>by unfold ZA_;rw [Jh_ h,Jh_ h];split<;>(try split)<;>rfl
  have e3:o3E b=e:=by unfold o3E atE;rw [e2,t,if_neg h]
  unfold o5E;rw [e3,Jh_ h];split<;>rfl
 rcases hK with hk | hk | hk
 ·obtain ⟨n1,n2⟩:=rowN hb hk
  rw [show zq_ w13=3 by decide] at n1
  rw [show zE_ w13=16 by decide] at n2
  have n1':(zC_ w13 b).length=3:=by omega
  have c1:Z6_ w13 b 0 263 269 0=0:=by unfold Z6_;rw [if_pos rfl];show (if zI_ w13 b=1 then (263:Int) else if zI_ w13 b=2 then 269 else 0)=0;rw [hk];rfl
  have c2:qK_ w13 b 0 0=16:=by unfold qK_;rw [if_pos rfl];show (if zI_ w13 b=1 then (0:Int) else if zI_ w13 b=2 then 0 else 0+zE_ w13)=16;rw [hk];decide
  have c3:o1L b=zC_ w13 b++[0,0,0]:=rfl
  have g2:(o1L b).getD 2 0=m13 b:=by rw [c3,Ze_ (by omega)];rfl
  have g1:(o1L b).getD 1 0=(zC_ w13 b).getD 1 0:=by rw [c3,Ze_ (by omega)]
  have g0:(o1L b).getD 0 0=(zC_ w13 b).getD 0 0:=by rw [c3,Ze_ (by omega)]
  have t2:(o1L b).take 2=(zC_ w13 b).take 2:=by rw [c3,List.take_append_of_le_length (by omega)]
  have hm0:0<=m13 b:=(bH_ hb).1
  unfold e13
  rw [if_neg (by omega),if_neg (by omega)]
  by_cases h1:(zC_ w13 b).getD 1 0=0
  ·have e2:o2E b=268:=by unfold o2E;rw [g1,if_pos h1,c1];rfl
   have t:∀ n,ZA_ n b (qK_ w13 b 0 0) 263 268=268:=fun n=>by unfold ZA_;split<;>(try split)<;>rfl
   have e3:o3E b=268:=by unfold o3E atE;rw [e2,t,if_neg (by decide)]
   rw [if_pos h1]
   refine ⟨?_,fun h=>by cases h⟩
   unfold o5E;rw [e3];split<;>rfl
  ·have e2:o2E b=0:=by unfold o2E;rw [g1,if_neg h1,c1]
   rw [if_neg h1]
   by_cases h2:(b.length:Int) < 16+m13 b
   ·have t:ZA_ (m13 b) b 16 263 0=263:=by unfold ZA_;rw [if_neg (by omega),if_pos (by omega)];rfl
    have e3:o3E b=263:=by unfold o3E atE;rw [e2,g2,c2,t,if_neg (by decide)]
    rw [if_pos h2]
    refine ⟨?_,fun h=>by cases h⟩
    unfold o5E;rw [e3];split<;>rfl
   ·have t:ZA_ (m13 b) b 16 263 0=0:=by unfold ZA_;rw [if_neg (by omega),if_neg (by omega)]
    have tl:Qo_ (m13 b) b 16 263 0=(b.drop 16).take (m13 b).toNat:=by
     unfold Qo_;rw [if_pos t,List.drop_take]
     congr 1;omega
    have tp:QG_ (m13 b) b 16 263 0=16+m13 b:=by unfold QG_;rw [if_pos t]
    have e3:o3E b=adE ((b.drop 16).take (m13 b).toNat):=by unfold o3E atE;rw [e2,g2,c2,t,if_pos rfl,tl]
    have a3:uA b=adL ((b.drop 16).take (m13 b).toNat):=by unfold uA atL;rw [e2,g2,c2,t,if_pos rfl,tl]
    have p3:o3P b=16+m13 b:=by unfold o3P;rw [e2,g2,c2,tp]
    rw [if_neg h2]
    by_cases h3:adE ((b.drop 16).take (m13 b).toNat)=0
    ·rw [if_neg (not_not_intro h3)]
     rw [h3] at e3
     have dD:uD b=b.drop (16+(m13 b).toNat):=by unfold uD;rw [if_pos e3,p3];congr 1;omega
     have hl:((uD b).length:Int)=b.length - (16+m13 b):=by rw [dD,List.length_drop];omega
     by_cases h4:¬ (zC_ w13 b).getD 0 0=4294967295/\16+m13 b < b.length
     ·rw [if_pos h4]
      refine ⟨?_,fun h=>by cases h⟩
      unfold o5E;rw [g0,hl,if_pos ⟨h4.1,by omega⟩,e3];rfl
     ·rw [if_neg h4]
      refine ⟨?_,fun _=>⟨t2,dD,a3⟩⟩
      unfold o5E;rw [g0,hl,if_neg fun h=>h4 ⟨h.1,by omega⟩,e3]
    ·rw [if_pos h3]
     refine ⟨?_,fun h=>absurd h h3⟩
     unfold o5E;rw [e3,Jh_ h3];split<;>rfl
 ·have c1:Z6_ w13 b 0 263 269 0=263:=by
   unfold Z6_;rw [if_pos rfl]
   show (if zI_ w13 b=1 then (263:Int) else if zI_ w13 b=2 then 269 else 0)=263
   rw [if_pos hk]
  unfold e13;rw [if_pos hk]
  exact ⟨bad 263 (by decide) c1,fun h=>by cases h⟩
 ·have c1:Z6_ w13 b 0 263 269 0=269:=by
   unfold Z6_;rw [if_pos rfl]
   show (if zI_ w13 b=1 then (263:Int) else if zI_ w13 b=2 then 269 else 0)=269
   rw [if_neg (by omega),if_pos hk]
  unfold e13;rw [if_neg (by omega),if_pos hk]
  exact ⟨bad 269 (by decide) c1,fun h=>by cases h⟩
theorem zci_ (pre:List OV) (o:OV) (r:List OV):ckS pre (o :: r)=if pre.any (fun x=>alO x o)=true then (((pre.length:Nat):Int),1035) else if J6_ pre o.1 o.2.1=true then ckS (pre++[o]) r else (((pre.length:Nat):Int),1034):=rfl
theorem zjb_ (pre:List OV):ckS pre []=(0,0):=rfl
theorem zfh_:∀ (r pre s:List OV),ckS pre (r++s)=if (ckS pre r).2=0 then ckS (pre++r) s else ckS pre r
 | [],pre,s=>by
   rw [List.nil_append,List.append_nil,zjb_,if_pos rfl]
 | o :: r,pre,s=>by
   rw [List.cons_append,zci_,zci_ pre o r]
   by_cases h1:pre.any (fun x=>alO x o)=true
   ·simp only [if_pos h1];rw [if_neg (by decide)]
   ·simp only [if_neg h1]
    by_cases h2:J6_ pre o.1 o.2.1=true
    ·simp only [if_pos h2]
     rw [zfh_ r (pre++[o]) s,List.append_assoc,List.singleton_append]
    ·simp only [if_neg h2];rw [if_neg (by decide)]
theorem zja_ {r s:List OV} (h:(ckS [] (r++s)).2=0):(ckS [] r).2=0:=by
 rw [zfh_] at h
 by_cases h1:(ckS [] r).2=0
 ·exact h1
 ·rw [if_neg h1] at h;exact h
theorem ziQ_ {acc:List OV} {y:List Int} (h:¬ y.length=0) (h1:zM_ y=0) (h2:(ckS [] (acc++[vO y])).2=0) (hn:1<=Zi_ y):mlG acc y=mlG (acc++[vO y]) (y.drop (Zi_ y).toNat):=by
 rw [mlG,if_neg h,if_neg (not_not_intro h1),if_neg (not_not_intro h2),show max 1 (Zi_ y).toNat=(Zi_ y).toNat by omega]
theorem zhF_ (o:OV):4<=(ecO o).length:=by
 have:=zm_ (n:=o.1) (w:=2) (by decide)
 unfold ecO ZB_;simp only [List.length_append,List.length_cons];omega
theorem U6_ (o:OV) (r:List OV):boO (o :: r)=ecO o++boO r:=List.flatMap_cons
theorem zeZ_:∀ (r acc:List OV),r.all rgO=true->(∀ o ∈ r,0<=o.2.2.2.1)->(ckS [] (acc++r)).2=0->mlG acc (boO r)=(acc++r,0)
 | [],acc,_,_,_=>by rw [Ym_ (by rfl),List.append_nil]
 | o :: r,acc,h,hx,hc=>by
   rw [List.all_cons,Bool.and_eq_true] at h
   have hr:zB_ o.1 o.2.1 o.2.2.1 o.2.2.2.1 o.2.2.2.2.1 o.2.2.2.2.2.1=true:=h.1
   obtain ⟨D1,D2,D3,D4,D5,D6,D7,D8⟩:=zfc_ (b:=boO r) hr (hx o (List.mem_cons_self ..))
   have hge:=zhF_ o
   have hv:vO (ecO o++boO r)=o:=by
    unfold vO ecO;rw [D2,D3,D4,D5,D6,D7]
   have hE:zM_ (ecO o++boO r)=0:=D1
   have hN:Zi_ (ecO o++boO r)=(ecO o).length:=D8
   have ha:acc++o :: r=(acc++[o])++r:=by rw [List.append_assoc];rfl
   have hc1:(ckS [] (acc++[o])).2=0:=by rw [ha] at hc;exact zja_ hc
   rw [U6_,ziQ_ (by rw [List.length_append];omega) hE (by rw [hv];exact hc1) (by rw [hN];omega),hv,hN,Int.toNat_natCast,List.drop_left]
   rw [zeZ_ r (acc++[o]) h.2 (fun o ho=>hx o (List.mem_cons_of_mem _ ho)) (by rw [<- ha];exact hc),<- ha]
theorem ze0_:∀ (n:Nat) (y:List Int) (acc l:List OV),y.length<=n->(∀ x ∈ y,0<=x/\x<=255)->mlG acc y=(l,0)->∃ r,l=acc++r/\r.all rgO=true/\boO r=y/\((ckS [] acc).2=0->(ckS [] l).2=0)
 | 0,y,acc,l,hn,hb,h=>by
   rw [Ym_ (by omega)] at h
   cases h
   refine ⟨[],by rw [List.append_nil],rfl,?_,fun h=>h⟩
   rw [List.eq_nil_of_length_eq_zero (show y.length=0 by omega)];rfl
 | n+1,y,acc,l,hn,hb,h=>by
   by_cases h0:y.length=0
   ·rw [Ym_ h0] at h
    cases h
    refine ⟨[],by rw [List.append_nil],rfl,?_,fun h=>h⟩
    rw [List.eq_nil_of_length_eq_zero h0];rfl
   ·by_cases h1:zM_ y=0
    ·by_cases h2:(ckS [] (acc++[vO y])).2=0
     ·obtain ⟨g1,g2⟩:=uh_ hb h1
      rw [zdG_ hb h0 h1 h2] at h
      obtain ⟨r,e1,e2,e3,e4⟩:=ze0_ n (y.drop (Zi_ y).toNat) (acc++[vO y]) l (by rw [List.length_drop];omega) (fun x hx=>hb x (List.mem_of_mem_drop hx)) h
      obtain ⟨f1,f2,_,_⟩:=uf_ hb h1
      refine ⟨vO y :: r,?_,?_,?_,fun _=>e4 h2⟩
      ·rw [e1,List.append_assoc];rfl
      ·rw [List.all_cons,e2,Bool.and_true];exact f1
      ·rw [U6_,e3]
       have:ecO (vO y)=y.take (Zi_ y).toNat:=f2
       rw [this,List.take_append_drop]
     ·rw [zdH_ h0 h1 h2] at h
      exact absurd (congrArg Prod.snd h) h2
    ·rw [bA_ h0 h1] at h
     exact absurd (congrArg Prod.snd h) h1
theorem zhV_:∀ (l:List OV),4*l.length<=(boO l).length
 | []=>Nat.zero_le _
 | o :: r=>by
   have:=zhV_ r
   have:=zhF_ o
   rw [U6_,List.length_append,List.length_cons];omega
theorem zjC_ {l:List OV} (h:rgM l=true):okM l:=by
 obtain ⟨h1,h2,h3,h4,h5⟩:=kB_ h
 refine ⟨⟨fun o ho=>?_⟩,?_⟩
 ·have:=uM_ (List.all_eq_true.1 h1 o ho)
  exact ⟨by omega,by omega⟩
 ·have:=zhV_ l
  have:meN l=4+(boO l).length:=rfl
  omega
theorem ziS_ {N:Int} {body rest:List Int} (hN:N=4+body.length) (hN2:N<=65535):
 tT (ze_ 1 2++ze_ N 2++body++rest)=1/\tN (ze_ 1 2++ze_ N 2++body++rest)=N/\bd (ze_ 1 2++ze_ N 2++body++rest)=body/\(ze_ 1 2++ze_ N 2++body++rest).drop N.toNat=rest/\(ze_ 1 2++ze_ N 2++body++rest).length=4+body.length+rest.length:=by
 have l2:(ze_ 1 2).length=2:=by have:=zm_ (n:=1) (w:=2) (by decide);omega
 have l3:(ze_ N 2).length=2:=by have:=zm_ (n:=N) (w:=2) (by decide);omega
 have e1:tT (ze_ 1 2++ze_ N 2++body++rest)=1:=by
  unfold tT;rw [List.append_assoc,List.append_assoc,List.take_left' l2];exact num2 (by decide)
 have e2:tN (ze_ 1 2++ze_ N 2++body++rest)=N:=by
  unfold tN;rw [List.append_assoc,List.append_assoc,List.drop_left' l2,List.take_left' l3];exact num2 (by omega)
 have hl:(ze_ 1 2++ze_ N 2++body++rest).length=4+body.length+rest.length:=by simp only [List.length_append];omega
 refine ⟨e1,e2,?_,?_,hl⟩
 ·unfold bd
  rw [e2,List.take_left' (by simp only [List.length_append];omega)]
  exact List.drop_left' (by rw [List.length_append];omega)
 ·exact List.drop_left' (by simp only [List.length_append];omega)
theorem zks_ {l:List OV} {b:List Int} (h:rgM l=true) (hx:∀ o ∈ l,0<=o.2.2.2.1):mdE (meB l++b)=0/\mdL (meB l++b)=l/\mdN (meB l++b)=(meB l).length:=by
 obtain ⟨h1,h2,h3,h4,h5⟩:=kB_ h
 have hz:=XO_ (n:=meN l) (by omega)
 have hml:=bD_ l (by omega)
 have e:meB l++b=ze_ 1 2++ze_ (meN l) 2++boO l++(List.replicate (pz (meN l)).toNat 0++b):=by unfold meB;simp only [List.append_assoc]
 obtain ⟨t1,t2,t3,t4,t5⟩:=ziS_ (N:=meN l) (body:=boO l) (rest:=List.replicate (pz (meN l)).toNat 0++b) rfl (by omega)
 rw [<- e] at t1 t2 t3 t4 t5
 have hN:meN l=4+(boO l).length:=rfl
 simp only [List.length_append,List.length_replicate] at t5
 have hm:=zeZ_ l [] h1 hx h2
 rw [List.nil_append] at hm
 have hZ:mdZ (meB l++b)=true:=by
  unfold mdZ;rw [t2,t4,List.take_left' List.length_replicate];exact YQ_ _
 have hE:mdE (meB l++b)=0:=by
  rw [zjG_ (by rw [List.length_append];omega) t1 (by rw [t2,List.length_append];omega),t3,hm,hZ];rfl
 refine ⟨hE,?_,?_⟩
 ·unfold mdL;rw [if_pos hE,t3,hm]
 ·unfold mdN;rw [if_pos hE,t2];omega
theorem zkt_ {b:List Int} (hb:∀ x ∈ b,0<=x/\x<=255) (h0:mdE b=0):rgM (mdL b)=true/\meB (mdL b)=b.take (mdN b).toNat/\0<=mdN b/\mdN b<=b.length:=by
 have hn2:0<=tN b/\tN b<=65535:=jq_ (a:=2) hb
 have hz:=XO_ hn2.1
 have h4:¬ b.length < 4:=fun h=>by unfold mdE at h0;rw [if_pos h] at h0;cases h0
 have ht:tT b=1:=Classical.byContradiction fun h=>by unfold mdE at h0;rw [if_neg h4,if_pos h] at h0;cases h0
 have hr:¬ (tN b < 4\/65528 < tN b\/b.length < tN b+pz (tN b)):=fun h=>by unfold mdE at h0;rw [if_neg h4,if_neg (not_not_intro ht),if_pos h] at h0;cases h0
 have hm:=zjG_ h4 ht hr
 have hg:(mlG [] (bd b)).2=0:=Classical.byContradiction fun h=>by rw [if_pos h] at hm;exact h (hm.symm.trans h0)
 rw [if_neg (not_not_intro hg)] at hm
 have hZ:mdZ b=true:=Classical.byContradiction fun h=>by rw [if_neg h] at hm;rw [hm] at h0;cases h0
 have hL:mdL b=(mlG [] (bd b)).1:=if_pos h0
 have hN:mdN b=tN b+pz (tN b):=if_pos h0
 have hbb:∀ x ∈ bd b,0<=x/\x<=255:=fun x hx=>hb x (List.mem_of_mem_take (List.mem_of_mem_drop hx))
 obtain ⟨r,e1,e2,e3,e4⟩:=ze0_ (bd b).length (bd b) [] (mlG [] (bd b)).1 (Nat.le_refl _) hbb (Prod.ext rfl hg)
 rw [List.nil_append] at e1
 rw [<- hL] at e1 e4
 rw [<- e1] at e2 e3
 have hck:=e4 rfl
 have hbl:(bd b).length=(tN b).toNat - 4:=by unfold bd;rw [List.length_drop,List.length_take];omega
 have hme:meN (mdL b)=tN b:=by unfold meN;rw [e3];omega
 have hlo:Z3_ (mdL b)=tN b:=by rw [<- hme];unfold Z3_ meN;rw [ub_ _ e2]
 refine ⟨?_,?_,by omega,by omega⟩
 ·unfold rgM;rw [e2,hck,hlo,decide_eq_true (show tN b<=65528 by omega)];rfl
 ·have b1:ze_ (tT b) 2=b.take 2:=qX_ 2 (b.take 2) (by decide) (by rw [List.length_take];omega) fun x hx=>hb x (List.mem_of_mem_take hx)
  have b2:ze_ (tN b) 2=(b.drop 2).take 2:=qX_ 2 ((b.drop 2).take 2) (by decide) (by rw [List.length_take,List.length_drop];omega) fun x hx=>hb x (List.mem_of_mem_drop (List.mem_of_mem_take hx))
  rw [ht] at b1
  have hsplit:b.take (tN b).toNat=b.take 2++(b.drop 2).take 2++bd b:=by
   have e1:b.take 4=b.take 2++(b.drop 2).take 2:=by rw [<- List.take_add]
   rw [<- e1]
   unfold bd
   have e2:b.take 4=(b.take (tN b).toNat).take 4:=by rw [List.take_take,Nat.min_eq_left (by omega)]
   rw [e2,List.take_append_drop]
  have hrep:List.replicate (pz (tN b)).toNat 0=(b.drop (tN b).toNat).take (pz (tN b)).toNat:=by
   have:=yK_ hZ
   rw [this,List.length_take,List.length_drop,Nat.min_eq_left (by omega)]
  unfold meB
  rw [hme,e3,b1,b2,<- hsplit,hrep,hN,<- List.take_add]
  congr 1;omega
theorem zhv_ {y:List Int} (h:8<=y.length):Zh_ [4,4] y=([z8_ (y.take 4),z8_ ((y.drop 4).take 4)],0):=by
 have hr:zP_ [4,4]=true:=by decide
 unfold Zh_
 rw [if_pos hr]
 have a4:zp_ 4=4:=by decide
 have t4:Int.toNat 4=4:=rfl
 have p4:(0:Int) < 4:=by decide
 simp only [Zq_,a4,List.length_drop,t4,if_pos p4]
 rw [if_neg (by omega),if_neg (by omega)]
 rfl
theorem zjH_ {y:List Int} (h:8<=y.length):Zh_ [2,-6] y=if zX_ ((y.drop 2).take 6)=true then ([z8_ (y.take 2)],0) else ([],2):=by
 have hr:zP_ [2,-6]=true:=by decide
 unfold Zh_
 rw [if_pos hr]
 have a2:zp_ 2=2:=by decide
 have a6:zp_ (-6)=6:=by decide
 have t2:Int.toNat 2=2:=rfl
 have t6:Int.toNat 6=6:=rfl
 have p2:(0:Int) < 2:=by decide
 have p6:¬ (0:Int) < -6:=by decide
 simp only [Zq_,a2,a6,List.length_drop,t2,t6,if_pos p2,if_neg p6]
 rw [if_neg (by omega),if_neg (by omega)]
 rfl
theorem zhx_ {y n:List Int} {s:Int} (h:16<=y.length) (h1:Zh_ [4,4] y=(n,0)) (h2:Zh_ [2,-6] (y.drop 8)=([s],0)):Zh_ w13 y=(n++[s],0):=by
 rw [zhv_ (by omega)] at h1
 rw [zjH_ (by rw [List.length_drop];omega),List.drop_drop] at h2
 rw [zhy_ h]
 split at h2
 ·rename_i hz
  rw [if_pos hz]
  cases h1;cases h2;rfl
 ·cases h2
theorem zgU_ {y:List Int} (h:16<=y.length) (hk:zI_ w13 y=0):Zh_ [4,4] y=((zC_ w13 y).take 2,0)/\Zh_ [2,-6] (y.drop 8)=([m13 y],0):=by
 have hg:=zhy_ h
 unfold zI_ at hk
 rw [hg] at hk
 split at hk
 ·rename_i hz
  rw [if_pos hz] at hg
  have hl:zC_ w13 y=[z8_ (y.take 4),z8_ ((y.drop 4).take 4),z8_ ((y.drop 8).take 2)]:=congrArg Prod.fst hg
  unfold m13
  rw [hl,zhv_ (by omega),zjH_ (by rw [List.length_drop];omega),List.drop_drop,if_pos hz]
  exact ⟨rfl,rfl⟩
 ·cases hk
structure wfM24 (m:VMs):Prop where
 n:∀ q ∈ mN m,0<=q/\q<=18446744073709551615
 x:∀ o ∈ mX m,0<=o.2.2.2.1
 a:∀ o ∈ mA m,bysU o
theorem y9_ {w n:List Int} (h:ZM_ w n=true):(n.length:Int)=zq_ w:=by
 unfold ZM_ Q2_ at h
 split at h
 ·rename_i hc;exact hc.2.symm
 ·cases h
theorem zgo_ {m:VMs} (h:(wrR m).2=0):∃ y z,Qf_ (mT m) (mN m) (mD m) (mX m) (mA m)=some z/\y=z++mD m/\wrR m=(y,0)/\kt_ (XP_ (decide (mT m=10)) (decide (mT m=13)) m)=true/\(y.length:Int)<=65527:=by
 unfold wrR at h ⊢
 cases hv:KP_ (Qf_ (mT m) (mN m) (mD m) (mX m) (mA m)) (some (mD m)) with
 | none=>rw [hv] at h;cases h
 | some y=>
   rw [hv] at h
   obtain ⟨p,q,h1,h2,h3⟩:=j2_ hv
   cases h2
   dsimp only at h ⊢
   split at h
   ·rename_i hb
    split at h
    ·cases h
    ·rename_i hl
     exact ⟨y,p,h1,h3,by rw [if_pos hb,if_neg hl],hb,by omega⟩
   ·cases h
theorem zez_ {m:VMs} (hw:wfM24 m) (h:(wrR m).2=0):jM_ (mT m) (wrR m).1=0/\(mT m=10\/mT m=13)/\(((Z0_ (mT m) (wrR m).1).1,m.2.1,(Z0_ (mT m) (wrR m).1).2.2):VMs)=m:=by
 obtain ⟨y,z,h1,h2,h3,h4,h5⟩:=zgo_ h
 rw [h3]
 have hbm:=zjh_.1 h4
 obtain ⟨t,xi,n,d,m5⟩:=m
 obtain ⟨el,x,a,m8⟩:=m5
 have hwn:∀ q ∈ n,0<=q/\q<=18446744073709551615:=hw.n
 have hwx:∀ o ∈ x,0<=o.2.2.2.1:=hw.x
 have hwa:∀ o ∈ a,bysU o:=hw.a
 replace h1:Qf_ t n d x a=some z:=h1
 replace h2:y=z++d:=h2
 show jM_ t y=0/\(t=10\/t=13)/\(((Z0_ t y).1,xi,(Z0_ t y).2.2):VMs)=(t,xi,n,d,el,x,a,m8)
 unfold Qf_ at h1
 by_cases h10:t=10
 ·subst h10
  rw [if_pos rfl] at h1
  split at h1
  ·cases h1
  ·rename_i hbad
   have hel:el=[]:=congrArg (fun q:VMs=>q.2.2.2.2.1) hbm
   have ha:a=[]:=congrArg (fun q:VMs=>q.2.2.2.2.2.2.1) hbm
   have hm8:m8=([],[],[],[],[],0,0,[],()):=congrArg (fun q:VMs=>q.2.2.2.2.2.2.2) hbm
   subst hel ha hm8
   obtain ⟨p,q,g1,g2,g3⟩:=j2_ h1
   obtain ⟨p1,p2,g4,g5,g6⟩:=j2_ g1
   obtain ⟨k1,k2⟩:=x1_ g4
   obtain ⟨_,k3⟩:=x1_ g2
   have hq:q=[0,0]:=by rw [<- k3];decide
   have hr:rgM x=true/\p2=meB x:=by
    unfold bF_ at g5;split at g5
    ·cases g5;exact ⟨by assumption,rfl⟩
    ·cases g5
   have hn5:=y9_ k1
   rw [show zq_ w10=5 by decide] at hn5
   have e:y=Zm_ w10 n++(meB x++([0,0]++d)):=by rw [h2,g3,g6,k2,hr.2,hq];simp only [List.append_assoc]
   obtain ⟨f1,f2⟩:=x3_ (meB x++([0,0]++d)) hwn k1
   rw [<- e] at f1
   rw [show (zE_ w10).toNat=16 by decide] at f2
   have hL:zC_ w10 y=n:=congrArg Prod.fst f1
   have hK:zI_ w10 y=0:=congrArg Prod.snd f1
   have hd:y.drop 16=meB x++([0,0]++d):=by rw [e,<- f2,List.drop_left]
   obtain ⟨m1,m2,m3⟩:=zks_ (b:=[0,0]++d) hr.1 hwx
   have hr10:r10 y=[0,0]++d:=by
    unfold r10;rw [hd,m3,Int.toNat_natCast,<- List.drop_drop,hd,List.drop_left]
   unfold Zy_ at hbad
   simp only [Bool.or_eq_true,decide_eq_true_eq] at hbad
   have z2:nz3 n 2=n.getD 2 0:=Ze_ (by omega)
   have z1:nz3 n 1=n.getD 1 0:=Ze_ (by omega)
   rw [z1,z2] at hbad
   have hE:e10 y=0:=by
    unfold e10
    rw [if_neg (not_not_intro hK),hL,if_neg (fun c=>hbad (.inl c)),hd,if_neg (not_not_intro m1),hr10,if_neg (by simp),if_neg]
    rintro (c | c)
    ·cases c
    ·exact hbad (.inr (by simp only [List.length_append,List.length_cons,List.length_nil] at c;omega))
   have hE2:jM_ 10 y=0:=by unfold jM_;rw [if_pos rfl,if_neg (fun c=>by omega),hE]
   refine ⟨hE2,.inl rfl,?_⟩
   have hv:Z0_ 10 y=v10 y:=by unfold Z0_;rw [if_pos hE2,if_pos rfl]
   rw [hv];unfold v10;rw [hL,hr10,hd,m2];try rfl
 ·rw [if_neg h10] at h1
  by_cases h13:t=13
  ·subst h13
   rw [if_pos rfl] at h1
   split at h1
   ·cases h1
   ·rename_i hbad
    have hel:el=[]:=congrArg (fun q:VMs=>q.2.2.2.2.1) hbm
    have hx:x=[]:=congrArg (fun q:VMs=>q.2.2.2.2.2.1) hbm
    have hm8:m8=([],[],[],[],[],0,0,[],()):=congrArg (fun q:VMs=>q.2.2.2.2.2.2.2) hbm
    subst hel hx hm8
    obtain ⟨p,q,g1,g2,g3⟩:=j2_ h1
    obtain ⟨p1,p2,g4,g5,g6⟩:=j2_ g1
    obtain ⟨k1,k2⟩:=x1_ g4
    obtain ⟨k3,k4⟩:=x1_ g5
    have hr:rgL a=true/\q=boA a:=by
     unfold Bw_ at g2;split at g2
     ·cases g2;exact ⟨by assumption,rfl⟩
     ·cases g2
    obtain ⟨a1,a2,a3,a4⟩:=qg_ hr.1
    have hn2:=y9_ k1
    rw [show zq_ [4,4]=2 by decide] at hn2
    have e:y=Zm_ [4,4] n++(Zm_ [2,-6] [szL a]++(boA a++d)):=by rw [h2,g3,g6,k2,k4,hr.2];simp only [List.append_assoc]
    obtain ⟨f1,f2⟩:=x3_ (Zm_ [2,-6] [szL a]++(boA a++d)) hwn k1
    obtain ⟨f3,f4⟩:=x3_ (boA a++d) (xs:=[szL a]) (fun q hq=>by rcases List.mem_singleton.1 hq with rfl;omega) k3
    rw [<- e] at f1
    rw [show (zE_ [4,4]).toNat=8 by decide] at f2
    rw [show (zE_ [2,-6]).toNat=8 by decide] at f4
    have hd8:y.drop 8=Zm_ [2,-6] [szL a]++(boA a++d):=by rw [e,<- f2,List.drop_left]
    have hd16:y.drop 16=boA a++d:=by
     rw [show (16:Nat)=8+8 from rfl,<- List.drop_drop,hd8,<- f4,List.drop_left]
    have hy16:y.length=16+((boA a).length+d.length):=by rw [e];simp only [List.length_append];omega
    rw [<- hd8] at f3
    have hF:=zhx_ (by omega) f1 f3
    have hL:zC_ w13 y=n++[szL a]:=congrArg Prod.fst hF
    have hK:zI_ w13 y=0:=congrArg Prod.snd hF
    have hm:m13 y=(boA a).length:=by
     unfold m13;rw [hL,<- a4]
     simp only [List.getD_eq_getElem?_getD,List.getElem?_append_right (show n.length<=2 by omega),show 2 - n.length=0 by omega];rfl
    have hA:(y.drop 16).take (m13 y).toNat=boA a:=by rw [hd16,hm,Int.toNat_natCast,List.take_left]
    obtain ⟨b1,b2⟩:=zkW_ hr.1 hwa
    have hD:y.drop (16+(m13 y).toNat)=d:=by rw [<- List.drop_drop,hd16,hm,Int.toNat_natCast,List.drop_left]
    unfold Zr_ at hbad
    simp only [Bool.or_eq_true,Bool.and_eq_true,decide_eq_true_eq] at hbad
    have z1:nz3 n 1=n.getD 1 0:=Ze_ (by omega)
    have z0:nz3 n 0=n.getD 0 0:=Ze_ (by omega)
    rw [z1,z0] at hbad
    have l1:(zC_ w13 y).getD 1 0=n.getD 1 0:=by rw [hL,Ze_ (by omega)]
    have l0:(zC_ w13 y).getD 0 0=n.getD 0 0:=by rw [hL,Ze_ (by omega)]
    have hE:e13 y=0:=by
     unfold e13
     rw [if_neg (by omega),if_neg (by omega),l1,if_neg (fun c=>hbad (.inl c)),if_neg (by omega),hA,if_neg (not_not_intro b2),if_neg]
     rintro ⟨c1,c2⟩
     rw [l0] at c1
     exact hbad (.inr ⟨c1,by omega⟩)
    have hE2:jM_ 13 y=0:=by unfold jM_;rw [if_neg (by decide),if_pos rfl,if_neg (fun c=>by omega),hE]
    refine ⟨hE2,.inr rfl,?_⟩
    have hv:Z0_ 13 y=v13 y:=by unfold Z0_;rw [if_pos hE2,if_neg (by decide)]
    rw [hv];unfold v13;rw [hL,hA,hD,b1,List.take_left' (by omega)]
  ·rw [if_neg h13] at h1;cases h1
theorem zjg_ (n d:List Int) (x:List OV):kt_ (XP_ (decide (mT ((10,0,n,d,[],x,[],[],[],[],[],[],0,0,[],()):VMs)=10)) (decide (mT ((10,0,n,d,[],x,[],[],[],[],[],[],0,0,[],()):VMs)=13)) (10,0,n,d,[],x,[],[],[],[],[],[],0,0,[],()))=true:=rfl
theorem zjf_ (n d:List Int) (a:List AC):kt_ (XP_ (decide (mT ((13,0,n,d,[],[],a,[],[],[],[],[],0,0,[],()):VMs)=10)) (decide (mT ((13,0,n,d,[],[],a,[],[],[],[],[],0,0,[],()):VMs)=13)) (13,0,n,d,[],[],a,[],[],[],[],[],0,0,[],()))=true:=rfl
theorem zix_ {t:Int} {b:List Int} (hb:∀ x ∈ b,0<=x/\x<=255) (h:jM_ t b=0):wrR (Z0_ t b)=(b,0)/\(Z0_ t b).1=t/\(Z0_ t b).2.1=0/\rgM (mX (Z0_ t b))=(decide (t=10) || rgM [])/\rgL (mA (Z0_ t b))=true/\(mD (Z0_ t b)).length<=b.length:=by
 have hdr:∀ k,∀ x ∈ b.drop k,0<=x/\x<=255:=fun k x hx=>hb x (List.mem_of_mem_drop hx)
 have hE:=h
 unfold jM_ at h
 by_cases h10:t=10
 ·subst h10
  have hv:Z0_ 10 b=v10 b:=by unfold Z0_;rw [if_pos hE,if_pos rfl]
  rw [if_pos rfl] at h
  split at h
  ·cases h
  ·rename_i hlen
   have h0:=h
   unfold e10 at h
   by_cases hk:zI_ w10 b=0
   ·rw [if_neg (not_not_intro hk)] at h
    by_cases c2:2 < (zC_ w10 b).getD 2 0
    ·rw [if_pos c2] at h;cases h
    ·rw [if_neg c2] at h
     by_cases c3:mdE (b.drop 16)=0
     ·rw [if_neg (not_not_intro c3)] at h
      by_cases c4:(r10 b).length < 2
      ·rw [if_pos c4] at h;cases h
      ·rw [if_neg c4] at h
       split at h
       ·cases h
       ·rename_i c5
        obtain ⟨n1,n2⟩:=rowN hb hk
        rw [show zq_ w10=5 by decide] at n1
        rw [show zE_ w10=16 by decide] at n2
        obtain ⟨p1,p2,p3⟩:=kD_ hb (show Zh_ w10 b=(zC_ w10 b,0) from Prod.ext rfl hk)
        rw [show (zE_ w10).toNat=16 by decide] at p2
        obtain ⟨d1,d2,d3,d4⟩:=zkt_ (hdr 16) c3
        rw [List.length_drop] at d4
        have hz:zX_ ((r10 b).take 2)=true:=by
         cases hz:zX_ ((r10 b).take 2) with
         | true=>rfl
         | false=>exact absurd (.inl hz) c5
        have hz2:(r10 b).take 2=[0,0]:=by
         have:=yK_ hz
         rw [List.length_take,Nat.min_eq_left (by omega)] at this;exact this
        have e1:kz_ w10 (zC_ w10 b)=some (b.take 16):=by unfold kz_;rw [if_pos p1,p2]
        have e2:bF_ (mdL (b.drop 16))=some ((b.drop 16).take (mdN (b.drop 16)).toNat):=by unfold bF_;rw [if_pos d1,d2]
        have e3:kz_ [-2] []=some [0,0]:=by decide
        have z2:nz3 (zC_ w10 b) 2=(zC_ w10 b).getD 2 0:=Ze_ (by omega)
        have z1:nz3 (zC_ w10 b) 1=(zC_ w10 b).getD 1 0:=Ze_ (by omega)
        have hbad:Zy_ (zC_ w10 b) ((r10 b).drop 2)=false:=by
         unfold Zy_
         rw [z1,z2,Bool.or_eq_false_iff,decide_eq_false_iff_not,decide_eq_false_iff_not,List.length_drop]
         exact ⟨c2,fun c=>c5 (.inr (by omega))⟩
        have e4:Qf_ 10 (zC_ w10 b) ((r10 b).drop 2) (mdL (b.drop 16)) []=some (b.take 16++(b.drop 16).take (mdN (b.drop 16)).toNat++[0,0]):=by
         unfold Qf_ vO10
         rw [if_pos rfl,hbad,if_neg (by decide),e1,e2,e3];rfl
        have hsum:b.take 16++(b.drop 16).take (mdN (b.drop 16)).toNat++[0,0]++(r10 b).drop 2=b:=by
         rw [<- hz2,List.append_assoc,List.take_append_drop,List.append_assoc]
         unfold r10;rw [<- List.drop_drop,List.take_append_drop,List.take_append_drop]
        rw [hv]
        refine ⟨?_,rfl,rfl,by show rgM (mdL (b.drop 16))=_;rw [d1];rfl,rfl,?_⟩
        ·unfold wrR
         have e5:KP_ (Qf_ (mT (v10 b)) (mN (v10 b)) (mD (v10 b)) (mX (v10 b)) (mA (v10 b))) (some (mD (v10 b)))=some b:=by
          show KP_ (Qf_ 10 (zC_ w10 b) ((r10 b).drop 2) (mdL (b.drop 16)) []) (some ((r10 b).drop 2))=some b
          rw [e4,yM_,hsum]
         rw [e5]
         dsimp only
         rw [if_pos (show kt_ (XP_ (decide (mT (v10 b)=10)) (decide (mT (v10 b)=13)) (v10 b))=true from zjg_ _ _ _),if_neg (fun c=>hlen ⟨h0,c⟩)]
        ·show ((r10 b).drop 2).length<=b.length
         unfold r10;rw [List.length_drop,List.length_drop];omega
     ·rw [if_pos c3] at h;exact absurd h c3
   ·rw [if_pos hk] at h;cases h
 ·rw [if_neg h10] at h
  by_cases h13:t=13
  ·subst h13
   have hv:Z0_ 13 b=v13 b:=by unfold Z0_;rw [if_pos hE,if_neg (by decide)]
   rw [if_pos rfl] at h
   split at h
   ·cases h
   ·rename_i hlen
    have h0:=h
    unfold e13 at h
    have hK:=Yw_ w13 b
    by_cases k1:zI_ w13 b=1
    ·rw [if_pos k1] at h;cases h
    rw [if_neg k1] at h
    by_cases k2:zI_ w13 b=2
    ·rw [if_pos k2] at h;cases h
    rw [if_neg k2] at h
    have hk:zI_ w13 b=0:=by omega
    by_cases c1:(zC_ w13 b).getD 1 0=0
    ·rw [if_pos c1] at h;cases h
    rw [if_neg c1] at h
    by_cases c2:(b.length:Int) < 16+m13 b
    ·rw [if_pos c2] at h;cases h
    rw [if_neg c2] at h
    by_cases c3:adE ((b.drop 16).take (m13 b).toNat)=0
    ·rw [if_neg (not_not_intro c3)] at h
     split at h
     ·cases h
     ·rename_i c4
      obtain ⟨n1,n2⟩:=rowN hb hk
      rw [show zq_ w13=3 by decide] at n1
      rw [show zE_ w13=16 by decide] at n2
      have hm:=bH_ hb
      obtain ⟨q1,q2⟩:=zgU_ (y:=b) (by omega) hk
      obtain ⟨p1,p2,_⟩:=kD_ hb q1
      obtain ⟨p3,p4,_⟩:=kD_ (hdr 8) q2
      rw [show (zE_ [4,4]).toNat=8 by decide] at p2
      rw [show (zE_ [2,-6]).toNat=8 by decide] at p4
      obtain ⟨a1,a2,_⟩:=zkX_ (b:=(b.drop 16).take (m13 b).toNat) (fun x hx=>hdr 16 x (List.mem_of_mem_take hx)) c3
      have hal:(((b.drop 16).take (m13 b).toNat).length:Int)=m13 b:=by rw [List.length_take,List.length_drop];omega
      have hsz:szL (adL ((b.drop 16).take (m13 b).toNat))=m13 b:=by rw [(qg_ a1).2.2.2,a2,hal]
      have e1:kz_ [4,4] ((zC_ w13 b).take 2)=some (b.take 8):=by unfold kz_;rw [if_pos p1,p2]
      have e2:kz_ [2,-6] [m13 b]=some ((b.drop 8).take 8):=by unfold kz_;rw [if_pos p3,p4]
      have e3:Bw_ (adL ((b.drop 16).take (m13 b).toNat))=some ((b.drop 16).take (m13 b).toNat):=by unfold Bw_;rw [if_pos a1,a2]
      have hl2:((zC_ w13 b).take 2).length=2:=by rw [List.length_take];omega
      have t1:((zC_ w13 b).take 2).getD 1 0=(zC_ w13 b).getD 1 0:=by simp [List.getD_eq_getElem?_getD,List.getElem?_take]
      have t0:((zC_ w13 b).take 2).getD 0 0=(zC_ w13 b).getD 0 0:=by simp [List.getD_eq_getElem?_getD,List.getElem?_take]
      have z1:nz3 ((zC_ w13 b).take 2) 1=(zC_ w13 b).getD 1 0:=(Ze_ (by omega)).trans t1
      have z0:nz3 ((zC_ w13 b).take 2) 0=(zC_ w13 b).getD 0 0:=(Ze_ (by omega)).trans t0
      have hbad:Zr_ ((zC_ w13 b).take 2) (b.drop (16+(m13 b).toNat))=false:=by
       unfold Zr_
       rw [z1,z0,Bool.or_eq_false_iff,Bool.and_eq_false_iff,decide_eq_false_iff_not,decide_eq_false_iff_not,decide_eq_false_iff_not,List.length_drop]
       refine ⟨c1,?_⟩
       by_cases c5:(zC_ w13 b).getD 0 0=4294967295
       ·exact .inl (fun c=>c c5)
       ·exact .inr (fun c=>c4 ⟨c5,by omega⟩)
      have e4:Qf_ 13 ((zC_ w13 b).take 2) (b.drop (16+(m13 b).toNat)) [] (adL ((b.drop 16).take (m13 b).toNat))=some (b.take 8++(b.drop 8).take 8++(b.drop 16).take (m13 b).toNat):=by
       unfold Qf_ vO13
       rw [if_neg (by decide),if_pos rfl,hbad,if_neg (by decide),hsz,e1,e2,e3];rfl
      have hsum:b.take 8++(b.drop 8).take 8++(b.drop 16).take (m13 b).toNat++b.drop (16+(m13 b).toNat)=b:=by
       rw [<- List.drop_drop,List.append_assoc,List.take_append_drop,List.append_assoc,show (16:Nat)=8+8 from rfl,<- List.drop_drop,List.take_append_drop,List.take_append_drop]
      rw [hv]
      refine ⟨?_,rfl,rfl,rfl,a1,?_⟩
      ·unfold wrR
       have e5:KP_ (Qf_ (mT (v13 b)) (mN (v13 b)) (mD (v13 b)) (mX (v13 b)) (mA (v13 b))) (some (mD (v13 b)))=some b:=by
        show KP_ (Qf_ 13 ((zC_ w13 b).take 2) (b.drop (16+(m13 b).toNat)) [] (adL ((b.drop 16).take (m13 b).toNat))) (some (b.drop (16+(m13 b).toNat)))=some b
        rw [e4,yM_,hsum]
       rw [e5]
       dsimp only
       rw [if_pos (show kt_ (XP_ (decide (mT (v13 b)=10)) (decide (mT (v13 b)=13)) (v13 b))=true from zjf_ _ _ _),if_neg (fun c=>hlen ⟨h0,c⟩)]
      ·show (b.drop (16+(m13 b).toNat)).length<=b.length
       rw [List.length_drop];omega
    ·rw [if_pos c3] at h;exact absurd h c3
  ·rw [if_neg h13] at h;cases h
def n8 (q:P8):List Int:=[q.1,q.2.1,q.2.2.1,q.2.2.2.1,q.2.2.2.2.1,q.2.2.2.2.2.1,q.2.2.2.2.2.2.1,q.2.2.2.2.2.2.2.1]
def bN_:IR:=
(sq (kr [0,1] [oD 4 (.nilrow (.int .u64)),
oD 5 (.mov (cI 0))])
(sq (sq (.reg [oM 10 0,
oC 11 184 [10],
oD 12 (.un .not 11)])
(.cond 12
(sq (.reg [oD 4 (.nilrow (.int .u64)),
oD 5 (.mov (cI 2))])
.ret)
.skip))
(sq (kr [0,1] [oD 6 (.nilrow (.int .u64))])
(sq (sq (.reg [oM 13 0,
oE 14 13,
oD 15 (.mov (cI 0))])
(.block 0
(.loop
(sq (kr [1,6,13,14,15] [oB 16 .lss 15 14])
(sq (.cond 16
.skip
(.exit 0))
(sq (.block 1
(sq (.reg [oI 17 1 13 15,
oL 18 17,
oM 8 18])
(sq (kr [1,6,8,13,14,15] [oM 19 8,
oM 20 8,
oD 21 (.un .neg 20),
oD 22 (.minmax true 19 21),
oM 9 22])
(sq (.block 2
(sq (kr [1,6,8,9,13,14,15] [oM 24 1,
oE 25 24,
oM 26 9,
oB 27 .lss 25 26,
oM 23 27])
(.cond 23
(sq (.reg [oD 4 (.nilrow (.int .u64)),
oD 5 (.mov (cI 1))])
.ret)
(sq (.reg [oM 29 8,
oB 30 .gtr 29 (cI 0),
oM 28 30])
(.cond 28
(kr [1,6,9,13,14,15] [oM 31 6,
oM 32 1,
oM 33 9,
oD 34 (.slice 1 32 none (some 33) none),
oC 35 193 [34],
oD 36 (.sliceAll (.int .u64) 1 [(0,1,35)]),
oD 37 (.append (.int .u64) 8 31 36),
oM 6 37])
(sq (kr [1,6,9,13,14,15] [oM 39 1,
oM 40 9,
oD 41 (.slice 1 39 none (some 40) none),
oC 42 194 [41],
oD 43 (.un .not 42),
oM 38 43])
(.cond 38
(sq (kr [] [oD 4 (.nilrow (.int .u64)),
oD 5 (.mov (cI 2))])
.ret)
.skip)))))))
(kr [1,6,9,13,14,15] [oM 44 1,
oM 45 9,
oD 46 (.slice 1 44 (some 45) none none),
oM 1 46])))))
(kr [1,6,13,14,15] [oB 47 .add 15 (cI 1),
oM 15 47])))))))
(sq (kr [6] [oM 48 6,
oM 4 48,
oD 5 (.mov (cI 0))])
.ret)))))
def Hx_:List RD:=[.tmp 4 false none,.tmp 5 false none]
theorem H5_:zn_ Tryz.prog Tryz.f162 bN_ Hx_=true:=by kernel_rfl
def xG_:List AV->List Obj->Option (Prop × AV × List Obj)
 | [.imm (.int .i64) w,.imm (.int .u8) b],[]=>some ((True,.tup [.own 0,.int .i64 (zI_ w b)],[.row false (.int .u64) (zC_ w b)]))
 | _,_=>none
theorem gn_:zd_ Tryz.prog 162 (RwF xG_).sum:=by
 refine qw_ Tryz.func162 H5_ (za_ (s:=RoF qY_) Qp_ (za_ (s:=RoF KD_) WO_ (za_ (s:=RoF ws_) yS_ (zc_ _)))) fun args objs p v o e=>?_
 unfold xG_ at e
 split at e
 ·rename_i w b
  cases e
  refine ⟨rfl,fun hw ho hp=>?_⟩
  change List Int at w
  change List Int at b
  have hb:b.length<=maxLen:=(hw (.imm (.int .u8) b) (by simp)).2
  unfold maxLen at hb
  repeat'(intro t ht;first|(cases t<;>first|(cases ht;done)|(try simp only[zg_]at ht))|((first|refine zb_ ht ?_|refine ht ?_ ?_|refine ht.1 ?_ ?_|refine ht ?_)<;>clear ht))
  all_goals first
   | exact True.intro
   | (intro r h1 h2;clear h1;refine h2 ⟨[1,6,13,14,15],Nat × List Int × List Int,(fun a=>a.1<=w.length/\a.2.1.length<=b.length/\a.2.2.length<=a.1/\Zq_ w b []=Zq_ (w.drop a.1) a.2.1 a.2.2),fun a=>[.imm (.int .u8) a.2.1,.own 0,.imm (.int .i64) w,.int .i64 w.length,.int .i64 a.1],fun a=>[.row false (.int .u64) a.2.2],fun a=>w.length - a.1,⟨(0,b,[]),⟨Nat.zero_le _,Nat.le_refl _,Nat.zero_le _,rfl⟩,rfl,rfl⟩,?_⟩;clear h2)
   | (have hr:zP_ w=false:=by assumption
      have hf:Zh_ w b=([],2):=by unfold Zh_;rw [hr];rfl
      unfold zC_ zI_;rw [hf];exact ⟨rfl,rfl⟩)
  rintro ⟨i,c,o⟩ ⟨hi,hc,ho,he⟩
  dsimp only at hi hc ho he
  have hr:zP_ w=true:=by assumption
  have hl:=(Zl_.1 hr).1
  repeat'(intro t ht;first|(cases t<;>first|(cases ht;done)|(try simp only[zg_]at ht))|((first|refine zb_ ht ?_|refine ht ?_ ?_|refine ht.1 ?_ ?_|refine ht ?_)<;>clear ht))
  all_goals first
   | ((try simp only [zk_,zl_,zj_] at*);omega)
   | (have hge:w.length<=i:=by omega
      rw [List.drop_of_length_le hge] at he
      have hf:Zh_ w b=(o,0):=by unfold Zh_;rw [if_pos hr,he];rfl
      unfold zC_ zI_;rw [hf];exact ⟨rfl,rfl⟩)
   | skip
  all_goals have hlt:i < w.length:=by omega
  all_goals have hkk:=(Zl_.1 hr).2 _ (zD_ (α:=Int) hlt 0)
  all_goals have ha:=wr_ (n:=w.getD i 0)
  all_goals have hA:(if 0 - w.getD i 0 > w.getD i 0 then 0 - w.getD i 0 else w.getD i 0)=zp_ (w.getD i 0):=rfl
  all_goals first
   | exact True.intro
   | ((try simp only [zk_,zl_,zj_] at*);omega)
   | (have h1:(c.length:Int) < zp_ (w.getD i 0):=by assumption
      have hf:Zh_ w b=([],1):=by unfold Zh_;rw [if_pos hr,he];exact UR_ hlt h1
      unfold zC_ zI_;rw [hf];exact ⟨rfl,rfl⟩)
   | (have h1:¬ (c.length:Int) < zp_ (w.getD i 0):=by assumption
      first
       | (have h2:¬ 0 < w.getD i 0:=by assumption
          first
           | (have h3:zX_ (c.take (zp_ (w.getD i 0)).toNat)=true:=by assumption
              refine ⟨(i+1,c.drop (zp_ (w.getD i 0)).toNat,o),⟨hlt,?_,by dsimp only;omega,?_⟩,by dsimp only;omega,rfl,rfl⟩
              ·dsimp only;rw [List.length_drop];omega
              ·rw [he];exact hx_ hlt h1 h2 h3)
           | (have h3:zX_ (c.take (zp_ (w.getD i 0)).toNat)=false:=by assumption
              have hf:Zh_ w b=([],2):=by unfold Zh_;rw [if_pos hr,he];exact zbY_ hlt h1 h2 h3
              unfold zC_ zI_;rw [hf];exact ⟨rfl,rfl⟩))
       | (have h2:0 < w.getD i 0:=by assumption
          first
           | (show (c.take (zp_ (w.getD i 0)).toNat).length<=8;rw [List.length_take];omega)
           | (simp only [zT_,List.length_append,List.length_cons,List.length_nil];omega)
           | (refine ⟨(i+1,c.drop (zp_ (w.getD i 0)).toNat,o++[z8_ (c.take (zp_ (w.getD i 0)).toNat)]),⟨hlt,?_,?_,?_⟩,by dsimp only;omega,rfl,rfl⟩
              ·dsimp only;rw [List.length_drop];omega
              ·simp only [List.length_append,List.length_cons,List.length_nil];omega
              ·rw [he];exact zbZ_ hlt h1 h2)))
 ·cases e
def wg_:IR:=
(sq (kr [0,1] [oD 4 (.nilrow (.int .u64))])
(sq (sq (.reg [oM 7 0,
oC 8 23 [7],
oB 9 .neq 8 (cI 0)])
(.cond 9
(sq (.reg [oD 4 (.nilrow (.int .u64))])
.ret)
.skip))
(sq (kd [0,1] [(oM 11 1,[]),
(oM 12 0,[0]),
(oD 13 (.nilck 12),[1]),
(oA 14 0 13,[2]),
(oL 15 14,[3]),
(oM 16 0,[0,0,0,0,0]),
(oD 17 (.nilck 16),[1,0,0,0,0]),
(oA 18 1 17,[2,0,0,0,0]),
(oL 19 18,[3,0,0,0,0]),
(oD 20 (.slice 1 15 (some 19) none none),[8]),
(oC 21 162 [11,20],[]),
(oM 10 21,[]),
(oX 22 10 0,[]),
(oX 23 10 1,[0]),
(oM 5 22,[0]),
(oM 6 23,[])])
(sq (sq (kr [0,1,5,6] [oM 24 6])
(.block 0
(sq (.reg [oB 35 .eql 24 (cI 1),
oM 34 35])
(.cond 34
(kr [0,5] [oM 36 0,
oM 37 0,
oD 38 (.nilck 37),
oA 39 2 38,
oL 40 39,
oC 41 63 [36,40]])
(sq (.reg [oB 43 .eql 24 (cI 2),
oM 42 43])
(.cond 42
(kr [0,5] [oM 44 0,
oM 45 0,
oD 46 (.nilck 45),
oA 47 3 46,
oL 48 47,
oC 49 63 [44,48]])
(kd [0,1,5] [(oM 25 0,[]),
(oD 26 (.nilck 25),[]),
(oA 27 1 26,[]),
(oL 28 27,[]),
(oM 29 1,[0,0,0,0]),
(oC 30 163 [29],[1,0,0,0]),
(oB 31 .add 28 30,[]),
(oD 32 (.nilck 25),[]),
(oA 33 1 32,[]),
(oS 1 33 31,[])])))))))
(sq (kr [5] [oM 50 5,
oM 4 50])
.ret)))))
def JU_:List RD:=[.tmp 4 false none]
theorem J2_:zn_ Tryz.prog Tryz.f107 wg_ JU_=true:=by kernel_rfl
def ZY_:List AV->List Obj->Option (Prop × AV × List Obj)
 | [.ptr 0 0,.imm (.int .i64) w],[.box [.imm (.int .u8) b,.int .i64 p,.int .i64 sh,.int .i64 od,.int .i64 e,.bool true]]=>some ((0<=p/\p<=b.length/\b.length<=140737488355328,.own 1,[.box [.imm (.int .u8) b,.int .i64 (qK_ w b p e),.int .i64 sh,.int .i64 od,.int .i64 (Z6_ w b p sh od e),.bool true],.row false (.int .u64) (Qy_ w b p e)]))
 | _,_=>none
theorem QH_:zd_ Tryz.prog 107 (RwF ZY_).sum:=by
 refine qw_ Tryz.func107 J2_ (za_ (s:=RoF zr_) zu_ (za_ (s:=RwF xG_) gn_ (za_ (s:=RwF zt_) zx_ (za_ (s:=RoF QE_) QY_ (zc_ _))))) fun args objs p v o e=>?_
 unfold ZY_ at e
 split at e
 ·rename_i w b p sh od e
  cases e
  refine ⟨rfl,fun hw ho hp=>?_⟩
  change List Int at w
  change List Int at b
  have hz:=WY_ w
  repeat'(intro t ht;first|(cases t<;>first|(cases ht;done)|(try simp only[zg_]at ht))|((first|refine zb_ ht ?_|refine ht ?_ ?_|refine ht.1 ?_ ?_|refine ht ?_)<;>clear ht))
  all_goals first
   | exact True.intro
   | ((try simp only [zk_,zl_,zj_] at*);omega)
   | (refine ⟨rfl,?_⟩;unfold Qy_ qK_ Z6_;simp_all [zs_];done)
 ·cases e
theorem US_:∀ (w b o:List Int),(Zq_ w b o).1.length<=o.length+w.length
 | [],b,o=>by simp [Zq_]
 | n :: r,b,o=>by
   simp only [Zq_]
   split
   ·simp
   ·split
    ·have ih:=US_ r (b.drop (zp_ n).toNat) (o++[z8_ (b.take (zp_ n).toNat)])
     simp only [List.length_append,List.length_cons,List.length_nil] at ih ⊢;omega
    ·split
     ·have ih:=US_ r (b.drop (zp_ n).toNat) o
      simp only [List.length_cons];omega
     ·simp
theorem Bl_ (w b:List Int) (p e:Int):(Qy_ w b p e).length<=w.length:=by
 unfold Qy_ zC_ Zh_
 split
 ·split
  ·have:=US_ w (b.drop p.toNat) [];simpa using this
  ·simp
 ·simp
theorem UT_:∀ (w b o:List Int),((Zq_ w b o).2=0\/(Zq_ w b o).2=1\/(Zq_ w b o).2=2)/\((Zq_ w b o).2=0->(w.map zp_).sum<=b.length)
 | [],b,o=>⟨.inl rfl,fun _=>by simp⟩
 | n :: r,b,o=>by
   have ha:=wr_ (n:=n)
   have hd:(b.drop (zp_ n).toNat).length=b.length - (zp_ n).toNat:=List.length_drop
   simp only [Zq_]
   rw [List.map_cons,List.sum_cons]
   split
   ·exact ⟨.inr (.inl rfl),fun h=>by cases h⟩
   ·split
    ·have ih:=UT_ r (b.drop (zp_ n).toNat) (o++[z8_ (b.take (zp_ n).toNat)])
     exact ⟨ih.1,fun h=>by have:=ih.2 h;omega⟩
    ·split
     ·have ih:=UT_ r (b.drop (zp_ n).toNat) o
      exact ⟨ih.1,fun h=>by have:=ih.2 h;omega⟩
     ·exact ⟨.inr (.inr rfl),fun h=>by cases h⟩
theorem zhu_ (w b:List Int):(zI_ w b=0\/zI_ w b=1\/zI_ w b=2)/\(zI_ w b=0->zE_ w<=b.length):=by
 unfold zI_ Zh_ zE_
 split
 ·exact UT_ w b []
 ·exact ⟨.inr (.inr rfl),fun h=>by cases h⟩
theorem Bk_ {w b:List Int} {p e:Int} (h0:0<=p) (h1:p<=b.length):0<=qK_ w b p e/\qK_ w b p e<=b.length:=by
 have hk:=zhu_ w (b.drop p.toNat)
 have hz:=WY_ w
 have hd:(b.drop p.toNat).length=b.length - p.toNat:=List.length_drop
 unfold qK_
 by_cases he:e=0
 ·rw [if_pos he]
  by_cases h2:zI_ w (b.drop p.toNat)=1
  ·rw [if_pos h2];exact ⟨h0,h1⟩
  ·rw [if_neg h2]
   by_cases h3:zI_ w (b.drop p.toNat)=2
   ·rw [if_pos h3];exact ⟨h0,h1⟩
   ·rw [if_neg h3]
    have:=hk.2 (by omega)
    omega
 ·rw [if_neg he];exact ⟨h0,h1⟩
theorem zgA_ {n:Int} {b:List Int} {p sh e:Int} (h0:0<=p) (h1:p<=b.length) (hs:sh ≠ 0):0<=QG_ n b p sh e/\QG_ n b p sh e<=b.length:=by
 have h2:zs_ e 10001 ≠ 0:=Yz_ (by decide)
 have h3:zs_ e sh ≠ 0:=Yz_ hs
 unfold QG_
 by_cases h:ZA_ n b p sh e=0
 ·rw [if_pos h]
  unfold ZA_ at h
  by_cases hn:n < 0
  ·rw [if_pos hn] at h;exact absurd h h2
  ·rw [if_neg hn] at h
   by_cases hl:(b.length:Int) - p < n
   ·rw [if_pos hl] at h;exact absurd h h3
   ·omega
 ·rw [if_neg h];exact ⟨h0,h1⟩
end Go.Eng
