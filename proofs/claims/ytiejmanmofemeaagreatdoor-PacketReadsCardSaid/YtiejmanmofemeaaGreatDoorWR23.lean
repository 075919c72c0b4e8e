/- Parts of the proof: X9, XA, XD, XC, XE. No condition. -/
import Derived.Test.YtiejmanmofemeaaGreatDoorProg
import Derived.Test.YtiejmanmofemeaaGreatDoorWR10
import Derived.KernelRfl
import Derived.Test.YtiejmanmofemeaaGreatDoorWR22
namespace Go.Eng
open Go.Proofs
set_option linter.unusedVariables false
set_option linter.unusedSimpArgs false
set_option maxRecDepth 100000
set_option maxHeartbeats 1000000
theorem zfL_ (e:Int):wv_ [] e=e:=by unfold wv_;split<;>simp_all
theorem zhd_ {l:List Int} {e:Int} (h:wv_ [] e=0):Xh_ l [] e=l/\e=0:=by
 rw [zfL_] at h;subst h;exact ⟨rfl,rfl⟩
theorem bd24 (tt xi:Int) (n d:List Int) (el:List VEl) (x:List OV) (a:List AC) (ins:List VIn) (bu:List BK) (ba:List VBd) (qu:List VQu) (po:List PV) (ki fl:Int) (pa:List VPa):
 (wv_ [] (QH_ d (pkB tt n d x a [] 0) 65527 (pkE tt n d x a [] 0))=0->Xi_ (tt,xi,[],[],el,(if tt=10/\Z4_ n d=false then [] else x),(if tt=13/\ZZ_ n d=false then [] else a),ins,bu,ba,qu,po,ki,fl,pa,())=true->wrR ((tt,xi,n,d,el,x,a,ins,bu,ba,qu,po,ki,fl,pa,()):VMs)=(Xh_ (QY_ d (pkB tt n d x a [] 0) 65527 (pkE tt n d x a [] 0)) [] (QH_ d (pkB tt n d x a [] 0) 65527 (pkE tt n d x a [] 0)),0))/\
 (¬ (wv_ [] (QH_ d (pkB tt n d x a [] 0) 65527 (pkE tt n d x a [] 0))=0/\Xi_ (tt,xi,[],[],el,(if tt=10/\Z4_ n d=false then [] else x),(if tt=13/\ZZ_ n d=false then [] else a),ins,bu,ba,qu,po,ki,fl,pa,())=true)->wrR ((tt,xi,n,d,el,x,a,ins,bu,ba,qu,po,ki,fl,pa,()):VMs)=([],10001)):=by
 obtain ⟨k1,k2⟩:=zgn_ ((tt,xi,n,d,el,x,a,ins,bu,ba,qu,po,ki,fl,pa,()):VMs)
 have e:Gi_ (decide (mT ((tt,xi,n,d,el,x,a,ins,bu,ba,qu,po,ki,fl,pa,()):VMs)=10) && !Z4_ (mN ((tt,xi,n,d,el,x,a,ins,bu,ba,qu,po,ki,fl,pa,()):VMs)) (mD ((tt,xi,n,d,el,x,a,ins,bu,ba,qu,po,ki,fl,pa,()):VMs))) (decide (mT ((tt,xi,n,d,el,x,a,ins,bu,ba,qu,po,ki,fl,pa,()):VMs)=13) && !ZZ_ (mN ((tt,xi,n,d,el,x,a,ins,bu,ba,qu,po,ki,fl,pa,()):VMs)) (mD ((tt,xi,n,d,el,x,a,ins,bu,ba,qu,po,ki,fl,pa,()):VMs))) ((tt,xi,n,d,el,x,a,ins,bu,ba,qu,po,ki,fl,pa,()):VMs)=(tt,xi,[],[],el,(if tt=10/\Z4_ n d=false then [] else x),(if tt=13/\ZZ_ n d=false then [] else a),ins,bu,ba,qu,po,ki,fl,pa,()):=by
  unfold Gi_
  simp only [Bool.and_eq_true,decide_eq_true_eq,Bool.not_eq_true']
 rw [e] at k1 k2
 constructor
 ·intro h1 h2
  obtain ⟨q1,q2⟩:=zhd_ (l:=QY_ d (pkB tt n d x a [] 0) 65527 (pkE tt n d x a [] 0)) h1
  rw [q1];exact k1 ⟨q2,h2⟩
 ·intro h
  exact k2 fun c=>h ⟨by rw [zfL_];exact c.1,c.2⟩
theorem zhK_ (b:List Int):jm_ 10 b=if (65527:Int) < b.length then zs_ (e10 b) 263 else e10 b:=by
 unfold jm_ zs_;rw [if_pos rfl]
 by_cases h:(65527:Int) < b.length
 ·rw [if_pos h]
  by_cases h2:e10 b=0
  ·rw [if_pos ⟨h2,h⟩,if_pos h2]
  ·rw [if_neg (fun c=>h2 c.1),if_neg h2]
 ·rw [if_neg h,if_neg (fun c=>h c.2)]
theorem zhJ_ (b:List Int):jm_ 13 b=if (65527:Int) < b.length then zs_ (e13 b) 263 else e13 b:=by
 unfold jm_ zs_;rw [if_neg (by decide),if_pos rfl]
 by_cases h:(65527:Int) < b.length
 ·rw [if_pos h]
  by_cases h2:e13 b=0
  ·rw [if_pos ⟨h2,h⟩,if_pos h2]
  ·rw [if_neg (fun c=>h2 c.1),if_neg h2]
 ·rw [if_neg h,if_neg (fun c=>h c.2)]
theorem Y8_ {t:Int} {b:List Int} (h:¬ jm_ t b=0):ZQ_ t b=zMs:=by unfold ZQ_;rw [if_neg h]
theorem zhI_ {b:List Int} (h:jm_ 10 b=0):ZQ_ 10 b=v10 b:=by unfold ZQ_;rw [if_pos h,if_pos rfl]
theorem zhH_ {b:List Int} (h:jm_ 13 b=0):ZQ_ 13 b=v13 b:=by unfold ZQ_;rw [if_pos h,if_neg (by decide)]
theorem Vc_ (e:Int):¬ zs_ e 263=0:=by unfold zs_;split<;>omega
def uu_:IR:=
(sq (kr [0] [oD 1 (.boxv 0),
oD 2 (.mov (.c (.imm (.int .u8) []))),
oD 3 (.mov (cI 0))])
(sq (.reg [oC 7 77 [(cI 65527)],
oM 4 7])
(sq (.reg [oM 8 4,
oC 9 78 [8,1]])
(sq (kr [1,4] [oM 11 4,
oC 12 79 [11],
oM 10 12,
oX 13 10 0,
oX 14 10 1,
oM 5 13,
oM 6 14])
(sq (sq (kr [1,5,6] [oM 15 6,
oB 16 .neq 15 (cI 0),
oM 17 16,
oF 17 18 (.load (some 15) 1),
oF 17 19 (.call false (.f 80) [18]),
oF 17 20 (.un .not 19),
oP 21 17 cT 20])
(.cond 21
(sq (kr [] [oD 2 (.mov (.c (.imm (.int .u8) []))),
oD 3 (.mov (cI 10001))])
.ret)
.skip))
(sq (kr [5] [oM 22 5,
oM 2 22,
oD 3 (.mov (cI 0))])
.ret))))))
def VP_:List RD:=[.tmp 2 true (some (.int .u8)),.tmp 3 true none]
theorem V9_:zm_ Tryz.prog Tryz.f30 uu_ VP_=true:=by kernel_rfl
def ju_:List AV->List Obj->Option (Prop × AV)
 | [.agg zz0],[]=>yO_ YD zz0 fun ⟨tt,xi,n,d,el,x,a,ins,bu,ba,qu,po,ki,fl,pa,_⟩=>some ((okM x/\okL a/\d.length<=1000000/\n.length<=1000000,.tup [.imm (.int .u8) (wrR ((tt,xi,n,d,el,x,a,ins,bu,ba,qu,po,ki,fl,pa,()):VMs)).1,.int .i64 (wrR ((tt,xi,n,d,el,x,a,ins,bu,ba,qu,po,ki,fl,pa,()):VMs)).2]))
 | _,_=>none
theorem vx_:zd_ Tryz.prog 30 (RoF ju_).sum:=by
 refine zl_ Tryz.func30 V9_ (za_ (s:=RwF Q5_) Kz_ (za_ (s:=RwF we_) Vw_ (za_ (s:=RwF ZC_) Z9_ (za_ (s:=RoF wm_) VE_ (zc_ _))))) fun args objs p v e=>?_
 unfold ju_ at e
 split at e
 ·rename_i zz0
  replace e:=KG_ e
  obtain ⟨⟨tt,xi,n,d,el,x,a,ins,bu,ba,qu,po,ki,fl,pa,_⟩,hz,e⟩:=e
  replace hz:zz0=[.int .i64 tt,.int .u32 xi,.imm (.int .u64) n,.imm (.int .u8) d,.imm YB el,.imm Y1 x,.imm Y2 a,.imm Y3 ins,.imm Y4 bu,.imm Y5 ba,.imm Y7 qu,.imm Y8 po,.int .i64 ki,.int .i64 fl,.imm YC pa]:=hz
  subst hz
  change Int at tt
  change Int at xi
  change Int at ki
  change Int at fl
  cases e
  refine ⟨rfl,fun hw ho hp=>?_⟩
  change List Int at n
  change List Int at d
  clear hw ho
  change List AC at a
  change List OV at x
  change List Int at n
  change List Int at d
  obtain ⟨hx,ha,hd,hn⟩:=hp
  have hroom:Y5_ 65527=65527:=by decide
  obtain ⟨k1,k2⟩:=bd24 tt xi n d el x a ins bu ba qu po ki fl pa
  have hlim:(QY_ d (pkB tt n d x a [] 0) 65527 (pkE tt n d x a [] 0)).length<=1000000:=by
   refine kV_ ?_ (by decide)
   have z:([]:List Int).length<=1000000:=by decide
   unfold pkB p10B p13B r13B
   repeat' split
   all_goals first
    | exact z
    | exact Qd_ (zcT_ (Qd_ z (by decide)) (by decide)) (by decide)
    | exact zdi_ (Qd_ (Qd_ z (by decide)) (by decide)) (by decide)
  repeat'(intro t ht;first|(cases t<;>first|(cases ht;done)|(try simp only[zg_]at ht;try(exfalso;first|contradiction|omega)))|((first|refine zb_ ht ?_|refine ht ?_ ?_|refine ht.1 ?_ ?_|refine ht ?_)<;>clear ht))
  all_goals first
   | exact True.intro
   | exact ⟨hroom,by decide,hx,ha,hd,hn⟩
   | exact ⟨Nat.le_trans hlim (by decide),by decide⟩
   | (have c:=k1 (by assumption) ht;rw [c];exact ⟨rfl,rfl⟩)
   | (have c:=k2 (fun q=>ht q.1);rw [c];exact ⟨rfl,rfl⟩)
   | (have c:=k2 (fun q=>by rw [q.2] at ht;cases ht);rw [c];exact ⟨rfl,rfl⟩)
 ·cases e
def ut_:IR:=
(sq (kr [0,1] [oD 4 (.box [.int .i64 0,.int .u32 0,.imm (.int .u64) [],.imm (.int .u8) [],.imm YB [],.imm Y1 [],.imm Y2 [],.imm Y3 [],.imm Y4 [],.imm Y5 [],.imm Y7 [],.imm Y8 [],.int .i64 0,.int .i64 0,.imm YC []]),
oD 5 (.mov (cI 0))])
(sq (.reg [oM 7 1,
oC 8 20 [7,(cI 263),(cI 269)],
oM 6 8])
(sq (sq (.reg [oM 9 0])
(.block 0
(sq (.reg [oB 13 .eql 9 (cI 10),
oM 12 13])
(.cond 12
(kr [0,1,4,6] [oM 14 6,
oC 15 86 [14],
oS 15 4 15])
(sq (kr [0,1,4,6,9] [oB 17 .eql 9 (cI 13),
oM 16 17])
(.cond 16
(.reg [oM 18 6,
oC 19 87 [18],
oS 15 4 19])
(.reg [oM 10 6,
oC 11 63 [10,(cI 10001)]])))))))
(sq (sq (kr [0,1,4,6] [oM 20 1,
oE 21 20,
oB 22 .gtr 21 (cI 65527)])
(.cond 22
(.reg [oM 23 6,
oC 24 63 [23,(cI 263)]])
.skip))
(sq (sq (.reg [oM 25 6,
oC 26 23 [25],
oB 27 .neq 26 (cI 0)])
(.cond 27
(sq (kr [4,6] [oD 28 (.build [.int .i64 0,.int .u32 0,.imm (.int .u64) [],.imm (.int .u8) [],.imm YB [],.imm Y1 [],.imm Y2 [],.imm Y3 [],.imm Y4 [],.imm Y5 [],.imm Y7 [],.imm Y8 [],.int .i64 0,.int .i64 0,.imm YC []] []),
oM 29 6,
oC 30 23 [29],
oS 15 4 28,
oM 5 30])
.ret)
.skip))
(sq (kr [0,4] [oM 31 0,
oA 32 0 4,
oS 1 32 31])
(sq (.reg [oK 33 15 4,
oS 15 4 33,
oD 5 (.mov (cI 0))])
.ret)))))))
def VO_:List RD:=[.cell 4 (some 15) true [],.tmp 5 true none]
theorem V8_:zm_ Tryz.prog Tryz.f34 ut_ VO_=true:=by kernel_rfl
def kG_:List AV->List Obj->Option (Prop × AV)
 | [.int .i64 tt,.imm (.int .u8) b],[]=>some ((b.length<=100000000,.tup [.agg [.int .i64 ((ZQ_ tt b)).1,.int .u32 ((ZQ_ tt b)).2.1,.imm (.int .u64) ((ZQ_ tt b)).2.2.1,.imm (.int .u8) ((ZQ_ tt b)).2.2.2.1,.imm YB ((ZQ_ tt b)).2.2.2.2.1,.imm Y1 ((ZQ_ tt b)).2.2.2.2.2.1,.imm Y2 ((ZQ_ tt b)).2.2.2.2.2.2.1,.imm Y3 ((ZQ_ tt b)).2.2.2.2.2.2.2.1,.imm Y4 ((ZQ_ tt b)).2.2.2.2.2.2.2.2.1,.imm Y5 ((ZQ_ tt b)).2.2.2.2.2.2.2.2.2.1,.imm Y7 ((ZQ_ tt b)).2.2.2.2.2.2.2.2.2.2.1,.imm Y8 ((ZQ_ tt b)).2.2.2.2.2.2.2.2.2.2.2.1,.int .i64 ((ZQ_ tt b)).2.2.2.2.2.2.2.2.2.2.2.2.1,.int .i64 ((ZQ_ tt b)).2.2.2.2.2.2.2.2.2.2.2.2.2.1,.imm YC ((ZQ_ tt b)).2.2.2.2.2.2.2.2.2.2.2.2.2.2.1],.int .i64 (jm_ tt b)]))
 | _,_=>none
theorem ws_:zd_ Tryz.prog 34 (RoF kG_).sum:=by
 refine zl_ Tryz.func34 V8_ (za_ (s:=RwF qf_) qz_ (za_ (s:=RwF xs_) Us_ (za_ (s:=RwF wf_) Vx_ (za_ (s:=RwF zt_) zw_ (za_ (s:=RoF zr_) zu_ (zc_ _)))))) fun args objs p v e=>?_
 unfold kG_ at e
 split at e
 ·rename_i tt b
  cases e
  refine ⟨rfl,fun hw ho hp=>?_⟩
  change List Int at b
  have hb:∀ x ∈ (b:List Int),(0:Int)<=x/\x<=255:=fun x hx=>(hw (.imm (.int .u8) b) (by simp)).1 x hx
  clear hw ho
  obtain ⟨i1,i2⟩:=zjn_ hb
  obtain ⟨o1,o2⟩:=zif_ hb
  by_cases h10:tt=10
  ·subst h10
   have hE:=zhK_ b
   rw [<- i1] at hE
   repeat'(intro t ht;first|(cases t<;>first|(cases ht;done)|(try simp only[zg_]at ht;try(exfalso;first|contradiction|omega)))|((first|refine zb_ ht ?_|refine ht ?_ ?_|refine ht.1 ?_ ?_|refine ht ?_)<;>clear ht))
   all_goals first
    | exact True.intro
    | exact ⟨rfl,rfl,rfl,rfl,hp⟩
    | exact Nat.le_trans hp (by decide)
    | exact absurd ht (Vc_ _)
    | (rw [if_neg (by assumption)] at hE
       first
        | (have h0:i5E b=0:=ht
           obtain ⟨j1,j2,j3⟩:=i2 (i1 ▸ h0)
           rw [zhI_ (hE.trans h0),hE,h0]
           unfold v10
           rw [<- j1,<- j2,<- j3];exact ⟨rfl,rfl⟩)
        | (rw [Y8_ (by rw [hE];exact ht),hE];exact ⟨rfl,rfl⟩))
    | (rw [if_pos (by assumption)] at hE
       rw [Y8_ (by rw [hE];exact Vc_ _),hE];exact ⟨rfl,rfl⟩)
  ·by_cases h13:tt=13
   ·subst h13
    have hE:=zhJ_ b
    rw [<- o1] at hE
    repeat'(intro t ht;first|(cases t<;>first|(cases ht;done)|(try simp only[zg_]at ht;try(exfalso;first|contradiction|omega)))|((first|refine zb_ ht ?_|refine ht ?_ ?_|refine ht.1 ?_ ?_|refine ht ?_)<;>clear ht))
    all_goals first
     | exact True.intro
     | exact ⟨rfl,rfl,rfl,rfl,hp⟩
     | exact Nat.le_trans hp (by decide)
     | exact absurd ht (Vc_ _)
     | (rw [if_neg (by assumption)] at hE
        first
         | (have h0:o5E b=0:=ht
            obtain ⟨j1,j2,j3⟩:=o2 (o1 ▸ h0)
            rw [zhH_ (hE.trans h0),hE,h0]
            unfold v13
            rw [<- j1,<- j2,<- j3];exact ⟨rfl,rfl⟩)
         | (rw [Y8_ (by rw [hE];exact ht),hE];exact ⟨rfl,rfl⟩))
     | (rw [if_pos (by assumption)] at hE
        rw [Y8_ (by rw [hE];exact Vc_ _),hE];exact ⟨rfl,rfl⟩)
   ·have hE:jm_ tt b=10001:=by unfold jm_;rw [if_neg h10,if_neg h13]
    have hM:=Y8_ (t:=tt) (b:=b) (by rw [hE];decide)
    repeat'(intro t ht;first|(cases t<;>first|(cases ht;done)|(try simp only[zg_]at ht;try(exfalso;first|contradiction|omega)))|((first|refine zb_ ht ?_|refine ht ?_ ?_|refine ht.1 ?_ ?_|refine ht ?_)<;>clear ht))
    all_goals first
     | exact True.intro
     | exact Nat.le_trans hp (by decide)
     | (exfalso;have h0:¬ zs_ 0 10001=0:=by decide
        first | exact h0 ht | exact ht rfl)
     | (rw [hM,hE];exact ⟨rfl,rfl⟩)
 ·cases e
def rin (b:List Int):VMs:=if e10 b=0 then v10 b else zMs
def wB_ (b:List Int):VMs:=if e13 b=0 then v13 b else zMs
theorem Xm_ {b:List Int} {e:Int} (h:e10 b=e) (h0:¬ e=0):rin b=zMs:=by unfold rin;rw [if_neg (by rw [h];exact h0)]
theorem zeL_ {b:List Int} (h:e10 b=0):rin b=v10 b:=if_pos h
theorem xG_ {b:List Int} {e:Int} (h:e13 b=e) (h0:¬ e=0):wB_ b=zMs:=by unfold wB_;rw [if_neg (by rw [h];exact h0)]
theorem hg_ {b:List Int} (h:e13 b=0):wB_ b=v13 b:=if_pos h
theorem zhC_ {r:List Int} (h:¬ r.length < 2):zF_ (r.take 2)=true ↔ r.getD 0 0=0/\r.getD 1 0=0:=by
 rcases r with _ | ⟨p,_ | ⟨q,s⟩⟩
 ·exact absurd (by decide:([]:List Int).length < 2) h
 ·exact absurd (by decide:(1:Nat) < 2) h
 ·show (decide (p=0) && (decide (q=0) && true))=true ↔ p=0/\q=0
  simp
theorem zjz_ {b:List Int} (h:¬ zx_ [4,2,1,1,8] b=0):e10 b=263:=if_pos h
theorem zjy_ {b:List Int} (h1:zx_ [4,2,1,1,8] b=0) (h:2 < (zA_ [4,2,1,1,8] b).getD 2 0):e10 b=269:=by
 unfold e10;rw [if_neg (show ¬ zx_ w10 b ≠ 0 from not_not_intro h1)];exact if_pos h
theorem zjx_ {b:List Int} (h1:zx_ [4,2,1,1,8] b=0) (h2:¬ 2 < (zA_ [4,2,1,1,8] b).getD 2 0) (h:¬ mdE (b.drop 16)=0):e10 b=mdE (b.drop 16):=by
 unfold e10;rw [if_neg (show ¬ zx_ w10 b ≠ 0 from not_not_intro h1),if_neg (show ¬ 2 < (zA_ w10 b).getD 2 0 from h2)];exact if_pos h
theorem zjw_ {b:List Int} (h1:zx_ [4,2,1,1,8] b=0) (h2:¬ 2 < (zA_ [4,2,1,1,8] b).getD 2 0) (h3:mdE (b.drop 16)=0) (h:((r10 b).length:Int) < 2):e10 b=263:=by
 unfold e10;rw [if_neg (show ¬ zx_ w10 b ≠ 0 from not_not_intro h1),if_neg (show ¬ 2 < (zA_ w10 b).getD 2 0 from h2),if_neg (not_not_intro h3)];exact if_pos (by omega)
theorem zfJ_ {b:List Int} (h1:zx_ [4,2,1,1,8] b=0) (h2:¬ 2 < (zA_ [4,2,1,1,8] b).getD 2 0) (h3:mdE (b.drop 16)=0) (h4:¬ ((r10 b).length:Int) < 2) (h:¬ (r10 b).getD 0 0=0\/¬ (r10 b).getD 1 0=0\/(zA_ [4,2,1,1,8] b).getD 1 0 < ((r10 b).length:Int) - 2):e10 b=269:=by
 have z:=zhC_ (r:=r10 b) (by omega)
 unfold e10;rw [if_neg (show ¬ zx_ w10 b ≠ 0 from not_not_intro h1),if_neg (show ¬ 2 < (zA_ w10 b).getD 2 0 from h2),if_neg (not_not_intro h3),if_neg (by omega)]
 refine if_pos ?_
 rcases h with h | h | h
 ·left;cases hz:zF_ ((r10 b).take 2) with
  | false=>rfl
  | true=>exact absurd (z.1 hz).1 h
 ·left;cases hz:zF_ ((r10 b).take 2) with
  | false=>rfl
  | true=>exact absurd (z.1 hz).2 h
 ·exact .inr h
theorem zjv_ {b:List Int} (h1:zx_ [4,2,1,1,8] b=0) (h2:¬ 2 < (zA_ [4,2,1,1,8] b).getD 2 0) (h3:mdE (b.drop 16)=0) (h4:¬ ((r10 b).length:Int) < 2) (h5:(r10 b).getD 0 0=0) (h6:(r10 b).getD 1 0=0) (h7:¬ (zA_ [4,2,1,1,8] b).getD 1 0 < ((r10 b).length:Int) - 2):e10 b=0:=by
 have z:=zhC_ (r:=r10 b) (by omega)
 unfold e10;rw [if_neg (show ¬ zx_ w10 b ≠ 0 from not_not_intro h1),if_neg (show ¬ 2 < (zA_ w10 b).getD 2 0 from h2),if_neg (not_not_intro h3),if_neg (by omega)]
 refine if_neg ?_
 rintro (c | c)
 ·rw [z.2 ⟨h5,h6⟩] at c;cases c
 ·exact h7 c
theorem zcA_ {n:Nat} (h1:¬ (n:Int) < 2) (h:n<=100000000):(IntKind.u64.min<=(n:Int) - 2/\(n:Int) - 2<=IntKind.u64.max)/\(IntKind.i64.min<=(n:Int) - 2/\(n:Int) - 2<=IntKind.i64.max):=by simp only [zi_];omega
def zd1_:IR:=
(sq (kr [0] [oD 2 (.box [.int .i64 0,.int .u32 0,.imm (.int .u64) [],.imm (.int .u8) [],.imm YB [],.imm Y1 [],.imm Y2 [],.imm Y3 [],.imm Y4 [],.imm Y5 [],.imm Y7 [],.imm Y8 [],.int .i64 0,.int .i64 0,.imm YC []]),
oD 3 (.mov (cI 0))])
(sq (kr [0,2] [oD 11 (.sliceAll (.int .i64) 5 [(0,1,(cI 4)),(1,1,(cI 2)),(2,1,(cI 1)),(3,1,(cI 1)),(4,1,(cI 8))]),
oM 12 0,
oC 13 56 [11,12],
oM 10 13,
oX 14 10 0,
oX 15 10 1,
oM 4 14,
oM 5 15])
(sq (sq (kr [0,2,4,5] [oM 16 5,
oB 17 .neq 16 (cI 0)])
(.cond 17
(sq (.reg [oD 18 (.build [.int .i64 0,.int .u32 0,.imm (.int .u64) [],.imm (.int .u8) [],.imm YB [],.imm Y1 [],.imm Y2 [],.imm Y3 [],.imm Y4 [],.imm Y5 [],.imm Y7 [],.imm Y8 [],.int .i64 0,.int .i64 0,.imm YC []] []),
oS 15 2 18,
oD 3 (.mov (cI 263))])
.ret)
.skip))
(sq (sq (.reg [oM 19 4,
oD 20 (.indexSl 1 19 (cI 2)),
oL 21 20,
oB 22 .gtr 21 (.c (.int .u64 2))])
(.cond 22
(sq (kr [2] [oD 23 (.build [.int .i64 0,.int .u32 0,.imm (.int .u64) [],.imm (.int .u8) [],.imm YB [],.imm Y1 [],.imm Y2 [],.imm Y3 [],.imm Y4 [],.imm Y5 [],.imm Y7 [],.imm Y8 [],.int .i64 0,.int .i64 0,.imm YC []] []),
oS 15 2 23,
oD 3 (.mov (cI 269))])
.ret)
.skip))
(sq (kr [0,2,4] [oM 25 0,
oD 26 (.slice 1 25 (some (cI 16)) none none),
oC 27 109 [26],
oM 24 27,
oX 28 24 0,
oX 29 24 1,
oX 30 24 2,
oM 6 28,
oM 7 29,
oM 8 30])
(sq (sq (kr [0,2,4,6,7,8] [oM 31 8,
oB 32 .neq 31 (cI 0)])
(.cond 32
(sq (.reg [oD 33 (.build [.int .i64 0,.int .u32 0,.imm (.int .u64) [],.imm (.int .u8) [],.imm YB [],.imm Y1 [],.imm Y2 [],.imm Y3 [],.imm Y4 [],.imm Y5 [],.imm Y7 [],.imm Y8 [],.int .i64 0,.int .i64 0,.imm YC []] []),
oM 34 8,
oS 15 2 33,
oM 3 34])
.ret)
.skip))
(sq (kr [0,2,4,6,7] [oM 35 0,
oM 36 7,
oB 37 .add (cI 16) 36,
oD 38 (.slice 1 35 (some 37) none none),
oM 9 38])
(sq (sq (.reg [oM 39 9,
oE 40 39,
oB 41 .lss 40 (cI 2)])
(.cond 41
(sq (kr [2] [oD 42 (.build [.int .i64 0,.int .u32 0,.imm (.int .u64) [],.imm (.int .u8) [],.imm YB [],.imm Y1 [],.imm Y2 [],.imm Y3 [],.imm Y4 [],.imm Y5 [],.imm Y7 [],.imm Y8 [],.int .i64 0,.int .i64 0,.imm YC []] []),
oS 15 2 42,
oD 3 (.mov (cI 263))])
.ret)
.skip))
(sq (sq (kr [2,4,6,9] [oM 43 9,
oD 44 (.indexSl 1 43 (cI 0)),
oL 45 44,
oB 46 .neq 45 (.c (.int .u8 0)),
oM 47 46,
oF 47 48 (.mov 9),
oF 47 49 (.indexSl 1 48 (cI 1)),
oF 47 50 (.load none 49),
oF 47 51 (.bin .neq 50 (.c (.int .u8 0))),
oP 52 47 cT 51,
oM 53 52,
oF 53 54 (.mov 9),
oF 53 55 (.len 54),
oF 53 56 (.bin .sub 55 (cI 2)),
oF 53 57 (.conv .u64 56),
oF 53 58 (.mov 4),
oF 53 59 (.indexSl 1 58 (cI 1)),
oF 53 60 (.load none 59),
oF 53 61 (.bin .gtr 57 60),
oP 62 53 cT 61])
(.cond 62
(sq (kr [2] [oD 63 (.build [.int .i64 0,.int .u32 0,.imm (.int .u64) [],.imm (.int .u8) [],.imm YB [],.imm Y1 [],.imm Y2 [],.imm Y3 [],.imm Y4 [],.imm Y5 [],.imm Y7 [],.imm Y8 [],.int .i64 0,.int .i64 0,.imm YC []] []),
oS 15 2 63,
oD 3 (.mov (cI 269))])
.ret)
.skip))
(sq (kr [2,4,6,9] [oM 64 4,
oM 65 6,
oM 66 9,
oD 67 (.slice 1 66 (some (cI 2)) none none),
oD 68 (.build [.int .i64 0,.int .u32 0,.imm (.int .u64) [],.imm (.int .u8) [],.imm YB [],.imm Y1 [],.imm Y2 [],.imm Y3 [],.imm Y4 [],.imm Y5 [],.imm Y7 [],.imm Y8 [],.int .i64 0,.int .i64 0,.imm YC []] [(0,1,(cI 10)),(2,1,64),(5,1,65),(3,1,67)]),
oS 15 2 68,
oD 3 (.mov (cI 0))])
.ret))))))))))
def zdD_:List RD:=[.cell 2 (some 15) true [],.tmp 3 true none]
theorem zdK_:zm_ Tryz.prog Tryz.f88 zd1_ zdD_=true:=by kernel_rfl
def Ub_:List AV->List Obj->Option (Prop × AV)
 | [.imm (.int .u8) b],[]=>some ((b.length<=50000,.tup [.agg [.int .i64 ((rin b)).1,.int .u32 ((rin b)).2.1,.imm (.int .u64) ((rin b)).2.2.1,.imm (.int .u8) ((rin b)).2.2.2.1,.imm YB ((rin b)).2.2.2.2.1,.imm Y1 ((rin b)).2.2.2.2.2.1,.imm Y2 ((rin b)).2.2.2.2.2.2.1,.imm Y3 ((rin b)).2.2.2.2.2.2.2.1,.imm Y4 ((rin b)).2.2.2.2.2.2.2.2.1,.imm Y5 ((rin b)).2.2.2.2.2.2.2.2.2.1,.imm Y7 ((rin b)).2.2.2.2.2.2.2.2.2.2.1,.imm Y8 ((rin b)).2.2.2.2.2.2.2.2.2.2.2.1,.int .i64 ((rin b)).2.2.2.2.2.2.2.2.2.2.2.2.1,.int .i64 ((rin b)).2.2.2.2.2.2.2.2.2.2.2.2.2.1,.imm YC ((rin b)).2.2.2.2.2.2.2.2.2.2.2.2.2.2.1],.int .i64 (e10 b)]))
 | _,_=>none
theorem za7_:zd_ Tryz.prog 88 (RoF Ub_).sum:=by
 refine zl_ Tryz.func88 zdK_ (za_ (s:=RoF j2_) Wq_ (za_ (s:=RoF wa_) Vu_ (zc_ _))) fun args objs p v e=>?_
 unfold Ub_ at e
 split at e
 ·rename_i b
  cases e
  refine ⟨rfl,fun hw ho hp=>?_⟩
  change List Int at b
  have hb:∀ x ∈ (b:List Int),(0:Int)<=x/\x<=255:=fun x hx=>(hw (.imm (.int .u8) b) (by simp)).1 x hx
  clear hw ho
  have hN:=Hj_ (b.drop 16) fun x hx=>hb x (List.mem_of_mem_drop hx)
  have hdl:(b.drop 16).length=b.length - 16:=List.length_drop
  have hr:b.drop (16+mdN (b.drop 16)).toNat=r10 b:=by unfold r10;congr 1;omega
  have hrl:(r10 b).length<=100000000:=by unfold r10;rw [List.length_drop];omega
  have hk:zx_ [4,2,1,1,8] b=0->(zA_ [4,2,1,1,8] b).length=5/\16<=b.length:=fun h=>by
   obtain ⟨n1,n2⟩:=rowN (w:=w10) hb h
   rw [show z4_ w10=5 by decide] at n1
   rw [show zD_ w10=16 by decide] at n2
   exact ⟨by have:((zA_ w10 b).length:Int)=5:=n1;show (zA_ w10 b).length=5;omega,by omega⟩
  clear hb
  repeat'(intro t ht;first|(cases t<;>first|(cases ht;done)|(try simp only[zg_]at ht;try(exfalso;first|contradiction|omega)))|((first|refine zb_ ht ?_|refine ht ?_ ?_|refine ht.1 ?_ ?_|refine ht ?_)<;>clear ht))
  all_goals (try simp only [Int.reduceToNat,hr] at*)
  all_goals first
   | exact True.intro
   | (have E:=zjz_ ht
      rw [Xm_ E (by decide),E];first | rfl | exact ⟨rfl,rfl⟩ | exact ⟨rfl,True.intro⟩)
   | (obtain ⟨k1,k2⟩:=hk (by assumption)
      first
       | omega
       | (constructor<;>omega)
       | (refine ⟨?_,?_,?_⟩<;>omega)
       | ((try simp only [zj_,zk_,zi_] at*);omega)
       | exact (zcA_ (by assumption) hrl).1
       | exact (zcA_ (by assumption) hrl).2
       | (have E:=zjy_ (by assumption) ht
          rw [Xm_ E (by decide),E];first | rfl | exact ⟨rfl,rfl⟩ | exact ⟨rfl,True.intro⟩)
       | (have E:=zjx_ (by assumption) (by assumption) ht
          rw [Xm_ E ht,E];first | rfl | exact ⟨rfl,rfl⟩ | exact ⟨rfl,True.intro⟩)
       | (have E:=zjw_ (by assumption) (by assumption) (by assumption) ht
          rw [Xm_ E (by decide),E];first | rfl | exact ⟨rfl,rfl⟩ | exact ⟨rfl,True.intro⟩)
       | (have E:=zfJ_ (by assumption) (by assumption) (by assumption) (by assumption) (.inl ht)
          rw [Xm_ E (by decide),E];first | rfl | exact ⟨rfl,rfl⟩ | exact ⟨rfl,True.intro⟩)
       | (have E:=zfJ_ (by assumption) (by assumption) (by assumption) (by assumption) (.inr (.inl ht))
          rw [Xm_ E (by decide),E];first | rfl | exact ⟨rfl,rfl⟩ | exact ⟨rfl,True.intro⟩)
       | (have E:=zfJ_ (by assumption) (by assumption) (by assumption) (by assumption) (.inr (.inr ht))
          rw [Xm_ E (by decide),E];first | rfl | exact ⟨rfl,rfl⟩ | exact ⟨rfl,True.intro⟩)
       | (have E:=zjv_ (by assumption) (by assumption) (by assumption) (by assumption) (by assumption) (by assumption) ht
          rw [zeL_ E,E];first | rfl | exact ⟨rfl,rfl⟩ | exact ⟨rfl,True.intro⟩))
 ·cases e
theorem zju_ {b:List Int} (h:zx_ [4,4,2,-6] b=1):e13 b=263:=if_pos h
theorem zjt_ {b:List Int} (h:zx_ [4,4,2,-6] b=2):e13 b=269:=by
 unfold e13;rw [if_neg (by show ¬ zx_ [4,4,2,-6] b=1;omega)];exact if_pos h
theorem zjs_ {b:List Int} (h1:¬ zx_ [4,4,2,-6] b=1) (h2:¬ zx_ [4,4,2,-6] b=2):e13 b=if (zA_ w13 b).getD 1 0=0 then 268 else if (b.length:Int) < 16+m13 b then 263 else if adE ((b.drop 16).take (m13 b).toNat) ≠ 0 then adE ((b.drop 16).take (m13 b).toNat) else if ¬ (zA_ w13 b).getD 0 0=4294967295/\16+m13 b < b.length then 269 else 0:=by
 unfold e13;rw [if_neg (show ¬ zx_ w13 b=1 from h1),if_neg (show ¬ zx_ w13 b=2 from h2)]
theorem bg_ (b:List Int) (n:Int) (h:0<=n):(b.take (16+n).toNat).drop 16=(b.drop 16).take n.toNat:=by
 rw [List.drop_take];congr 1;omega
def zbX_:IR:=
(sq (kr [0] [oD 2 (.box [.int .i64 0,.int .u32 0,.imm (.int .u64) [],.imm (.int .u8) [],.imm YB [],.imm Y1 [],.imm Y2 [],.imm Y3 [],.imm Y4 [],.imm Y5 [],.imm Y7 [],.imm Y8 [],.int .i64 0,.int .i64 0,.imm YC []]),
oD 3 (.mov (cI 0))])
(sq (kr [0,2] [oD 10 (.sliceAll (.int .i64) 4 [(0,1,(cI 4)),(1,1,(cI 4)),(2,1,(cI 2)),(3,1,(cI (-6)))]),
oM 11 0,
oC 12 56 [10,11],
oM 9 12,
oX 13 9 0,
oX 14 9 1,
oM 4 13,
oM 5 14])
(sq (sq (kr [0,2,4,5] [oM 15 5,
oB 16 .eql 15 (cI 1)])
(.cond 16
(sq (.reg [oD 17 (.build [.int .i64 0,.int .u32 0,.imm (.int .u64) [],.imm (.int .u8) [],.imm YB [],.imm Y1 [],.imm Y2 [],.imm Y3 [],.imm Y4 [],.imm Y5 [],.imm Y7 [],.imm Y8 [],.int .i64 0,.int .i64 0,.imm YC []] []),
oS 15 2 17,
oD 3 (.mov (cI 263))])
.ret)
.skip))
(sq (sq (.reg [oM 18 5,
oB 19 .eql 18 (cI 2)])
(.cond 19
(sq (kr [2] [oD 20 (.build [.int .i64 0,.int .u32 0,.imm (.int .u64) [],.imm (.int .u8) [],.imm YB [],.imm Y1 [],.imm Y2 [],.imm Y3 [],.imm Y4 [],.imm Y5 [],.imm Y7 [],.imm Y8 [],.int .i64 0,.int .i64 0,.imm YC []] []),
oS 15 2 20,
oD 3 (.mov (cI 269))])
.ret)
.skip))
(sq (sq (kr [0,2,4] [oM 21 4,
oD 22 (.indexSl 1 21 (cI 1)),
oL 23 22,
oB 24 .eql 23 (.c (.int .u64 0))])
(.cond 24
(sq (.reg [oD 25 (.build [.int .i64 0,.int .u32 0,.imm (.int .u64) [],.imm (.int .u8) [],.imm YB [],.imm Y1 [],.imm Y2 [],.imm Y3 [],.imm Y4 [],.imm Y5 [],.imm Y7 [],.imm Y8 [],.int .i64 0,.int .i64 0,.imm YC []] []),
oS 15 2 25,
oD 3 (.mov (cI 268))])
.ret)
.skip))
(sq (kr [0,2,4] [oM 26 4,
oD 27 (.indexSl 1 26 (cI 2)),
oL 28 27,
oD 29 (.conv .i64 28),
oM 6 29])
(sq (sq (kr [0,2,4,6] [oM 30 6,
oB 31 .add (cI 16) 30,
oM 32 0,
oE 33 32,
oB 34 .gtr 31 33])
(.cond 34
(sq (.reg [oD 35 (.build [.int .i64 0,.int .u32 0,.imm (.int .u64) [],.imm (.int .u8) [],.imm YB [],.imm Y1 [],.imm Y2 [],.imm Y3 [],.imm Y4 [],.imm Y5 [],.imm Y7 [],.imm Y8 [],.int .i64 0,.int .i64 0,.imm YC []] []),
oS 15 2 35,
oD 3 (.mov (cI 263))])
.ret)
.skip))
(sq (kr [0,2,4,6] [oM 37 0,
oM 38 6,
oB 39 .add (cI 16) 38,
oD 40 (.slice 1 37 (some (cI 16)) (some 39) none),
oC 41 58 [40],
oM 36 41,
oX 42 36 0,
oX 43 36 1,
oM 7 42,
oM 8 43])
(sq (sq (kr [0,2,4,6,7,8] [oM 44 8,
oB 45 .neq 44 (cI 0)])
(.cond 45
(sq (.reg [oD 46 (.build [.int .i64 0,.int .u32 0,.imm (.int .u64) [],.imm (.int .u8) [],.imm YB [],.imm Y1 [],.imm Y2 [],.imm Y3 [],.imm Y4 [],.imm Y5 [],.imm Y7 [],.imm Y8 [],.int .i64 0,.int .i64 0,.imm YC []] []),
oM 47 8,
oS 15 2 46,
oM 3 47])
.ret)
.skip))
(sq (sq (kr [0,2,4,6,7] [oM 48 4,
oD 49 (.indexSl 1 48 (cI 0)),
oL 50 49,
oB 51 .neq 50 (.c (.int .u64 4294967295)),
oM 52 51,
oT 52 53 (.mov 0),
oT 52 54 (.len 53),
oT 52 55 (.mov 6),
oT 52 56 (.bin .add (cI 16) 55),
oT 52 57 (.bin .gtr 54 56),
oP 58 52 57 cF])
(.cond 58
(sq (kr [2] [oD 59 (.build [.int .i64 0,.int .u32 0,.imm (.int .u64) [],.imm (.int .u8) [],.imm YB [],.imm Y1 [],.imm Y2 [],.imm Y3 [],.imm Y4 [],.imm Y5 [],.imm Y7 [],.imm Y8 [],.int .i64 0,.int .i64 0,.imm YC []] []),
oS 15 2 59,
oD 3 (.mov (cI 269))])
.ret)
.skip))
(sq (kd [0,2,4,6,7] [(oM 60 4,[]),
(oD 61 (.slice 1 60 none (some (cI 2)) none),[]),
(oM 62 7,[0,0]),
(oM 63 0,[0,0,0]),
(oM 64 6,[0,0,0,0]),
(oB 65 .add (cI 16) 64,[1,0,0,0]),
(oD 66 (.slice 1 63 (some 65) none none),[3,0,0]),
(oD 67 (.build [.int .i64 0,.int .u32 0,.imm (.int .u64) [],.imm (.int .u8) [],.imm YB [],.imm Y1 [],.imm Y2 [],.imm Y3 [],.imm Y4 [],.imm Y5 [],.imm Y7 [],.imm Y8 [],.int .i64 0,.int .i64 0,.imm YC []] [(0,1,(cI 13)),(2,1,61),(6,1,62),(3,1,66)]),[]),
(oS 15 2 67,[]),
(oD 3 (.mov (cI 0)),[])])
.ret)))))))))))
def zbk_:List RD:=[.cell 2 (some 15) true [],.tmp 3 true none]
theorem zbB_:zm_ Tryz.prog Tryz.f89 zbX_ zbk_=true:=by kernel_rfl
def YM_:List AV->List Obj->Option (Prop × AV)
 | [.imm (.int .u8) b],[]=>some ((b.length<=50000,.tup [.agg [.int .i64 ((wB_ b)).1,.int .u32 ((wB_ b)).2.1,.imm (.int .u64) ((wB_ b)).2.2.1,.imm (.int .u8) ((wB_ b)).2.2.2.1,.imm YB ((wB_ b)).2.2.2.2.1,.imm Y1 ((wB_ b)).2.2.2.2.2.1,.imm Y2 ((wB_ b)).2.2.2.2.2.2.1,.imm Y3 ((wB_ b)).2.2.2.2.2.2.2.1,.imm Y4 ((wB_ b)).2.2.2.2.2.2.2.2.1,.imm Y5 ((wB_ b)).2.2.2.2.2.2.2.2.2.1,.imm Y7 ((wB_ b)).2.2.2.2.2.2.2.2.2.2.1,.imm Y8 ((wB_ b)).2.2.2.2.2.2.2.2.2.2.2.1,.int .i64 ((wB_ b)).2.2.2.2.2.2.2.2.2.2.2.2.1,.int .i64 ((wB_ b)).2.2.2.2.2.2.2.2.2.2.2.2.2.1,.imm YC ((wB_ b)).2.2.2.2.2.2.2.2.2.2.2.2.2.2.1],.int .i64 (e13 b)]))
 | _,_=>none
theorem bm_:zd_ Tryz.prog 89 (RoF YM_).sum:=by
 refine zl_ Tryz.func89 zbB_ (za_ (s:=RoF j2_) Wq_ (za_ (s:=RoF J8_) Vs_ (zc_ _))) fun args objs p v e=>?_
 unfold YM_ at e
 split at e
 ·rename_i b
  cases e
  refine ⟨rfl,fun hw ho hp=>?_⟩
  change List Int at b
  have hb:∀ x ∈ (b:List Int),(0:Int)<=x/\x<=255:=fun x hx=>(hw (.imm (.int .u8) b) (by simp)).1 x hx
  clear hw ho
  have hK:=yJ_ w13 b
  have hk:¬ zx_ [4,4,2,-6] b=1->¬ zx_ [4,4,2,-6] b=2->(zA_ [4,4,2,-6] b).length=3/\16<=b.length:=fun h1 h2=>by
   have h0:zx_ w13 b=0:=by
    rcases hK with h | h | h
    ·exact h
    ·exact absurd h h1
    ·exact absurd h h2
   obtain ⟨n1,n2⟩:=rowN (w:=w13) hb h0
   rw [show z4_ w13=3 by decide] at n1
   rw [show zD_ w13=16 by decide] at n2
   exact ⟨by have:((zA_ w13 b).length:Int)=3:=n1;show (zA_ w13 b).length=3;omega,by omega⟩
  have hm:=Hn_ hb
  have hm2:(zA_ [4,4,2,-6] b).getD 2 0=m13 b:=rfl
  have hm3:(zA_ [4,4,2,-6] b).getD 2 (Ty.int IntKind.u64).dflt=m13 b:=rfl
  have htd:=bg_ b (m13 b) hm.1
  have hd2:b.drop (16+(m13 b).toNat)=b.drop (16+m13 b).toNat:=by congr 1;omega
  have hg2:(zA_ w13 b).take 2=(zA_ [4,4,2,-6] b).take 2:=rfl
  clear hb
  repeat'(intro t ht;first|(cases t<;>first|(cases ht;done)|(try simp only[zg_]at ht;try(exfalso;first|contradiction|omega)))|((first|refine zb_ ht ?_|refine ht ?_ ?_|refine ht.1 ?_ ?_|refine ht ?_)<;>clear ht))
  all_goals (try simp only [Int.reduceToNat,hm2,hm3,htd] at*)
  all_goals first
   | exact True.intro
   | (have E:=zju_ ht
      rw [xG_ E (by decide),E];first | rfl | exact ⟨rfl,rfl⟩ | exact ⟨rfl,True.intro⟩)
   | (have E:=zjt_ ht
      rw [xG_ E (by decide),E];first | rfl | exact ⟨rfl,rfl⟩ | exact ⟨rfl,True.intro⟩)
   | (have hs:=zjs_ (b:=b) (by assumption) (by assumption)
      obtain ⟨k1,k2⟩:=hk (by assumption) (by assumption)
      first
       | omega
       | (constructor<;>omega)
       | (refine ⟨?_,?_,?_⟩<;>omega)
       | ((try simp only [zj_,zk_,zi_] at*);omega)
       | (rw [List.length_take,List.length_drop];omega)
       | exact (show IntKind.i64.min<=m13 b/\m13 b<=IntKind.i64.max from by simp only [zi_];omega)
       | (rw [if_pos (show (zA_ w13 b).getD 1 0=0 from ht)] at hs
          rw [xG_ hs (by decide),hs];first | rfl | exact ⟨rfl,rfl⟩ | exact ⟨rfl,True.intro⟩)
       | (have q1:¬ (zA_ w13 b).getD 1 0=0:=by assumption
          rw [if_neg q1] at hs
          first
           | (rw [if_pos (show (b.length:Int) < 16+m13 b from ht)] at hs
              rw [xG_ hs (by decide),hs];first | rfl | exact ⟨rfl,rfl⟩ | exact ⟨rfl,True.intro⟩)
           | (have q2:¬ (b.length:Int) < 16+m13 b:=by assumption
              rw [if_neg q2] at hs
              first
               | (rw [if_pos (show adE ((b.drop 16).take (m13 b).toNat) ≠ 0 from ht)] at hs
                  rw [xG_ hs ht,hs];first | rfl | exact ⟨rfl,rfl⟩ | exact ⟨rfl,True.intro⟩)
               | (have q3:adE ((b.drop 16).take (m13 b).toNat)=0:=by assumption
                  rw [if_neg (not_not_intro q3)] at hs
                  first
                   | (have q4:(zA_ w13 b).getD 0 0=4294967295:=by assumption
                      rw [if_neg (fun c=>c.1 q4)] at hs
                      rw [hg_ hs,hs];unfold v13;rw [hg2,hd2];first | rfl | exact ⟨rfl,rfl⟩ | exact ⟨rfl,True.intro⟩)
                   | (have q4:¬ (zA_ w13 b).getD 0 0=4294967295:=by assumption
                      first
                       | (rw [if_pos ⟨q4,(show 16+m13 b < (b.length:Int) from ht)⟩] at hs
                          rw [xG_ hs (by decide),hs];first | rfl | exact ⟨rfl,rfl⟩ | exact ⟨rfl,True.intro⟩)
                       | (have q5:¬ 16+m13 b < (b.length:Int):=ht
                          rw [if_neg (fun c=>q5 c.2)] at hs
                          rw [hg_ hs,hs];unfold v13;rw [hg2,hd2];first | rfl | exact ⟨rfl,rfl⟩ | exact ⟨rfl,True.intro⟩)
                       | fail)
                   | fail)
               | fail)
           | fail)
       | fail)
 ·cases e
def BW_:IR:=
(sq (kr [0,1] [oD 4 (.box [.int .i64 0,.int .u32 0,.imm (.int .u64) [],.imm (.int .u8) [],.imm YB [],.imm Y1 [],.imm Y2 [],.imm Y3 [],.imm Y4 [],.imm Y5 [],.imm Y7 [],.imm Y8 [],.int .i64 0,.int .i64 0,.imm YC []]),
oD 5 (.mov (cI 0))])
(sq (.reg [oD 6 (.box [.int .i64 0,.int .u32 0,.imm (.int .u64) [],.imm (.int .u8) [],.imm YB [],.imm Y1 [],.imm Y2 [],.imm Y3 [],.imm Y4 [],.imm Y5 [],.imm Y7 [],.imm Y8 [],.int .i64 0,.int .i64 0,.imm YC []])])
(sq (.reg [oD 7 (.mov (cI 10001))])
(sq (sq (.reg [oM 8 0,
oB 9 .eql 8 (cI 10)])
(.cond 9
(kr [0,1,4,6] [oM 11 1,
oC 12 88 [11],
oM 10 12,
oX 13 10 0,
oX 14 10 1,
oS 15 6 13,
oM 7 14])
.skip))
(sq (sq (kr [0,1,4,6,7] [oM 15 0,
oB 16 .eql 15 (cI 13)])
(.cond 16
(kr [1,4,6] [oM 18 1,
oC 19 89 [18],
oM 17 19,
oX 20 17 0,
oX 21 17 1,
oS 15 6 20,
oM 7 21])
.skip))
(sq (sq (kr [1,4,6,7] [oM 22 7,
oB 23 .eql 22 (cI 0),
oM 24 23,
oT 24 25 (.mov 1),
oT 24 26 (.len 25),
oT 24 27 (.bin .gtr 26 (cI 65527)),
oP 28 24 27 cF])
(.cond 28
(kr [4,6] [oD 7 (.mov (cI 263))])
.skip))
(sq (sq (kr [4,6,7] [oM 29 7,
oB 30 .neq 29 (cI 0)])
(.cond 30
(sq (.reg [oD 31 (.build [.int .i64 0,.int .u32 0,.imm (.int .u64) [],.imm (.int .u8) [],.imm YB [],.imm Y1 [],.imm Y2 [],.imm Y3 [],.imm Y4 [],.imm Y5 [],.imm Y7 [],.imm Y8 [],.int .i64 0,.int .i64 0,.imm YC []] []),
oM 32 7,
oS 15 4 31,
oM 5 32])
.ret)
.skip))
(sq (.reg [oK 33 15 6,
oS 15 4 33,
oD 5 (.mov (cI 0))])
.ret))))))))
def bG_:List RD:=[.cell 4 (some 15) true [],.tmp 5 true none]
theorem Be_:zm_ Tryz.prog Tryz.f35 BW_ bG_=true:=by kernel_rfl
def XQ_:List AV->List Obj->Option (Prop × AV)
 | [.int .i64 tt,.imm (.int .u8) b],[]=>some ((b.length<=50000,.tup [.agg [.int .i64 ((ZQ_ tt b)).1,.int .u32 ((ZQ_ tt b)).2.1,.imm (.int .u64) ((ZQ_ tt b)).2.2.1,.imm (.int .u8) ((ZQ_ tt b)).2.2.2.1,.imm YB ((ZQ_ tt b)).2.2.2.2.1,.imm Y1 ((ZQ_ tt b)).2.2.2.2.2.1,.imm Y2 ((ZQ_ tt b)).2.2.2.2.2.2.1,.imm Y3 ((ZQ_ tt b)).2.2.2.2.2.2.2.1,.imm Y4 ((ZQ_ tt b)).2.2.2.2.2.2.2.2.1,.imm Y5 ((ZQ_ tt b)).2.2.2.2.2.2.2.2.2.1,.imm Y7 ((ZQ_ tt b)).2.2.2.2.2.2.2.2.2.2.1,.imm Y8 ((ZQ_ tt b)).2.2.2.2.2.2.2.2.2.2.2.1,.int .i64 ((ZQ_ tt b)).2.2.2.2.2.2.2.2.2.2.2.2.1,.int .i64 ((ZQ_ tt b)).2.2.2.2.2.2.2.2.2.2.2.2.2.1,.imm YC ((ZQ_ tt b)).2.2.2.2.2.2.2.2.2.2.2.2.2.2.1],.int .i64 (jm_ tt b)]))
 | _,_=>none
theorem GV_:zd_ Tryz.prog 35 (RoF XQ_).sum:=by
 refine zl_ Tryz.func35 Be_ (za_ (s:=RoF Ub_) za7_ (za_ (s:=RoF YM_) bm_ (zc_ _))) fun args objs p v e=>?_
 unfold XQ_ at e
 split at e
 ·rename_i tt b
  cases e
  refine ⟨rfl,fun hw ho hp=>?_⟩
  change List Int at b
  clear hw ho
  by_cases h10:tt=10
  ·subst h10
   have hE:=zhK_ b
   rw [if_neg (by omega)] at hE
   repeat'(intro t ht;first|(cases t<;>first|(cases ht;done)|(try simp only[zg_]at ht;try(exfalso;first|contradiction|omega)))|((first|refine zb_ ht ?_|refine ht ?_ ?_|refine ht.1 ?_ ?_|refine ht ?_)<;>clear ht))
   all_goals first
    | exact True.intro
    | exact hp
    | (have h0:e10 b=0:=ht
       rw [zhI_ (hE.trans h0),hE,<- zeL_ h0,h0];exact ⟨rfl,rfl⟩)
    | (rw [Y8_ (by rw [hE];exact ht),hE];exact ⟨rfl,rfl⟩)
  ·by_cases h13:tt=13
   ·subst h13
    have hE:=zhJ_ b
    rw [if_neg (by omega)] at hE
    repeat'(intro t ht;first|(cases t<;>first|(cases ht;done)|(try simp only[zg_]at ht;try(exfalso;first|contradiction|omega)))|((first|refine zb_ ht ?_|refine ht ?_ ?_|refine ht.1 ?_ ?_|refine ht ?_)<;>clear ht))
    all_goals first
     | exact True.intro
     | exact hp
     | (have h0:e13 b=0:=ht
        rw [zhH_ (hE.trans h0),hE,<- hg_ h0,h0];exact ⟨rfl,rfl⟩)
     | (rw [Y8_ (by rw [hE];exact ht),hE];exact ⟨rfl,rfl⟩)
   ·have hE:jm_ tt b=10001:=by unfold jm_;rw [if_neg h10,if_neg h13]
    have hM:=Y8_ (t:=tt) (b:=b) (by rw [hE];decide)
    repeat'(intro t ht;first|(cases t<;>first|(cases ht;done)|(try simp only[zg_]at ht;try(exfalso;first|contradiction|omega)))|((first|refine zb_ ht ?_|refine ht ?_ ?_|refine ht.1 ?_ ?_|refine ht ?_)<;>clear ht))
    all_goals first
     | exact True.intro
     | exact hp
     | (rw [hM,hE];exact ⟨rfl,rfl⟩)
 ·cases e
theorem zgD_ {a:AC} (h:rgA a=true):lenA a:=by
 by_cases h25:a.1=25
 ·obtain ⟨_,_,hd,_,_,_,hR⟩:=xH_ h25 h
  have hn:=qa_ hR
  unfold lenA;rw [hd]
  refine ⟨?_,?_,by decide⟩<;>omega
 ·obtain ⟨k1,k2,k3,k4,k5,k6,k7⟩:=KB_ h25 h
  obtain ⟨_,_,_,_,e5,e6⟩:=Ga_ k2
  unfold lenA;rw [e5,e6]
  refine ⟨by decide,by decide,?_⟩
  rcases k7 with ⟨_,_,k⟩ | ⟨_,k⟩
  ·omega
  ·rw [k];decide
theorem zeN_ {l:List AC} (h:rgL l=true):okL l:=by
 obtain ⟨h1,h2,_⟩:=Kt_ h
 exact ⟨fun o ho=>zgD_ (List.all_eq_true.1 h1 o ho),by omega⟩
theorem zgp_ (m:VMs):(wrR m).1.length<=65527:=by
 by_cases h:(wrR m).2=0
 ·obtain ⟨y,z,_,_,h3,_,h5⟩:=zeq_ h
  rw [h3];show y.length<=65527;omega
 ·unfold wrR at h ⊢
  split
  ·split
   ·split
    ·exact Nat.zero_le _
    ·rename_i hl;show (_:List Int).length<=65527;dsimp only;omega
   ·exact Nat.zero_le _
  ·exact Nat.zero_le _
theorem s24a:wrR (13,0,[4294967295,3],[7],[],[],[(0,2,0,(0,0,false,0,[],[],()),[],())],[],[],[],[],[],0,0,[],())=([255,255,255,255,0,0,0,3,0,16,0,0,0,0,0,0,0,0,0,16,0,0,0,2,0,0,0,0,0,0,0,0,7],0):=by decide+kernel
theorem s24b:jm_ 13 [255,255,255,255,0,0,0,3,0,16,0,0,0,0,0,0,0,0,0,16,0,0,0,2,0,0,0,0,0,0,0,0,7]=0/\(ZQ_ 13 [255,255,255,255,0,0,0,3,0,16,0,0,0,0,0,0,0,0,0,16,0,0,0,2,0,0,0,0,0,0,0,0,7]).2.2=([4294967295,3],[7],[],[],[(0,2,0,(0,0,false,0,[],[],()),[],())],[],[],[],[],[],0,0,[],()):=by
 have h:=zgm_ (m:=(13,0,[4294967295,3],[7],[],[],[(0,2,0,(0,0,false,0,[],[],()),[],())],[],[],[],[],[],0,0,[],())) ⟨by decide,by decide,fun a ha=>by rcases List.mem_singleton.1 ha with rfl;exact ⟨by decide,by decide,by decide⟩⟩ (by rw [s24a])
 rw [s24a] at h
 exact ⟨h.1,congrArg (fun q:VMs=>q.2.2) h.2.2⟩
def zak_:IR:=
(sq (kr [] [oD 0 (.mov cF)])
(sq (kr [] [oD 10 (.sliceAll (.int .u64) 2 [(0,1,(.c (.int .u64 4294967295))),(1,1,(.c (.int .u64 3)))]),
oD 11 (.build [.int .i64 0,.int .u64 0,.int .u64 0,.int .i64 0,.int .i64 0,.kb false,.int .u64 0,.imm (.int .u8) [],.imm (.int .u8) [],.imm (.int .u8) []] [(1,1,(.c (.int .u64 2)))]),
oD 12 (.sliceAll Y2 1 [(0,10,11)]),
oD 13 (.sliceAll (.int .u8) 1 [(0,1,(.c (.int .u8 7)))]),
oD 14 (.build [.int .i64 0,.int .u32 0,.imm (.int .u64) [],.imm (.int .u8) [],.imm YB [],.imm Y1 [],.imm Y2 [],.imm Y3 [],.imm Y4 [],.imm Y5 [],.imm Y7 [],.imm Y8 [],.int .i64 0,.int .i64 0,.imm YC []] [(0,1,(cI 13)),(2,1,10),(6,1,12),(3,1,13)]),
oC 15 30 [14],
oM 9 15,
oX 16 9 0,
oX 17 9 1,
oM 1 16,
oM 2 17])
(sq (kr [1,2] [oM 19 1,
oC 20 34 [(cI 13),19],
oM 18 20,
oX 21 18 0,
oX 22 18 1,
oD 3 (.box [.int .i64 0,.int .u32 0,.imm (.int .u64) [],.imm (.int .u8) [],.imm YB [],.imm Y1 [],.imm Y2 [],.imm Y3 [],.imm Y4 [],.imm Y5 [],.imm Y7 [],.imm Y8 [],.int .i64 0,.int .i64 0,.imm YC []]),
oS 15 3 21,
oM 4 22])
(sq (kr [1,2,3,4] [oD 24 (.mkrow (.int .u8) 1 (0:Int) (cI 16) (cI 16)),
oC 25 34 [(cI 13),24],
oM 23 25,
oX 26 23 0,
oX 27 23 1,
oD 5 (.box [.int .i64 0,.int .u32 0,.imm (.int .u64) [],.imm (.int .u8) [],.imm YB [],.imm Y1 [],.imm Y2 [],.imm Y3 [],.imm Y4 [],.imm Y5 [],.imm Y7 [],.imm Y8 [],.int .i64 0,.int .i64 0,.imm YC []]),
oS 15 5 26,
oM 6 27])
(sq (kr [1,2,3,4,6] [oD 29 (.sliceAll (.int .u64) 5 [(0,1,(.c (.int .u64 0))),(1,1,(.c (.int .u64 1))),(2,1,(.c (.int .u64 0))),(3,1,(.c (.int .u64 0))),(4,1,(.c (.int .u64 0)))]),
oD 30 (.sliceAll (.int .u8) 1 [(0,1,(.c (.int .u8 5)))]),
oD 31 (.build [.int .i64 0,.int .u32 0,.imm (.int .u64) [],.imm (.int .u8) [],.imm YB [],.imm Y1 [],.imm Y2 [],.imm Y3 [],.imm Y4 [],.imm Y5 [],.imm Y7 [],.imm Y8 [],.int .i64 0,.int .i64 0,.imm YC []] [(0,1,(cI 10)),(2,1,29),(3,1,30)]),
oC 32 30 [31],
oM 28 32,
oX 33 28 0,
oX 34 28 1,
oM 7 33,
oM 8 34])
(sq (kr [1,2,3,4,6,7,8] [oM 35 2,
oB 36 .eql 35 (cI 0),
oM 37 36,
oT 37 38 (.mov 1),
oT 37 39 (.len 38),
oT 37 40 (.bin .eql 39 (cI 33)),
oP 41 37 40 cF,
oM 42 41,
oT 42 43 (.mov 4),
oT 42 44 (.bin .eql 43 (cI 0)),
oP 45 42 44 cF,
oM 46 45,
oT 46 47 (.fieldAddr 6 3),
oT 46 48 (.load none 47),
oT 46 49 (.len 48),
oT 46 50 (.bin .eql 49 (cI 1)),
oP 51 46 50 cF,
oM 52 51,
oT 52 53 (.fieldAddr 3 3),
oT 52 54 (.load none 53),
oT 52 55 (.sliceAll (.int .u8) 1 [(0,1,(.c (.int .u8 7)))]),
oT 52 56 (.call false (.f 27) [54,55]),
oP 57 52 56 cF,
oM 58 57,
oT 58 59 (.mov 6),
oT 58 60 (.bin .eql 59 (cI 268)),
oP 61 58 60 cF,
oM 62 61,
oT 62 63 (.mov 8),
oT 62 64 (.bin .eql 63 (cI 0)),
oP 65 62 64 cF,
oM 66 65,
oT 66 67 (.mov 7),
oT 66 68 (.len 67),
oT 66 69 (.bin .eql 68 (cI 27)),
oP 70 66 69 cF,
oM 71 70,
oT 71 72 (.call false (.f 32) [(cI 10)]),
oP 73 71 72 cF,
oM 74 73,
oT 74 75 (.call false (.f 32) [(cI 11)]),
oT 74 76 (.un .not 75),
oP 77 74 76 cF,
oM 0 77])
.ret))))))
def b4_:List RD:=[.tmp 0 true none]
theorem BC_:zm_ Tryz.prog Tryz.f29 zak_ b4_=true:=by kernel_rfl
def X4_:List AV->List Obj->Option (Prop × AV)
 | [],[]=>some ((True,.bool true))
 | _,_=>none
theorem G9_:zd_ Tryz.prog 29 (RoF X4_).sum:=by
 refine zl_ Tryz.func29 BC_ (za_ (s:=RoF ju_) vx_ (za_ (s:=RoF kG_) ws_ (za_ (s:=RoF Zf_) z8_ (za_ (s:=RoF wg_) Vy_ (zc_ _))))) fun args objs p v e=>?_
 unfold X4_ at e
 split at e
 ·cases e
  refine ⟨rfl,fun hw ho hp=>?_⟩
  clear hw ho
  obtain ⟨b1,b2⟩:=s24b
  have hA:=congrArg (fun q:List Int × List Int × List VEl × List OV × List AC × List VIn × List BK × List VBd × List VQu × List PV × Int × Int × List VPa × Unit=>q.2.2.2.2.1) b2
  have hD:=congrArg (fun q:List Int × List Int × List VEl × List OV × List AC × List VIn × List BK × List VBd × List VQu × List PV × Int × Int × List VPa × Unit=>q.2.1) b2
  dsimp only at hA hD
  have hM0:okM []:=zi9_ (by decide)
  have hL0:okL []:=zeN_ (by decide)
  have hL2:okL [((0:Int),(2:Int),(0:Int),((0:Int),(0:Int),false,(0:Int),([]:List Int),([]:List Int),()),([]:List Int),())]:=zeN_ (by decide+kernel)
  repeat'(intro t ht;first|(cases t<;>first|(cases ht;done)|(try simp only[zg_]at ht;try(exfalso;first|contradiction|omega)))|((first|refine zb_ ht ?_|refine ht ?_ ?_|refine ht.1 ?_ ?_|refine ht ?_)<;>clear ht))
  all_goals first
   | exact True.intro
   | exact ⟨hM0,hL2,by decide,by decide⟩
   | exact ⟨hM0,hL0,by decide,by decide⟩
   | exact Nat.le_trans (zgp_ _) (by decide)
   | exact (by decide:(0:Int)<=16/\(16:Int)<=16/\(16:Int)*((1:Nat):Int)<=140737488355328/\(16:Int)<=140737488355328)
   | exact (by decide:(List.replicate (Int.toNat 16) (0:Int)).length<=100000000)
   | (exfalso;simp only [s24a,b1,hA,hD] at*;first | contradiction | (simp at*;done))
   | exact ⟨congrArg AV.bool (show (!(decide ((11:Int)=10) || decide ((11:Int)=13)))=true by decide),rfl⟩
 ·cases e
def XF_:IR:=
(sq (kr [0,1] [oD 4 (.mov cF)])
(sq (sq (.reg [oM 9 1,
oE 10 9,
oB 11 .gtr 10 (cI 2500)])
(.cond 11
(sq (.reg [oC 12 29 [],
oM 4 12])
.ret)
.skip))
(sq (kr [0,1] [oM 14 0,
oM 15 1,
oC 16 34 [14,15],
oM 13 16,
oX 17 13 0,
oX 18 13 1,
oD 5 (.box [.int .i64 0,.int .u32 0,.imm (.int .u64) [],.imm (.int .u8) [],.imm YB [],.imm Y1 [],.imm Y2 [],.imm Y3 [],.imm Y4 [],.imm Y5 [],.imm Y7 [],.imm Y8 [],.int .i64 0,.int .i64 0,.imm YC []]),
oS 15 5 17,
oM 6 18])
(sq (kr [0,1,5,6] [oM 20 0,
oM 21 1,
oC 22 35 [20,21],
oM 19 22,
oX 23 19 0,
oX 24 19 1,
oD 7 (.box [.int .i64 0,.int .u32 0,.imm (.int .u64) [],.imm (.int .u8) [],.imm YB [],.imm Y1 [],.imm Y2 [],.imm Y3 [],.imm Y4 [],.imm Y5 [],.imm Y7 [],.imm Y8 [],.int .i64 0,.int .i64 0,.imm YC []]),
oS 15 7 23,
oM 8 24])
(sq (kr [5,6,7,8] [oK 25 15 5,
oK 26 15 7,
oC 27 36 [25,26],
oM 28 27,
oT 28 29 (.mov 6),
oT 28 30 (.mov 8),
oT 28 31 (.bin .eql 29 30),
oP 32 28 31 cF,
oM 33 32,
oT 33 34 (.call false (.f 29) []),
oP 35 33 34 cF,
oM 4 35])
.ret)))))
def Xt_:List RD:=[.tmp 4 true none]
theorem Xy_:zm_ Tryz.prog Tryz.f7 XF_ Xt_=true:=by kernel_rfl
def Q2_:List AV->List Obj->Option (Prop × AV)
 | [.int .i64 tt,.imm (.int .u8) b],[]=>some ((True,.bool true))
 | _,_=>none
theorem x1_:zd_ Tryz.prog 7 (RoF Q2_).sum:=by
 refine zl_ Tryz.func7 Xy_ (za_ (s:=RoF X4_) G9_ (za_ (s:=RoF kG_) ws_ (za_ (s:=RoF XQ_) GV_ (za_ (s:=RoF XR_) GW_ (zc_ _))))) fun args objs p v e=>?_
 unfold Q2_ at e
 split at e
 ·rename_i tt b
  cases e
  refine ⟨rfl,fun hw ho hp=>?_⟩
  change List Int at b
  clear hw ho
  repeat'(intro t ht;first|(cases t<;>first|(cases ht;done)|(try simp only[zg_]at ht;try(exfalso;first|contradiction|omega)))|((first|refine zb_ ht ?_|refine ht ?_ ?_|refine ht.1 ?_ ?_|refine ht ?_)<;>clear ht))
  all_goals first
   | exact True.intro
   | omega
   | exact ⟨rfl,rfl⟩
   | (exfalso;simp_all;done)
 ·cases e
end Go.Eng
