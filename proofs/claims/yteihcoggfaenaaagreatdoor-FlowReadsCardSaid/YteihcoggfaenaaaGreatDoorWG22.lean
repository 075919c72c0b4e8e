/- Parts of the proof: XG, I1, I2, I3, I4. No condition. -/
import Derived.Test.YteihcoggfaenaaaGreatDoorProg
import Derived.Test.YteihcoggfaenaaaGreatDoorWG10
import Derived.KernelRfl
import Derived.Test.YteihcoggfaenaaaGreatDoorWG21
import Derived.Test.YteihcoggfaenaaaGreatDoorWG19
import Derived.Test.YteihcoggfaenaaaGreatDoorWG18
namespace Go.Eng
open Go.Proofs
set_option linter.unusedVariables false
set_option linter.unusedSimpArgs false
set_option maxRecDepth 100000
set_option maxHeartbeats 1000000
theorem rowN {w b:List Int} (hb:∀ x ∈ b,0<=x/\x<=255) (h:zQ_ w b=0):((zG_ w b).length:Int)=zH_ w/\zD_ w<=b.length:=by
 obtain ⟨p1,p2,p3⟩:=JC_ hb (show Zy_ w b=(zG_ w b,0) from Prod.ext rfl h)
 unfold qq_ jz_ at p1
 split at p1
 ·rename_i hc;exact ⟨hc.2.symm,p3⟩
 ·cases p1
theorem zbt_ {w n:List Int} (h:qq_ w n=true):(n.length:Int)=zH_ w:=by
 unfold qq_ jz_ at h
 split at h
 ·rename_i hc;exact hc.2.symm
 ·cases h
theorem YB_ {e x:Int} (h:e ≠ 0):zv_ e x=e:=by unfold zv_;rw [if_neg h]
def zMs:VMs:=(0,0,[],[],[],[],[],[],[],[],[],[],0,0,[],())
theorem zfs_ {room:Int} (hr:room<=1000000):∀ (r:List OV) (l:List Int) (e:Int),l.length<=1000000->(puS room r l e).1.length<=1000000
 | [],l,e,h=>h
 | o :: r,l,e,h=>by unfold puS;exact zfs_ hr r _ _ (Q9_ h hr)
theorem zjZ_ {x:List OV} {l:List Int} {room e:Int} (h:l.length<=1000000) (hr:room<=1000000):(mpB x l room e).length<=1000000:=by
 unfold mpB;split
 ·refine Q9_ ?_ hr
  unfold mpS;exact zfs_ hr _ _ _ (xl_ h hr)
 ·exact h
theorem Bq_ {b:List Int} {p e:Int} (hb:∀ x ∈ b,0<=x/\x<=255) (h0:0<=p) (h1:p<=b.length):0<=mtP b p e/\mtP b p e<=b.length:=by
 unfold mtP;split
 ·have h:=U0_ (b.drop p.toNat) fun x hx=>hb x (List.mem_of_mem_drop hx)
  rw [List.length_drop] at h;omega
 ·exact ⟨h0,h1⟩
theorem vF_ (e:Int):ks_ [] e=e:=by unfold ks_;split<;>simp_all
theorem zfR_ {l:List Int} {e:Int} (h:ks_ [] e=0):QG_ l [] e=l/\e=0:=by
 rw [vF_] at h;subst h;exact ⟨rfl,rfl⟩
theorem jN_ (e:Int):¬ zv_ e 263=0:=by unfold zv_;split<;>omega
theorem zjK_ {a:AC} (h:rgA a=true):lenA a:=by
 by_cases h25:a.1=25
 ·obtain ⟨_,_,hd,_,_,_,hR⟩:=Xy_ h25 h
  have hn:=qg_ hR
  unfold lenA;rw [hd]
  refine ⟨?_,?_,by decide⟩<;>omega
 ·obtain ⟨k1,k2,k3,k4,k5,k6,k7⟩:=K9_ h25 h
  obtain ⟨_,_,_,_,e5,e6⟩:=Ha_ k2
  unfold lenA;rw [e5,e6]
  refine ⟨by decide,by decide,?_⟩
  rcases k7 with ⟨_,_,k⟩ | ⟨_,k⟩
  ·omega
  ·rw [k];decide
theorem zlr_ {l:List AC} (h:rgL l=true):okL l:=by
 obtain ⟨h1,h2,_⟩:=Jt_ h
 exact ⟨fun o ho=>zjK_ (List.all_eq_true.1 h1 o ho),by omega⟩
def wD_:IR:=
(sq (kr [0] [oD 2 (.mov cF)])
(sq (.reg [oM 3 0,
oE 4 3,
oB 5 .eql 4 (cI 0),
oM 2 5])
.ret))
def wf_:List RD:=[.tmp 2 true none]
theorem wo_:zm_ Tryz.prog Tryz.f74 wD_ wf_=true:=by kernel_rfl
def qB_:List AV->List Obj->Option (Prop × AV)
 | [.imm (.cons (.int .i64) (.cons (.sl (.int .u8)) .nil)) l],[]=>some ((True,.bool (decide ((l.length:Int)=0))))
 | _,_=>none
theorem Jl_:zd_ Tryz.prog 74 (RoF qB_).sum:=by
 refine zi_ Tryz.func74 wo_ (zc_ _) fun args objs p v e=>?_
 unfold qB_ at e
 split at e
 ·rename_i l
  cases e
  refine ⟨rfl,fun hw ho hp=>?_⟩
  repeat'(intro t ht;first|(cases t<;>first|(cases ht;done)|(try simp only[zg_]at ht))|((first|refine zb_ ht ?_|refine ht ?_ ?_|refine ht.1 ?_ ?_|refine ht ?_)<;>clear ht))
  all_goals first
   | exact True.intro
   | exact ⟨rfl,rfl⟩
 ·cases e
def WP_:IR:=
(sq (kr [0] [oD 2 (.mov cF)])
(sq (.reg [oM 3 0,
oE 4 3,
oB 5 .eql 4 (cI 0),
oM 2 5])
.ret))
def Wk_:List RD:=[.tmp 2 true none]
theorem WA_:zm_ Tryz.prog Tryz.f75 WP_ Wk_=true:=by kernel_rfl
def qW_:List AV->List Obj->Option (Prop × AV)
 | [.imm (.cons (.int .i64) (.cons (.int .i64) (.cons .bool (.cons (.int .u64) (.cons (.sl (.int .u8)) (.cons (.sl (.int .u8)) .nil)))))) l],[]=>some ((True,.bool (decide ((l.length:Int)=0))))
 | _,_=>none
theorem J0_:zd_ Tryz.prog 75 (RoF qW_).sum:=by
 refine zi_ Tryz.func75 WA_ (zc_ _) fun args objs p v e=>?_
 unfold qW_ at e
 split at e
 ·rename_i l
  cases e
  refine ⟨rfl,fun hw ho hp=>?_⟩
  repeat'(intro t ht;first|(cases t<;>first|(cases ht;done)|(try simp only[zg_]at ht))|((first|refine zb_ ht ?_|refine ht ?_ ?_|refine ht.1 ?_ ?_|refine ht ?_)<;>clear ht))
  all_goals first
   | exact True.intro
   | exact ⟨rfl,rfl⟩
 ·cases e
def WR_:IR:=
(sq (kr [0] [oD 2 (.mov cF)])
(sq (.reg [oM 3 0,
oE 4 3,
oB 5 .eql 4 (cI 0),
oM 2 5])
.ret))
def Wm_:List RD:=[.tmp 2 true none]
theorem WC_:zm_ Tryz.prog Tryz.f76 WR_ Wm_=true:=by kernel_rfl
def qY_:List AV->List Obj->Option (Prop × AV)
 | [.imm ty0 l],[]=>ZY_ ty0 Y2 l fun l=>some ((True,.bool (decide ((l.length:Int)=0))))
 | _,_=>none
theorem J2_:zd_ Tryz.prog 76 (RoF qY_).sum:=by
 refine zi_ Tryz.func76 WC_ (zc_ _) fun args objs p v e=>?_
 unfold qY_ at e
 split at e
 ·rename_i ty0 l
  obtain rfl:=zY_ e
  replace e:=zZ_ e
  cases e
  refine ⟨rfl,fun hw ho hp=>?_⟩
  repeat'(intro t ht;first|(cases t<;>first|(cases ht;done)|(try simp only[zg_]at ht))|((first|refine zb_ ht ?_|refine ht ?_ ?_|refine ht.1 ?_ ?_|refine ht ?_)<;>clear ht))
  all_goals first
   | exact True.intro
   | exact ⟨rfl,rfl⟩
 ·cases e
def WQ_:IR:=
(sq (kr [0] [oD 2 (.mov cF)])
(sq (.reg [oM 3 0,
oE 4 3,
oB 5 .eql 4 (cI 0),
oM 2 5])
.ret))
def Wl_:List RD:=[.tmp 2 true none]
theorem WB_:zm_ Tryz.prog Tryz.f77 WQ_ Wl_=true:=by kernel_rfl
def qX_:List AV->List Obj->Option (Prop × AV)
 | [.imm ty0 l],[]=>ZY_ ty0 Y3 l fun l=>some ((True,.bool (decide ((l.length:Int)=0))))
 | _,_=>none
theorem J1_:zd_ Tryz.prog 77 (RoF qX_).sum:=by
 refine zi_ Tryz.func77 WB_ (zc_ _) fun args objs p v e=>?_
 unfold qX_ at e
 split at e
 ·rename_i ty0 l
  obtain rfl:=zY_ e
  replace e:=zZ_ e
  cases e
  refine ⟨rfl,fun hw ho hp=>?_⟩
  repeat'(intro t ht;first|(cases t<;>first|(cases ht;done)|(try simp only[zg_]at ht))|((first|refine zb_ ht ?_|refine ht ?_ ?_|refine ht.1 ?_ ?_|refine ht ?_)<;>clear ht))
  all_goals first
   | exact True.intro
   | exact ⟨rfl,rfl⟩
 ·cases e
def j5_:IR:=
(sq (kr [0] [oD 2 (.mov cF)])
(sq (.reg [oM 3 0,
oE 4 3,
oB 5 .eql 4 (cI 0),
oM 2 5])
.ret))
def j2_:List RD:=[.tmp 2 true none]
theorem j3_:zm_ Tryz.prog Tryz.f78 j5_ j2_=true:=by kernel_rfl
def qd_:List AV->List Obj->Option (Prop × AV)
 | [.imm ty0 l],[]=>ZY_ ty0 Y4 l fun l=>some ((True,.bool (decide ((l.length:Int)=0))))
 | _,_=>none
theorem jx_:zd_ Tryz.prog 78 (RoF qd_).sum:=by
 refine zi_ Tryz.func78 j3_ (zc_ _) fun args objs p v e=>?_
 unfold qd_ at e
 split at e
 ·rename_i ty0 l
  obtain rfl:=zY_ e
  replace e:=zZ_ e
  cases e
  refine ⟨rfl,fun hw ho hp=>?_⟩
  repeat'(intro t ht;first|(cases t<;>first|(cases ht;done)|(try simp only[zg_]at ht))|((first|refine zb_ ht ?_|refine ht ?_ ?_|refine ht.1 ?_ ?_|refine ht ?_)<;>clear ht))
  all_goals first
   | exact True.intro
   | exact ⟨rfl,rfl⟩
 ·cases e
def wE_:IR:=
(sq (kr [0] [oD 2 (.mov cF)])
(sq (.reg [oM 3 0,
oE 4 3,
oB 5 .eql 4 (cI 0),
oM 2 5])
.ret))
def wg_:List RD:=[.tmp 2 true none]
theorem wp_:zm_ Tryz.prog Tryz.f79 wE_ wg_=true:=by kernel_rfl
def qC_:List AV->List Obj->Option (Prop × AV)
 | [.imm (.cons (.int .i64) (.cons (.int .u64) (.cons (.int .u64) (.cons (.int .u64) (.cons (.sl (.int .u8)) .nil))))) l],[]=>some ((True,.bool (decide ((l.length:Int)=0))))
 | _,_=>none
theorem Jm_:zd_ Tryz.prog 79 (RoF qC_).sum:=by
 refine zi_ Tryz.func79 wp_ (zc_ _) fun args objs p v e=>?_
 unfold qC_ at e
 split at e
 ·rename_i l
  cases e
  refine ⟨rfl,fun hw ho hp=>?_⟩
  repeat'(intro t ht;first|(cases t<;>first|(cases ht;done)|(try simp only[zg_]at ht))|((first|refine zb_ ht ?_|refine ht ?_ ?_|refine ht.1 ?_ ?_|refine ht ?_)<;>clear ht))
  all_goals first
   | exact True.intro
   | exact ⟨rfl,rfl⟩
 ·cases e
def Jz_:IR:=
(sq (kr [0] [oD 2 (.mov cF)])
(sq (.reg [oM 3 0,
oE 4 3,
oB 5 .eql 4 (cI 0),
oM 2 5])
.ret))
def Ju_:List RD:=[.tmp 2 true none]
theorem Jx_:zm_ Tryz.prog Tryz.f80 Jz_ Ju_=true:=by kernel_rfl
def qj_:List AV->List Obj->Option (Prop × AV)
 | [.imm (.cons (.int .u64) (.cons (.int .u64) (.cons (.sl (.cons (.int .i64) (.cons (.int .u64) (.cons (.sl (.int .u8)) .nil)))) .nil))) l],[]=>some ((True,.bool (decide ((l.length:Int)=0))))
 | _,_=>none
theorem jY_:zd_ Tryz.prog 80 (RoF qj_).sum:=by
 refine zi_ Tryz.func80 Jx_ (zc_ _) fun args objs p v e=>?_
 unfold qj_ at e
 split at e
 ·rename_i l
  cases e
  refine ⟨rfl,fun hw ho hp=>?_⟩
  repeat'(intro t ht;first|(cases t<;>first|(cases ht;done)|(try simp only[zg_]at ht))|((first|refine zb_ ht ?_|refine ht ?_ ?_|refine ht.1 ?_ ?_|refine ht ?_)<;>clear ht))
  all_goals first
   | exact True.intro
   | exact ⟨rfl,rfl⟩
 ·cases e
def wB_:IR:=
(sq (kr [0] [oD 2 (.mov cF)])
(sq (.reg [oM 3 0,
oE 4 3,
oB 5 .eql 4 (cI 0),
oM 2 5])
.ret))
def wd_:List RD:=[.tmp 2 true none]
theorem wm_:zm_ Tryz.prog Tryz.f81 wB_ wd_=true:=by kernel_rfl
def qz_:List AV->List Obj->Option (Prop × AV)
 | [.imm ty0 l],[]=>ZY_ ty0 Y8 l fun l=>some ((True,.bool (decide ((l.length:Int)=0))))
 | _,_=>none
theorem Jj_:zd_ Tryz.prog 81 (RoF qz_).sum:=by
 refine zi_ Tryz.func81 wm_ (zc_ _) fun args objs p v e=>?_
 unfold qz_ at e
 split at e
 ·rename_i ty0 l
  obtain rfl:=zY_ e
  replace e:=zZ_ e
  cases e
  refine ⟨rfl,fun hw ho hp=>?_⟩
  repeat'(intro t ht;first|(cases t<;>first|(cases ht;done)|(try simp only[zg_]at ht))|((first|refine zb_ ht ?_|refine ht ?_ ?_|refine ht.1 ?_ ?_|refine ht ?_)<;>clear ht))
  all_goals first
   | exact True.intro
   | exact ⟨rfl,rfl⟩
 ·cases e
def wC_:IR:=
(sq (kr [0] [oD 2 (.mov cF)])
(sq (.reg [oM 3 0,
oE 4 3,
oB 5 .eql 4 (cI 0),
oM 2 5])
.ret))
def we_:List RD:=[.tmp 2 true none]
theorem wn_:zm_ Tryz.prog Tryz.f82 wC_ we_=true:=by kernel_rfl
def qA_:List AV->List Obj->Option (Prop × AV)
 | [.imm ty0 l],[]=>ZY_ ty0 YC l fun l=>some ((True,.bool (decide ((l.length:Int)=0))))
 | _,_=>none
theorem Jk_:zd_ Tryz.prog 82 (RoF qA_).sum:=by
 refine zi_ Tryz.func82 wn_ (zc_ _) fun args objs p v e=>?_
 unfold qA_ at e
 split at e
 ·rename_i ty0 l
  obtain rfl:=zY_ e
  replace e:=zZ_ e
  cases e
  refine ⟨rfl,fun hw ho hp=>?_⟩
  repeat'(intro t ht;first|(cases t<;>first|(cases ht;done)|(try simp only[zg_]at ht))|((first|refine zb_ ht ?_|refine ht ?_ ?_|refine ht.1 ?_ ?_|refine ht ?_)<;>clear ht))
  all_goals first
   | exact True.intro
   | exact ⟨rfl,rfl⟩
 ·cases e
def xK_:IR:=
(sq (kr [0] [oD 2 (.mov cF)])
(sq (.reg [oM 3 0,
oE 4 3,
oB 5 .eql 4 (cI 0),
oM 2 5])
.ret))
def xn_:List RD:=[.tmp 2 true none]
theorem xv_:zm_ Tryz.prog Tryz.f83 xK_ xn_=true:=by kernel_rfl
def Qk_:List AV->List Obj->Option (Prop × AV)
 | [.imm (.int .u64) l],[]=>some ((True,.bool (decide ((l.length:Int)=0))))
 | _,_=>none
theorem Wh_:zd_ Tryz.prog 83 (RoF Qk_).sum:=by
 refine zi_ Tryz.func83 xv_ (zc_ _) fun args objs p v e=>?_
 unfold Qk_ at e
 split at e
 ·rename_i l
  cases e
  refine ⟨rfl,fun hw ho hp=>?_⟩
  change List Int at l
  repeat'(intro t ht;first|(cases t<;>first|(cases ht;done)|(try simp only[zg_]at ht))|((first|refine zb_ ht ?_|refine ht ?_ ?_|refine ht.1 ?_ ?_|refine ht ?_)<;>clear ht))
  all_goals first
   | exact True.intro
   | exact ⟨rfl,rfl⟩
 ·cases e
def yo_:IR:=
(sq (kr [0] [oD 2 (.mov cF)])
(sq (.reg [oM 3 0,
oE 4 3,
oB 5 .eql 4 (cI 0),
oM 2 5])
.ret))
def yd_:List RD:=[.tmp 2 true none]
theorem yh_:zm_ Tryz.prog Tryz.f84 yo_ yd_=true:=by kernel_rfl
def kc_:List AV->List Obj->Option (Prop × AV)
 | [.imm (.int .u8) l],[]=>some ((True,.bool (decide ((l.length:Int)=0))))
 | _,_=>none
theorem XP_:zd_ Tryz.prog 84 (RoF kc_).sum:=by
 refine zi_ Tryz.func84 yh_ (zc_ _) fun args objs p v e=>?_
 unfold kc_ at e
 split at e
 ·rename_i l
  cases e
  refine ⟨rfl,fun hw ho hp=>?_⟩
  change List Int at l
  repeat'(intro t ht;first|(cases t<;>first|(cases ht;done)|(try simp only[zg_]at ht))|((first|refine zb_ ht ?_|refine ht ?_ ?_|refine ht.1 ?_ ?_|refine ht ?_)<;>clear ht))
  all_goals first
   | exact True.intro
   | exact ⟨rfl,rfl⟩
 ·cases e
def hM_:IR:=
(sq (kr [0] [oD 1 (.boxv 0),
oD 2 (.mov cF)])
(sq (kr [1] [oA 4 4 1,
oL 5 4,
oC 6 74 [5],
oM 7 6,
oT 7 8 (.fieldAddr 5 1),
oT 7 9 (.load none 8),
oT 7 10 (.call false (.f 75) [9]),
oP 11 7 10 cF,
oM 12 11,
oT 12 13 (.fieldAddr 6 1),
oT 12 14 (.load none 13),
oT 12 15 (.call false (.f 76) [14]),
oP 16 12 15 cF,
oM 17 16,
oT 17 18 (.fieldAddr 7 1),
oT 17 19 (.load none 18),
oT 17 20 (.call false (.f 77) [19]),
oP 21 17 20 cF,
oM 22 21,
oT 22 23 (.fieldAddr 8 1),
oT 22 24 (.load none 23),
oT 22 25 (.call false (.f 78) [24]),
oP 26 22 25 cF,
oM 27 26,
oT 27 28 (.fieldAddr 9 1),
oT 27 29 (.load none 28),
oT 27 30 (.call false (.f 79) [29]),
oP 31 27 30 cF,
oM 32 31,
oT 32 33 (.fieldAddr 10 1),
oT 32 34 (.load none 33),
oT 32 35 (.call false (.f 80) [34]),
oP 36 32 35 cF,
oM 37 36,
oT 37 38 (.fieldAddr 11 1),
oT 37 39 (.load none 38),
oT 37 40 (.call false (.f 81) [39]),
oP 41 37 40 cF,
oM 42 41,
oT 42 43 (.fieldAddr 14 1),
oT 42 44 (.load none 43),
oT 42 45 (.call false (.f 82) [44]),
oP 46 42 45 cF,
oM 3 46])
(sq (kr [1,3] [oM 47 3,
oM 48 47,
oT 48 49 (.fieldAddr 2 1),
oT 48 50 (.load none 49),
oT 48 51 (.call false (.f 83) [50]),
oP 52 48 51 cF,
oM 53 52,
oT 53 54 (.fieldAddr 3 1),
oT 53 55 (.load none 54),
oT 53 56 (.call false (.f 84) [55]),
oP 57 53 56 cF,
oM 58 57,
oT 58 59 (.fieldAddr 12 1),
oT 58 60 (.load none 59),
oT 58 61 (.bin .eql 60 (cI 0)),
oP 62 58 61 cF,
oM 63 62,
oT 63 64 (.fieldAddr 13 1),
oT 63 65 (.load none 64),
oT 63 66 (.bin .eql 65 (cI 0)),
oP 67 63 66 cF,
oM 2 67])
.ret)))
def GH_:List RD:=[.tmp 2 true none]
theorem hd_:zm_ Tryz.prog Tryz.f33 hM_ GH_=true:=by kernel_rfl
def w6_:List AV->List Obj->Option (Prop × AV)
 | [.agg zz0],[]=>Vs_ YD zz0 fun ⟨t,xi,n,d,el,x,a,ins,bu,ba,qu,po,ki,fl,pa,_⟩=>some ((True,.bool (JM_ (t,xi,n,d,el,x,a,ins,bu,ba,qu,po,ki,fl,pa,()))))
 | _,_=>none
theorem u3_:zd_ Tryz.prog 33 (RoF w6_).sum:=by
 refine zi_ Tryz.func33 hd_ (za_ (s:=RoF qB_) Jl_ (za_ (s:=RoF qW_) J0_ (za_ (s:=RoF qY_) J2_ (za_ (s:=RoF qX_) J1_ (za_ (s:=RoF qd_) jx_ (za_ (s:=RoF qC_) Jm_ (za_ (s:=RoF qj_) jY_ (za_ (s:=RoF qz_) Jj_ (za_ (s:=RoF qA_) Jk_ (za_ (s:=RoF Qk_) Wh_ (za_ (s:=RoF kc_) XP_ (zc_ _)))))))))))) fun args objs p v e=>?_
 unfold w6_ at e
 split at e
 ·rename_i zz0
  replace e:=JH_ e
  obtain ⟨⟨t,xi,n,d,el,x,a,ins,bu,ba,qu,po,ki,fl,pa,_⟩,hz,e⟩:=e
  replace hz:zz0=[.int .i64 t,.int .u32 xi,.imm (.int .u64) n,.imm (.int .u8) d,.imm YB el,.imm Y1 x,.imm Y2 a,.imm Y3 ins,.imm Y4 bu,.imm Y5 ba,.imm Y7 qu,.imm Y8 po,.int .i64 ki,.int .i64 fl,.imm YC pa]:=hz
  subst hz
  change Int at t
  change Int at xi
  change Int at ki
  change Int at fl
  cases e
  refine ⟨rfl,fun hw ho hp=>?_⟩
  change List Int at n
  change List Int at d
  clear hw ho
  repeat'(intro t ht;first|(cases t<;>first|(cases ht;done)|(try simp only[zg_]at ht;try(exfalso;first|contradiction|omega)))|((first|refine zb_ ht ?_|refine ht ?_ ?_|refine ht.1 ?_ ?_|refine ht ?_)<;>clear ht))
  all_goals first
   | exact True.intro
   | (refine ⟨congrArg AV.bool ?_,rfl⟩;rw [Bool.eq_iff_iff];unfold JM_;simp only [Bool.and_eq_true,decide_eq_true_eq,reduceCtorEq,true_iff,false_iff];omega)
 ·cases e
abbrev VIt:=Int × List Int × Unit
def wI (t:Int):List Int:=if t=1 then [1,-3] else if t=2 then [-4,8,8] else if t=3\/t=4\/t=5 then [-4] else if t=6\/t=65535 then [4] else []
def kI (t:Int):Bool:=decide (t=1) || decide (t=2) || decide (t=3) || decide (t=4) || decide (t=5) || decide (t=6) || decide (t=65535)
def dI (t:Int):Bool:=decide (t=3) || decide (t=4)
def mI (t:Int):Bool:=decide (t=3) || decide (t=4) || decide (t=65535)
def qI (t a b:Int):Int:=if t=1/\254 < a then 771 else if t=2/\¬ Zw_ .andNot .u64 a b=0 then 772 else 0
def nuI (t:Int):Int:=zH_ (wI t)
def sI (t:Int):Int:=zD_ (wI t)
theorem U4_ {t:Int} (h:kI t=true):t=1\/t=2\/t=3\/t=4\/t=5\/t=6\/t=65535:=by
 unfold kI at h;simp only [Bool.or_eq_true,decide_eq_true_eq] at h;omega
theorem zay_ {t:Int} (h:kI t=true):(sI t=4\/sI t=20)/\0<=nuI t/\nuI t<=2:=by
 rcases U4_ h with rfl | rfl | rfl | rfl | rfl | rfl | rfl<;>decide
theorem zkT_ {t:Int} (h:kI t=true):0<=t/\t<=65535:=by have:=U4_ h;omega
def xI (i:VIn):List Int:=[i.2.1,i.2.2.1].take (nuI i.1).toNat
theorem zk7_ {n a b:Int} (h0:0<=n/\n<=2) (h2:2<=n\/b=0) (h1:1<=n\/a=0):([a,b].take n.toNat++[0,0]).getD 0 0=a/\([a,b].take n.toNat++[0,0]).getD 1 0=b:=by
 have:n=0\/n=1\/n=2:=by omega
 rcases this with rfl | rfl | rfl
 ·obtain rfl:a=0:=by omega
  obtain rfl:b=0:=by omega
  exact ⟨rfl,rfl⟩
 ·obtain rfl:b=0:=by omega
  exact ⟨rfl,rfl⟩
 ·exact ⟨rfl,rfl⟩
def gdI (i:VIn):Bool:=kI i.1 && decide (qI i.1 i.2.1 i.2.2.1=0) && (decide (2<=nuI i.1) || decide (i.2.2.1=0)) && (decide (1<=nuI i.1) || decide (i.2.1=0)) && (dI i.1 || decide (i.2.2.2.1.length=0)) && (decide (i.1=65535) || decide (i.2.2.2.2.1.length=0)) && decide (i.2.2.2.2.1.length % 8=0)
def byI (i:VIn):Option (List Int):=wcat (wcat (rowO (wI i.1) (xI i)) (actO i.2.2.2.1)) (some i.2.2.2.2.1)
def bdO (i:VIn):Option (List Int):=if gdI i=true then (match byI i with | some y=>if (65524:Int) < y.length then none else some y | none=>none) else none
structure BdOk (i:VIn) (y:List Int):Prop where
 k:kI i.1=true
 q:qI i.1 i.2.1 i.2.2.1=0
 b:2<=nuI i.1\/i.2.2.1=0
 a:1<=nuI i.1\/i.2.1=0
 d:dI i.1=true\/i.2.2.2.1=[]
 e:i.1=65535\/i.2.2.2.2.1=[]
 m:i.2.2.2.2.1.length % 8=0
 p:qq_ (wI i.1) (xI i)=true
 r:rgL i.2.2.2.1=true
 s:y=ZR_ (wI i.1) (xI i)++boA i.2.2.2.1++i.2.2.2.2.1
 l:(y.length:Int)<=65524
theorem uA_ {i:VIn}:gdI i=true ↔ kI i.1=true/\qI i.1 i.2.1 i.2.2.1=0/\(2<=nuI i.1\/i.2.2.1=0)/\(1<=nuI i.1\/i.2.1=0)/\(dI i.1=true\/i.2.2.2.1=[])/\(i.1=65535\/i.2.2.2.2.1=[])/\i.2.2.2.2.1.length % 8=0:=by
 unfold gdI
 simp only [Bool.and_eq_true,Bool.or_eq_true,decide_eq_true_eq,List.length_eq_zero_iff,and_assoc]
theorem YE_ {i:VIn} {y:List Int}:bdO i=some y ↔ BdOk i y:=by
 constructor
 ·intro h
  unfold bdO at h
  split at h
  ·rename_i hg
   obtain ⟨g1,g2,g3,g4,g5,g6,g7⟩:=uA_.1 hg
   cases hy:byI i with
   | none=>rw [hy] at h;cases h
   | some z=>
     rw [hy] at h
     dsimp only at h
     split at h
     ·cases h
     ·rename_i hl
      cases h
      unfold byI at hy
      obtain ⟨p,q,w1,w2,w3⟩:=Jh_ hy
      obtain ⟨p1,p2,w4,w5,w6⟩:=Jh_ w1
      obtain ⟨k1,k2⟩:=Y4_ w4
      obtain ⟨k3,k4⟩:=zg8_ w5
      cases w2
      exact ⟨g1,g2,g3,g4,g5,g6,g7,k1,k3,by rw [w3,w6,k2,k4],by omega⟩
  ·cases h
 ·rintro ⟨g1,g2,g3,g4,g5,g6,g7,g8,g9,rfl,g11⟩
  unfold bdO byI
  have e1:rowO (wI i.1) (xI i)=some (ZR_ (wI i.1) (xI i)):=if_pos g8
  have e2:actO i.2.2.2.1=some (boA i.2.2.2.1):=if_pos g9
  rw [if_pos (uA_.2 ⟨g1,g2,g3,g4,g5,g6,g7⟩),e1,e2,zff_,zff_]
  dsimp only
  rw [if_neg (by omega)]
theorem zk3_:∀ {l:List AC},l.all rgA=true->(boA l).length % 8=0
 | [],_=>rfl
 | a :: r,h=>by
   rw [List.all_cons,Bool.and_eq_true] at h
   have h1:=(uO_ h.1).2.2.2
   have h2:=zk3_ h.2
   rw [JL_,List.length_append];omega
theorem zk6_ {i:VIn} (ha:0<=i.2.1/\i.2.1<=18446744073709551615) (hb:0<=i.2.2.1/\i.2.2.1<=18446744073709551615):∀ z ∈ xI i,0<=z/\z<=18446744073709551615:=fun z hz=>by
 have:=List.mem_of_mem_take hz
 simp only [List.mem_cons,List.not_mem_nil,or_false] at this
 rcases this with rfl | rfl<;>assumption
theorem UB_ {w xs:List Int} (h:qq_ w xs=true):((ZR_ w xs).length:Int)=zD_ w:=Jw_ h
theorem ziX_ {i:VIn} {y:List Int} (h:bdO i=some y):y.length % 8=4/\4<=y.length/\(y.length:Int)<=65524:=by
 have g:=YE_.1 h
 have h1:=UB_ g.p
 have h2:=zk3_ (Jt_ g.r).1
 have h3:=(zay_ g.k).1
 unfold sI at h3
 have hl:=g.l
 have hm:=g.m
 have hy:=congrArg List.length g.s
 rw [List.length_append,List.length_append] at hy
 omega
def enH (t:Int) (y:List Int):List Int:=ze_ t 2++ze_ (4+y.length) 2++y
theorem uB_ (t:Int) (y:List Int):(enH t y).length=4+y.length:=by
 have l2:(ze_ t 2).length=2:=by have:=zn_ (n:=t) (w:=2) (by decide);omega
 have l3:(ze_ (4+y.length) 2).length=2:=by have:=zn_ (n:=4+(y.length:Int)) (w:=2) (by decide);omega
 unfold enH;simp only [List.length_append];omega
def bdY (i:VIn):List Int:=(bdO i).getD []
def enI (i:VIn):List Int:=enH i.1 (bdY i)
def itI (i:VIn):VIt:=(i.1,bdY i,())
def boI (l:List VIn):List Int:=l.flatMap enI
theorem ziW_ (i:VIn) (r:List VIn):boI (i :: r)=enI i++boI r:=List.flatMap_cons
def snI (acc:List VIn) (t:Int):Bool:=acc.any fun i=>decide (i.1=t)
def dbI (acc:List VIn) (t:Int):Bool:=snI acc t && decide (¬ t=65535)
def gdL (acc:List VIn):List VIn->Bool
 | []=>true
 | i :: r=>(bdO i).isSome && !dbI acc i.1 && gdL (acc++[i]) r
theorem ziA_ {acc l:List VIn} {i:Nat} {d:VIn} (h:i < l.length):gdL acc (l.drop i)=((bdO (l.getD i d)).isSome && !dbI acc (l.getD i d).1 && gdL (acc++[l.getD i d]) (l.drop (i+1))):=by
 rw [zw_ h d];rfl
def rgI (l:List VIn):Bool:=gdL [] l && decide ((boI l).length<=65528)
def ieL (l:List VIn):List Int:=if rgI l=true then boI l else []
def ieE (l:List VIn):Int:=if rgI l=true then 0 else 10001
theorem ziY_ {i:VIn} {y:List Int} (h:bdO i=some y):bdY i=y:=by unfold bdY;rw [h];rfl
theorem B5_:∀ {l acc:List VIn},gdL acc l=true->∀ i ∈ l,(bdO i).isSome=true
 | i :: r,acc,h,j,hj=>by
   unfold gdL at h
   simp only [Bool.and_eq_true] at h
   rcases List.mem_cons.1 hj with rfl | hj
   ·exact h.1.1
   ·exact B5_ h.2 j hj
def o5N (t:Int) (x:List Int):List Int:=QR_ (wI t) x 0 0++[0,0]
def o5A (t:Int) (x:List Int):Int:=(o5N t x).getD 0 0
def o5B (t:Int) (x:List Int):Int:=(o5N t x).getD 1 0
def o5K (t:Int) (x:List Int):Bool:=decide (zQ_ (wI t) x=0) && (mI t || decide ((x.length:Int)<=sI t))
def o5R (t:Int) (x:List Int):List Int:=x.drop (sI t).toNat
def o5E (s:Bool) (t:Int) (x:List Int):Int:=if kI t=false then 769 else if s=true/\¬ t=65535 then 778 else if o5K t x=false then 776 else if t=65535 then 0 else if ¬ qI t (o5A t x) (o5B t x)=0 then qI t (o5A t x) (o5B t x) else adE (o5R t x)
def o5V (s:Bool) (t:Int) (x:List Int):VIn:=if kI t=false\/(s=true/\¬ t=65535) then (t,0,0,[],[],()) else (t,o5A t x,o5B t x,(if o5E s t x=0/\¬ t=65535 then adL (o5R t x) else []),(if o5K t x=true/\t=65535 then o5R t x else []),())
def inE (acc:List VIn) (y:List Int):Int:=if ¬ tlE y 8 8 776=0 then tlE y 8 8 776 else o5E (snI acc (tT y)) (tT y) (bd y)
def vI (acc:List VIn) (y:List Int):VIn:=o5V (snI acc (tT y)) (tT y) (bd y)
def inG (acc:List VIn) (y:List Int):List VIn × Int:=
 if y.length=0 then (acc,0) else if ¬ inE acc y=0 then ([],inE acc y) else inG (acc++[vI acc y]) (y.drop (max 1 (tN y).toNat))
termination_by y.length
decreasing_by all_goals (rw [List.length_drop];omega)
theorem Yw_ {acc:List VIn} {y:List Int} (h:y.length=0):inG acc y=(acc,0):=by rw [inG,if_pos h]
theorem jK_ {acc:List VIn} {y:List Int} (h:¬ y.length=0) (h2:¬ inE acc y=0):inG acc y=([],inE acc y):=by rw [inG,if_neg h,if_pos h2]
theorem gn_ {acc:List VIn} {y:List Int} (h:¬ y.length=0) (h2:inE acc y=0) (hn:1<=tN y):inG acc y=inG (acc++[vI acc y]) (y.drop (tN y).toNat):=by
 rw [inG,if_neg h,if_neg (not_not_intro h2),show max 1 (tN y).toNat=(tN y).toNat by omega]
def idE (b:List Int):Int:=if ¬ (inG [] b).2=0 then (inG [] b).2 else if 65528 < b.length then 776 else 0
def idL (b:List Int):List VIn:=if idE b=0 then (inG [] b).1 else []
theorem xT_ {b:List Int} {e:Int} (h:(inG [] b).2=e) (h0:¬ e=0):idL b=[]/\idE b=e:=by
 have:idE b=e:=by unfold idE;rw [h,if_pos h0]
 exact ⟨by unfold idL;rw [this,if_neg h0],this⟩
theorem vy_ {b:List Int} {acc:List VIn} (h:inG [] b=(acc,0)):(65528 < b.length->idL b=[]/\idE b=776)/\(¬ 65528 < b.length->idL b=acc/\idE b=0):=by
 have e:idE b=if 65528 < b.length then 776 else 0:=by unfold idE;rw [h];rfl
 constructor
 ·intro hl
  rw [if_pos hl] at e
  exact ⟨by unfold idL;rw [e];rfl,e⟩
 ·intro hl
  rw [if_neg hl] at e
  exact ⟨by unfold idL;rw [e,h];rfl,e⟩
theorem uM_ {b:List Int} {bad:Int} (hT:tlE b 8 8 bad=0) (hbad:bad ≠ 0):4<=b.length/\8<=tN b/\(tN b).tmod 8=0/\tN b<=b.length:=by
 unfold tlE at hT
 by_cases h1:b.length < 4
 ·rw [if_pos h1] at hT;exact absurd hT hbad
 ·rw [if_neg h1] at hT
  by_cases h2:tN b < 8\/¬ (tN b).tmod 8=0
  ·rw [if_pos h2] at hT;exact absurd hT hbad
  ·rw [if_neg h2] at hT
   by_cases h3:(b.length:Int) < tN b
   ·rw [if_pos h3] at hT;exact absurd hT hbad
   ·omega
theorem zlW_ {acc:List VIn} {b:List Int} (h0:inE acc b=0):tlE b 8 8 776=0/\o5E (snI acc (tT b)) (tT b) (bd b)=0:=by
 unfold inE at h0
 by_cases h:tlE b 8 8 776=0
 ·rw [if_neg (not_not_intro h)] at h0;exact ⟨h,h0⟩
 ·rw [if_pos h] at h0;exact absurd h0 h
theorem gm_ {acc:List VIn} {b:List Int} (h0:inE acc b=0):8<=tN b/\tN b<=b.length/\(tN b).tmod 8=0:=by
 obtain ⟨p1,p2,p3,p4⟩:=uM_ (zlW_ h0).1 (by decide)
 exact ⟨p2,p4,p3⟩
structure OkI (s:Bool) (t:Int) (x:List Int):Prop where
 k:kI t=true
 s:s=false\/t=65535
 o:o5K t x=true
 q:qI t (o5A t x) (o5B t x)=0
 a:t=65535\/adE (o5R t x)=0
theorem qI_x {a b:Int}:qI 65535 a b=0:=by unfold qI;rw [if_neg (by omega),if_neg (by omega)]
theorem zhR_ {s:Bool} {t:Int} {x:List Int}:o5E s t x=0 ↔ OkI s t x:=by
 unfold o5E
 constructor
 ·intro h
  cases hk:kI t with
  | false=>rw [if_pos hk] at h;cases h
  | true=>
    rw [if_neg (by rw [hk];decide)] at h
    by_cases hs:s=true/\¬ t=65535
    ·rw [if_pos hs] at h;cases h
    ·rw [if_neg hs] at h
     have hs':s=false\/t=65535:=by
      cases s with
      | false=>exact .inl rfl
      | true=>exact .inr (Decidable.of_not_not fun c=>hs ⟨rfl,c⟩)
     cases ho:o5K t x with
     | false=>rw [if_pos ho] at h;cases h
     | true=>
       rw [if_neg (by rw [ho];decide)] at h
       by_cases hx:t=65535
       ·subst hx;exact ⟨hk,.inr rfl,ho,qI_x,.inl rfl⟩
       ·rw [if_neg hx] at h
        by_cases hq:qI t (o5A t x) (o5B t x)=0
        ·rw [if_neg (not_not_intro hq)] at h
         exact ⟨hk,hs',ho,hq,.inr h⟩
        ·rw [if_pos hq] at h;exact absurd h hq
 ·rintro ⟨h1,h2,h3,h4,h5⟩
  have h2':¬ (s=true/\¬ t=65535):=by
   rintro ⟨c1,c2⟩
   rcases h2 with h2 | h2
   ·rw [h2] at c1;cases c1
   ·exact c2 h2
  rw [if_neg (by rw [h1];decide),if_neg h2',if_neg (by rw [h3];decide)]
  by_cases hx:t=65535
  ·rw [if_pos hx]
  ·rw [if_neg hx,if_neg (not_not_intro h4)]
   rcases h5 with h5 | h5
   ·exact absurd h5 hx
   ·exact h5
theorem zmG_ {s:Bool} {t:Int} {x:List Int} (h:OkI s t x):o5V s t x=(t,o5A t x,o5B t x,(if t=65535 then [] else adL (o5R t x)),(if t=65535 then o5R t x else []),()):=by
 have h0:=zhR_.2 h
 unfold o5V
 have h2:¬ (kI t=false\/(s=true/\¬ t=65535)):=by
  rintro (c | c)
  ·rw [h.k] at c;cases c
  ·rcases h.s with e | e
   ·rw [e] at c;cases c.1
   ·exact c.2 e
 rw [if_neg h2]
 by_cases hx:t=65535
 ·rw [if_neg (fun c=>c.2 hx),if_pos ⟨h.o,hx⟩,if_pos hx,if_pos hx]
 ·rw [if_pos ⟨h0,hx⟩,if_neg (fun c=>hx c.2),if_neg hx,if_neg hx]
structure wfI (i:VIn):Prop where
 a:0<=i.2.1/\i.2.1<=18446744073709551615
 b:0<=i.2.2.1/\i.2.2.1<=18446744073709551615
 c:∀ a ∈ i.2.2.2.1,bysU a
theorem zmT_ {t:Int} {body rest:List Int} (ht:0<=t/\t<=65535) (h8:4<=body.length) (hm:body.length % 8=4) (hN2:(body.length:Int)<=65524):
 tT (enH t body++rest)=t/\tN (enH t body++rest)=4+body.length/\tlE (enH t body++rest) 8 8 776=0/\bd (enH t body++rest)=body:=by
 obtain ⟨e1,e2,e3,e4⟩:=zcT_ (t:=t) (N:=4+body.length) (body:=body) (rest:=rest) ht rfl (by omega) (by omega) (by omega)
 refine ⟨e1,e2,?_,e4⟩
 have e5:(4<=(enH t body++rest).length/\8<=tN (enH t body++rest)/\(tN (enH t body++rest)).tmod 8=0/\tN (enH t body++rest)<=(enH t body++rest).length):=uM_ (bad:=514) e3 (by decide)
 unfold tlE
 rw [if_neg (by omega),if_neg (by omega),if_neg (by omega)]
theorem zlT_ {i:VIn} {y rest:List Int} {acc:List VIn} (h:bdO i=some y) (hw:wfI i) (hs:dbI acc i.1=false):inE acc (enI i++rest)=0/\vI acc (enI i++rest)=i/\tN (enI i++rest)=(enI i).length:=by
 have g:=YE_.1 h
 obtain ⟨b1,b2,b3⟩:=ziX_ h
 have hy:=ziY_ h
 obtain ⟨e1,e2,e3,e4⟩:=zmT_ (rest:=rest) (zkT_ g.k) b2 b1 b3
 have eI:enI i=enH i.1 y:=by unfold enI;rw [hy]
 rw [<- eI] at e1 e2 e3 e4
 obtain ⟨w1,w2,w3⟩:=zay_ g.k
 have hpz:=UB_ g.p
 have gy:y=ZR_ (wI i.1) (xI i)++(boA i.2.2.2.1++i.2.2.2.2.1):=by rw [g.s,List.append_assoc]
 obtain ⟨f1,f2⟩:=vc_ (boA i.2.2.2.1++i.2.2.2.2.1) (zk6_ hw.a hw.b) g.p
 rw [<- gy] at f1
 have gL:zG_ (wI i.1) y=xI i:=congrArg Prod.fst f1
 have gK:zQ_ (wI i.1) y=0:=congrArg Prod.snd f1
 have hN:o5N i.1 y=xI i++[0,0]:=by
  unfold o5N QR_;rw [if_pos rfl,show (0:Int).toNat=0 from rfl,List.drop_zero,gL]
 obtain ⟨n1,n2⟩:=zk7_ ⟨w2,w3⟩ g.b g.a
 have hA:o5A i.1 y=i.2.1:=by unfold o5A;rw [hN];exact n1
 have hB:o5B i.1 y=i.2.2.1:=by unfold o5B;rw [hN];exact n2
 have hR:o5R i.1 y=boA i.2.2.2.1++i.2.2.2.2.1:=by
  unfold o5R sI;rw [gy];exact List.drop_left' (by omega)
 have hsI:snI acc i.1=false\/i.1=65535:=by
  unfold dbI at hs
  rcases Bool.and_eq_false_iff.1 hs with c | c
  ·exact .inl c
  ·exact .inr (Decidable.of_not_not (of_decide_eq_false c))
 have hO:OkI (snI acc i.1) i.1 y:=by
  refine ⟨g.k,hsI,?_,by rw [hA,hB];exact g.q,?_⟩
  ·unfold o5K
   rw [decide_eq_true gK,Bool.true_and,Bool.or_eq_true,decide_eq_true_eq]
   by_cases hx:i.1=65535
   ·left;unfold mI;rw [decide_eq_true hx];simp
   ·rcases g.d with d | d
    ·left;unfold mI;unfold dI at d;rw [d];rfl
    ·right
     rcases g.e with e | e
     ·exact absurd e hx
     ·have hyl:=congrArg List.length gy
      rw [d,e] at hyl
      simp only [List.length_append,List.length_nil] at hyl
      rw [show (boA ([]:List AC)).length=0 from rfl] at hyl
      unfold sI;omega
  ·by_cases hx:i.1=65535
   ·exact .inl hx
   ·rcases g.e with e | e
    ·exact absurd e hx
    ·right
     rw [hR,e,List.append_nil]
     exact (zja_ g.r hw.c).2
 have hE:inE acc (enI i++rest)=0:=by
  unfold inE;rw [if_neg (not_not_intro e3),e1,e4];exact zhR_.2 hO
 refine ⟨hE,?_,?_⟩
 ·unfold vI;rw [e1,e4,zmG_ hO,hA,hB,hR]
  obtain ⟨t,a,b,ac,d,u⟩:=i
  refine Prod.ext rfl (Prod.ext rfl (Prod.ext rfl (Prod.ext ?_ (Prod.ext ?_ rfl))))
  ·show (if t=65535 then [] else adL (boA ac++d))=ac
   by_cases hx:t=65535
   ·rw [if_pos hx]
    rcases g.d with e | e
    ·exfalso;rw [show ((t,a,b,ac,d,u):VIn).1=t from rfl,hx] at e;exact absurd e (by decide)
    ·exact e.symm
   ·rw [if_neg hx]
    rcases g.e with e | e
    ·exact absurd e hx
    ·rw [show d=[] from e,List.append_nil];exact (zja_ g.r hw.c).1
  ·show (if t=65535 then boA ac++d else [])=d
   by_cases hx:t=65535
   ·rw [if_pos hx]
    rcases g.d with e | e
    ·exfalso;rw [show ((t,a,b,ac,d,u):VIn).1=t from rfl,hx] at e;exact absurd e (by decide)
    ·rw [show ac=[] from e];rfl
   ·rw [if_neg hx]
    rcases g.e with e | e
    ·exact absurd e hx
    ·exact e.symm
 ·rw [e2,eI,uB_];omega
theorem zfO_:∀ (r acc:List VIn),gdL acc r=true->(∀ i ∈ r,wfI i)->inG acc (boI r)=(acc++r,0)
 | [],acc,_,_=>by rw [Yw_ (by rfl),List.append_nil]
 | i :: r,acc,h,hu=>by
   unfold gdL at h
   simp only [Bool.and_eq_true,Bool.not_eq_true'] at h
   obtain ⟨y,hy⟩:=Option.isSome_iff_exists.1 h.1.1
   obtain ⟨e1,e2,e3⟩:=zlT_ (rest:=boI r) hy (hu i (List.mem_cons_self ..)) h.1.2
   obtain ⟨g1,g2,_⟩:=gm_ e1
   rw [List.length_append] at g2
   rw [ziW_,gn_ (by rw [List.length_append];omega) e1 (by omega),e2,e3,Int.toNat_natCast,List.drop_left,zfO_ r (acc++[i]) h.2 (fun j hj=>hu j (List.mem_cons_of_mem _ hj)),List.append_assoc];rfl
theorem zlX_ {l:List VIn} (h:rgI l=true) (hu:∀ i ∈ l,wfI i):idL (boI l)=l/\idE (boI l)=0:=by
 unfold rgI at h
 simp only [Bool.and_eq_true,decide_eq_true_eq] at h
 have hg:=zfO_ l [] h.1 hu
 rw [List.nil_append] at hg
 exact (vy_ hg).2 (by omega)
theorem zlo_ {w b:List Int} (hb:∀ x ∈ b,0<=x/\x<=255) (h:zQ_ w b=0):((zG_ w b).length:Int)=zH_ w:=by
 obtain ⟨p1,_,_⟩:=JC_ hb (show Zy_ w b=(zG_ w b,0) from Prod.ext rfl h)
 unfold qq_ jz_ at p1
 split at p1
 ·rename_i hc;exact hc.2.symm
 ·cases p1
theorem zeu_ {k v:Int}:∀ (m:List (Int × Int)) (k':Int),zy_ (kk_ m k v) k'=if k=k' then some v else zy_ m k'
 | [],k'=>by unfold kk_;rfl
 | (a,b) :: r,k'=>by
   have ih:=zeu_ (k:=k) (v:=v) r k'
   by_cases h:a=k
   ·subst h
    have e:kk_ ((a,b) :: r) a v=(a,v) :: r:=if_pos rfl
    rw [e]
    show (if a=k' then some v else zy_ r k')=if a=k' then some v else if a=k' then some b else zy_ r k'
    split<;>rfl
   ·have e:kk_ ((a,b) :: r) k v=(a,b) :: kk_ r k v:=if_neg h
    rw [e]
    show (if a=k' then some b else zy_ (kk_ r k v) k')=if k=k' then some v else if a=k' then some b else zy_ r k'
    rw [ih]
    by_cases h2:a=k'
    ·rw [if_pos h2,if_pos h2,if_neg (fun c=>h (h2.trans c.symm))]
    ·rw [if_neg h2,if_neg h2]
theorem zhZ_ {k v w:Int}:∀ (m:List (Int × Int)),kk_ (kk_ m k v) k w=kk_ m k w/\qe_ (kk_ m k v) k=qe_ m k/\qe_ m k < (kk_ m k v).length/\(kk_ m k v).length<=m.length+1
 | []=>⟨if_pos rfl,if_pos rfl,Nat.zero_lt_one,Nat.le_refl _⟩
 | (a,b) :: r=>by
   obtain ⟨i1,i2,i3,i4⟩:=zhZ_ (k:=k) (v:=v) (w:=w) r
   by_cases h:a=k
   ·subst h
    have e:∀ v,kk_ ((a,b) :: r) a v=(a,v) :: r:=fun v=>if_pos rfl
    have x:∀ b,qe_ ((a,b) :: r) a=0:=fun b=>if_pos rfl
    rw [e,e,x,x]
    refine ⟨if_pos rfl,rfl,Nat.zero_lt_succ _,?_⟩
    simp only [List.length_cons];omega
   ·have e:∀ v,kk_ ((a,b) :: r) k v=(a,b) :: kk_ r k v:=fun v=>if_neg h
    have x:∀ r:List (Int × Int),qe_ ((a,b) :: r) k=qe_ r k+1:=fun r=>if_neg h
    rw [e,e,x,x,i2]
    refine ⟨by rw [show kk_ ((a,b) :: kk_ r k v) k w=(a,b) :: kk_ (kk_ r k v) k w from if_neg h,i1],rfl,?_,?_⟩
    ·simp only [List.length_cons];omega
    ·simp only [List.length_cons];omega
structure mOk (m:List (Int × Int)) (acc:List VIn):Prop where
 s:∀ k,(0 < (zy_ m k).getD 0 ↔ snI acc k=true)
 r:∀ k,0<=(zy_ m k).getD 0/\(zy_ m k).getD 0<=acc.length
 l:m.length<=acc.length
theorem uw_:mOk [] []:=⟨fun k=>⟨fun h=>absurd h (by show ¬ (0:Int) < 0;decide),fun h=>by cases h⟩,fun k=>⟨by show (0:Int)<=0;decide,by show (0:Int)<=0;decide⟩,Nat.le_refl _⟩
theorem zjA_ (a b:List VIn) (t:Int):snI (a++b) t=(snI a t || snI b t):=List.any_append
theorem zjz_ (i:VIn) (t:Int):snI [i] t=decide (i.1=t):=by unfold snI;simp
theorem ux_ {m:List (Int × Int)} {acc:List VIn} {i:VIn} (h:mOk m acc):mOk (kk_ m i.1 ((zy_ m i.1).getD 0+1)) (acc++[i]):=by
 have hr:=h.r i.1
 refine ⟨fun k=>?_,fun k=>?_,?_⟩
 ·rw [zeu_,zjA_,zjz_]
  by_cases c:i.1=k
  ·rw [if_pos c,decide_eq_true c,Bool.or_true]
   exact ⟨fun _=>rfl,fun _=>by show 0 < (zy_ m i.1).getD 0+1;omega⟩
  ·rw [if_neg c,decide_eq_false c,Bool.or_false];exact h.s k
 ·have hk:=h.r k
  rw [zeu_,List.length_append,List.length_singleton]
  by_cases c:i.1=k
  ·rw [if_pos c];show 0<=(zy_ m i.1).getD 0+1/\(zy_ m i.1).getD 0+1<=_;omega
  ·rw [if_neg c];omega
 ·have:=(zhZ_ (k:=i.1) (v:=(zy_ m i.1).getD 0+1) (w:=0) m).2.2.2
  have:=h.l
  rw [List.length_append,List.length_singleton];omega
theorem zfI_ {m:List (Int × Int)} {acc:List VIn} (h:mOk m acc) (t:Int):decide (0 < (zy_ m t).getD 0)=snI acc t:=by
 rw [Bool.eq_iff_iff,decide_eq_true_eq];exact h.s t
theorem zkS_ {t:Int} (h:¬ (t=1\/t=2\/t=3\/t=4\/t=5\/t=6\/t=65535)):wI t=[]/\mI t=false/\kI t=false:=by
 refine ⟨?_,?_,?_⟩
 ·unfold wI;rw [if_neg (by omega),if_neg (by omega),if_neg (by omega),if_neg (by omega)]
 ·unfold mI;rw [decide_eq_false (by omega),decide_eq_false (by omega),decide_eq_false (by omega)];rfl
 ·cases h2:kI t with
  | false=>rfl
  | true=>exact absurd (U4_ h2) h
def hI_:IR:=
(sq (kr [0] [oD 2 (.mov (.c (.imm (.int .i64) []))),
oD 3 (.mov cF),
oD 4 (.mov cF)])
(sq (sq (.reg [oM 5 0])
(.block 0
(sq (.block 6
(sq (.block 5
(sq (.block 4
(sq (.block 3
(sq (.block 2
(sq (.block 1
(sq (sq (sq (.reg [oB 7 .eql 5 (cI 1),
oM 6 7])
(.cond 6
(.exit 1)
.skip))
(sq (sq (kr [3,5] [oB 9 .eql 5 (cI 2),
oM 8 9])
(.cond 8
(.exit 2)
.skip))
(sq (sq (sq (.reg [oB 11 .eql 5 (cI 3),
oM 10 11])
(.cond 10
.skip
(.reg [oB 12 .eql 5 (cI 4),
oM 10 12])))
(.cond 10
(.exit 3)
.skip))
(sq (sq (kr [3,5] [oB 14 .eql 5 (cI 5),
oM 13 14])
(.cond 13
(.exit 4)
.skip))
(sq (sq (.reg [oB 16 .eql 5 (cI 65535),
oM 15 16])
(.cond 15
(.exit 5)
.skip))
(sq (.reg [oB 18 .eql 5 (cI 6),
oM 17 18])
(.cond 17
(.exit 6)
.skip)))))))
(.exit 0)))
(sq (sq (kr [] [oD 19 (.sliceAll (.int .i64) 2 [(0,1,(cI 1)),(1,1,(cI (-3)))]),
oM 2 19,
oD 3 (.mov cF),
oD 4 (.mov cT)])
.ret)
(.exit 0))))
(sq (sq (kr [] [oD 20 (.sliceAll (.int .i64) 3 [(0,1,(cI (-4))),(1,1,(cI 8)),(2,1,(cI 8))]),
oM 2 20,
oD 3 (.mov cF),
oD 4 (.mov cT)])
.ret)
(.exit 0))))
(kr [] [oD 3 (.mov cT)])))
(sq (sq (kr [3] [oD 21 (.sliceAll (.int .i64) 1 [(0,1,(cI (-4)))]),
oM 22 3,
oM 2 21,
oM 3 22,
oD 4 (.mov cT)])
.ret)
(.exit 0))))
(kr [] [oD 3 (.mov cT)])))
(sq (sq (kr [3] [oD 23 (.sliceAll (.int .i64) 1 [(0,1,(cI 4))]),
oM 24 3,
oM 2 23,
oM 3 24,
oD 4 (.mov cT)])
.ret)
(.exit 0)))))
(sq (kr [] [oD 2 (.mov (.c (.imm (.int .i64) []))),
oD 3 (.mov cF),
oD 4 (.mov cF)])
.ret)))
def GD_:List RD:=[.tmp 2 true (some (.int .i64)),.tmp 3 true none,.tmp 4 true none]
theorem G9_:zm_ Tryz.prog Tryz.f159 hI_ GD_=true:=by kernel_rfl
def KR_:List AV->List Obj->Option (Prop × AV)
 | [.int .i64 tt],[]=>some ((True,.tup [.imm (.int .i64) (wI tt),.bool (mI tt),.bool (kI tt)]))
 | _,_=>none
theorem xf_:zd_ Tryz.prog 159 (RoF KR_).sum:=by
 refine zi_ Tryz.func159 G9_ (zc_ _) fun args objs p v e=>?_
 unfold KR_ at e
 split at e
 ·rename_i tt
  cases e
  refine ⟨rfl,fun hw ho hp=>?_⟩
  clear hw ho
  repeat'(intro t ht;first|(cases t<;>first|(cases ht;done)|(try simp only[zg_]at ht;try(exfalso;first|contradiction|omega)))|((first|refine zb_ ht ?_|refine ht ?_ ?_|refine ht.1 ?_ ?_|refine ht ?_)<;>clear ht))
  all_goals first
   | exact True.intro
   | (have h:=zkS_ (t:=tt) (by omega)
      rw [h.1,h.2.1,h.2.2];exact ⟨rfl,rfl⟩)
   | (subst_vars;exact ⟨rfl,rfl⟩)
 ·cases e
def zeF_:IR:=
(sq (kr [0] [oD 2 (.mov (.c (.imm (.int .i64) []))),
oD 3 (.mov cF)])
(sq (sq (.reg [oM 4 0])
(.block 0
(sq (.reg [oB 6 .eql 4 (cI 1),
oM 5 6])
(.cond 5
(sq (.reg [oD 7 (.sliceAll (.int .i64) 2 [(0,1,(cI 1)),(1,1,(cI (-3)))]),
oM 2 7,
oD 3 (.mov cT)])
.ret)
(sq (.reg [oB 9 .eql 4 (cI 2),
oM 8 9])
(.cond 8
(sq (kr [] [oD 10 (.sliceAll (.int .i64) 3 [(0,1,(cI (-4))),(1,1,(cI 8)),(2,1,(cI 8))]),
oM 2 10,
oD 3 (.mov cT)])
.ret)
(sq (sq (kr [4] [oB 12 .eql 4 (cI 3),
oM 11 12])
(.cond 11
.skip
(sq (.reg [oB 13 .eql 4 (cI 4),
oM 11 13])
(.cond 11
.skip
(.reg [oB 14 .eql 4 (cI 5),
oM 11 14])))))
(.cond 11
(sq (kr [] [oD 15 (.sliceAll (.int .i64) 1 [(0,1,(cI (-4)))]),
oM 2 15,
oD 3 (.mov cT)])
.ret)
(sq (sq (kr [4] [oB 17 .eql 4 (cI 6),
oM 16 17])
(.cond 16
.skip
(.reg [oB 18 .eql 4 (cI 65535),
oM 16 18])))
(.cond 16
(sq (.reg [oD 19 (.sliceAll (.int .i64) 1 [(0,1,(cI 4))]),
oM 2 19,
oD 3 (.mov cT)])
.ret)
.skip))))))))))
(sq (kr [] [oD 2 (.mov (.c (.imm (.int .i64) []))),
oD 3 (.mov cF)])
.ret)))
def zdU_:List RD:=[.tmp 2 true (some (.int .i64)),.tmp 3 true none]
theorem zee_:zm_ Tryz.prog Tryz.f106 zeF_ zdU_=true:=by kernel_rfl
def vT_:List AV->List Obj->Option (Prop × AV)
 | [.int .i64 tt],[]=>some ((True,.tup [.imm (.int .i64) (wI tt),.bool (kI tt)]))
 | _,_=>none
theorem zaF_:zd_ Tryz.prog 106 (RoF vT_).sum:=by
 refine zi_ Tryz.func106 zee_ (zc_ _) fun args objs p v e=>?_
 unfold vT_ at e
 split at e
 ·rename_i tt
  cases e
  refine ⟨rfl,fun hw ho hp=>?_⟩
  clear hw ho
  repeat'(intro t ht;first|(cases t<;>first|(cases ht;done)|(try simp only[zg_]at ht;try(exfalso;first|contradiction|omega)))|((first|refine zb_ ht ?_|refine ht ?_ ?_|refine ht.1 ?_ ?_|refine ht ?_)<;>clear ht))
  all_goals first
   | exact True.intro
   | (have h:=zkS_ (t:=tt) (by omega)
      rw [h.1,h.2.2];exact ⟨rfl,rfl⟩)
   | (subst_vars;exact ⟨rfl,rfl⟩)
   | (have h:tt=1\/tt=2\/tt=3\/tt=4\/tt=5\/tt=6\/tt=65535:=by omega
      rcases h with rfl | rfl | rfl | rfl | rfl | rfl | rfl<;>first | (exfalso;omega) | exact ⟨rfl,rfl⟩)
 ·cases e
def gd_:IR:=
(sq (kr [0] [oD 1 (.boxv 0),
oD 2 (.mov (cI 0))])
(sq (.block 0
(sq (kr [1] [oA 4 0 1,
oL 5 4,
oB 6 .eql 5 (cI 1),
oM 7 6,
oT 7 8 (.fieldAddr 1 1),
oT 7 9 (.load none 8),
oT 7 10 (.bin .gtr 9 (.c (.int .u64 254))),
oP 11 7 10 cF,
oM 3 11])
(.cond 3
(sq (kr [] [oD 2 (.mov (cI 771))])
.ret)
(sq (kr [1] [oA 13 0 1,
oL 14 13,
oB 15 .eql 14 (cI 2),
oM 16 15,
oT 16 17 (.fieldAddr 1 1),
oT 16 18 (.load none 17),
oT 16 19 (.fieldAddr 2 1),
oT 16 20 (.load none 19),
oT 16 21 (.bin .andNot 18 20),
oT 16 22 (.bin .neq 21 (.c (.int .u64 0))),
oP 23 16 22 cF,
oM 12 23])
(.cond 12
(sq (kr [] [oD 2 (.mov (cI 772))])
.ret)
.skip)))))
(sq (kr [] [oD 2 (.mov (cI 0))])
.ret)))
def Ul_:List RD:=[.tmp 2 true none]
theorem UN_:zm_ Tryz.prog Tryz.f160 gd_ Ul_=true:=by kernel_rfl
def kZ_:List AV->List Obj->Option (Prop × AV)
 | [.agg [.int .i64 tt,.int .u64 a,.int .u64 b,.imm ty0 c,.imm (.int .u8) d]],[]=>ZY_ ty0 Y2 c fun c=>some ((True,.int .i64 (qI tt a b)))
 | _,_=>none
theorem Wc_:zd_ Tryz.prog 160 (RoF kZ_).sum:=by
 refine zi_ Tryz.func160 UN_ (zc_ _) fun args objs p v e=>?_
 unfold kZ_ at e
 split at e
 ·rename_i tt a b ty0 c d
  obtain rfl:=zY_ e
  replace e:=zZ_ e
  cases e
  refine ⟨rfl,fun hw ho hp=>?_⟩
  change List Int at d
  clear hw ho
  repeat'(intro t ht;first|(cases t<;>first|(cases ht;done)|(try simp only[zg_]at ht;try(exfalso;first|contradiction|omega)))|((first|refine zb_ ht ?_|refine ht ?_ ?_|refine ht.1 ?_ ?_|refine ht ?_)<;>clear ht))
  all_goals first
   | exact True.intro
   | (refine ⟨congrArg (AV.int .i64) ?_,rfl⟩;unfold qI;repeat' split
      all_goals first | rfl | omega)
 ·cases e
def BG_:IR:=
(sq (kr [0] [oD 1 (.boxv 0),
oD 2 (.mov (cI 0))])
(sq (sq (kr [1] [oA 3 0 1,
oL 4 3,
oB 5 .eql 4 (cI 1),
oM 6 5,
oT 6 7 (.fieldAddr 1 1),
oT 6 8 (.load none 7),
oT 6 9 (.bin .gtr 8 (.c (.int .u64 254))),
oP 10 6 9 cF])
(.cond 10
(sq (kr [] [oD 2 (.mov (cI 771))])
.ret)
.skip))
(sq (sq (kr [1] [oA 11 0 1,
oL 12 11,
oB 13 .eql 12 (cI 2),
oM 14 13,
oT 14 15 (.fieldAddr 1 1),
oT 14 16 (.load none 15),
oT 14 17 (.fieldAddr 2 1),
oT 14 18 (.load none 17),
oT 14 19 (.bin .and 16 18),
oT 14 20 (.fieldAddr 1 1),
oT 14 21 (.load none 20),
oT 14 22 (.bin .neq 19 21),
oP 23 14 22 cF])
(.cond 23
(sq (kr [] [oD 2 (.mov (cI 772))])
.ret)
.skip))
(sq (kr [] [oD 2 (.mov (cI 0))])
.ret))))
def bo_:List RD:=[.tmp 2 true none]
theorem bZ_:zm_ Tryz.prog Tryz.f107 BG_ bo_=true:=by kernel_rfl
def Xd_:List AV->List Obj->Option (Prop × AV)
 | [.agg [.int .i64 tt,.int .u64 a,.int .u64 b,.imm ty0 c,.imm (.int .u8) d]],[]=>ZY_ ty0 Y2 c fun c=>some ((True,.int .i64 (qI tt a b)))
 | _,_=>none
theorem g8_:zd_ Tryz.prog 107 (RoF Xd_).sum:=by
 refine zi_ Tryz.func107 bZ_ (zc_ _) fun args objs p v e=>?_
 unfold Xd_ at e
 split at e
 ·rename_i tt a b ty0 c d
  obtain rfl:=zY_ e
  replace e:=zZ_ e
  cases e
  refine ⟨rfl,fun hw ho hp=>?_⟩
  change List Int at d
  have ha:0<=a/\a<=18446744073709551615:=(hw _ (List.mem_cons_self ..)) (.int .u64 a) (by simp)
  clear hw ho
  have hbs:=zf3_ (k:=.u64) rfl b (a:=a) ha
  repeat'(intro t ht;first|(cases t<;>first|(cases ht;done)|(try simp only[zg_]at ht;try(exfalso;first|contradiction|omega)))|((first|refine zb_ ht ?_|refine ht ?_ ?_|refine ht.1 ?_ ?_|refine ht ?_)<;>clear ht))
  all_goals first
   | exact True.intro
   | (refine ⟨congrArg (AV.int .i64) ?_,rfl⟩;unfold qI;by_cases hz:Zw_ .andNot .u64 a b=0
      ·have hy:=hbs.1 hz
       repeat' split
       all_goals first | rfl | omega
      ·have hy:¬ Zw_ .and .u64 a b=a:=fun c=>hz (hbs.2 c)
       repeat' split
       all_goals first | rfl | omega)
 ·cases e
def bdF (i:VIn) (l:List Int) (e:Int):List Int × Int:=(kH_ i.2.2.2.2.1 (apB i.2.2.2.1 (qK_ (wI i.1) (xI i) l 65524 e) 65524 (qJ_ (wI i.1) (xI i) l 65524 e)) 65524 (apE i.2.2.2.1 (qK_ (wI i.1) (xI i) l 65524 e) 65524 (qJ_ (wI i.1) (xI i) l 65524 e)),QS_ i.2.2.2.2.1 (apB i.2.2.2.1 (qK_ (wI i.1) (xI i) l 65524 e) 65524 (qJ_ (wI i.1) (xI i) l 65524 e)) 65524 (apE i.2.2.2.1 (qK_ (wI i.1) (xI i) l 65524 e) 65524 (qJ_ (wI i.1) (xI i) l 65524 e)))
theorem wr_I (i:VIn):WrOk 65524 (bdF i) (byI i):=((zdy_ 65524 (wI i.1) (xI i)).seq (zjq_ 65524 i.2.2.2.1)).seq (uK_ 65524 i.2.2.2.2.1)
theorem zf4_ {i:VIn} (hg:gdI i=true):((bdF i [] 0).2=0->bdO i=some (bdF i [] 0).1)/\((bdF i [] 0).2 ≠ 0->bdO i=none):=by
 obtain ⟨f1,f2⟩:=(wr_I i).fin (by decide)
 unfold bdO
 rw [if_pos hg]
 cases hv:byI i with
 | none=>exact ⟨fun h=>absurd h (f2 fun y e=>by rw [hv] at e;cases e),fun _=>rfl⟩
 | some y=>
   dsimp only
   by_cases hl:(65524:Int) < y.length
   ·rw [if_pos hl]
    exact ⟨fun h=>absurd h (f2 fun z e=>by rw [hv] at e;cases e;exact hl),fun _=>rfl⟩
   ·rw [if_neg hl,f1 y hv (by omega)]
    exact ⟨fun _=>rfl,fun h=>absurd rfl h⟩
theorem zmf_ {i:VIn} (h:gdI i=false):bdO i=none:=by unfold bdO;rw [h];rfl
theorem zme_ {i:VIn} (h:rgL i.2.2.2.1=false):bdO i=none:=by
 cases hb:bdO i with
 | none=>rfl
 | some y=>have:=(YE_.1 hb).r;rw [h] at this;cases this
theorem ziI_ (e:Int):ks_ [] e=e:=by unfold ks_;split<;>simp_all
theorem zks_ {i:VIn} (hg:gdI i=true):QG_ (bdF i [] 0).1 [] (bdF i [] 0).2=bdY i/\decide (ks_ [] (bdF i [] 0).2=0)=(bdO i).isSome:=by
 obtain ⟨c1,c2⟩:=zf4_ hg
 rw [ziI_]
 by_cases h:(bdF i [] 0).2=0
 ·have e:=c1 h
  unfold bdY;rw [e,h];exact ⟨rfl,rfl⟩
 ·have e:=c2 h
  unfold bdY QG_ je_;rw [e,decide_eq_false h];exact ⟨rfl,rfl⟩
theorem ziH_ {l:List Int}:QG_ l [] 0=l:=rfl
def hK_:IR:=
(sq (kr [0] [oD 1 (.boxv 0),
oD 2 (.mov (.c (.imm (.int .u8) []))),
oD 3 (.mov cF)])
(sq (kr [1] [oA 14 0 1,
oL 15 14,
oC 16 159 [15],
oM 13 16,
oX 17 13 0,
oX 18 13 1,
oX 19 13 2,
oM 4 17,
oM 5 18,
oM 6 19])
(sq (sq (kr [1,4,6] [oM 20 6,
oD 21 (.un .not 20),
oM 22 21,
oF 22 23 (.load (some 5) 1),
oF 22 24 (.call false (.f 160) [23]),
oF 22 25 (.bin .neq 24 (cI 0)),
oP 26 22 cT 25,
oM 27 26,
oF 27 28 (.fieldAddr 3 1),
oF 27 29 (.load none 28),
oF 27 30 (.call false (.f 177) [29]),
oF 27 31 (.un .not 30),
oP 32 27 cT 31])
(.cond 32
(sq (kr [] [oD 2 (.mov (.c (.imm (.int .u8) []))),
oD 3 (.mov cF)])
.ret)
.skip))
(sq (kr [1,4] [oM 33 4,
oC 34 114 [33],
oM 7 34])
(sq (kd [1,4,7] [(oA 35 0 1,[]),
(oL 36 35,[]),
(oB 37 .eql 36 (cI 3),[]),
(oM 38 37,[]),
(oF 38 39 (.fieldAddr 0 1),[]),
(oF 38 40 (.load none 39),[]),
(oF 38 41 (.bin .eql 40 (cI 4)),[]),
(oP 42 38 cT 41,[]),
(oA 43 0 1,[0,0,0,0,0,0,0,0]),
(oL 44 43,[1,0,0,0,0,0,0,0]),
(oB 45 .eql 44 (cI 65535),[2,0,0,0,0,0,0,0]),
(oM 8 42,[0,0,0]),
(oM 9 45,[])])
(sq (sq (kr [1,4,7,8,9] [oM 46 7,
oB 47 .lss 46 (cI 2),
oM 48 47,
oT 48 49 (.fieldAddr 2 1),
oT 48 50 (.load none 49),
oT 48 51 (.bin .neq 50 (.c (.int .u64 0))),
oP 52 48 51 cF,
oM 53 52,
oF 53 54 (.mov 7),
oF 53 55 (.bin .lss 54 (cI 1)),
oF 53 56 (.mov 55),
oT 56 57 (.fieldAddr 1 1),
oT 56 58 (.load none 57),
oT 56 59 (.bin .neq 58 (.c (.int .u64 0))),
oF 53 60 (.pick 56 59 cF),
oP 61 53 cT 60,
oM 62 61,
oF 62 63 (.mov 8),
oF 62 64 (.un .not 63),
oF 62 65 (.mov 64),
oT 65 66 (.fieldAddr 3 1),
oT 65 67 (.load none 66),
oT 65 68 (.len 67),
oT 65 69 (.bin .gtr 68 (cI 0)),
oF 62 70 (.pick 65 69 cF),
oP 71 62 cT 70,
oM 72 71,
oF 72 73 (.mov 9),
oF 72 74 (.un .not 73),
oF 72 75 (.mov 74),
oT 75 76 (.fieldAddr 4 1),
oT 75 77 (.load none 76),
oT 75 78 (.len 77),
oT 75 79 (.bin .gtr 78 (cI 0)),
oF 72 80 (.pick 75 79 cF),
oP 81 72 cT 80,
oM 82 81,
oF 82 83 (.fieldAddr 4 1),
oF 82 84 (.load none 83),
oF 82 85 (.len 84),
oF 82 86 (.bin .rem 85 (cI 8)),
oF 82 87 (.bin .neq 86 (cI 0)),
oP 88 82 cT 87])
(.cond 88
(sq (kr [] [oD 2 (.mov (.c (.imm (.int .u8) []))),
oD 3 (.mov cF)])
.ret)
.skip))
(sq (kr [1,4,7] [oC 89 27 [(cI 65524)],
oM 10 89])
(sq (kr [1,4,7,10] [oM 90 10,
oM 91 4,
oA 92 1 1,
oL 93 92,
oA 94 2 1,
oL 95 94,
oD 96 (.sliceAll (.int .u64) 2 [(0,1,93),(1,1,95)]),
oM 97 7,
oD 98 (.slice 1 96 none (some 97) none),
oC 99 28 [90,91,98]])
(sq (kr [1,10] [oM 100 10,
oA 101 3 1,
oL 102 101,
oC 103 178 [100,102]])
(sq (.reg [oM 104 10,
oA 105 4 1,
oL 106 105,
oC 107 65 [104,106]])
(sq (kr [10] [oM 109 10,
oC 110 29 [109],
oM 108 110,
oX 111 108 0,
oX 112 108 1,
oM 11 111,
oM 12 112])
(sq (kr [11,12] [oM 113 11,
oM 114 12,
oB 115 .eql 114 (cI 0),
oM 2 113,
oM 3 115])
.ret))))))))))))
def GF_:List RD:=[.tmp 2 true (some (.int .u8)),.tmp 3 true none]
theorem hb_:zm_ Tryz.prog Tryz.f153 hK_ GF_=true:=by kernel_rfl
def w4_:List AV->List Obj->Option (Prop × AV)
 | [.agg [.int .i64 tt,.int .u64 a,.int .u64 b,.imm ty0 c,.imm (.int .u8) d]],[]=>ZY_ ty0 Y2 c fun c=>some ((okL c/\d.length<=1000000,.tup [.imm (.int .u8) (bdY ((tt,a,b,c,d,()):VIn)),.bool (bdO ((tt,a,b,c,d,()):VIn)).isSome]))
 | _,_=>none
theorem u1_:zd_ Tryz.prog 153 (RoF w4_).sum:=by
 refine zi_ Tryz.func153 hb_ (za_ (s:=RoF KR_) xf_ (za_ (s:=RoF kZ_) Wc_ (za_ (s:=RoF KV_) xj_ (za_ (s:=RoF QI_) kP_ (za_ (s:=RwF qk_) qM_ (za_ (s:=RwF zO_) z2_ (za_ (s:=RwF yN_) H9_ (za_ (s:=RwF zx_) zB_ (za_ (s:=RwF Zm_) ZM_ (zc_ _)))))))))) fun args objs p v e=>?_
 unfold w4_ at e
 split at e
 ·rename_i tt a b ty0 c d
  obtain rfl:=zY_ e
  replace e:=zZ_ e
  cases e
  refine ⟨rfl,fun hw ho hp=>?_⟩
  change List Int at d
  clear hw ho
  change List AC at c
  obtain ⟨hc,hd⟩:=hp
  have hroom:xm_ 65524=65524:=by decide
  have hwi:kI tt=true->0<=zH_ (wI tt)/\zH_ (wI tt)<=2:=fun h=>(zay_ h).2
  have hlim:(qK_ (wI tt) ([a,b].take (zH_ (wI tt)).toNat) [] 65524 0).length<=1000000:=xl_ (by decide) (by decide)
  have hlim2:=zkw_ (x:=c) (e:=qJ_ (wI tt) ([a,b].take (zH_ (wI tt)).toNat) [] 65524 0) hlim (by decide:(65524:Int)<=1000000)
  have hlim3:=Q9_ (x:=d) (e:=apE c (qK_ (wI tt) ([a,b].take (zH_ (wI tt)).toNat) [] 65524 0) 65524 (qJ_ (wI tt) ([a,b].take (zH_ (wI tt)).toNat) [] 65524 0)) hlim2 (by decide:(65524:Int)<=1000000)
  by_cases hG:gdI ((tt,a,b,c,d,()):VIn)=true/\rgL c=true
  ·obtain ⟨hG,hr⟩:=hG
   obtain ⟨b1,b2⟩:=zf4_ hG
   obtain ⟨g1,g2,g3,g4,g5,g6,g7⟩:=uA_.1 hG
   replace g1:kI tt=true:=g1
   replace g2:qI tt a b=0:=g2
   replace g3:2<=zH_ (wI tt)\/b=0:=g3
   replace g4:1<=zH_ (wI tt)\/a=0:=g4
   replace g5:(tt=3\/tt=4)\/c.length=0:=by
    rcases g5 with g | g
    ·left;unfold dI at g;simpa using g
    ·right;rw [show c=[] from g];rfl
   replace g6:tt=65535\/d.length=0:=by
    rcases g6 with g | g
    ·exact .inl g
    ·right;rw [show d=[] from g];rfl
   replace g7:(d.length:Int).tmod 8=0:=by
    have g:d.length % 8=0:=g7
    rw [Int.tmod_eq_emod_of_nonneg (by omega)];omega
   obtain ⟨w1,w2⟩:=hwi g1
   clear hwi
   repeat'(intro t ht;first|(cases t<;>first|(cases ht;done)|(try simp only[zg_]at ht;try(exfalso;first|contradiction|omega)))|((first|refine zb_ ht ?_|refine ht ?_ ?_|refine ht.1 ?_ ?_|refine ht ?_)<;>clear ht))
   all_goals first
    | exact True.intro
    | exact hc
    | exact (by decide:(8:Int) ≠ 0)
    | exact ⟨w1,w2⟩
    | (exfalso;simp_all;done)
    | (obtain ⟨q1,q2⟩:=zks_ hG;rw [<- q1,<- q2];exact ⟨rfl,rfl⟩)
    | exact ⟨by decide,by decide,by decide⟩
    | exact ⟨hc,by decide,by decide,hlim⟩
    | exact ⟨by decide,by decide,hlim2,hd⟩
    | exact ⟨Nat.le_trans hlim3 (by decide),by decide⟩
  ·have hno:bdY ((tt,a,b,c,d,()):VIn)=[]/\(bdO ((tt,a,b,c,d,()):VIn)).isSome=false:=by
    have:bdO ((tt,a,b,c,d,()):VIn)=none:=by
     cases hg:gdI ((tt,a,b,c,d,()):VIn) with
     | false=>exact zmf_ hg
     | true=>
       cases hr:rgL c with
       | false=>exact zme_ (i:=((tt,a,b,c,d,()):VIn)) hr
       | true=>exact absurd ⟨hg,hr⟩ hG
    unfold bdY;rw [this];exact ⟨rfl,rfl⟩
   have hbad:¬ (kI tt=true/\qI tt a b=0/\(2<=zH_ (wI tt)\/b=0)/\(1<=zH_ (wI tt)\/a=0)/\((tt=3\/tt=4)\/c.length=0)/\(tt=65535\/d.length=0)/\(d.length:Int).tmod 8=0/\rgL c=true):=fun ⟨g1,g2,g3,g4,g5,g6,g7,g8⟩=>hG ⟨uA_.2 ⟨g1,g2,g3,g4,(by
    rcases g5 with g | g
    ·left;show dI tt=true;unfold dI;simpa using g
    ·right;exact List.eq_nil_of_length_eq_zero g),(by
    rcases g6 with g | g
    ·exact .inl g
    ·right;exact List.eq_nil_of_length_eq_zero g),(by
    rw [Int.tmod_eq_emod_of_nonneg (by omega)] at g7;show d.length % 8=0;omega)⟩,g8⟩
   clear hG hwi hlim3
   repeat'(intro t ht;first|(cases t<;>first|(cases ht;done)|(try simp only[zg_]at ht;try(exfalso;first|contradiction|omega)))|((first|refine zb_ ht ?_|refine ht ?_ ?_|refine ht.1 ?_ ?_|refine ht ?_)<;>clear ht))
   all_goals first
    | exact True.intro
    | exact hc
    | (rw [hno.1,hno.2];exact ⟨rfl,rfl⟩)
    | exact (by decide:(8:Int) ≠ 0)
    | (exfalso;refine hbad ⟨by assumption,by assumption,by omega,by omega,by omega,by omega,by assumption,by assumption⟩)
 ·cases e
structure okI (l:List VIn):Prop where
 a:∀ i ∈ l,okL i.2.2.2.1/\i.2.2.2.2.1.length<=1000000
 n:l.length<=1000
def itL (l:List VIn):List VIt:=if gdL [] l=true then l.map itI else []
theorem hp_ {α β:Type} {l:List α} {i:Nat} (h:i < l.length) (d:α) (f:α->β):(l.take (i+1)).map f=(l.take i).map f++[f (l.getD i d)]:=by
 rw [<- Xw_ (d:=d) h,List.map_append];rfl
def gc_:IR:=
(sq (kr [0] [oD 2 (.nilrow YB),
oD 3 (.mov cF)])
(sq (.reg [oD 10 (.mkmap (.int .i64) (.int .i64)),
oM 4 10])
(sq (.reg [oD 5 (.nilrow YB)])
(sq (sq (.reg [oM 11 0,
oE 12 11,
oD 13 (.mov (cI 0))])
(.block 0
(.loop
(sq (kr [4,5,11,12,13] [oB 14 .lss 13 12])
(sq (.cond 14
.skip
(.exit 0))
(sq (.block 1
(sq (.reg [oI 15 5 11 13,
oK 16 5 15,
oD 7 (.box [.int .i64 0,.int .u64 0,.int .u64 0,.imm Y2 [],.imm (.int .u8) []]),
oS 5 7 16])
(sq (kr [4,5,7,11,12,13] [oK 18 5 7,
oC 19 153 [18],
oM 17 19,
oX 20 17 0,
oX 21 17 1,
oM 8 20,
oM 9 21])
(sq (sq (kr [4,5,7,8,9,11,12,13] [oM 22 9,
oD 23 (.un .not 22),
oM 24 23,
oF 24 25 (.mov 4),
oF 24 26 (.fieldAddr 0 7),
oF 24 27 (.load none 26),
oF 24 28 (.mget (.int .i64) (.int .i64) (0:Int) false 25 27),
oF 24 29 (.bin .gtr 28 (cI 0)),
oF 24 30 (.mov 29),
oT 30 31 (.fieldAddr 0 7),
oT 30 32 (.load none 31),
oT 30 33 (.bin .neq 32 (cI 65535)),
oF 24 34 (.pick 30 33 cF),
oP 35 24 cT 34])
(.cond 35
(sq (kr [] [oD 2 (.nilrow YB),
oD 3 (.mov cF)])
.ret)
.skip))
(sq (kr [4,5,7,8,11,12,13] [oM 36 4,
oA 37 0 7,
oL 38 37,
oD 39 (.mget (.int .i64) (.int .i64) (0:Int) false 36 38),
oB 40 .add 39 (cI 1),
oN (.mput (.int .i64) (.int .i64) 36 38 40)])
(kr [4,5,7,8,11,12,13] [oM 41 5,
oA 42 0 7,
oL 43 42,
oM 44 8,
oD 45 (.buildAll 2 [(0,1,43),(1,1,44)]),
oD 46 (.sliceAll YB 1 [(0,2,45)]),
oD 47 (.append YB 32 41 46),
oM 5 47]))))))
(kr [4,5,11,12,13] [oB 48 .add 13 (cI 1),
oM 13 48])))))))
(sq (kr [5] [oM 49 5,
oM 2 49,
oD 3 (.mov cT)])
.ret)))))
def Uk_:List RD:=[.tmp 2 true (some YB),.tmp 3 true none]
theorem UM_:zm_ Tryz.prog Tryz.f123 gc_ Uk_=true:=by kernel_rfl
def Jb_:List AV->List Obj->Option (Prop × AV)
 | [.imm ty0 l],[]=>ZY_ ty0 Y3 l fun l=>some ((okI l,.tup [.imm YB (itL l),.bool (gdL [] l)]))
 | _,_=>none
theorem VG_:zd_ Tryz.prog 123 (RoF Jb_).sum:=by
 refine zi_ Tryz.func123 UM_ (za_ (s:=RoF w4_) u1_ (zc_ _)) fun args objs p v e=>?_
 unfold Jb_ at e
 split at e
 ·rename_i ty0 l
  obtain rfl:=zY_ e
  replace e:=zZ_ e
  cases e
  refine ⟨rfl,fun hw ho hp=>?_⟩
  change List VIn at l
  clear hw ho
  obtain ⟨hok,hn⟩:=hp
  repeat'(intro t ht;first|(cases t<;>first|(cases ht;done)|(try simp only[zg_]at ht;try(exfalso;first|contradiction|omega)))|((first|refine zb_ ht ?_|refine ht ?_ ?_|refine ht.1 ?_ ?_|refine ht ?_)<;>clear ht))
  all_goals first
   | exact True.intro
   | (intro r h1 h2;clear h1;refine h2 ⟨[4,5,11,12,13],Nat × List (Int × Int),(fun a=>a.1<=l.length/\mOk a.2 (l.take a.1)/\gdL [] l=gdL (l.take a.1) (l.drop a.1)),fun a=>[.mapv 0,.own 1,.imm Y3 l,.int .i64 l.length,.int .i64 a.1],fun a=>[.map true (.int .i64) (.int .i64) a.2,.row false YB ((l.take a.1).map itI)],fun a=>l.length - a.1,⟨(0,[]),⟨Nat.zero_le _,uw_,rfl⟩,rfl,rfl⟩,?_⟩;clear h2)
  rintro ⟨i,m⟩ ⟨hi,hm,he⟩
  dsimp only at hi hm he
  have hst:=fun (d:VIn) (h:i < l.length)=>he.trans (ziA_ (d:=d) h)
  repeat'(intro t ht;first|(cases t<;>first|(cases ht;done)|(try simp only[zg_]at ht;try(exfalso;first|contradiction|omega)))|((first|refine zb_ ht ?_|refine ht ?_ ?_|refine ht.1 ?_ ?_|refine ht ?_)<;>clear ht))
  all_goals (try generalize (Ty.dflt Y3)=od at*)
  all_goals first
   | exact True.intro
   | ((try simp only [zk_,zl_,zj_] at*);omega)
   | (have hge:l.length<=i:=by omega
      have g:gdL [] l=true:=by rw [he,List.drop_of_length_le hge];rfl
      have e:itL l=(l.take i).map itI:=by unfold itL;rw [if_pos g,List.take_of_length_le hge]
      rw [g,e];exact ⟨rfl,rfl⟩)
   | (have hlt:i < l.length:=by omega
      have hs:=hst od hlt
      have hr:=hm.r (l.getD i od).1
      rw [List.length_take] at hr
      have hd:=zfI_ hm (l.getD i od).1
      first
       | exact hok _ (zL_ hlt od)
       | exact (show IntKind.i64.min<=(zy_ m (l.getD i od).1).getD 0+1/\(zy_ m (l.getD i od).1).getD 0+1<=IntKind.i64.max from by simp only [zj_];omega)
       | (simp only [List.length_map,List.length_take,List.length_cons,List.length_nil];constructor<;>omega)
       | (have hsome:(bdO (l.getD i od)).isSome=false:=ht
          have g:gdL [] l=false:=by rw [hs,hsome];rfl
          have e:itL l=[]:=by unfold itL;rw [g];rfl
          rw [g,e];exact ⟨rfl,rfl⟩)
       | (have hdb:dbI (l.take i) (l.getD i od).1=true:=by
           have h1:0 < (zy_ m (l.getD i od).1).getD 0:=by assumption
           have h2:¬ (l.getD i od).1=65535:=ht
           unfold dbI;rw [<- hd,decide_eq_true h1,decide_eq_true h2];rfl
          have g:gdL [] l=false:=by rw [hs,hdb];simp
          have e:itL l=[]:=by unfold itL;rw [g];rfl
          rw [g,e];exact ⟨rfl,rfl⟩)
       | (have hsome:(bdO (l.getD i od)).isSome=true:=by assumption
          have hdb:dbI (l.take i) (l.getD i od).1=false:=by
           first
            | (have h1:¬ 0 < (zy_ m (l.getD i od).1).getD 0:=ht
               unfold dbI;rw [<- hd,decide_eq_false h1];rfl)
            | (have h2:(l.getD i od).1=65535:=ht
               unfold dbI;rw [decide_eq_false (not_not_intro h2),Bool.and_false])
          rw [hsome,hdb] at hs
          refine ⟨(i+1,kk_ m (l.getD i od).1 ((zy_ m (l.getD i od).1).getD 0+1)),⟨by dsimp only;omega,?_,?_⟩,by dsimp only;omega,rfl,?_⟩
          ·dsimp only;rw [<- Xw_ (d:=od) hlt];exact ux_ hm
          ·dsimp only;rw [<- Xw_ (d:=od) hlt];exact hs
          ·dsimp only;rw [hp_ hlt od itI];rfl))
 ·cases e
structure okJ (l:List VIt):Prop where
 a:∀ x ∈ l,(0<=x.1/\x.1<=65535)/\x.2.1.length % 8=4/\4<=x.2.1.length/\x.2.1.length<=65524
 n:l.length<=1000
def jnB (l:List VIt):List Int:=l.flatMap fun x=>enH x.1 x.2.1
theorem zci_ {l:List VIt} {i:Nat} {d:VIt} (h:i < l.length):jnB (l.take (i+1))=jnB (l.take i)++enH (l.getD i d).1 (l.getD i d).2.1:=by
 unfold jnB
 rw [<- Xw_ (d:=d) h,List.flatMap_append];simp
theorem zj7_ {l:List VIt} (h:okJ l) (i:Nat):(jnB (l.take i)).length<=65528*i:=by
 induction i with
 | zero=>simp [jnB]
 | succ i ih=>
   by_cases hl:i < l.length
   ·rw [zci_ (d:=(0,[],())) hl,List.length_append,uB_]
    have:=(h.a _ (zL_ hl (0,[],()))).2.2.2
    omega
   ·rw [List.take_of_length_le (by omega)] at ih ⊢;omega
theorem zlR_ {t:Int} {y:List Int} (ht:0<=t/\t<=65535) (h4:4<=y.length) (hl:y.length<=65524):kH_ y (qK_ [2,2] [t,4+y.length] [] (4+y.length) 0) (4+y.length) (qJ_ [2,2] [t,4+y.length] [] (4+y.length) 0)=enH t y/\QS_ y (qK_ [2,2] [t,4+y.length] [] (4+y.length) 0) (4+y.length) (qJ_ [2,2] [t,4+y.length] [] (4+y.length) 0)=0:=by
 obtain ⟨p1,p2⟩:=Hd_ (a:=t) (n:=4+y.length) ht (by omega)
 have l4:(ze_ t 2++ze_ (4+y.length) 2).length=4:=by
  have:=uB_ t y
  unfold enH at this;rw [List.length_append] at this;omega
 have b1:=q8_ (x:=ZR_ [2,2] [t,4+y.length]) (l:=[]) (room:=4+y.length) (by rw [p1,l4];simp;omega)
 have r1:qK_ [2,2] [t,4+y.length] [] (4+y.length) 0=ze_ t 2++ze_ (4+y.length) 2:=by
  unfold qK_;rw [if_pos p2,b1.1,p1,List.nil_append]
 have r2:qJ_ [2,2] [t,4+y.length] [] (4+y.length) 0=0:=by
  unfold qJ_;rw [if_pos p2,b1.2]
 rw [r1,r2]
 have b2:=q8_ (x:=y) (l:=ze_ t 2++ze_ (4+y.length) 2) (room:=4+y.length) (by rw [l4];omega)
 exact ⟨b2.1,b2.2⟩
def zcm_:IR:=
(sq (kr [0,1] [oD 2 (.boxv 0),
oD 4 (.nilrow (.int .u8)),
oD 5 (.mov (cI 0))])
(sq (sq (.reg [oK 16 5 2,
oC 17 154 [16],
oD 18 (.un .not 17)])
(.cond 18
(sq (kr [] [oD 4 (.nilrow (.int .u8)),
oD 5 (.mov (cI 10001))])
.ret)
.skip))
(sq (sq (kr [1,2] [oM 19 1,
oE 20 19,
oD 21 (.mov (cI 0))])
(.block 0
(.loop
(sq (kr [1,2,19,20,21] [oB 22 .lss 21 20])
(sq (.cond 22
.skip
(.exit 0))
(sq (.block 1
(sq (.reg [oI 23 2 19 21,
oK 24 2 23,
oD 7 (.box [.int .i64 0,.imm (.int .u8) []]),
oS 2 7 24])
(sq (kr [1,2,7,19,20,21] [oA 25 1 7,
oL 26 25,
oE 27 26,
oB 28 .add (cI 4) 27,
oM 8 28])
(sq (kr [1,2,7,8,19,20,21] [oA 29 0 7,
oL 30 29,
oB 31 .lss 30 (cI 0),
oM 32 31,
oF 32 33 (.fieldAddr 0 7),
oF 32 34 (.load none 33),
oF 32 35 (.bin .gtr 34 (cI 65535)),
oP 36 32 cT 35,
oM 37 36,
oF 37 38 (.mov 8),
oF 37 39 (.bin .gtr 38 (cI 65535)),
oP 40 37 cT 39,
oM 41 40,
oF 41 42 (.load (some 5) 2),
oF 41 43 (.mov 8),
oF 41 44 (.call false (.f 155) [42,43]),
oF 41 45 (.un .not 44),
oP 46 41 cT 45])
(.cond 46
(sq (kr [] [oD 4 (.nilrow (.int .u8)),
oD 5 (.mov (cI 10001))])
.ret)
.skip)))))
(kr [1,2,19,20,21] [oB 47 .add 21 (cI 1),
oM 21 47])))))))
(sq (kr [1,2] [oD 9 (.nilrow (.int .u8))])
(sq (sq (.reg [oM 48 1,
oE 49 48,
oD 50 (.mov (cI 0))])
(.block 2
(.loop
(sq (kr [2,9,48,49,50] [oB 51 .lss 50 49])
(sq (.cond 51
.skip
(.exit 2))
(sq (.block 3
(sq (.reg [oI 52 2 48 50,
oK 53 2 52,
oD 11 (.box [.int .i64 0,.imm (.int .u8) []]),
oS 2 11 53])
(sq (kr [2,9,11,48,49,50] [oA 54 1 11,
oL 55 54,
oE 56 55,
oB 57 .add (cI 4) 56,
oM 12 57])
(sq (kr [2,9,11,12,48,49,50] [oM 58 12,
oK 59 5 2,
oM 60 12,
oC 61 156 [59,60],
oB 62 .add 58 61,
oC 63 27 [62],
oM 13 63])
(sq (kr [2,9,11,12,13,48,49,50] [oM 64 13,
oD 65 (.sliceAll (.int .i64) 2 [(0,1,(cI 2)),(1,1,(cI 2))]),
oA 66 0 11,
oL 67 66,
oD 68 (.conv .u64 67),
oM 69 12,
oD 70 (.conv .u64 69),
oD 71 (.sliceAll (.int .u64) 2 [(0,1,68),(1,1,70)]),
oC 72 28 [64,65,71]])
(sq (kr [2,9,11,12,13,48,49,50] [oM 73 13,
oA 74 1 11,
oL 75 74,
oC 76 65 [73,75]])
(sq (kr [2,9,12,13,48,49,50] [oM 77 13,
oK 78 5 2,
oM 79 12,
oC 80 156 [78,79],
oD 81 (.mkrow (.int .u8) 1 (0:Int) 80 80),
oC 82 65 [77,81]])
(sq (kr [2,9,13,48,49,50] [oM 84 13,
oC 85 29 [84],
oM 83 85,
oX 86 83 0,
oX 87 83 1,
oM 14 86,
oM 15 87])
(sq (sq (kr [2,9,14,15,48,49,50] [oM 88 15,
oB 89 .neq 88 (cI 0)])
(.cond 89
(sq (.reg [oM 90 15,
oD 4 (.nilrow (.int .u8)),
oM 5 90])
.ret)
.skip))
(.reg [oM 91 9,
oM 92 14,
oD 93 (.append (.int .u8) 1 91 92),
oM 9 93]))))))))))
(kr [2,9,48,49,50] [oB 94 .add 50 (cI 1),
oM 50 94])))))))
(sq (kr [9] [oM 95 9,
oM 4 95,
oD 5 (.mov (cI 0))])
.ret))))))
def zaV_:List RD:=[.tmp 4 true (some (.int .u8)),.tmp 5 true none]
theorem zby_:zm_ Tryz.prog Tryz.f124 zcm_ zaV_=true:=by kernel_rfl
def yx_:List AV->List Obj->Option (Prop × AV)
 | [.agg [.int .i64 least,.int .i64 step,.bool pad,.int .i64 bad,.int .i64 odd],.imm (.cons (.int .i64) (.cons (.sl (.int .u8)) .nil)) l],[]=>some ((pad=false/\least=8/\step=8/\bad ≠ 0/\odd ≠ 0/\okJ l,.tup [.imm (.int .u8) (jnB l),.int .i64 0]))
 | _,_=>none
theorem HT_:zd_ Tryz.prog 124 (RoF yx_).sum:=by
 refine zi_ Tryz.func124 zby_ (za_ (s:=RoF Qz_) jC_ (za_ (s:=RoF q9_) K3_ (za_ (s:=RoF qI_) Kt_ (za_ (s:=RwF qk_) qM_ (za_ (s:=RwF zO_) z2_ (za_ (s:=RwF zx_) zB_ (za_ (s:=RwF Zm_) ZM_ (zc_ _)))))))) fun args objs p v e=>?_
 unfold yx_ at e
 split at e
 ·rename_i least step pad bad odd l
  cases e
  refine ⟨rfl,fun hw ho hp=>?_⟩
  change List VIt at l
  clear hw ho
  obtain ⟨rfl,rfl,rfl,hbad,hodd,hok⟩:=hp
  have hn:=hok.n
  repeat'(intro t ht;first|(cases t<;>first|(cases ht;done)|(try simp only[zg_]at ht;try(exfalso;first|contradiction|omega)))|((first|refine zb_ ht ?_|refine ht ?_ ?_|refine ht.1 ?_ ?_|refine ht ?_)<;>clear ht))
  all_goals first
   | exact True.intro
   | exact ⟨by decide,by decide,by decide,by decide,hbad,hodd⟩
   | (intro r h1 h2;clear h1;refine h2 ⟨[1,2,19,20,21],Nat,(fun i=>i<=l.length),fun i=>[.imm YB l,.ptr 0 0,.imm YB l,.int .i64 l.length,.int .i64 i],fun i=>[.box [.int .i64 8,.int .i64 8,.bool false,.int .i64 bad,.int .i64 odd]],fun i=>l.length - i,⟨0,Nat.zero_le _,rfl,rfl⟩,?_⟩;clear h2)
  rintro i hi
  by_cases hlt:i < l.length
  ·have hx:=hok.a _ (zL_ hlt (Ty.dflt YB))
   have htm:((4:Int)+((l.getD i (Ty.dflt YB)).2.1.length:Int)).tmod 8=0:=by rw [Int.tmod_eq_emod_of_nonneg (by omega)];omega
   repeat'(intro t ht;first|(cases t<;>first|(cases ht;done)|(try simp only[zg_]at ht;try(exfalso;first|contradiction|omega)))|((first|refine zb_ ht ?_|refine ht ?_ ?_|refine ht.1 ?_ ?_|refine ht ?_)<;>clear ht))
   all_goals (try generalize (Ty.dflt YB)=od at*)
   all_goals first
    | exact True.intro
    | exact ⟨rfl,(by decide:(1:Int)<=8)⟩
    | ((try simp only [zk_,zl_,zj_] at*);omega)
    | (refine ⟨i+1,?_,?_,rfl,rfl⟩
       ·(try dsimp only);omega
       ·(try dsimp only);omega)
    | (exfalso;simp_all;omega)
  ·repeat'(intro t ht;first|(cases t<;>first|(cases ht;done)|(try simp only[zg_]at ht;try(exfalso;first|contradiction|omega)))|((first|refine zb_ ht ?_|refine ht ?_ ?_|refine ht.1 ?_ ?_|refine ht ?_)<;>clear ht))
   all_goals first
    | exact True.intro
    | (intro r h1 h2;clear h1;refine h2 ⟨[2,9,48,49,50],Nat,(fun i=>i<=l.length),fun i=>[.ptr 0 0,.own 1,.imm YB l,.int .i64 l.length,.int .i64 i],fun i=>[.box [.int .i64 8,.int .i64 8,.bool false,.int .i64 bad,.int .i64 odd],.row false (.int .u8) (jnB (l.take i))],fun i=>l.length - i,⟨0,Nat.zero_le _,rfl,rfl⟩,?_⟩;clear h2)
   clear ht hlt hi i
   rintro i hi
   have hjl:=zj7_ hok i
   by_cases hlt:i < l.length
   ·have hx:=hok.a _ (zL_ hlt (Ty.dflt YB))
    obtain ⟨j1,j2⟩:=zlR_ hx.1 hx.2.2.1 hx.2.2.2
    have hrm:xm_ (4+((l.getD i (Ty.dflt YB)).2.1.length:Int)+0)=4+((l.getD i (Ty.dflt YB)).2.1.length:Int):=by unfold xm_;omega
    have hel:=uB_ (l.getD i (Ty.dflt YB)).1 (l.getD i (Ty.dflt YB)).2.1
    have hrl:(qK_ [2,2] [(l.getD i (Ty.dflt YB)).1,4+((l.getD i (Ty.dflt YB)).2.1.length:Int)] [] (4+((l.getD i (Ty.dflt YB)).2.1.length:Int)) 0).length<=1000000:=xl_ (by decide) (by omega)
    have j3:kH_ ([]:List Int) (enH (l.getD i (Ty.dflt YB)).1 (l.getD i (Ty.dflt YB)).2.1) (4+((l.getD i (Ty.dflt YB)).2.1.length:Int)) 0=enH (l.getD i (Ty.dflt YB)).1 (l.getD i (Ty.dflt YB)).2.1:=by rw [(q8_ (by rw [hel];simp)).1,List.append_nil]
    have j4:QS_ ([]:List Int) (enH (l.getD i (Ty.dflt YB)).1 (l.getD i (Ty.dflt YB)).2.1) (4+((l.getD i (Ty.dflt YB)).2.1.length:Int)) 0=0:=(q8_ (by rw [hel];simp)).2
    have j5:List.replicate (Int.toNat 0) (0:Int)=[]:=rfl
    have j6:ks_ [] 0=0:=rfl
    repeat'(intro t ht;first|(cases t<;>first|(cases ht;done)|(try simp only[zg_]at ht;try(exfalso;first|contradiction|omega)))|((first|refine zb_ ht ?_|refine ht ?_ ?_|refine ht.1 ?_ ?_|refine ht ?_)<;>clear ht))
    all_goals (try generalize (Ty.dflt YB)=od at*)
    all_goals (try simp only [zk_,zl_,hrm,j1,j2,j3,j4,j5,j6,ziH_] at*)
    all_goals first
     | exact True.intro
     | ((try simp only [zk_,zl_,zj_] at*);omega)
     | (exfalso;contradiction)
     | exact ⟨by omega,by omega,by decide⟩
     | exact ⟨by omega,by omega,hrl,by omega⟩
     | exact ⟨by omega,by omega,by omega,by decide⟩
     | exact ⟨by omega,by decide⟩
     | (refine ⟨i+1,by omega,by omega,rfl,?_⟩
        rw [zci_ (d:=od) hlt])
   ·repeat'(intro t ht;first|(cases t<;>first|(cases ht;done)|(try simp only[zg_]at ht;try(exfalso;first|contradiction|omega)))|((first|refine zb_ ht ?_|refine ht ?_ ?_|refine ht.1 ?_ ?_|refine ht ?_)<;>clear ht))
    all_goals first
     | exact True.intro
     | (rw [List.take_of_length_le (by omega)];exact ⟨rfl,rfl⟩)
 ·cases e
end Go.Eng
