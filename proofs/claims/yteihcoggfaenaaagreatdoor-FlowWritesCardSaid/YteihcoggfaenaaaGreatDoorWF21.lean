/- Parts of the proof: XG, I1, I2, I3. No condition. -/
import Derived.Test.YteihcoggfaenaaaGreatDoorProg
import Derived.Test.YteihcoggfaenaaaGreatDoorWF10
import Derived.KernelRfl
import Derived.Test.YteihcoggfaenaaaGreatDoorWF20
import Derived.Test.YteihcoggfaenaaaGreatDoorWF19
import Derived.Test.YteihcoggfaenaaaGreatDoorWF18
import Derived.Test.YteihcoggfaenaaaGreatDoorWF17
namespace Go.Eng
open Go.Proofs
set_option linter.unusedVariables false
set_option linter.unusedSimpArgs false
set_option maxRecDepth 100000
set_option maxHeartbeats 1000000
theorem rowN {w b:List Int} (hb:∀ x ∈ b,0<=x/\x<=255) (h:z7_ w b=0):((Zq_ w b).length:Int)=zo_ w/\zP_ w<=b.length:=by
 obtain ⟨p1,p2,p3⟩:=vx_ hb (show ZX_ w b=(Zq_ w b,0) from Prod.ext rfl h)
 unfold ZM_ Ka_ at p1
 split at p1
 ·rename_i hc;exact ⟨hc.2.symm,p3⟩
 ·cases p1
theorem Jx_ {w n:List Int} (h:ZM_ w n=true):(n.length:Int)=zo_ w:=by
 unfold ZM_ Ka_ at h
 split at h
 ·rename_i hc;exact hc.2.symm
 ·cases h
theorem zjh_ {e x:Int} (h:e ≠ 0):zy_ e x=e:=by unfold zy_;rw [if_neg h]
def zMs:VMs:=(0,0,[],[],[],[],[],[],[],[],[],[],0,0,[],())
theorem zfQ_ {room:Int} (hr:room<=1000000):∀ (r:List OV) (l:List Int) (e:Int),l.length<=1000000->(puS room r l e).1.length<=1000000
 | [],l,e,h=>h
 | o :: r,l,e,h=>by unfold puS;exact zfQ_ hr r _ _ (Q9_ h hr)
theorem zf4_ {x:List OV} {l:List Int} {room e:Int} (h:l.length<=1000000) (hr:room<=1000000):(mpB x l room e).length<=1000000:=by
 unfold mpB;split
 ·refine Q9_ ?_ hr
  unfold mpS;exact zfQ_ hr _ _ _ (Ju_ h hr)
 ·exact h
theorem zkv_ {b:List Int} {p e:Int} (hb:∀ x ∈ b,0<=x/\x<=255) (h0:0<=p) (h1:p<=b.length):0<=mtP b p e/\mtP b p e<=b.length:=by
 unfold mtP;split
 ·have h:=zeA_ (b.drop p.toNat) fun x hx=>hb x (List.mem_of_mem_drop hx)
  rw [List.length_drop] at h;omega
 ·exact ⟨h0,h1⟩
theorem ji_ (e:Int):kq_ [] e=e:=by unfold kq_;split<;>simp_all
theorem uF_ {l:List Int} {e:Int} (h:kq_ [] e=0):qI_ l [] e=l/\e=0:=by
 rw [ji_] at h;subst h;exact ⟨rfl,rfl⟩
theorem zgm_ (e:Int):¬ zy_ e 263=0:=by unfold zy_;split<;>omega
theorem zkh_ {a:AC} (h:rgA a=true):lenA a:=by
 by_cases h25:a.1=25
 ·obtain ⟨_,_,hd,_,_,_,hR⟩:=K1_ h25 h
  have hn:=Z8_ hR
  unfold lenA;rw [hd]
  refine ⟨?_,?_,by decide⟩<;>omega
 ·obtain ⟨k1,k2,k3,k4,k5,k6,k7⟩:=QE_ h25 h
  obtain ⟨_,_,_,_,e5,e6⟩:=hZ_ k2
  unfold lenA;rw [e5,e6]
  refine ⟨by decide,by decide,?_⟩
  rcases k7 with ⟨_,_,k⟩ | ⟨_,k⟩
  ·omega
  ·rw [k];decide
theorem zlS_ {l:List AC} (h:rgL l=true):okL l:=by
 obtain ⟨h1,h2,_⟩:=q9_ h
 exact ⟨fun o ho=>zkh_ (List.all_eq_true.1 h1 o ho),by omega⟩
def wu_:IR:=
(sq (kr [0] [oD 2 (.mov cF)])
(sq (.reg [oM 3 0,
oE 4 3,
oB 5 .eql 4 (cI 0),
oM 2 5])
.ret))
def wa_:List RD:=[.tmp 2 true none]
theorem wi_:zk_ Tryz.prog Tryz.f74 wu_ wa_=true:=by kernel_rfl
def qD_:List AV->List Obj->Option (Prop × AV)
 | [.imm (.cons (.int .i64) (.cons (.sl (.int .u8)) .nil)) l],[]=>some ((True,.bool (decide ((l.length:Int)=0))))
 | _,_=>none
theorem Jo_:zd_ Tryz.prog 74 (RoF qD_).sum:=by
 refine zi_ Tryz.func74 wi_ (zc_ _) fun args objs p v e=>?_
 unfold qD_ at e
 split at e
 ·rename_i l
  cases e
  refine ⟨rfl,fun hw ho hp=>?_⟩
  repeat'(intro t ht;first|(cases t<;>first|(cases ht;done)|(try simp only[zg_]at ht))|((first|refine zb_ ht ?_|refine ht ?_ ?_|refine ht.1 ?_ ?_|refine ht ?_)<;>clear ht))
  all_goals first
   | exact True.intro
   | exact ⟨rfl,rfl⟩
 ·cases e
def WD_:IR:=
(sq (kr [0] [oD 2 (.mov cF)])
(sq (.reg [oM 3 0,
oE 4 3,
oB 5 .eql 4 (cI 0),
oM 2 5])
.ret))
def w8_:List RD:=[.tmp 2 true none]
theorem Wo_:zk_ Tryz.prog Tryz.f75 WD_ w8_=true:=by kernel_rfl
def qY_:List AV->List Obj->Option (Prop × AV)
 | [.imm (.cons (.int .i64) (.cons (.int .i64) (.cons .bool (.cons (.int .u64) (.cons (.sl (.int .u8)) (.cons (.sl (.int .u8)) .nil)))))) l],[]=>some ((True,.bool (decide ((l.length:Int)=0))))
 | _,_=>none
theorem JW_:zd_ Tryz.prog 75 (RoF qY_).sum:=by
 refine zi_ Tryz.func75 Wo_ (zc_ _) fun args objs p v e=>?_
 unfold qY_ at e
 split at e
 ·rename_i l
  cases e
  refine ⟨rfl,fun hw ho hp=>?_⟩
  repeat'(intro t ht;first|(cases t<;>first|(cases ht;done)|(try simp only[zg_]at ht))|((first|refine zb_ ht ?_|refine ht ?_ ?_|refine ht.1 ?_ ?_|refine ht ?_)<;>clear ht))
  all_goals first
   | exact True.intro
   | exact ⟨rfl,rfl⟩
 ·cases e
def WF_:IR:=
(sq (kr [0] [oD 2 (.mov cF)])
(sq (.reg [oM 3 0,
oE 4 3,
oB 5 .eql 4 (cI 0),
oM 2 5])
.ret))
def Wa_:List RD:=[.tmp 2 true none]
theorem Wq_:zk_ Tryz.prog Tryz.f76 WF_ Wa_=true:=by kernel_rfl
def q0_:List AV->List Obj->Option (Prop × AV)
 | [.imm ty0 l],[]=>qb_ ty0 Y2 l fun l=>some ((True,.bool (decide ((l.length:Int)=0))))
 | _,_=>none
theorem JY_:zd_ Tryz.prog 76 (RoF q0_).sum:=by
 refine zi_ Tryz.func76 Wq_ (zc_ _) fun args objs p v e=>?_
 unfold q0_ at e
 split at e
 ·rename_i ty0 l
  obtain rfl:=zX_ e
  replace e:=zY_ e
  cases e
  refine ⟨rfl,fun hw ho hp=>?_⟩
  repeat'(intro t ht;first|(cases t<;>first|(cases ht;done)|(try simp only[zg_]at ht))|((first|refine zb_ ht ?_|refine ht ?_ ?_|refine ht.1 ?_ ?_|refine ht ?_)<;>clear ht))
  all_goals first
   | exact True.intro
   | exact ⟨rfl,rfl⟩
 ·cases e
def WE_:IR:=
(sq (kr [0] [oD 2 (.mov cF)])
(sq (.reg [oM 3 0,
oE 4 3,
oB 5 .eql 4 (cI 0),
oM 2 5])
.ret))
def w9_:List RD:=[.tmp 2 true none]
theorem Wp_:zk_ Tryz.prog Tryz.f77 WE_ w9_=true:=by kernel_rfl
def qZ_:List AV->List Obj->Option (Prop × AV)
 | [.imm ty0 l],[]=>qb_ ty0 Y3 l fun l=>some ((True,.bool (decide ((l.length:Int)=0))))
 | _,_=>none
theorem JX_:zd_ Tryz.prog 77 (RoF qZ_).sum:=by
 refine zi_ Tryz.func77 Wp_ (zc_ _) fun args objs p v e=>?_
 unfold qZ_ at e
 split at e
 ·rename_i ty0 l
  obtain rfl:=zX_ e
  replace e:=zY_ e
  cases e
  refine ⟨rfl,fun hw ho hp=>?_⟩
  repeat'(intro t ht;first|(cases t<;>first|(cases ht;done)|(try simp only[zg_]at ht))|((first|refine zb_ ht ?_|refine ht ?_ ?_|refine ht.1 ?_ ?_|refine ht ?_)<;>clear ht))
  all_goals first
   | exact True.intro
   | exact ⟨rfl,rfl⟩
 ·cases e
def j7_:IR:=
(sq (kr [0] [oD 2 (.mov cF)])
(sq (.reg [oM 3 0,
oE 4 3,
oB 5 .eql 4 (cI 0),
oM 2 5])
.ret))
def j4_:List RD:=[.tmp 2 true none]
theorem j5_:zk_ Tryz.prog Tryz.f78 j7_ j4_=true:=by kernel_rfl
def qm_:List AV->List Obj->Option (Prop × AV)
 | [.imm ty0 l],[]=>qb_ ty0 Y4 l fun l=>some ((True,.bool (decide ((l.length:Int)=0))))
 | _,_=>none
theorem jy_:zd_ Tryz.prog 78 (RoF qm_).sum:=by
 refine zi_ Tryz.func78 j5_ (zc_ _) fun args objs p v e=>?_
 unfold qm_ at e
 split at e
 ·rename_i ty0 l
  obtain rfl:=zX_ e
  replace e:=zY_ e
  cases e
  refine ⟨rfl,fun hw ho hp=>?_⟩
  repeat'(intro t ht;first|(cases t<;>first|(cases ht;done)|(try simp only[zg_]at ht))|((first|refine zb_ ht ?_|refine ht ?_ ?_|refine ht.1 ?_ ?_|refine ht ?_)<;>clear ht))
  all_goals first
   | exact True.intro
   | exact ⟨rfl,rfl⟩
 ·cases e
def wv_:IR:=
(sq (kr [0] [oD 2 (.mov cF)])
(sq (.reg [oM 3 0,
oE 4 3,
oB 5 .eql 4 (cI 0),
oM 2 5])
.ret))
def wb_:List RD:=[.tmp 2 true none]
theorem wj_:zk_ Tryz.prog Tryz.f79 wv_ wb_=true:=by kernel_rfl
def qE_:List AV->List Obj->Option (Prop × AV)
 | [.imm (.cons (.int .i64) (.cons (.int .u64) (.cons (.int .u64) (.cons (.int .u64) (.cons (.sl (.int .u8)) .nil))))) l],[]=>some ((True,.bool (decide ((l.length:Int)=0))))
 | _,_=>none
theorem Jp_:zd_ Tryz.prog 79 (RoF qE_).sum:=by
 refine zi_ Tryz.func79 wj_ (zc_ _) fun args objs p v e=>?_
 unfold qE_ at e
 split at e
 ·rename_i l
  cases e
  refine ⟨rfl,fun hw ho hp=>?_⟩
  repeat'(intro t ht;first|(cases t<;>first|(cases ht;done)|(try simp only[zg_]at ht))|((first|refine zb_ ht ?_|refine ht ?_ ?_|refine ht.1 ?_ ?_|refine ht ?_)<;>clear ht))
  all_goals first
   | exact True.intro
   | exact ⟨rfl,rfl⟩
 ·cases e
def JA_:IR:=
(sq (kr [0] [oD 2 (.mov cF)])
(sq (.reg [oM 3 0,
oE 4 3,
oB 5 .eql 4 (cI 0),
oM 2 5])
.ret))
def Jv_:List RD:=[.tmp 2 true none]
theorem Jy_:zk_ Tryz.prog Tryz.f80 JA_ Jv_=true:=by kernel_rfl
def qu_:List AV->List Obj->Option (Prop × AV)
 | [.imm (.cons (.int .u64) (.cons (.int .u64) (.cons (.sl (.cons (.int .i64) (.cons (.int .u64) (.cons (.sl (.int .u8)) .nil)))) .nil))) l],[]=>some ((True,.bool (decide ((l.length:Int)=0))))
 | _,_=>none
theorem j1_:zd_ Tryz.prog 80 (RoF qu_).sum:=by
 refine zi_ Tryz.func80 Jy_ (zc_ _) fun args objs p v e=>?_
 unfold qu_ at e
 split at e
 ·rename_i l
  cases e
  refine ⟨rfl,fun hw ho hp=>?_⟩
  repeat'(intro t ht;first|(cases t<;>first|(cases ht;done)|(try simp only[zg_]at ht))|((first|refine zb_ ht ?_|refine ht ?_ ?_|refine ht.1 ?_ ?_|refine ht ?_)<;>clear ht))
  all_goals first
   | exact True.intro
   | exact ⟨rfl,rfl⟩
 ·cases e
def ws_:IR:=
(sq (kr [0] [oD 2 (.mov cF)])
(sq (.reg [oM 3 0,
oE 4 3,
oB 5 .eql 4 (cI 0),
oM 2 5])
.ret))
def J8_:List RD:=[.tmp 2 true none]
theorem wg_:zk_ Tryz.prog Tryz.f81 ws_ J8_=true:=by kernel_rfl
def qB_:List AV->List Obj->Option (Prop × AV)
 | [.imm ty0 l],[]=>qb_ ty0 Y8 l fun l=>some ((True,.bool (decide ((l.length:Int)=0))))
 | _,_=>none
theorem Jm_:zd_ Tryz.prog 81 (RoF qB_).sum:=by
 refine zi_ Tryz.func81 wg_ (zc_ _) fun args objs p v e=>?_
 unfold qB_ at e
 split at e
 ·rename_i ty0 l
  obtain rfl:=zX_ e
  replace e:=zY_ e
  cases e
  refine ⟨rfl,fun hw ho hp=>?_⟩
  repeat'(intro t ht;first|(cases t<;>first|(cases ht;done)|(try simp only[zg_]at ht))|((first|refine zb_ ht ?_|refine ht ?_ ?_|refine ht.1 ?_ ?_|refine ht ?_)<;>clear ht))
  all_goals first
   | exact True.intro
   | exact ⟨rfl,rfl⟩
 ·cases e
def wt_:IR:=
(sq (kr [0] [oD 2 (.mov cF)])
(sq (.reg [oM 3 0,
oE 4 3,
oB 5 .eql 4 (cI 0),
oM 2 5])
.ret))
def J9_:List RD:=[.tmp 2 true none]
theorem wh_:zk_ Tryz.prog Tryz.f82 wt_ J9_=true:=by kernel_rfl
def qC_:List AV->List Obj->Option (Prop × AV)
 | [.imm ty0 l],[]=>qb_ ty0 YC l fun l=>some ((True,.bool (decide ((l.length:Int)=0))))
 | _,_=>none
theorem Jn_:zd_ Tryz.prog 82 (RoF qC_).sum:=by
 refine zi_ Tryz.func82 wh_ (zc_ _) fun args objs p v e=>?_
 unfold qC_ at e
 split at e
 ·rename_i ty0 l
  obtain rfl:=zX_ e
  replace e:=zY_ e
  cases e
  refine ⟨rfl,fun hw ho hp=>?_⟩
  repeat'(intro t ht;first|(cases t<;>first|(cases ht;done)|(try simp only[zg_]at ht))|((first|refine zb_ ht ?_|refine ht ?_ ?_|refine ht.1 ?_ ?_|refine ht ?_)<;>clear ht))
  all_goals first
   | exact True.intro
   | exact ⟨rfl,rfl⟩
 ·cases e
def xv_:IR:=
(sq (kr [0] [oD 2 (.mov cF)])
(sq (.reg [oM 3 0,
oE 4 3,
oB 5 .eql 4 (cI 0),
oM 2 5])
.ret))
def W9_:List RD:=[.tmp 2 true none]
theorem xh_:zk_ Tryz.prog Tryz.f83 xv_ W9_=true:=by kernel_rfl
def Ql_:List AV->List Obj->Option (Prop × AV)
 | [.imm (.int .u64) l],[]=>some ((True,.bool (decide ((l.length:Int)=0))))
 | _,_=>none
theorem w5_:zd_ Tryz.prog 83 (RoF Ql_).sum:=by
 refine zi_ Tryz.func83 xh_ (zc_ _) fun args objs p v e=>?_
 unfold Ql_ at e
 split at e
 ·rename_i l
  cases e
  refine ⟨rfl,fun hw ho hp=>?_⟩
  change List Int at l
  repeat'(intro t ht;first|(cases t<;>first|(cases ht;done)|(try simp only[zg_]at ht))|((first|refine zb_ ht ?_|refine ht ?_ ?_|refine ht.1 ?_ ?_|refine ht ?_)<;>clear ht))
  all_goals first
   | exact True.intro
   | exact ⟨rfl,rfl⟩
 ·cases e
def yi_:IR:=
(sq (kr [0] [oD 2 (.mov cF)])
(sq (.reg [oM 3 0,
oE 4 3,
oB 5 .eql 4 (cI 0),
oM 2 5])
.ret))
def X8_:List RD:=[.tmp 2 true none]
theorem yc_:zk_ Tryz.prog Tryz.f84 yi_ X8_=true:=by kernel_rfl
def kc_:List AV->List Obj->Option (Prop × AV)
 | [.imm (.int .u8) l],[]=>some ((True,.bool (decide ((l.length:Int)=0))))
 | _,_=>none
theorem XB_:zd_ Tryz.prog 84 (RoF kc_).sum:=by
 refine zi_ Tryz.func84 yc_ (zc_ _) fun args objs p v e=>?_
 unfold kc_ at e
 split at e
 ·rename_i l
  cases e
  refine ⟨rfl,fun hw ho hp=>?_⟩
  change List Int at l
  repeat'(intro t ht;first|(cases t<;>first|(cases ht;done)|(try simp only[zg_]at ht))|((first|refine zb_ ht ?_|refine ht ?_ ?_|refine ht.1 ?_ ?_|refine ht ?_)<;>clear ht))
  all_goals first
   | exact True.intro
   | exact ⟨rfl,rfl⟩
 ·cases e
def hz_:IR:=
(sq (kr [0] [oD 1 (.boxv 0),
oD 2 (.mov cF)])
(sq (kr [1] [oA 4 4 1,
oL 5 4,
oC 6 74 [5],
oM 7 6,
oT 7 8 (.fieldAddr 5 1),
oT 7 9 (.load none 8),
oT 7 10 (.call false (.f 75) [9]),
oP 11 7 10 cF,
oM 12 11,
oT 12 13 (.fieldAddr 6 1),
oT 12 14 (.load none 13),
oT 12 15 (.call false (.f 76) [14]),
oP 16 12 15 cF,
oM 17 16,
oT 17 18 (.fieldAddr 7 1),
oT 17 19 (.load none 18),
oT 17 20 (.call false (.f 77) [19]),
oP 21 17 20 cF,
oM 22 21,
oT 22 23 (.fieldAddr 8 1),
oT 22 24 (.load none 23),
oT 22 25 (.call false (.f 78) [24]),
oP 26 22 25 cF,
oM 27 26,
oT 27 28 (.fieldAddr 9 1),
oT 27 29 (.load none 28),
oT 27 30 (.call false (.f 79) [29]),
oP 31 27 30 cF,
oM 32 31,
oT 32 33 (.fieldAddr 10 1),
oT 32 34 (.load none 33),
oT 32 35 (.call false (.f 80) [34]),
oP 36 32 35 cF,
oM 37 36,
oT 37 38 (.fieldAddr 11 1),
oT 37 39 (.load none 38),
oT 37 40 (.call false (.f 81) [39]),
oP 41 37 40 cF,
oM 42 41,
oT 42 43 (.fieldAddr 14 1),
oT 42 44 (.load none 43),
oT 42 45 (.call false (.f 82) [44]),
oP 46 42 45 cF,
oM 3 46])
(sq (kr [1,3] [oM 47 3,
oM 48 47,
oT 48 49 (.fieldAddr 2 1),
oT 48 50 (.load none 49),
oT 48 51 (.call false (.f 83) [50]),
oP 52 48 51 cF,
oM 53 52,
oT 53 54 (.fieldAddr 3 1),
oT 53 55 (.load none 54),
oT 53 56 (.call false (.f 84) [55]),
oP 57 53 56 cF,
oM 58 57,
oT 58 59 (.fieldAddr 12 1),
oT 58 60 (.load none 59),
oT 58 61 (.bin .eql 60 (cI 0)),
oP 62 58 61 cF,
oM 63 62,
oT 63 64 (.fieldAddr 13 1),
oT 63 65 (.load none 64),
oT 63 66 (.bin .eql 65 (cI 0)),
oP 67 63 66 cF,
oM 2 67])
.ret)))
def Gz_:List RD:=[.tmp 2 true none]
theorem G3_:zk_ Tryz.prog Tryz.f33 hz_ Gz_=true:=by kernel_rfl
def KU_:List AV->List Obj->Option (Prop × AV)
 | [.agg zz0],[]=>XU_ YD zz0 fun ⟨t,xi,n,d,el,x,a,ins,bu,ba,qu,po,ki,fl,pa,_⟩=>some ((True,.bool (qy_ (t,xi,n,d,el,x,a,ins,bu,ba,qu,po,ki,fl,pa,()))))
 | _,_=>none
theorem W4_:zd_ Tryz.prog 33 (RoF KU_).sum:=by
 refine zi_ Tryz.func33 G3_ (za_ (s:=RoF qD_) Jo_ (za_ (s:=RoF qY_) JW_ (za_ (s:=RoF q0_) JY_ (za_ (s:=RoF qZ_) JX_ (za_ (s:=RoF qm_) jy_ (za_ (s:=RoF qE_) Jp_ (za_ (s:=RoF qu_) j1_ (za_ (s:=RoF qB_) Jm_ (za_ (s:=RoF qC_) Jn_ (za_ (s:=RoF Ql_) w5_ (za_ (s:=RoF kc_) XB_ (zc_ _)))))))))))) fun args objs p v e=>?_
 unfold KU_ at e
 split at e
 ·rename_i zz0
  replace e:=Kj_ e
  obtain ⟨⟨t,xi,n,d,el,x,a,ins,bu,ba,qu,po,ki,fl,pa,_⟩,hz,e⟩:=e
  replace hz:zz0=[.int .i64 t,.int .u32 xi,.imm (.int .u64) n,.imm (.int .u8) d,.imm YB el,.imm Y1 x,.imm Y2 a,.imm Y3 ins,.imm Y4 bu,.imm Y5 ba,.imm Y7 qu,.imm Y8 po,.int .i64 ki,.int .i64 fl,.imm YC pa]:=hz
  subst hz
  change Int at t
  change Int at xi
  change Int at ki
  change Int at fl
  cases e
  refine ⟨rfl,fun hw ho hp=>?_⟩
  change List Int at n
  change List Int at d
  clear hw ho
  repeat'(intro t ht;first|(cases t<;>first|(cases ht;done)|(try simp only[zg_]at ht;try(exfalso;first|contradiction|omega)))|((first|refine zb_ ht ?_|refine ht ?_ ?_|refine ht.1 ?_ ?_|refine ht ?_)<;>clear ht))
  all_goals first
   | exact True.intro
   | (refine ⟨congrArg AV.bool ?_,rfl⟩;rw [Bool.eq_iff_iff];unfold qy_;simp only [Bool.and_eq_true,decide_eq_true_eq,reduceCtorEq,true_iff,false_iff];omega)
 ·cases e
def zci_:IR:=
(sq (kr [0] [oD 1 (.boxv 0),
oD 2 (.mov cF)])
(sq (kr [1] [oA 3 2 1,
oL 4 3,
oE 5 4,
oB 6 .eql 5 (cI 0),
oM 7 6,
oT 7 8 (.fieldAddr 3 1),
oT 7 9 (.load none 8),
oT 7 10 (.len 9),
oT 7 11 (.bin .eql 10 (cI 0)),
oP 12 7 11 cF,
oM 13 12,
oT 13 14 (.fieldAddr 4 1),
oT 13 15 (.load none 14),
oT 13 16 (.len 15),
oT 13 17 (.bin .eql 16 (cI 0)),
oP 18 13 17 cF,
oM 19 18,
oT 19 20 (.fieldAddr 5 1),
oT 19 21 (.load none 20),
oT 19 22 (.len 21),
oT 19 23 (.bin .eql 22 (cI 0)),
oP 24 19 23 cF,
oM 25 24,
oT 25 26 (.fieldAddr 6 1),
oT 25 27 (.load none 26),
oT 25 28 (.len 27),
oT 25 29 (.bin .eql 28 (cI 0)),
oP 30 25 29 cF,
oM 31 30,
oT 31 32 (.fieldAddr 7 1),
oT 31 33 (.load none 32),
oT 31 34 (.len 33),
oT 31 35 (.bin .eql 34 (cI 0)),
oP 36 31 35 cF,
oM 37 36,
oT 37 38 (.fieldAddr 8 1),
oT 37 39 (.load none 38),
oT 37 40 (.len 39),
oT 37 41 (.bin .eql 40 (cI 0)),
oP 42 37 41 cF,
oM 43 42,
oT 43 44 (.fieldAddr 9 1),
oT 43 45 (.load none 44),
oT 43 46 (.len 45),
oT 43 47 (.bin .eql 46 (cI 0)),
oP 48 43 47 cF,
oM 49 48,
oT 49 50 (.fieldAddr 10 1),
oT 49 51 (.load none 50),
oT 49 52 (.len 51),
oT 49 53 (.bin .eql 52 (cI 0)),
oP 54 49 53 cF,
oM 55 54,
oT 55 56 (.fieldAddr 11 1),
oT 55 57 (.load none 56),
oT 55 58 (.len 57),
oT 55 59 (.bin .eql 58 (cI 0)),
oP 60 55 59 cF,
oM 61 60,
oT 61 62 (.fieldAddr 12 1),
oT 61 63 (.load none 62),
oT 61 64 (.bin .eql 63 (cI 0)),
oP 65 61 64 cF,
oM 66 65,
oT 66 67 (.fieldAddr 13 1),
oT 66 68 (.load none 67),
oT 66 69 (.bin .eql 68 (cI 0)),
oP 70 66 69 cF,
oM 71 70,
oT 71 72 (.fieldAddr 14 1),
oT 71 73 (.load none 72),
oT 71 74 (.len 73),
oT 71 75 (.bin .eql 74 (cI 0)),
oP 76 71 75 cF,
oM 2 76])
.ret))
def za8_:List RD:=[.tmp 2 true none]
theorem zbC_:zk_ Tryz.prog Tryz.f39 zci_ za8_=true:=by kernel_rfl
def yw_:List AV->List Obj->Option (Prop × AV)
 | [.agg zz0],[]=>XU_ YD zz0 fun ⟨t,xi,n,d,el,x,a,ins,bu,ba,qu,po,ki,fl,pa,_⟩=>some ((True,.bool (qy_ (t,xi,n,d,el,x,a,ins,bu,ba,qu,po,ki,fl,pa,()))))
 | _,_=>none
theorem HR_:zd_ Tryz.prog 39 (RoF yw_).sum:=by
 refine zi_ Tryz.func39 zbC_ (zc_ _) fun args objs p v e=>?_
 unfold yw_ at e
 split at e
 ·rename_i zz0
  replace e:=Kj_ e
  obtain ⟨⟨t,xi,n,d,el,x,a,ins,bu,ba,qu,po,ki,fl,pa,_⟩,hz,e⟩:=e
  replace hz:zz0=[.int .i64 t,.int .u32 xi,.imm (.int .u64) n,.imm (.int .u8) d,.imm YB el,.imm Y1 x,.imm Y2 a,.imm Y3 ins,.imm Y4 bu,.imm Y5 ba,.imm Y7 qu,.imm Y8 po,.int .i64 ki,.int .i64 fl,.imm YC pa]:=hz
  subst hz
  change Int at t
  change Int at xi
  change Int at ki
  change Int at fl
  cases e
  refine ⟨rfl,fun hw ho hp=>?_⟩
  change List Int at n
  change List Int at d
  clear hw ho
  repeat'(intro t ht;first|(cases t<;>first|(cases ht;done)|(try simp only[zg_]at ht;try(exfalso;first|contradiction|omega)))|((first|refine zb_ ht ?_|refine ht ?_ ?_|refine ht.1 ?_ ?_|refine ht ?_)<;>clear ht))
  all_goals first
   | exact True.intro
   | (refine ⟨congrArg AV.bool ?_,rfl⟩;rw [Bool.eq_iff_iff];unfold qy_;simp only [Bool.and_eq_true,decide_eq_true_eq,reduceCtorEq,true_iff,false_iff];omega)
 ·cases e
abbrev VIt:=Int × List Int × Unit
def wI (t:Int):List Int:=if t=1 then [1,-3] else if t=2 then [-4,8,8] else if t=3\/t=4\/t=5 then [-4] else if t=6\/t=65535 then [4] else []
def kI (t:Int):Bool:=decide (t=1) || decide (t=2) || decide (t=3) || decide (t=4) || decide (t=5) || decide (t=6) || decide (t=65535)
def dI (t:Int):Bool:=decide (t=3) || decide (t=4)
def mI (t:Int):Bool:=decide (t=3) || decide (t=4) || decide (t=65535)
def qI (t a b:Int):Int:=if t=1/\254 < a then 771 else if t=2/\¬ Zp_ .andNot .u64 a b=0 then 772 else 0
def nuI (t:Int):Int:=zo_ (wI t)
def sI (t:Int):Int:=zP_ (wI t)
theorem U4_ {t:Int} (h:kI t=true):t=1\/t=2\/t=3\/t=4\/t=5\/t=6\/t=65535:=by
 unfold kI at h;simp only [Bool.or_eq_true,decide_eq_true_eq] at h;omega
theorem zaI_ {t:Int} (h:kI t=true):(sI t=4\/sI t=20)/\0<=nuI t/\nuI t<=2:=by
 rcases U4_ h with rfl | rfl | rfl | rfl | rfl | rfl | rfl<;>decide
theorem ziT_ {t:Int} (h:kI t=true):0<=t/\t<=65535:=by have:=U4_ h;omega
def xI (i:VIn):List Int:=[i.2.1,i.2.2.1].take (nuI i.1).toNat
theorem zlA_ {n a b:Int} (h0:0<=n/\n<=2) (h2:2<=n\/b=0) (h1:1<=n\/a=0):([a,b].take n.toNat++[0,0]).getD 0 0=a/\([a,b].take n.toNat++[0,0]).getD 1 0=b:=by
 have:n=0\/n=1\/n=2:=by omega
 rcases this with rfl | rfl | rfl
 ·obtain rfl:a=0:=by omega
  obtain rfl:b=0:=by omega
  exact ⟨rfl,rfl⟩
 ·obtain rfl:b=0:=by omega
  exact ⟨rfl,rfl⟩
 ·exact ⟨rfl,rfl⟩
def gdI (i:VIn):Bool:=kI i.1 && decide (qI i.1 i.2.1 i.2.2.1=0) && (decide (2<=nuI i.1) || decide (i.2.2.1=0)) && (decide (1<=nuI i.1) || decide (i.2.1=0)) && (dI i.1 || decide (i.2.2.2.1.length=0)) && (decide (i.1=65535) || decide (i.2.2.2.2.1.length=0)) && decide (i.2.2.2.2.1.length % 8=0)
def byI (i:VIn):Option (List Int):=HJ_ (HJ_ (X1_ (wI i.1) (xI i)) (actO i.2.2.2.1)) (some i.2.2.2.2.1)
def bdO (i:VIn):Option (List Int):=if gdI i=true then (match byI i with | some y=>if (65524:Int) < y.length then none else some y | none=>none) else none
structure BdOk (i:VIn) (y:List Int):Prop where
 k:kI i.1=true
 q:qI i.1 i.2.1 i.2.2.1=0
 b:2<=nuI i.1\/i.2.2.1=0
 a:1<=nuI i.1\/i.2.1=0
 d:dI i.1=true\/i.2.2.2.1=[]
 e:i.1=65535\/i.2.2.2.2.1=[]
 m:i.2.2.2.2.1.length % 8=0
 p:ZM_ (wI i.1) (xI i)=true
 r:rgL i.2.2.2.1=true
 s:y=zR_ (wI i.1) (xI i)++boA i.2.2.2.1++i.2.2.2.2.1
 l:(y.length:Int)<=65524
theorem uE_ {i:VIn}:gdI i=true ↔ kI i.1=true/\qI i.1 i.2.1 i.2.2.1=0/\(2<=nuI i.1\/i.2.2.1=0)/\(1<=nuI i.1\/i.2.1=0)/\(dI i.1=true\/i.2.2.2.1=[])/\(i.1=65535\/i.2.2.2.2.1=[])/\i.2.2.2.2.1.length % 8=0:=by
 unfold gdI
 simp only [Bool.and_eq_true,Bool.or_eq_true,decide_eq_true_eq,List.length_eq_zero_iff,and_assoc]
theorem jN_ {i:VIn} {y:List Int}:bdO i=some y ↔ BdOk i y:=by
 constructor
 ·intro h
  unfold bdO at h
  split at h
  ·rename_i hg
   obtain ⟨g1,g2,g3,g4,g5,g6,g7⟩:=uE_.1 hg
   cases hy:byI i with
   | none=>rw [hy] at h;cases h
   | some z=>
     rw [hy] at h
     dsimp only at h
     split at h
     ·cases h
     ·rename_i hl
      cases h
      unfold byI at hy
      obtain ⟨p,q,w1,w2,w3⟩:=Jk_ hy
      obtain ⟨p1,p2,w4,w5,w6⟩:=Jk_ w1
      obtain ⟨k1,k2⟩:=Y5_ w4
      obtain ⟨k3,k4⟩:=zhI_ w5
      cases w2
      exact ⟨g1,g2,g3,g4,g5,g6,g7,k1,k3,by rw [w3,w6,k2,k4],by omega⟩
  ·cases h
 ·rintro ⟨g1,g2,g3,g4,g5,g6,g7,g8,g9,rfl,g11⟩
  unfold bdO byI
  have e1:X1_ (wI i.1) (xI i)=some (zR_ (wI i.1) (xI i)):=if_pos g8
  have e2:actO i.2.2.2.1=some (boA i.2.2.2.1):=if_pos g9
  rw [if_pos (uE_.2 ⟨g1,g2,g3,g4,g5,g6,g7⟩),e1,e2,zfC_,zfC_]
  dsimp only
  rw [if_neg (by omega)]
theorem zlw_:∀ {l:List AC},l.all rgA=true->(boA l).length % 8=0
 | [],_=>rfl
 | a :: r,h=>by
   rw [List.all_cons,Bool.and_eq_true] at h
   have h1:=(v6_ h.1).2.2.2
   have h2:=zlw_ h.2
   rw [JK_,List.length_append];omega
theorem zlz_ {i:VIn} (ha:0<=i.2.1/\i.2.1<=18446744073709551615) (hb:0<=i.2.2.1/\i.2.2.1<=18446744073709551615):∀ z ∈ xI i,0<=z/\z<=18446744073709551615:=fun z hz=>by
 have:=List.mem_of_mem_take hz
 simp only [List.mem_cons,List.not_mem_nil,or_false] at this
 rcases this with rfl | rfl<;>assumption
theorem UA_ {w xs:List Int} (h:ZM_ w xs=true):((zR_ w xs).length:Int)=zP_ w:=K2_ h
theorem zau_ {i:VIn} {y:List Int} (h:bdO i=some y):y.length % 8=4/\4<=y.length/\(y.length:Int)<=65524:=by
 have g:=jN_.1 h
 have h1:=UA_ g.p
 have h2:=zlw_ (q9_ g.r).1
 have h3:=(zaI_ g.k).1
 unfold sI at h3
 have hl:=g.l
 have hm:=g.m
 have hy:=congrArg List.length g.s
 rw [List.length_append,List.length_append] at hy
 omega
def enH (t:Int) (y:List Int):List Int:=ze_ t 2++ze_ (4+y.length) 2++y
theorem Xk_ (t:Int) (y:List Int):(enH t y).length=4+y.length:=by
 have l2:(ze_ t 2).length=2:=by have:=zj_ (n:=t) (w:=2) (by decide);omega
 have l3:(ze_ (4+y.length) 2).length=2:=by have:=zj_ (n:=4+(y.length:Int)) (w:=2) (by decide);omega
 unfold enH;simp only [List.length_append];omega
def bdY (i:VIn):List Int:=(bdO i).getD []
def enI (i:VIn):List Int:=enH i.1 (bdY i)
def itI (i:VIn):VIt:=(i.1,bdY i,())
def boI (l:List VIn):List Int:=l.flatMap enI
theorem zdb_ (i:VIn) (r:List VIn):boI (i :: r)=enI i++boI r:=List.flatMap_cons
def snI (acc:List VIn) (t:Int):Bool:=acc.any fun i=>decide (i.1=t)
def dbI (acc:List VIn) (t:Int):Bool:=snI acc t && decide (¬ t=65535)
def gdL (acc:List VIn):List VIn->Bool
 | []=>true
 | i :: r=>(bdO i).isSome && !dbI acc i.1 && gdL (acc++[i]) r
theorem zcG_ {acc l:List VIn} {i:Nat} {d:VIn} (h:i < l.length):gdL acc (l.drop i)=((bdO (l.getD i d)).isSome && !dbI acc (l.getD i d).1 && gdL (acc++[l.getD i d]) (l.drop (i+1))):=by
 rw [zz_ h d];rfl
def rgI (l:List VIn):Bool:=gdL [] l && decide ((boI l).length<=65528)
def ieL (l:List VIn):List Int:=if rgI l=true then boI l else []
def ieE (l:List VIn):Int:=if rgI l=true then 0 else 10001
theorem vJ_ {i:VIn} {y:List Int} (h:bdO i=some y):bdY i=y:=by unfold bdY;rw [h];rfl
theorem uD_:∀ {l acc:List VIn},gdL acc l=true->∀ i ∈ l,(bdO i).isSome=true
 | i :: r,acc,h,j,hj=>by
   unfold gdL at h
   simp only [Bool.and_eq_true] at h
   rcases List.mem_cons.1 hj with rfl | hj
   ·exact h.1.1
   ·exact uD_ h.2 j hj
theorem zgz_:∀ {l:List VIn},(∀ i ∈ l,(bdO i).isSome=true)->8*l.length<=(boI l).length/\(boI l).length % 8=0/\(boI l).length<=65528*l.length
 | [],_=>⟨Nat.le_refl _,rfl,Nat.le_refl _⟩
 | i :: r,h=>by
   obtain ⟨y,hy⟩:=Option.isSome_iff_exists.1 (h i (List.mem_cons_self ..))
   obtain ⟨i1,i2,i3⟩:=zgz_ (l:=r) fun j hj=>h j (List.mem_cons_of_mem _ hj)
   obtain ⟨b1,b2,b3⟩:=zau_ hy
   have e:=Xk_ i.1 (bdY i)
   rw [vJ_ hy] at e
   rw [zdb_,List.length_append,List.length_cons]
   unfold enI;rw [vJ_ hy];omega
def o5N (t:Int) (x:List Int):List Int:=kk_ (wI t) x 0 0++[0,0]
def o5A (t:Int) (x:List Int):Int:=(o5N t x).getD 0 0
def o5B (t:Int) (x:List Int):Int:=(o5N t x).getD 1 0
def o5K (t:Int) (x:List Int):Bool:=decide (z7_ (wI t) x=0) && (mI t || decide ((x.length:Int)<=sI t))
def o5R (t:Int) (x:List Int):List Int:=x.drop (sI t).toNat
def o5E (s:Bool) (t:Int) (x:List Int):Int:=if kI t=false then 769 else if s=true/\¬ t=65535 then 778 else if o5K t x=false then 776 else if t=65535 then 0 else if ¬ qI t (o5A t x) (o5B t x)=0 then qI t (o5A t x) (o5B t x) else adE (o5R t x)
def o5V (s:Bool) (t:Int) (x:List Int):VIn:=if kI t=false\/(s=true/\¬ t=65535) then (t,0,0,[],[],()) else (t,o5A t x,o5B t x,(if o5E s t x=0/\¬ t=65535 then adL (o5R t x) else []),(if o5K t x=true/\t=65535 then o5R t x else []),())
def inE (acc:List VIn) (y:List Int):Int:=if ¬ tlE y 8 8 776=0 then tlE y 8 8 776 else o5E (snI acc (tT y)) (tT y) (bd y)
def vI (acc:List VIn) (y:List Int):VIn:=o5V (snI acc (tT y)) (tT y) (bd y)
def inG (acc:List VIn) (y:List Int):List VIn × Int:=
 if y.length=0 then (acc,0) else if ¬ inE acc y=0 then ([],inE acc y) else inG (acc++[vI acc y]) (y.drop (max 1 (tN y).toNat))
termination_by y.length
decreasing_by all_goals (rw [List.length_drop];omega)
theorem zac_ {acc:List VIn} {y:List Int} (h:y.length=0):inG acc y=(acc,0):=by rw [inG,if_pos h]
theorem uA_ {acc:List VIn} {y:List Int} (h:¬ y.length=0) (h2:¬ inE acc y=0):inG acc y=([],inE acc y):=by rw [inG,if_neg h,if_pos h2]
theorem ze6_ {acc:List VIn} {y:List Int} (h:¬ y.length=0) (h2:inE acc y=0) (hn:1<=tN y):inG acc y=inG (acc++[vI acc y]) (y.drop (tN y).toNat):=by
 rw [inG,if_neg h,if_neg (not_not_intro h2),show max 1 (tN y).toNat=(tN y).toNat by omega]
def idE (b:List Int):Int:=if ¬ (inG [] b).2=0 then (inG [] b).2 else if 65528 < b.length then 776 else 0
def idL (b:List Int):List VIn:=if idE b=0 then (inG [] b).1 else []
theorem zad_ {b:List Int} {e:Int} (h:(inG [] b).2=e) (h0:¬ e=0):idL b=[]/\idE b=e:=by
 have:idE b=e:=by unfold idE;rw [h,if_pos h0]
 exact ⟨by unfold idL;rw [this,if_neg h0],this⟩
theorem ze8_ {b:List Int} {acc:List VIn} (h:inG [] b=(acc,0)):(65528 < b.length->idL b=[]/\idE b=776)/\(¬ 65528 < b.length->idL b=acc/\idE b=0):=by
 have e:idE b=if 65528 < b.length then 776 else 0:=by unfold idE;rw [h];rfl
 constructor
 ·intro hl
  rw [if_pos hl] at e
  exact ⟨by unfold idL;rw [e];rfl,e⟩
 ·intro hl
  rw [if_neg hl] at e
  exact ⟨by unfold idL;rw [e,h];rfl,e⟩
theorem zaJ_ {b:List Int} {bad:Int} (hT:tlE b 8 8 bad=0) (hbad:bad ≠ 0):4<=b.length/\8<=tN b/\(tN b).tmod 8=0/\tN b<=b.length:=by
 unfold tlE at hT
 by_cases h1:b.length < 4
 ·rw [if_pos h1] at hT;exact absurd hT hbad
 ·rw [if_neg h1] at hT
  by_cases h2:tN b < 8\/¬ (tN b).tmod 8=0
  ·rw [if_pos h2] at hT;exact absurd hT hbad
  ·rw [if_neg h2] at hT
   by_cases h3:(b.length:Int) < tN b
   ·rw [if_pos h3] at hT;exact absurd hT hbad
   ·omega
theorem zmh_ {acc:List VIn} {b:List Int} (h0:inE acc b=0):tlE b 8 8 776=0/\o5E (snI acc (tT b)) (tT b) (bd b)=0:=by
 unfold inE at h0
 by_cases h:tlE b 8 8 776=0
 ·rw [if_neg (not_not_intro h)] at h0;exact ⟨h,h0⟩
 ·rw [if_pos h] at h0;exact absurd h0 h
theorem ze5_ {acc:List VIn} {b:List Int} (h0:inE acc b=0):8<=tN b/\tN b<=b.length/\(tN b).tmod 8=0:=by
 obtain ⟨p1,p2,p3,p4⟩:=zaJ_ (zmh_ h0).1 (by decide)
 exact ⟨p2,p4,p3⟩
structure OkI (s:Bool) (t:Int) (x:List Int):Prop where
 k:kI t=true
 s:s=false\/t=65535
 o:o5K t x=true
 q:qI t (o5A t x) (o5B t x)=0
 a:t=65535\/adE (o5R t x)=0
theorem qI_x {a b:Int}:qI 65535 a b=0:=by unfold qI;rw [if_neg (by omega),if_neg (by omega)]
theorem zip_ {s:Bool} {t:Int} {x:List Int}:o5E s t x=0 ↔ OkI s t x:=by
 unfold o5E
 constructor
 ·intro h
  cases hk:kI t with
  | false=>rw [if_pos hk] at h;cases h
  | true=>
    rw [if_neg (by rw [hk];decide)] at h
    by_cases hs:s=true/\¬ t=65535
    ·rw [if_pos hs] at h;cases h
    ·rw [if_neg hs] at h
     have hs':s=false\/t=65535:=by
      cases s with
      | false=>exact .inl rfl
      | true=>exact .inr (Decidable.of_not_not fun c=>hs ⟨rfl,c⟩)
     cases ho:o5K t x with
     | false=>rw [if_pos ho] at h;cases h
     | true=>
       rw [if_neg (by rw [ho];decide)] at h
       by_cases hx:t=65535
       ·subst hx;exact ⟨hk,.inr rfl,ho,qI_x,.inl rfl⟩
       ·rw [if_neg hx] at h
        by_cases hq:qI t (o5A t x) (o5B t x)=0
        ·rw [if_neg (not_not_intro hq)] at h
         exact ⟨hk,hs',ho,hq,.inr h⟩
        ·rw [if_pos hq] at h;exact absurd h hq
 ·rintro ⟨h1,h2,h3,h4,h5⟩
  have h2':¬ (s=true/\¬ t=65535):=by
   rintro ⟨c1,c2⟩
   rcases h2 with h2 | h2
   ·rw [h2] at c1;cases c1
   ·exact c2 h2
  rw [if_neg (by rw [h1];decide),if_neg h2',if_neg (by rw [h3];decide)]
  by_cases hx:t=65535
  ·rw [if_pos hx]
  ·rw [if_neg hx,if_neg (not_not_intro h4)]
   rcases h5 with h5 | h5
   ·exact absurd h5 hx
   ·exact h5
theorem zmX_ {s:Bool} {t:Int} {x:List Int} (h:OkI s t x):o5V s t x=(t,o5A t x,o5B t x,(if t=65535 then [] else adL (o5R t x)),(if t=65535 then o5R t x else []),()):=by
 have h0:=zip_.2 h
 unfold o5V
 have h2:¬ (kI t=false\/(s=true/\¬ t=65535)):=by
  rintro (c | c)
  ·rw [h.k] at c;cases c
  ·rcases h.s with e | e
   ·rw [e] at c;cases c.1
   ·exact c.2 e
 rw [if_neg h2]
 by_cases hx:t=65535
 ·rw [if_neg (fun c=>c.2 hx),if_pos ⟨h.o,hx⟩,if_pos hx,if_pos hx]
 ·rw [if_pos ⟨h0,hx⟩,if_neg (fun c=>hx c.2),if_neg hx,if_neg hx]
structure wfI (i:VIn):Prop where
 a:0<=i.2.1/\i.2.1<=18446744073709551615
 b:0<=i.2.2.1/\i.2.2.1<=18446744073709551615
 c:∀ a ∈ i.2.2.2.1,bysU a
theorem zm6_ {t:Int} {body rest:List Int} (ht:0<=t/\t<=65535) (h8:4<=body.length) (hm:body.length % 8=4) (hN2:(body.length:Int)<=65524):
 tT (enH t body++rest)=t/\tN (enH t body++rest)=4+body.length/\tlE (enH t body++rest) 8 8 776=0/\bd (enH t body++rest)=body:=by
 obtain ⟨e1,e2,e3,e4⟩:=zcC_ (t:=t) (N:=4+body.length) (body:=body) (rest:=rest) ht rfl (by omega) (by omega) (by omega)
 refine ⟨e1,e2,?_,e4⟩
 have e5:(4<=(enH t body++rest).length/\8<=tN (enH t body++rest)/\(tN (enH t body++rest)).tmod 8=0/\tN (enH t body++rest)<=(enH t body++rest).length):=zaJ_ (bad:=514) e3 (by decide)
 unfold tlE
 rw [if_neg (by omega),if_neg (by omega),if_neg (by omega)]
theorem zme_ {i:VIn} {y rest:List Int} {acc:List VIn} (h:bdO i=some y) (hw:wfI i) (hs:dbI acc i.1=false):inE acc (enI i++rest)=0/\vI acc (enI i++rest)=i/\tN (enI i++rest)=(enI i).length:=by
 have g:=jN_.1 h
 obtain ⟨b1,b2,b3⟩:=zau_ h
 have hy:=vJ_ h
 obtain ⟨e1,e2,e3,e4⟩:=zm6_ (rest:=rest) (ziT_ g.k) b2 b1 b3
 have eI:enI i=enH i.1 y:=by unfold enI;rw [hy]
 rw [<- eI] at e1 e2 e3 e4
 obtain ⟨w1,w2,w3⟩:=zaI_ g.k
 have hpz:=UA_ g.p
 have gy:y=zR_ (wI i.1) (xI i)++(boA i.2.2.2.1++i.2.2.2.2.1):=by rw [g.s,List.append_assoc]
 obtain ⟨f1,f2⟩:=vd_ (boA i.2.2.2.1++i.2.2.2.2.1) (zlz_ hw.a hw.b) g.p
 rw [<- gy] at f1
 have gL:Zq_ (wI i.1) y=xI i:=congrArg Prod.fst f1
 have gK:z7_ (wI i.1) y=0:=congrArg Prod.snd f1
 have hN:o5N i.1 y=xI i++[0,0]:=by
  unfold o5N kk_;rw [if_pos rfl,show (0:Int).toNat=0 from rfl,List.drop_zero,gL]
 obtain ⟨n1,n2⟩:=zlA_ ⟨w2,w3⟩ g.b g.a
 have hA:o5A i.1 y=i.2.1:=by unfold o5A;rw [hN];exact n1
 have hB:o5B i.1 y=i.2.2.1:=by unfold o5B;rw [hN];exact n2
 have hR:o5R i.1 y=boA i.2.2.2.1++i.2.2.2.2.1:=by
  unfold o5R sI;rw [gy];exact List.drop_left' (by omega)
 have hsI:snI acc i.1=false\/i.1=65535:=by
  unfold dbI at hs
  rcases Bool.and_eq_false_iff.1 hs with c | c
  ·exact .inl c
  ·exact .inr (Decidable.of_not_not (of_decide_eq_false c))
 have hO:OkI (snI acc i.1) i.1 y:=by
  refine ⟨g.k,hsI,?_,by rw [hA,hB];exact g.q,?_⟩
  ·unfold o5K
   rw [decide_eq_true gK,Bool.true_and,Bool.or_eq_true,decide_eq_true_eq]
   by_cases hx:i.1=65535
   ·left;unfold mI;rw [decide_eq_true hx];simp
   ·rcases g.d with d | d
    ·left;unfold mI;unfold dI at d;rw [d];rfl
    ·right
     rcases g.e with e | e
     ·exact absurd e hx
     ·have hyl:=congrArg List.length gy
      rw [d,e] at hyl
      simp only [List.length_append,List.length_nil] at hyl
      rw [show (boA ([]:List AC)).length=0 from rfl] at hyl
      unfold sI;omega
  ·by_cases hx:i.1=65535
   ·exact .inl hx
   ·rcases g.e with e | e
    ·exact absurd e hx
    ·right
     rw [hR,e,List.append_nil]
     exact (zjL_ g.r hw.c).2
 have hE:inE acc (enI i++rest)=0:=by
  unfold inE;rw [if_neg (not_not_intro e3),e1,e4];exact zip_.2 hO
 refine ⟨hE,?_,?_⟩
 ·unfold vI;rw [e1,e4,zmX_ hO,hA,hB,hR]
  obtain ⟨t,a,b,ac,d,u⟩:=i
  refine Prod.ext rfl (Prod.ext rfl (Prod.ext rfl (Prod.ext ?_ (Prod.ext ?_ rfl))))
  ·show (if t=65535 then [] else adL (boA ac++d))=ac
   by_cases hx:t=65535
   ·rw [if_pos hx]
    rcases g.d with e | e
    ·exfalso;rw [show ((t,a,b,ac,d,u):VIn).1=t from rfl,hx] at e;exact absurd e (by decide)
    ·exact e.symm
   ·rw [if_neg hx]
    rcases g.e with e | e
    ·exact absurd e hx
    ·rw [show d=[] from e,List.append_nil];exact (zjL_ g.r hw.c).1
  ·show (if t=65535 then boA ac++d else [])=d
   by_cases hx:t=65535
   ·rw [if_pos hx]
    rcases g.d with e | e
    ·exfalso;rw [show ((t,a,b,ac,d,u):VIn).1=t from rfl,hx] at e;exact absurd e (by decide)
    ·rw [show ac=[] from e];rfl
   ·rw [if_neg hx]
    rcases g.e with e | e
    ·exact absurd e hx
    ·exact e.symm
 ·rw [e2,eI,Xk_];omega
theorem zgf_:∀ (r acc:List VIn),gdL acc r=true->(∀ i ∈ r,wfI i)->inG acc (boI r)=(acc++r,0)
 | [],acc,_,_=>by rw [zac_ (by rfl),List.append_nil]
 | i :: r,acc,h,hu=>by
   unfold gdL at h
   simp only [Bool.and_eq_true,Bool.not_eq_true'] at h
   obtain ⟨y,hy⟩:=Option.isSome_iff_exists.1 h.1.1
   obtain ⟨e1,e2,e3⟩:=zme_ (rest:=boI r) hy (hu i (List.mem_cons_self ..)) h.1.2
   obtain ⟨g1,g2,_⟩:=ze5_ e1
   rw [List.length_append] at g2
   rw [zdb_,ze6_ (by rw [List.length_append];omega) e1 (by omega),e2,e3,Int.toNat_natCast,List.drop_left,zgf_ r (acc++[i]) h.2 (fun j hj=>hu j (List.mem_cons_of_mem _ hj)),List.append_assoc];rfl
theorem zmj_ {l:List VIn} (h:rgI l=true) (hu:∀ i ∈ l,wfI i):idL (boI l)=l/\idE (boI l)=0:=by
 unfold rgI at h
 simp only [Bool.and_eq_true,decide_eq_true_eq] at h
 have hg:=zgf_ l [] h.1 hu
 rw [List.nil_append] at hg
 exact (ze8_ hg).2 (by omega)
theorem zez_ {k v:Int}:∀ (m:List (Int × Int)) (k':Int),zF_ (kA_ m k v) k'=if k=k' then some v else zF_ m k'
 | [],k'=>by unfold kA_;rfl
 | (a,b) :: r,k'=>by
   have ih:=zez_ (k:=k) (v:=v) r k'
   by_cases h:a=k
   ·subst h
    have e:kA_ ((a,b) :: r) a v=(a,v) :: r:=if_pos rfl
    rw [e]
    show (if a=k' then some v else zF_ r k')=if a=k' then some v else if a=k' then some b else zF_ r k'
    split<;>rfl
   ·have e:kA_ ((a,b) :: r) k v=(a,b) :: kA_ r k v:=if_neg h
    rw [e]
    show (if a=k' then some b else zF_ (kA_ r k v) k')=if k=k' then some v else if a=k' then some b else zF_ r k'
    rw [ih]
    by_cases h2:a=k'
    ·rw [if_pos h2,if_pos h2,if_neg (fun c=>h (h2.trans c.symm))]
    ·rw [if_neg h2,if_neg h2]
theorem zix_ {k v w:Int}:∀ (m:List (Int × Int)),kA_ (kA_ m k v) k w=kA_ m k w/\qn_ (kA_ m k v) k=qn_ m k/\qn_ m k < (kA_ m k v).length/\(kA_ m k v).length<=m.length+1
 | []=>⟨if_pos rfl,if_pos rfl,Nat.zero_lt_one,Nat.le_refl _⟩
 | (a,b) :: r=>by
   obtain ⟨i1,i2,i3,i4⟩:=zix_ (k:=k) (v:=v) (w:=w) r
   by_cases h:a=k
   ·subst h
    have e:∀ v,kA_ ((a,b) :: r) a v=(a,v) :: r:=fun v=>if_pos rfl
    have x:∀ b,qn_ ((a,b) :: r) a=0:=fun b=>if_pos rfl
    rw [e,e,x,x]
    refine ⟨if_pos rfl,rfl,Nat.zero_lt_succ _,?_⟩
    simp only [List.length_cons];omega
   ·have e:∀ v,kA_ ((a,b) :: r) k v=(a,b) :: kA_ r k v:=fun v=>if_neg h
    have x:∀ r:List (Int × Int),qn_ ((a,b) :: r) k=qn_ r k+1:=fun r=>if_neg h
    rw [e,e,x,x,i2]
    refine ⟨by rw [show kA_ ((a,b) :: kA_ r k v) k w=(a,b) :: kA_ (kA_ r k v) k w from if_neg h,i1],rfl,?_,?_⟩
    ·simp only [List.length_cons];omega
    ·simp only [List.length_cons];omega
structure mOk (m:List (Int × Int)) (acc:List VIn):Prop where
 s:∀ k,(0 < (zF_ m k).getD 0 ↔ snI acc k=true)
 r:∀ k,0<=(zF_ m k).getD 0/\(zF_ m k).getD 0<=acc.length
 l:m.length<=acc.length
theorem Bz_:mOk [] []:=⟨fun k=>⟨fun h=>absurd h (by show ¬ (0:Int) < 0;decide),fun h=>by cases h⟩,fun k=>⟨by show (0:Int)<=0;decide,by show (0:Int)<=0;decide⟩,Nat.le_refl _⟩
theorem zj8_ (a b:List VIn) (t:Int):snI (a++b) t=(snI a t || snI b t):=List.any_append
theorem zj7_ (i:VIn) (t:Int):snI [i] t=decide (i.1=t):=by unfold snI;simp
theorem BA_ {m:List (Int × Int)} {acc:List VIn} {i:VIn} (h:mOk m acc):mOk (kA_ m i.1 ((zF_ m i.1).getD 0+1)) (acc++[i]):=by
 have hr:=h.r i.1
 refine ⟨fun k=>?_,fun k=>?_,?_⟩
 ·rw [zez_,zj8_,zj7_]
  by_cases c:i.1=k
  ·rw [if_pos c,decide_eq_true c,Bool.or_true]
   exact ⟨fun _=>rfl,fun _=>by show 0 < (zF_ m i.1).getD 0+1;omega⟩
  ·rw [if_neg c,decide_eq_false c,Bool.or_false];exact h.s k
 ·have hk:=h.r k
  rw [zez_,List.length_append,List.length_singleton]
  by_cases c:i.1=k
  ·rw [if_pos c];show 0<=(zF_ m i.1).getD 0+1/\(zF_ m i.1).getD 0+1<=_;omega
  ·rw [if_neg c];omega
 ·have:=(zix_ (k:=i.1) (v:=(zF_ m i.1).getD 0+1) (w:=0) m).2.2.2
  have:=h.l
  rw [List.length_append,List.length_singleton];omega
theorem zf8_ {m:List (Int × Int)} {acc:List VIn} (h:mOk m acc) (t:Int):decide (0 < (zF_ m t).getD 0)=snI acc t:=by
 rw [Bool.eq_iff_iff,decide_eq_true_eq];exact h.s t
theorem zaf_:∀ (a b acc:List VIn),gdL acc (a++b)=(gdL acc a && gdL (acc++a) b)
 | [],b,acc=>by rw [List.append_nil];rfl
 | i :: a,b,acc=>by
   show ((bdO i).isSome && !dbI acc i.1 && gdL (acc++[i]) (a++b))=((bdO i).isSome && !dbI acc i.1 && gdL (acc++[i]) a && gdL (acc++i :: a) b)
   rw [zaf_ a b (acc++[i]),List.append_assoc];simp only [Bool.and_assoc];rfl
theorem zjb_ (acc:List VIn) (i:VIn) (r:List VIn):gdL acc (i :: r)=((bdO i).isSome && !dbI acc i.1 && gdL (acc++[i]) r):=rfl
theorem zlm_ {t:Int} (h:¬ (t=1\/t=2\/t=3\/t=4\/t=5\/t=6\/t=65535)):wI t=[]/\mI t=false/\kI t=false:=by
 refine ⟨?_,?_,?_⟩
 ·unfold wI;rw [if_neg (by omega),if_neg (by omega),if_neg (by omega),if_neg (by omega)]
 ·unfold mI;rw [decide_eq_false (by omega),decide_eq_false (by omega),decide_eq_false (by omega)];rfl
 ·cases h2:kI t with
  | false=>rfl
  | true=>exact absurd (U4_ h2) h
def hw_:IR:=
(sq (kr [0] [oD 2 (.mov (.c (.imm (.int .i64) []))),
oD 3 (.mov cF),
oD 4 (.mov cF)])
(sq (sq (.reg [oM 5 0])
(.block 0
(sq (.block 6
(sq (.block 5
(sq (.block 4
(sq (.block 3
(sq (.block 2
(sq (.block 1
(sq (sq (sq (.reg [oB 7 .eql 5 (cI 1),
oM 6 7])
(.cond 6
(.exit 1)
.skip))
(sq (sq (kr [3,5] [oB 9 .eql 5 (cI 2),
oM 8 9])
(.cond 8
(.exit 2)
.skip))
(sq (sq (sq (.reg [oB 11 .eql 5 (cI 3),
oM 10 11])
(.cond 10
.skip
(.reg [oB 12 .eql 5 (cI 4),
oM 10 12])))
(.cond 10
(.exit 3)
.skip))
(sq (sq (kr [3,5] [oB 14 .eql 5 (cI 5),
oM 13 14])
(.cond 13
(.exit 4)
.skip))
(sq (sq (.reg [oB 16 .eql 5 (cI 65535),
oM 15 16])
(.cond 15
(.exit 5)
.skip))
(sq (.reg [oB 18 .eql 5 (cI 6),
oM 17 18])
(.cond 17
(.exit 6)
.skip)))))))
(.exit 0)))
(sq (sq (kr [] [oD 19 (.sliceAll (.int .i64) 2 [(0,1,(cI 1)),(1,1,(cI (-3)))]),
oM 2 19,
oD 3 (.mov cF),
oD 4 (.mov cT)])
.ret)
(.exit 0))))
(sq (sq (kr [] [oD 20 (.sliceAll (.int .i64) 3 [(0,1,(cI (-4))),(1,1,(cI 8)),(2,1,(cI 8))]),
oM 2 20,
oD 3 (.mov cF),
oD 4 (.mov cT)])
.ret)
(.exit 0))))
(kr [] [oD 3 (.mov cT)])))
(sq (sq (kr [3] [oD 21 (.sliceAll (.int .i64) 1 [(0,1,(cI (-4)))]),
oM 22 3,
oM 2 21,
oM 3 22,
oD 4 (.mov cT)])
.ret)
(.exit 0))))
(kr [] [oD 3 (.mov cT)])))
(sq (sq (kr [3] [oD 23 (.sliceAll (.int .i64) 1 [(0,1,(cI 4))]),
oM 24 3,
oM 2 23,
oM 3 24,
oD 4 (.mov cT)])
.ret)
(.exit 0)))))
(sq (kr [] [oD 2 (.mov (.c (.imm (.int .i64) []))),
oD 3 (.mov cF),
oD 4 (.mov cF)])
.ret)))
def Gw_:List RD:=[.tmp 2 true (some (.int .i64)),.tmp 3 true none,.tmp 4 true none]
theorem G0_:zk_ Tryz.prog Tryz.f159 hw_ Gw_=true:=by kernel_rfl
def KT_:List AV->List Obj->Option (Prop × AV)
 | [.int .i64 tt],[]=>some ((True,.tup [.imm (.int .i64) (wI tt),.bool (mI tt),.bool (kI tt)]))
 | _,_=>none
theorem W3_:zd_ Tryz.prog 159 (RoF KT_).sum:=by
 refine zi_ Tryz.func159 G0_ (zc_ _) fun args objs p v e=>?_
 unfold KT_ at e
 split at e
 ·rename_i tt
  cases e
  refine ⟨rfl,fun hw ho hp=>?_⟩
  clear hw ho
  repeat'(intro t ht;first|(cases t<;>first|(cases ht;done)|(try simp only[zg_]at ht;try(exfalso;first|contradiction|omega)))|((first|refine zb_ ht ?_|refine ht ?_ ?_|refine ht.1 ?_ ?_|refine ht ?_)<;>clear ht))
  all_goals first
   | exact True.intro
   | (have h:=zlm_ (t:=tt) (by omega)
      rw [h.1,h.2.1,h.2.2];exact ⟨rfl,rfl⟩)
   | (subst_vars;exact ⟨rfl,rfl⟩)
 ·cases e
def zeT_:IR:=
(sq (kr [0] [oD 2 (.mov (.c (.imm (.int .i64) []))),
oD 3 (.mov cF)])
(sq (sq (.reg [oM 4 0])
(.block 0
(sq (.reg [oB 6 .eql 4 (cI 1),
oM 5 6])
(.cond 5
(sq (.reg [oD 7 (.sliceAll (.int .i64) 2 [(0,1,(cI 1)),(1,1,(cI (-3)))]),
oM 2 7,
oD 3 (.mov cT)])
.ret)
(sq (.reg [oB 9 .eql 4 (cI 2),
oM 8 9])
(.cond 8
(sq (kr [] [oD 10 (.sliceAll (.int .i64) 3 [(0,1,(cI (-4))),(1,1,(cI 8)),(2,1,(cI 8))]),
oM 2 10,
oD 3 (.mov cT)])
.ret)
(sq (sq (kr [4] [oB 12 .eql 4 (cI 3),
oM 11 12])
(.cond 11
.skip
(sq (.reg [oB 13 .eql 4 (cI 4),
oM 11 13])
(.cond 11
.skip
(.reg [oB 14 .eql 4 (cI 5),
oM 11 14])))))
(.cond 11
(sq (kr [] [oD 15 (.sliceAll (.int .i64) 1 [(0,1,(cI (-4)))]),
oM 2 15,
oD 3 (.mov cT)])
.ret)
(sq (sq (kr [4] [oB 17 .eql 4 (cI 6),
oM 16 17])
(.cond 16
.skip
(.reg [oB 18 .eql 4 (cI 65535),
oM 16 18])))
(.cond 16
(sq (.reg [oD 19 (.sliceAll (.int .i64) 1 [(0,1,(cI 4))]),
oM 2 19,
oD 3 (.mov cT)])
.ret)
.skip))))))))))
(sq (kr [] [oD 2 (.mov (.c (.imm (.int .i64) []))),
oD 3 (.mov cF)])
.ret)))
def zdP_:List RD:=[.tmp 2 true (some (.int .i64)),.tmp 3 true none]
theorem zei_:zk_ Tryz.prog Tryz.f106 zeT_ zdP_=true:=by kernel_rfl
def vS_:List AV->List Obj->Option (Prop × AV)
 | [.int .i64 tt],[]=>some ((True,.tup [.imm (.int .i64) (wI tt),.bool (kI tt)]))
 | _,_=>none
theorem zaQ_:zd_ Tryz.prog 106 (RoF vS_).sum:=by
 refine zi_ Tryz.func106 zei_ (zc_ _) fun args objs p v e=>?_
 unfold vS_ at e
 split at e
 ·rename_i tt
  cases e
  refine ⟨rfl,fun hw ho hp=>?_⟩
  clear hw ho
  repeat'(intro t ht;first|(cases t<;>first|(cases ht;done)|(try simp only[zg_]at ht;try(exfalso;first|contradiction|omega)))|((first|refine zb_ ht ?_|refine ht ?_ ?_|refine ht.1 ?_ ?_|refine ht ?_)<;>clear ht))
  all_goals first
   | exact True.intro
   | (have h:=zlm_ (t:=tt) (by omega)
      rw [h.1,h.2.2];exact ⟨rfl,rfl⟩)
   | (subst_vars;exact ⟨rfl,rfl⟩)
   | (have h:tt=1\/tt=2\/tt=3\/tt=4\/tt=5\/tt=6\/tt=65535:=by omega
      rcases h with rfl | rfl | rfl | rfl | rfl | rfl | rfl<;>first | (exfalso;omega) | exact ⟨rfl,rfl⟩)
 ·cases e
def ge_:IR:=
(sq (kr [0] [oD 1 (.boxv 0),
oD 2 (.mov (cI 0))])
(sq (.block 0
(sq (kr [1] [oA 4 0 1,
oL 5 4,
oB 6 .eql 5 (cI 1),
oM 7 6,
oT 7 8 (.fieldAddr 1 1),
oT 7 9 (.load none 8),
oT 7 10 (.bin .gtr 9 (.c (.int .u64 254))),
oP 11 7 10 cF,
oM 3 11])
(.cond 3
(sq (kr [] [oD 2 (.mov (cI 771))])
.ret)
(sq (kr [1] [oA 13 0 1,
oL 14 13,
oB 15 .eql 14 (cI 2),
oM 16 15,
oT 16 17 (.fieldAddr 1 1),
oT 16 18 (.load none 17),
oT 16 19 (.fieldAddr 2 1),
oT 16 20 (.load none 19),
oT 16 21 (.bin .andNot 18 20),
oT 16 22 (.bin .neq 21 (.c (.int .u64 0))),
oP 23 16 22 cF,
oM 12 23])
(.cond 12
(sq (kr [] [oD 2 (.mov (cI 772))])
.ret)
.skip)))))
(sq (kr [] [oD 2 (.mov (cI 0))])
.ret)))
def Um_:List RD:=[.tmp 2 true none]
theorem UP_:zk_ Tryz.prog Tryz.f160 ge_ Um_=true:=by kernel_rfl
def kZ_:List AV->List Obj->Option (Prop × AV)
 | [.agg [.int .i64 tt,.int .u64 a,.int .u64 b,.imm ty0 c,.imm (.int .u8) d]],[]=>qb_ ty0 Y2 c fun c=>some ((True,.int .i64 (qI tt a b)))
 | _,_=>none
theorem wZ_:zd_ Tryz.prog 160 (RoF kZ_).sum:=by
 refine zi_ Tryz.func160 UP_ (zc_ _) fun args objs p v e=>?_
 unfold kZ_ at e
 split at e
 ·rename_i tt a b ty0 c d
  obtain rfl:=zX_ e
  replace e:=zY_ e
  cases e
  refine ⟨rfl,fun hw ho hp=>?_⟩
  change List Int at d
  clear hw ho
  repeat'(intro t ht;first|(cases t<;>first|(cases ht;done)|(try simp only[zg_]at ht;try(exfalso;first|contradiction|omega)))|((first|refine zb_ ht ?_|refine ht ?_ ?_|refine ht.1 ?_ ?_|refine ht ?_)<;>clear ht))
  all_goals first
   | exact True.intro
   | (refine ⟨congrArg (AV.int .i64) ?_,rfl⟩;unfold qI;repeat' split
      all_goals first | rfl | omega)
 ·cases e
def BK_:IR:=
(sq (kr [0] [oD 1 (.boxv 0),
oD 2 (.mov (cI 0))])
(sq (sq (kr [1] [oA 3 0 1,
oL 4 3,
oB 5 .eql 4 (cI 1),
oM 6 5,
oT 6 7 (.fieldAddr 1 1),
oT 6 8 (.load none 7),
oT 6 9 (.bin .gtr 8 (.c (.int .u64 254))),
oP 10 6 9 cF])
(.cond 10
(sq (kr [] [oD 2 (.mov (cI 771))])
.ret)
.skip))
(sq (sq (kr [1] [oA 11 0 1,
oL 12 11,
oB 13 .eql 12 (cI 2),
oM 14 13,
oT 14 15 (.fieldAddr 1 1),
oT 14 16 (.load none 15),
oT 14 17 (.fieldAddr 2 1),
oT 14 18 (.load none 17),
oT 14 19 (.bin .and 16 18),
oT 14 20 (.fieldAddr 1 1),
oT 14 21 (.load none 20),
oT 14 22 (.bin .neq 19 21),
oP 23 14 22 cF])
(.cond 23
(sq (kr [] [oD 2 (.mov (cI 772))])
.ret)
.skip))
(sq (kr [] [oD 2 (.mov (cI 0))])
.ret))))
def bk_:List RD:=[.tmp 2 true none]
theorem bX_:zk_ Tryz.prog Tryz.f107 BK_ bk_=true:=by kernel_rfl
def xV_:List AV->List Obj->Option (Prop × AV)
 | [.agg [.int .i64 tt,.int .u64 a,.int .u64 b,.imm ty0 c,.imm (.int .u8) d]],[]=>qb_ ty0 Y2 c fun c=>some ((True,.int .i64 (qI tt a b)))
 | _,_=>none
theorem g2_:zd_ Tryz.prog 107 (RoF xV_).sum:=by
 refine zi_ Tryz.func107 bX_ (zc_ _) fun args objs p v e=>?_
 unfold xV_ at e
 split at e
 ·rename_i tt a b ty0 c d
  obtain rfl:=zX_ e
  replace e:=zY_ e
  cases e
  refine ⟨rfl,fun hw ho hp=>?_⟩
  change List Int at d
  have ha:0<=a/\a<=18446744073709551615:=(hw _ (List.mem_cons_self ..)) (.int .u64 a) (by simp)
  clear hw ho
  have hbs:=zgA_ (k:=.u64) rfl b (a:=a) ha
  repeat'(intro t ht;first|(cases t<;>first|(cases ht;done)|(try simp only[zg_]at ht;try(exfalso;first|contradiction|omega)))|((first|refine zb_ ht ?_|refine ht ?_ ?_|refine ht.1 ?_ ?_|refine ht ?_)<;>clear ht))
  all_goals first
   | exact True.intro
   | (refine ⟨congrArg (AV.int .i64) ?_,rfl⟩;unfold qI;by_cases hz:Zp_ .andNot .u64 a b=0
      ·have hy:=hbs.1 hz
       repeat' split
       all_goals first | rfl | omega
      ·have hy:¬ Zp_ .and .u64 a b=a:=fun c=>hz (hbs.2 c)
       repeat' split
       all_goals first | rfl | omega)
 ·cases e
def bdF (i:VIn) (l:List Int) (e:Int):List Int × Int:=(kH_ i.2.2.2.2.1 (apB i.2.2.2.1 (qr_ (wI i.1) (xI i) l 65524 e) 65524 (qK_ (wI i.1) (xI i) l 65524 e)) 65524 (apE i.2.2.2.1 (qr_ (wI i.1) (xI i) l 65524 e) 65524 (qK_ (wI i.1) (xI i) l 65524 e)),QT_ i.2.2.2.2.1 (apB i.2.2.2.1 (qr_ (wI i.1) (xI i) l 65524 e) 65524 (qK_ (wI i.1) (xI i) l 65524 e)) 65524 (apE i.2.2.2.1 (qr_ (wI i.1) (xI i) l 65524 e) 65524 (qK_ (wI i.1) (xI i) l 65524 e)))
theorem wr_I (i:VIn):WrOk 65524 (bdF i) (byI i):=((zdn_ 65524 (wI i.1) (xI i)).seq (zj0_ 65524 i.2.2.2.1)).seq (uK_ 65524 i.2.2.2.2.1)
theorem zgC_ {i:VIn} (hg:gdI i=true):((bdF i [] 0).2=0->bdO i=some (bdF i [] 0).1)/\((bdF i [] 0).2 ≠ 0->bdO i=none):=by
 obtain ⟨f1,f2⟩:=(wr_I i).fin (by decide)
 unfold bdO
 rw [if_pos hg]
 cases hv:byI i with
 | none=>exact ⟨fun h=>absurd h (f2 fun y e=>by rw [hv] at e;cases e),fun _=>rfl⟩
 | some y=>
   dsimp only
   by_cases hl:(65524:Int) < y.length
   ·rw [if_pos hl]
    exact ⟨fun h=>absurd h (f2 fun z e=>by rw [hv] at e;cases e;exact hl),fun _=>rfl⟩
   ·rw [if_neg hl,f1 y hv (by omega)]
    exact ⟨fun _=>rfl,fun h=>absurd rfl h⟩
theorem zmw_ {i:VIn} (h:gdI i=false):bdO i=none:=by unfold bdO;rw [h];rfl
theorem zmv_ {i:VIn} (h:rgL i.2.2.2.1=false):bdO i=none:=by
 cases hb:bdO i with
 | none=>rfl
 | some y=>have:=(jN_.1 hb).r;rw [h] at this;cases this
theorem zjm_ (e:Int):kq_ [] e=e:=by unfold kq_;split<;>simp_all
theorem zkZ_ {i:VIn} (hg:gdI i=true):qI_ (bdF i [] 0).1 [] (bdF i [] 0).2=bdY i/\decide (kq_ [] (bdF i [] 0).2=0)=(bdO i).isSome:=by
 obtain ⟨c1,c2⟩:=zgC_ hg
 rw [zjm_]
 by_cases h:(bdF i [] 0).2=0
 ·have e:=c1 h
  unfold bdY;rw [e,h];exact ⟨rfl,rfl⟩
 ·have e:=c2 h
  unfold bdY qI_ jj_;rw [e,decide_eq_false h];exact ⟨rfl,rfl⟩
theorem zjl_ {l:List Int}:qI_ l [] 0=l:=rfl
def hy_:IR:=
(sq (kr [0] [oD 1 (.boxv 0),
oD 2 (.mov (.c (.imm (.int .u8) []))),
oD 3 (.mov cF)])
(sq (kr [1] [oA 14 0 1,
oL 15 14,
oC 16 159 [15],
oM 13 16,
oX 17 13 0,
oX 18 13 1,
oX 19 13 2,
oM 4 17,
oM 5 18,
oM 6 19])
(sq (sq (kr [1,4,6] [oM 20 6,
oD 21 (.un .not 20),
oM 22 21,
oF 22 23 (.load (some 5) 1),
oF 22 24 (.call false (.f 160) [23]),
oF 22 25 (.bin .neq 24 (cI 0)),
oP 26 22 cT 25,
oM 27 26,
oF 27 28 (.fieldAddr 3 1),
oF 27 29 (.load none 28),
oF 27 30 (.call false (.f 177) [29]),
oF 27 31 (.un .not 30),
oP 32 27 cT 31])
(.cond 32
(sq (kr [] [oD 2 (.mov (.c (.imm (.int .u8) []))),
oD 3 (.mov cF)])
.ret)
.skip))
(sq (kr [1,4] [oM 33 4,
oC 34 114 [33],
oM 7 34])
(sq (kd [1,4,7] [(oA 35 0 1,[]),
(oL 36 35,[]),
(oB 37 .eql 36 (cI 3),[]),
(oM 38 37,[]),
(oF 38 39 (.fieldAddr 0 1),[]),
(oF 38 40 (.load none 39),[]),
(oF 38 41 (.bin .eql 40 (cI 4)),[]),
(oP 42 38 cT 41,[]),
(oA 43 0 1,[0,0,0,0,0,0,0,0]),
(oL 44 43,[1,0,0,0,0,0,0,0]),
(oB 45 .eql 44 (cI 65535),[2,0,0,0,0,0,0,0]),
(oM 8 42,[0,0,0]),
(oM 9 45,[])])
(sq (sq (kr [1,4,7,8,9] [oM 46 7,
oB 47 .lss 46 (cI 2),
oM 48 47,
oT 48 49 (.fieldAddr 2 1),
oT 48 50 (.load none 49),
oT 48 51 (.bin .neq 50 (.c (.int .u64 0))),
oP 52 48 51 cF,
oM 53 52,
oF 53 54 (.mov 7),
oF 53 55 (.bin .lss 54 (cI 1)),
oF 53 56 (.mov 55),
oT 56 57 (.fieldAddr 1 1),
oT 56 58 (.load none 57),
oT 56 59 (.bin .neq 58 (.c (.int .u64 0))),
oF 53 60 (.pick 56 59 cF),
oP 61 53 cT 60,
oM 62 61,
oF 62 63 (.mov 8),
oF 62 64 (.un .not 63),
oF 62 65 (.mov 64),
oT 65 66 (.fieldAddr 3 1),
oT 65 67 (.load none 66),
oT 65 68 (.len 67),
oT 65 69 (.bin .gtr 68 (cI 0)),
oF 62 70 (.pick 65 69 cF),
oP 71 62 cT 70,
oM 72 71,
oF 72 73 (.mov 9),
oF 72 74 (.un .not 73),
oF 72 75 (.mov 74),
oT 75 76 (.fieldAddr 4 1),
oT 75 77 (.load none 76),
oT 75 78 (.len 77),
oT 75 79 (.bin .gtr 78 (cI 0)),
oF 72 80 (.pick 75 79 cF),
oP 81 72 cT 80,
oM 82 81,
oF 82 83 (.fieldAddr 4 1),
oF 82 84 (.load none 83),
oF 82 85 (.len 84),
oF 82 86 (.bin .rem 85 (cI 8)),
oF 82 87 (.bin .neq 86 (cI 0)),
oP 88 82 cT 87])
(.cond 88
(sq (kr [] [oD 2 (.mov (.c (.imm (.int .u8) []))),
oD 3 (.mov cF)])
.ret)
.skip))
(sq (kr [1,4,7] [oC 89 27 [(cI 65524)],
oM 10 89])
(sq (kr [1,4,7,10] [oM 90 10,
oM 91 4,
oA 92 1 1,
oL 93 92,
oA 94 2 1,
oL 95 94,
oD 96 (.sliceAll (.int .u64) 2 [(0,1,93),(1,1,95)]),
oM 97 7,
oD 98 (.slice 1 96 none (some 97) none),
oC 99 28 [90,91,98]])
(sq (kr [1,10] [oM 100 10,
oA 101 3 1,
oL 102 101,
oC 103 178 [100,102]])
(sq (.reg [oM 104 10,
oA 105 4 1,
oL 106 105,
oC 107 65 [104,106]])
(sq (kr [10] [oM 109 10,
oC 110 29 [109],
oM 108 110,
oX 111 108 0,
oX 112 108 1,
oM 11 111,
oM 12 112])
(sq (kr [11,12] [oM 113 11,
oM 114 12,
oB 115 .eql 114 (cI 0),
oM 2 113,
oM 3 115])
.ret))))))))))))
def Gy_:List RD:=[.tmp 2 true (some (.int .u8)),.tmp 3 true none]
theorem G2_:zk_ Tryz.prog Tryz.f153 hy_ Gy_=true:=by kernel_rfl
def wS_:List AV->List Obj->Option (Prop × AV)
 | [.agg [.int .i64 tt,.int .u64 a,.int .u64 b,.imm ty0 c,.imm (.int .u8) d]],[]=>qb_ ty0 Y2 c fun c=>some ((okL c/\d.length<=1000000,.tup [.imm (.int .u8) (bdY ((tt,a,b,c,d,()):VIn)),.bool (bdO ((tt,a,b,c,d,()):VIn)).isSome]))
 | _,_=>none
theorem u0_:zd_ Tryz.prog 153 (RoF wS_).sum:=by
 refine zi_ Tryz.func153 G2_ (za_ (s:=RoF KT_) W3_ (za_ (s:=RoF kZ_) wZ_ (za_ (s:=RoF KX_) W7_ (za_ (s:=RoF QL_) kQ_ (za_ (s:=RwF Z6_) qg_ (za_ (s:=RwF zH_) zK_ (za_ (s:=RwF yJ_) H4_ (za_ (s:=RwF zv_) zB_ (za_ (s:=RwF Ze_) ZL_ (zc_ _)))))))))) fun args objs p v e=>?_
 unfold wS_ at e
 split at e
 ·rename_i tt a b ty0 c d
  obtain rfl:=zX_ e
  replace e:=zY_ e
  cases e
  refine ⟨rfl,fun hw ho hp=>?_⟩
  change List Int at d
  clear hw ho
  change List AC at c
  obtain ⟨hc,hd⟩:=hp
  have hroom:w1_ 65524=65524:=by decide
  have hwi:kI tt=true->0<=zo_ (wI tt)/\zo_ (wI tt)<=2:=fun h=>(zaI_ h).2
  have hlim:(qr_ (wI tt) ([a,b].take (zo_ (wI tt)).toNat) [] 65524 0).length<=1000000:=Ju_ (by decide) (by decide)
  have hlim2:=zk2_ (x:=c) (e:=qK_ (wI tt) ([a,b].take (zo_ (wI tt)).toNat) [] 65524 0) hlim (by decide:(65524:Int)<=1000000)
  have hlim3:=Q9_ (x:=d) (e:=apE c (qr_ (wI tt) ([a,b].take (zo_ (wI tt)).toNat) [] 65524 0) 65524 (qK_ (wI tt) ([a,b].take (zo_ (wI tt)).toNat) [] 65524 0)) hlim2 (by decide:(65524:Int)<=1000000)
  by_cases hG:gdI ((tt,a,b,c,d,()):VIn)=true/\rgL c=true
  ·obtain ⟨hG,hr⟩:=hG
   obtain ⟨b1,b2⟩:=zgC_ hG
   obtain ⟨g1,g2,g3,g4,g5,g6,g7⟩:=uE_.1 hG
   replace g1:kI tt=true:=g1
   replace g2:qI tt a b=0:=g2
   replace g3:2<=zo_ (wI tt)\/b=0:=g3
   replace g4:1<=zo_ (wI tt)\/a=0:=g4
   replace g5:(tt=3\/tt=4)\/c.length=0:=by
    rcases g5 with g | g
    ·left;unfold dI at g;simpa using g
    ·right;rw [show c=[] from g];rfl
   replace g6:tt=65535\/d.length=0:=by
    rcases g6 with g | g
    ·exact .inl g
    ·right;rw [show d=[] from g];rfl
   replace g7:(d.length:Int).tmod 8=0:=by
    have g:d.length % 8=0:=g7
    rw [Int.tmod_eq_emod_of_nonneg (by omega)];omega
   obtain ⟨w1,w2⟩:=hwi g1
   clear hwi
   repeat'(intro t ht;first|(cases t<;>first|(cases ht;done)|(try simp only[zg_]at ht;try(exfalso;first|contradiction|omega)))|((first|refine zb_ ht ?_|refine ht ?_ ?_|refine ht.1 ?_ ?_|refine ht ?_)<;>clear ht))
   all_goals first
    | exact True.intro
    | exact hc
    | exact (by decide:(8:Int) ≠ 0)
    | exact ⟨w1,w2⟩
    | (exfalso;simp_all;done)
    | (obtain ⟨q1,q2⟩:=zkZ_ hG;rw [<- q1,<- q2];exact ⟨rfl,rfl⟩)
    | exact ⟨by decide,by decide,by decide⟩
    | exact ⟨hc,by decide,by decide,hlim⟩
    | exact ⟨by decide,by decide,hlim2,hd⟩
    | exact ⟨Nat.le_trans hlim3 (by decide),by decide⟩
  ·have hno:bdY ((tt,a,b,c,d,()):VIn)=[]/\(bdO ((tt,a,b,c,d,()):VIn)).isSome=false:=by
    have:bdO ((tt,a,b,c,d,()):VIn)=none:=by
     cases hg:gdI ((tt,a,b,c,d,()):VIn) with
     | false=>exact zmw_ hg
     | true=>
       cases hr:rgL c with
       | false=>exact zmv_ (i:=((tt,a,b,c,d,()):VIn)) hr
       | true=>exact absurd ⟨hg,hr⟩ hG
    unfold bdY;rw [this];exact ⟨rfl,rfl⟩
   have hbad:¬ (kI tt=true/\qI tt a b=0/\(2<=zo_ (wI tt)\/b=0)/\(1<=zo_ (wI tt)\/a=0)/\((tt=3\/tt=4)\/c.length=0)/\(tt=65535\/d.length=0)/\(d.length:Int).tmod 8=0/\rgL c=true):=fun ⟨g1,g2,g3,g4,g5,g6,g7,g8⟩=>hG ⟨uE_.2 ⟨g1,g2,g3,g4,(by
    rcases g5 with g | g
    ·left;show dI tt=true;unfold dI;simpa using g
    ·right;exact List.eq_nil_of_length_eq_zero g),(by
    rcases g6 with g | g
    ·exact .inl g
    ·right;exact List.eq_nil_of_length_eq_zero g),(by
    rw [Int.tmod_eq_emod_of_nonneg (by omega)] at g7;show d.length % 8=0;omega)⟩,g8⟩
   clear hG hwi hlim3
   repeat'(intro t ht;first|(cases t<;>first|(cases ht;done)|(try simp only[zg_]at ht;try(exfalso;first|contradiction|omega)))|((first|refine zb_ ht ?_|refine ht ?_ ?_|refine ht.1 ?_ ?_|refine ht ?_)<;>clear ht))
   all_goals first
    | exact True.intro
    | exact hc
    | (rw [hno.1,hno.2];exact ⟨rfl,rfl⟩)
    | exact (by decide:(8:Int) ≠ 0)
    | (exfalso;refine hbad ⟨by assumption,by assumption,by omega,by omega,by omega,by omega,by assumption,by assumption⟩)
 ·cases e
end Go.Eng
