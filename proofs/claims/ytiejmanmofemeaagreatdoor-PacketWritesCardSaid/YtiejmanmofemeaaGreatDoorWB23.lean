/- Parts of the proof: X6, X7, X8, X9, XA. No condition. -/
import Derived.Test.YtiejmanmofemeaaGreatDoorProg
import Derived.Test.YtiejmanmofemeaaGreatDoorWB10
import Derived.KernelRfl
import Derived.Test.YtiejmanmofemeaaGreatDoorWB22
import Derived.Test.YtiejmanmofemeaaGreatDoorWB19
import Derived.Test.YtiejmanmofemeaaGreatDoorWB21
import Derived.Test.YtiejmanmofemeaaGreatDoorWB18
namespace Go.Eng
open Go.Proofs
set_option linter.unusedVariables false
set_option linter.unusedSimpArgs false
set_option maxRecDepth 100000
set_option maxHeartbeats 1000000
def GF_:IR:=
(sq (kr [0] [oD 2 (.mov cF)])
(sq (kr [0] [oM 3 0,
oB 4 .eql 3 (cI 10),
oM 5 4,
oF 5 6 (.mov 0),
oF 5 7 (.bin .eql 6 (cI 13)),
oP 8 5 cT 7,
oM 2 8])
.ret))
def gK_:List RD:=[.tmp 2 true none]
theorem Gc_:zn_ Tryz.prog Tryz.f32 GF_ gK_=true:=by kernel_rfl
def ke_:List AV->List Obj->Option (Prop × AV)
 | [.int .i64 t],[]=>some ((True,.bool (decide (t=10) || decide (t=13))))
 | _,_=>none
theorem KT_:zd_ Tryz.prog 32 (RoF ke_).sum:=by
 refine zi_ Tryz.func32 Gc_ (zc_ _) fun args objs p v e=>?_
 unfold ke_ at e
 split at e
 ·rename_i t
  cases e
  refine ⟨rfl,fun hw ho hp=>?_⟩
  repeat'(intro t ht;first|(cases t<;>first|(cases ht;done)|(try simp only[zg_]at ht;try(exfalso;first|contradiction|omega)))|((first|refine zb_ ht ?_|refine ht ?_ ?_|refine ht.1 ?_ ?_|refine ht ?_)<;>clear ht))
  all_goals first
   | exact True.intro
   | (refine ⟨congrArg AV.bool ?_,rfl⟩;simp_all;done)
 ·cases e
def zdS_:IR:=
(sq (kr [0] [oD 2 (.mov cF)])
(sq (kr [0] [oM 3 0,
oB 4 .eql 3 (cI 10),
oM 5 4,
oF 5 6 (.mov 0),
oF 5 7 (.bin .eql 6 (cI 13)),
oP 8 5 cT 7,
oM 2 8])
.ret))
def zcW_:List RD:=[.tmp 2 true none]
theorem zdm_:zn_ Tryz.prog Tryz.f33 zdS_ zcW_=true:=by kernel_rfl
def vE_:List AV->List Obj->Option (Prop × AV)
 | [.int .i64 t],[]=>some ((True,.bool (decide (t=10) || decide (t=13))))
 | _,_=>none
theorem BK_:zd_ Tryz.prog 33 (RoF vE_).sum:=by
 refine zi_ Tryz.func33 zdm_ (zc_ _) fun args objs p v e=>?_
 unfold vE_ at e
 split at e
 ·rename_i t
  cases e
  refine ⟨rfl,fun hw ho hp=>?_⟩
  repeat'(intro t ht;first|(cases t<;>first|(cases ht;done)|(try simp only[zg_]at ht;try(exfalso;first|contradiction|omega)))|((first|refine zb_ ht ?_|refine ht ?_ ?_|refine ht.1 ?_ ?_|refine ht ?_)<;>clear ht))
  all_goals first
   | exact True.intro
   | (refine ⟨congrArg AV.bool ?_,rfl⟩;simp_all;done)
 ·cases e
def we_:IR:=
(sq (kr [0] [oD 2 (.mov cF)])
(sq (.reg [oM 3 0,
oE 4 3,
oB 5 .eql 4 (cI 0),
oM 2 5])
.ret))
def JS_:List RD:=[.tmp 2 true none]
theorem J0_:zn_ Tryz.prog Tryz.f136 we_ JS_=true:=by kernel_rfl
def qD_:List AV->List Obj->Option (Prop × AV)
 | [.imm (.cons (.int .i64) (.cons (.sl (.int .u8)) .nil)) l],[]=>some ((True,.bool (decide ((l.length:Int)=0))))
 | _,_=>none
theorem j6_:zd_ Tryz.prog 136 (RoF qD_).sum:=by
 refine zi_ Tryz.func136 J0_ (zc_ _) fun args objs p v e=>?_
 unfold qD_ at e
 split at e
 ·rename_i l
  cases e
  refine ⟨rfl,fun hw ho hp=>?_⟩
  repeat'(intro t ht;first|(cases t<;>first|(cases ht;done)|(try simp only[zg_]at ht))|((first|refine zb_ ht ?_|refine ht ?_ ?_|refine ht.1 ?_ ?_|refine ht ?_)<;>clear ht))
  all_goals first
   | exact True.intro
   | exact ⟨rfl,rfl⟩
 ·cases e
def Wu_:IR:=
(sq (kr [0] [oD 2 (.mov cF)])
(sq (.reg [oM 3 0,
oE 4 3,
oB 5 .eql 4 (cI 0),
oM 2 5])
.ret))
def wZ_:List RD:=[.tmp 2 true none]
theorem Wf_:zn_ Tryz.prog Tryz.f137 Wu_ wZ_=true:=by kernel_rfl
def q0_:List AV->List Obj->Option (Prop × AV)
 | [.imm (.cons (.int .i64) (.cons (.int .i64) (.cons .bool (.cons (.int .u64) (.cons (.sl (.int .u8)) (.cons (.sl (.int .u8)) .nil)))))) l],[]=>some ((True,.bool (decide ((l.length:Int)=0))))
 | _,_=>none
theorem JE_:zd_ Tryz.prog 137 (RoF q0_).sum:=by
 refine zi_ Tryz.func137 Wf_ (zc_ _) fun args objs p v e=>?_
 unfold q0_ at e
 split at e
 ·rename_i l
  cases e
  refine ⟨rfl,fun hw ho hp=>?_⟩
  repeat'(intro t ht;first|(cases t<;>first|(cases ht;done)|(try simp only[zg_]at ht))|((first|refine zb_ ht ?_|refine ht ?_ ?_|refine ht.1 ?_ ?_|refine ht ?_)<;>clear ht))
  all_goals first
   | exact True.intro
   | exact ⟨rfl,rfl⟩
 ·cases e
def Ww_:IR:=
(sq (kr [0] [oD 2 (.mov cF)])
(sq (.reg [oM 3 0,
oE 4 3,
oB 5 .eql 4 (cI 0),
oM 2 5])
.ret))
def w1_:List RD:=[.tmp 2 true none]
theorem Wh_:zn_ Tryz.prog Tryz.f138 Ww_ w1_=true:=by kernel_rfl
def q2_:List AV->List Obj->Option (Prop × AV)
 | [.imm ty0 l],[]=>qb_ ty0 Y2 l fun l=>some ((True,.bool (decide ((l.length:Int)=0))))
 | _,_=>none
theorem JG_:zd_ Tryz.prog 138 (RoF q2_).sum:=by
 refine zi_ Tryz.func138 Wh_ (zc_ _) fun args objs p v e=>?_
 unfold q2_ at e
 split at e
 ·rename_i ty0 l
  obtain rfl:=zZ_ e
  replace e:=z0_ e
  cases e
  refine ⟨rfl,fun hw ho hp=>?_⟩
  repeat'(intro t ht;first|(cases t<;>first|(cases ht;done)|(try simp only[zg_]at ht))|((first|refine zb_ ht ?_|refine ht ?_ ?_|refine ht.1 ?_ ?_|refine ht ?_)<;>clear ht))
  all_goals first
   | exact True.intro
   | exact ⟨rfl,rfl⟩
 ·cases e
def Wv_:IR:=
(sq (kr [0] [oD 2 (.mov cF)])
(sq (.reg [oM 3 0,
oE 4 3,
oB 5 .eql 4 (cI 0),
oM 2 5])
.ret))
def w0_:List RD:=[.tmp 2 true none]
theorem Wg_:zn_ Tryz.prog Tryz.f139 Wv_ w0_=true:=by kernel_rfl
def q1_:List AV->List Obj->Option (Prop × AV)
 | [.imm ty0 l],[]=>qb_ ty0 Y3 l fun l=>some ((True,.bool (decide ((l.length:Int)=0))))
 | _,_=>none
theorem JF_:zd_ Tryz.prog 139 (RoF q1_).sum:=by
 refine zi_ Tryz.func139 Wg_ (zc_ _) fun args objs p v e=>?_
 unfold q1_ at e
 split at e
 ·rename_i ty0 l
  obtain rfl:=zZ_ e
  replace e:=z0_ e
  cases e
  refine ⟨rfl,fun hw ho hp=>?_⟩
  repeat'(intro t ht;first|(cases t<;>first|(cases ht;done)|(try simp only[zg_]at ht))|((first|refine zb_ ht ?_|refine ht ?_ ?_|refine ht.1 ?_ ?_|refine ht ?_)<;>clear ht))
  all_goals first
   | exact True.intro
   | exact ⟨rfl,rfl⟩
 ·cases e
def jR_:IR:=
(sq (kr [0] [oD 2 (.mov cF)])
(sq (.reg [oM 3 0,
oE 4 3,
oB 5 .eql 4 (cI 0),
oM 2 5])
.ret))
def jL_:List RD:=[.tmp 2 true none]
theorem jP_:zn_ Tryz.prog Tryz.f140 jR_ jL_=true:=by kernel_rfl
def ql_:List AV->List Obj->Option (Prop × AV)
 | [.imm ty0 l],[]=>qb_ ty0 Y4 l fun l=>some ((True,.bool (decide ((l.length:Int)=0))))
 | _,_=>none
theorem ji_:zd_ Tryz.prog 140 (RoF ql_).sum:=by
 refine zi_ Tryz.func140 jP_ (zc_ _) fun args objs p v e=>?_
 unfold ql_ at e
 split at e
 ·rename_i ty0 l
  obtain rfl:=zZ_ e
  replace e:=z0_ e
  cases e
  refine ⟨rfl,fun hw ho hp=>?_⟩
  repeat'(intro t ht;first|(cases t<;>first|(cases ht;done)|(try simp only[zg_]at ht))|((first|refine zb_ ht ?_|refine ht ?_ ?_|refine ht.1 ?_ ?_|refine ht ?_)<;>clear ht))
  all_goals first
   | exact True.intro
   | exact ⟨rfl,rfl⟩
 ·cases e
def wf_:IR:=
(sq (kr [0] [oD 2 (.mov cF)])
(sq (.reg [oM 3 0,
oE 4 3,
oB 5 .eql 4 (cI 0),
oM 2 5])
.ret))
def JT_:List RD:=[.tmp 2 true none]
theorem J1_:zn_ Tryz.prog Tryz.f141 wf_ JT_=true:=by kernel_rfl
def qE_:List AV->List Obj->Option (Prop × AV)
 | [.imm (.cons (.int .i64) (.cons (.int .u64) (.cons (.int .u64) (.cons (.int .u64) (.cons (.sl (.int .u8)) .nil))))) l],[]=>some ((True,.bool (decide ((l.length:Int)=0))))
 | _,_=>none
theorem j7_:zd_ Tryz.prog 141 (RoF qE_).sum:=by
 refine zi_ Tryz.func141 J1_ (zc_ _) fun args objs p v e=>?_
 unfold qE_ at e
 split at e
 ·rename_i l
  cases e
  refine ⟨rfl,fun hw ho hp=>?_⟩
  repeat'(intro t ht;first|(cases t<;>first|(cases ht;done)|(try simp only[zg_]at ht))|((first|refine zb_ ht ?_|refine ht ?_ ?_|refine ht.1 ?_ ?_|refine ht ?_)<;>clear ht))
  all_goals first
   | exact True.intro
   | exact ⟨rfl,rfl⟩
 ·cases e
def Jf_:IR:=
(sq (kr [0] [oD 2 (.mov cF)])
(sq (.reg [oM 3 0,
oE 4 3,
oB 5 .eql 4 (cI 0),
oM 2 5])
.ret))
def Jc_:List RD:=[.tmp 2 true none]
theorem Je_:zn_ Tryz.prog Tryz.f142 Jf_ Jc_=true:=by kernel_rfl
def qt_:List AV->List Obj->Option (Prop × AV)
 | [.imm (.cons (.int .u64) (.cons (.int .u64) (.cons (.sl (.cons (.int .i64) (.cons (.int .u64) (.cons (.sl (.int .u8)) .nil)))) .nil))) l],[]=>some ((True,.bool (decide ((l.length:Int)=0))))
 | _,_=>none
theorem jI_:zd_ Tryz.prog 142 (RoF qt_).sum:=by
 refine zi_ Tryz.func142 Je_ (zc_ _) fun args objs p v e=>?_
 unfold qt_ at e
 split at e
 ·rename_i l
  cases e
  refine ⟨rfl,fun hw ho hp=>?_⟩
  repeat'(intro t ht;first|(cases t<;>first|(cases ht;done)|(try simp only[zg_]at ht))|((first|refine zb_ ht ?_|refine ht ?_ ?_|refine ht.1 ?_ ?_|refine ht ?_)<;>clear ht))
  all_goals first
   | exact True.intro
   | exact ⟨rfl,rfl⟩
 ·cases e
def wc_:IR:=
(sq (kr [0] [oD 2 (.mov cF)])
(sq (.reg [oM 3 0,
oE 4 3,
oB 5 .eql 4 (cI 0),
oM 2 5])
.ret))
def JQ_:List RD:=[.tmp 2 true none]
theorem JY_:zn_ Tryz.prog Tryz.f143 wc_ JQ_=true:=by kernel_rfl
def qB_:List AV->List Obj->Option (Prop × AV)
 | [.imm ty0 l],[]=>qb_ ty0 Y8 l fun l=>some ((True,.bool (decide ((l.length:Int)=0))))
 | _,_=>none
theorem j4_:zd_ Tryz.prog 143 (RoF qB_).sum:=by
 refine zi_ Tryz.func143 JY_ (zc_ _) fun args objs p v e=>?_
 unfold qB_ at e
 split at e
 ·rename_i ty0 l
  obtain rfl:=zZ_ e
  replace e:=z0_ e
  cases e
  refine ⟨rfl,fun hw ho hp=>?_⟩
  repeat'(intro t ht;first|(cases t<;>first|(cases ht;done)|(try simp only[zg_]at ht))|((first|refine zb_ ht ?_|refine ht ?_ ?_|refine ht.1 ?_ ?_|refine ht ?_)<;>clear ht))
  all_goals first
   | exact True.intro
   | exact ⟨rfl,rfl⟩
 ·cases e
def wd_:IR:=
(sq (kr [0] [oD 2 (.mov cF)])
(sq (.reg [oM 3 0,
oE 4 3,
oB 5 .eql 4 (cI 0),
oM 2 5])
.ret))
def JR_:List RD:=[.tmp 2 true none]
theorem JZ_:zn_ Tryz.prog Tryz.f144 wd_ JR_=true:=by kernel_rfl
def qC_:List AV->List Obj->Option (Prop × AV)
 | [.imm ty0 l],[]=>qb_ ty0 YC l fun l=>some ((True,.bool (decide ((l.length:Int)=0))))
 | _,_=>none
theorem j5_:zd_ Tryz.prog 144 (RoF qC_).sum:=by
 refine zi_ Tryz.func144 JZ_ (zc_ _) fun args objs p v e=>?_
 unfold qC_ at e
 split at e
 ·rename_i ty0 l
  obtain rfl:=zZ_ e
  replace e:=z0_ e
  cases e
  refine ⟨rfl,fun hw ho hp=>?_⟩
  repeat'(intro t ht;first|(cases t<;>first|(cases ht;done)|(try simp only[zg_]at ht))|((first|refine zb_ ht ?_|refine ht ?_ ?_|refine ht.1 ?_ ?_|refine ht ?_)<;>clear ht))
  all_goals first
   | exact True.intro
   | exact ⟨rfl,rfl⟩
 ·cases e
def xl_:IR:=
(sq (kr [0] [oD 2 (.mov cF)])
(sq (.reg [oM 3 0,
oE 4 3,
oB 5 .eql 4 (cI 0),
oM 2 5])
.ret))
def W0_:List RD:=[.tmp 2 true none]
theorem W8_:zn_ Tryz.prog Tryz.f145 xl_ W0_=true:=by kernel_rfl
def Qk_:List AV->List Obj->Option (Prop × AV)
 | [.imm (.int .u64) l],[]=>some ((True,.bool (decide ((l.length:Int)=0))))
 | _,_=>none
theorem wW_:zd_ Tryz.prog 145 (RoF Qk_).sum:=by
 refine zi_ Tryz.func145 W8_ (zc_ _) fun args objs p v e=>?_
 unfold Qk_ at e
 split at e
 ·rename_i l
  cases e
  refine ⟨rfl,fun hw ho hp=>?_⟩
  change List Int at l
  repeat'(intro t ht;first|(cases t<;>first|(cases ht;done)|(try simp only[zg_]at ht))|((first|refine zb_ ht ?_|refine ht ?_ ?_|refine ht.1 ?_ ?_|refine ht ?_)<;>clear ht))
  all_goals first
   | exact True.intro
   | exact ⟨rfl,rfl⟩
 ·cases e
def yb_:IR:=
(sq (kr [0] [oD 2 (.mov cF)])
(sq (.reg [oM 3 0,
oE 4 3,
oB 5 .eql 4 (cI 0),
oM 2 5])
.ret))
def X2_:List RD:=[.tmp 2 true none]
theorem X6_:zn_ Tryz.prog Tryz.f146 yb_ X2_=true:=by kernel_rfl
def kg_:List AV->List Obj->Option (Prop × AV)
 | [.imm (.int .u8) l],[]=>some ((True,.bool (decide ((l.length:Int)=0))))
 | _,_=>none
theorem Xu_:zd_ Tryz.prog 146 (RoF kg_).sum:=by
 refine zi_ Tryz.func146 X6_ (zc_ _) fun args objs p v e=>?_
 unfold kg_ at e
 split at e
 ·rename_i l
  cases e
  refine ⟨rfl,fun hw ho hp=>?_⟩
  change List Int at l
  repeat'(intro t ht;first|(cases t<;>first|(cases ht;done)|(try simp only[zg_]at ht))|((first|refine zb_ ht ?_|refine ht ?_ ?_|refine ht.1 ?_ ?_|refine ht ?_)<;>clear ht))
  all_goals first
   | exact True.intro
   | exact ⟨rfl,rfl⟩
 ·cases e
def GP_:IR:=
(sq (kr [0] [oD 1 (.boxv 0),
oD 2 (.mov cF)])
(sq (kr [1] [oA 4 4 1,
oL 5 4,
oC 6 136 [5],
oM 7 6,
oT 7 8 (.fieldAddr 5 1),
oT 7 9 (.load none 8),
oT 7 10 (.call false (.f 137) [9]),
oP 11 7 10 cF,
oM 12 11,
oT 12 13 (.fieldAddr 6 1),
oT 12 14 (.load none 13),
oT 12 15 (.call false (.f 138) [14]),
oP 16 12 15 cF,
oM 17 16,
oT 17 18 (.fieldAddr 7 1),
oT 17 19 (.load none 18),
oT 17 20 (.call false (.f 139) [19]),
oP 21 17 20 cF,
oM 22 21,
oT 22 23 (.fieldAddr 8 1),
oT 22 24 (.load none 23),
oT 22 25 (.call false (.f 140) [24]),
oP 26 22 25 cF,
oM 27 26,
oT 27 28 (.fieldAddr 9 1),
oT 27 29 (.load none 28),
oT 27 30 (.call false (.f 141) [29]),
oP 31 27 30 cF,
oM 32 31,
oT 32 33 (.fieldAddr 10 1),
oT 32 34 (.load none 33),
oT 32 35 (.call false (.f 142) [34]),
oP 36 32 35 cF,
oM 37 36,
oT 37 38 (.fieldAddr 11 1),
oT 37 39 (.load none 38),
oT 37 40 (.call false (.f 143) [39]),
oP 41 37 40 cF,
oM 42 41,
oT 42 43 (.fieldAddr 14 1),
oT 42 44 (.load none 43),
oT 42 45 (.call false (.f 144) [44]),
oP 46 42 45 cF,
oM 3 46])
(sq (kr [1,3] [oM 47 3,
oM 48 47,
oT 48 49 (.fieldAddr 2 1),
oT 48 50 (.load none 49),
oT 48 51 (.call false (.f 145) [50]),
oP 52 48 51 cF,
oM 53 52,
oT 53 54 (.fieldAddr 3 1),
oT 53 55 (.load none 54),
oT 53 56 (.call false (.f 146) [55]),
oP 57 53 56 cF,
oM 58 57,
oT 58 59 (.fieldAddr 12 1),
oT 58 60 (.load none 59),
oT 58 61 (.bin .eql 60 (cI 0)),
oP 62 58 61 cF,
oM 63 62,
oT 63 64 (.fieldAddr 13 1),
oT 63 65 (.load none 64),
oT 63 66 (.bin .eql 65 (cI 0)),
oP 67 63 66 cF,
oM 2 67])
.ret)))
def gU_:List RD:=[.tmp 2 true none]
theorem Gm_:zn_ Tryz.prog Tryz.f80 GP_ gU_=true:=by kernel_rfl
def wK_:List AV->List Obj->Option (Prop × AV)
 | [.agg zz0],[]=>K1_ YD zz0 fun ⟨t,xi,n,d,el,x,a,ins,bu,ba,qu,po,ki,fl,pa,_⟩=>some ((True,.bool (kt_ (t,xi,n,d,el,x,a,ins,bu,ba,qu,po,ki,fl,pa,()))))
 | _,_=>none
theorem uD_:zd_ Tryz.prog 80 (RoF wK_).sum:=by
 refine zi_ Tryz.func80 Gm_ (za_ (s:=RoF qD_) j6_ (za_ (s:=RoF q0_) JE_ (za_ (s:=RoF q2_) JG_ (za_ (s:=RoF q1_) JF_ (za_ (s:=RoF ql_) ji_ (za_ (s:=RoF qE_) j7_ (za_ (s:=RoF qt_) jI_ (za_ (s:=RoF qB_) j4_ (za_ (s:=RoF qC_) j5_ (za_ (s:=RoF Qk_) wW_ (za_ (s:=RoF kg_) Xu_ (zc_ _)))))))))))) fun args objs p v e=>?_
 unfold wK_ at e
 split at e
 ·rename_i zz0
  replace e:=qk_ e
  obtain ⟨⟨t,xi,n,d,el,x,a,ins,bu,ba,qu,po,ki,fl,pa,_⟩,hz,e⟩:=e
  replace hz:zz0=[.int .i64 t,.int .u32 xi,.imm (.int .u64) n,.imm (.int .u8) d,.imm YB el,.imm Y1 x,.imm Y2 a,.imm Y3 ins,.imm Y4 bu,.imm Y5 ba,.imm Y7 qu,.imm Y8 po,.int .i64 ki,.int .i64 fl,.imm YC pa]:=hz
  subst hz
  change Int at t
  change Int at xi
  change Int at ki
  change Int at fl
  cases e
  refine ⟨rfl,fun hw ho hp=>?_⟩
  change List Int at n
  change List Int at d
  clear hw ho
  repeat'(intro t ht;first|(cases t<;>first|(cases ht;done)|(try simp only[zg_]at ht;try(exfalso;first|contradiction|omega)))|((first|refine zb_ ht ?_|refine ht ?_ ?_|refine ht.1 ?_ ?_|refine ht ?_)<;>clear ht))
  all_goals first
   | exact True.intro
   | (refine ⟨congrArg AV.bool ?_,rfl⟩;rw [Bool.eq_iff_iff];unfold kt_;simp only [Bool.and_eq_true,decide_eq_true_eq,reduceCtorEq,true_iff,false_iff];omega)
 ·cases e
def zbt_:IR:=
(sq (kr [0] [oD 1 (.boxv 0),
oD 2 (.mov cF)])
(sq (kr [1] [oA 3 2 1,
oL 4 3,
oE 5 4,
oB 6 .eql 5 (cI 0),
oM 7 6,
oT 7 8 (.fieldAddr 3 1),
oT 7 9 (.load none 8),
oT 7 10 (.len 9),
oT 7 11 (.bin .eql 10 (cI 0)),
oP 12 7 11 cF,
oM 13 12,
oT 13 14 (.fieldAddr 4 1),
oT 13 15 (.load none 14),
oT 13 16 (.len 15),
oT 13 17 (.bin .eql 16 (cI 0)),
oP 18 13 17 cF,
oM 19 18,
oT 19 20 (.fieldAddr 5 1),
oT 19 21 (.load none 20),
oT 19 22 (.len 21),
oT 19 23 (.bin .eql 22 (cI 0)),
oP 24 19 23 cF,
oM 25 24,
oT 25 26 (.fieldAddr 6 1),
oT 25 27 (.load none 26),
oT 25 28 (.len 27),
oT 25 29 (.bin .eql 28 (cI 0)),
oP 30 25 29 cF,
oM 31 30,
oT 31 32 (.fieldAddr 7 1),
oT 31 33 (.load none 32),
oT 31 34 (.len 33),
oT 31 35 (.bin .eql 34 (cI 0)),
oP 36 31 35 cF,
oM 37 36,
oT 37 38 (.fieldAddr 8 1),
oT 37 39 (.load none 38),
oT 37 40 (.len 39),
oT 37 41 (.bin .eql 40 (cI 0)),
oP 42 37 41 cF,
oM 43 42,
oT 43 44 (.fieldAddr 9 1),
oT 43 45 (.load none 44),
oT 43 46 (.len 45),
oT 43 47 (.bin .eql 46 (cI 0)),
oP 48 43 47 cF,
oM 49 48,
oT 49 50 (.fieldAddr 10 1),
oT 49 51 (.load none 50),
oT 49 52 (.len 51),
oT 49 53 (.bin .eql 52 (cI 0)),
oP 54 49 53 cF,
oM 55 54,
oT 55 56 (.fieldAddr 11 1),
oT 55 57 (.load none 56),
oT 55 58 (.len 57),
oT 55 59 (.bin .eql 58 (cI 0)),
oP 60 55 59 cF,
oM 61 60,
oT 61 62 (.fieldAddr 12 1),
oT 61 63 (.load none 62),
oT 61 64 (.bin .eql 63 (cI 0)),
oP 65 61 64 cF,
oM 66 65,
oT 66 67 (.fieldAddr 13 1),
oT 66 68 (.load none 67),
oT 66 69 (.bin .eql 68 (cI 0)),
oP 70 66 69 cF,
oM 71 70,
oT 71 72 (.fieldAddr 14 1),
oT 71 73 (.load none 72),
oT 71 74 (.len 73),
oT 71 75 (.bin .eql 74 (cI 0)),
oP 76 71 75 cF,
oM 2 76])
.ret))
def B5_:List RD:=[.tmp 2 true none]
theorem zaG_:zn_ Tryz.prog Tryz.f85 zbt_ B5_=true:=by kernel_rfl
def yr_:List AV->List Obj->Option (Prop × AV)
 | [.agg zz0],[]=>K1_ YD zz0 fun ⟨t,xi,n,d,el,x,a,ins,bu,ba,qu,po,ki,fl,pa,_⟩=>some ((True,.bool (kt_ (t,xi,n,d,el,x,a,ins,bu,ba,qu,po,ki,fl,pa,()))))
 | _,_=>none
theorem h7_:zd_ Tryz.prog 85 (RoF yr_).sum:=by
 refine zi_ Tryz.func85 zaG_ (zc_ _) fun args objs p v e=>?_
 unfold yr_ at e
 split at e
 ·rename_i zz0
  replace e:=qk_ e
  obtain ⟨⟨t,xi,n,d,el,x,a,ins,bu,ba,qu,po,ki,fl,pa,_⟩,hz,e⟩:=e
  replace hz:zz0=[.int .i64 t,.int .u32 xi,.imm (.int .u64) n,.imm (.int .u8) d,.imm YB el,.imm Y1 x,.imm Y2 a,.imm Y3 ins,.imm Y4 bu,.imm Y5 ba,.imm Y7 qu,.imm Y8 po,.int .i64 ki,.int .i64 fl,.imm YC pa]:=hz
  subst hz
  change Int at t
  change Int at xi
  change Int at ki
  change Int at fl
  cases e
  refine ⟨rfl,fun hw ho hp=>?_⟩
  change List Int at n
  change List Int at d
  clear hw ho
  repeat'(intro t ht;first|(cases t<;>first|(cases ht;done)|(try simp only[zg_]at ht;try(exfalso;first|contradiction|omega)))|((first|refine zb_ ht ?_|refine ht ?_ ?_|refine ht.1 ?_ ?_|refine ht ?_)<;>clear ht))
  all_goals first
   | exact True.intro
   | (refine ⟨congrArg AV.bool ?_,rfl⟩;rw [Bool.eq_iff_iff];unfold kt_;simp only [Bool.and_eq_true,decide_eq_true_eq,reduceCtorEq,true_iff,false_iff];omega)
 ·cases e
theorem zll_ {t:Int} {n d:List Int} {x:List OV} {a:List AC} {l:List Int} {e:Int} (h1:¬ t=10) (h2:¬ t=13):pkB t n d x a l e=l/\pkE t n d x a l e=zs_ e 10001/\(decide (t=10) && !Zy_ n d)=false/\(decide (t=13) && !Zr_ n d)=false:=by
 unfold pkB pkE;rw [if_neg h1,if_neg h2,if_neg h1,if_neg h2,decide_eq_false h1,decide_eq_false h2];exact ⟨rfl,rfl,rfl,rfl⟩
theorem zkc_ {n d:List Int} {x:List OV} {a:List AC} {l:List Int} {e:Int} (h:Zy_ n d=true):pkB 10 n d x a l e=l/\pkE 10 n d x a l e=zs_ e 10001/\(decide ((10:Int)=10) && !Zy_ n d)=false/\(decide ((10:Int)=13) && !Zr_ n d)=false:=by
 unfold pkB pkE;rw [if_pos rfl,if_pos h,if_pos rfl,if_pos h,h];exact ⟨rfl,rfl,rfl,rfl⟩
theorem zln_ {n d:List Int} {x:List OV} {a:List AC} {l:List Int} {e:Int} (h:Zy_ n d=false):pkB 10 n d x a l e=p10B n x l e/\pkE 10 n d x a l e=p10E n x l e/\(decide ((10:Int)=10) && !Zy_ n d)=true/\(decide ((10:Int)=13) && !Zr_ n d)=false:=by
 unfold pkB pkE;rw [if_pos rfl,if_neg (by rw [h];decide),if_pos rfl,if_neg (by rw [h];decide),h];exact ⟨rfl,rfl,rfl,rfl⟩
theorem zkb_ {n d:List Int} {x:List OV} {a:List AC} {l:List Int} {e:Int} (h:Zr_ n d=true):pkB 13 n d x a l e=l/\pkE 13 n d x a l e=zs_ e 10001/\(decide ((13:Int)=10) && !Zy_ n d)=false/\(decide ((13:Int)=13) && !Zr_ n d)=false:=by
 unfold pkB pkE;rw [if_neg (by decide),if_pos rfl,if_pos h,if_neg (by decide),if_pos rfl,if_pos h,h];exact ⟨rfl,rfl,rfl,rfl⟩
theorem zlm_ {n d:List Int} {x:List OV} {a:List AC} {l:List Int} {e:Int} (h:Zr_ n d=false):pkB 13 n d x a l e=p13B n a l e/\pkE 13 n d x a l e=p13E n a l e/\(decide ((13:Int)=10) && !Zy_ n d)=false/\(decide ((13:Int)=13) && !Zr_ n d)=true:=by
 unfold pkB pkE;rw [if_neg (by decide),if_pos rfl,if_neg (by rw [h];decide),if_neg (by decide),if_pos rfl,if_neg (by rw [h];decide),h];exact ⟨rfl,rfl,rfl,rfl⟩
theorem zjk_ {n d:List Int} (h:Zy_ n d=true):2 < nz3 n 2\/nz3 n 1 < (d.length:Int):=by
 unfold Zy_ at h;simpa using h
theorem zjl_ {n d:List Int} (h:Zy_ n d=false):¬ 2 < nz3 n 2/\¬ nz3 n 1 < (d.length:Int):=by
 unfold Zy_ at h;rw [Bool.or_eq_false_iff,decide_eq_false_iff_not,decide_eq_false_iff_not] at h;exact h
theorem zji_ {n d:List Int} (h:Zr_ n d=true):nz3 n 1=0\/(¬ nz3 n 0=4294967295/\0 < d.length):=by
 unfold Zr_ at h;simpa using h
theorem zjj_ {n d:List Int} (h:Zr_ n d=false):¬ nz3 n 1=0/\¬ (¬ nz3 n 0=4294967295/\0 < d.length):=by
 unfold Zr_ at h;rw [Bool.or_eq_false_iff,decide_eq_false_iff_not,Bool.and_eq_false_iff,decide_eq_false_iff_not,decide_eq_false_iff_not] at h
 exact ⟨h.1,fun c=>h.2.elim (fun k=>k c.1) fun k=>k c.2⟩
theorem zeO_ {room:Int} (hr:room<=1000000):∀ (r:List OV) (l:List Int) (e:Int),l.length<=1000000->(puS room r l e).1.length<=1000000
 | [],l,e,h=>h
 | o :: r,l,e,h=>by unfold puS;exact zeO_ hr r _ _ (Kc_ h hr)
theorem zeY_ {x:List OV} {l:List Int} {room e:Int} (h:l.length<=1000000) (hr:room<=1000000):(mpB x l room e).length<=1000000:=by
 unfold mpB;split
 ·refine Kc_ ?_ hr
  unfold mpS;exact zeO_ hr _ _ _ (Qq_ h hr)
 ·exact h
def GD_:IR:=
(sq (kr [0,1] [oD 5 (.slice0 (.int .u64)),
oM 6 1,
oD 7 (.nilck 6),
oA 8 2 7,
oL 9 8,
oD 10 (.append (.int .u64) 8 5 9),
oD 11 (.sliceAll (.int .u64) 3 [(0,1,(.c (.int .u64 0))),(1,1,(.c (.int .u64 0))),(2,1,(.c (.int .u64 0)))]),
oD 12 (.append (.int .u64) 8 10 11),
oM 4 12])
(sq (.block 0
(sq (.block 5
(sq (.block 4
(sq (.block 3
(sq (.block 2
(.block 1
(sq (sq (sq (kd [0,1,4] [(oM 14 1,[]),
(oD 15 (.nilck 14),[]),
(oA 16 0 15,[]),
(oL 17 16,[]),
(oB 18 .eql 17 (cI 10),[]),
(oM 19 18,[]),
(oT 19 20 (.mov 4),[]),
(oT 19 21 (.indexSl 1 20 (cI 2)),[]),
(oT 19 22 (.load none 21),[]),
(oT 19 23 (.bin .gtr 22 (.c (.int .u64 2))),[]),
(oT 19 24 (.mov 23),[]),
(oF 24 25 (.mov 1),[]),
(oF 24 26 (.nilck 25),[]),
(oF 24 27 (.fieldAddr 3 26),[]),
(oF 24 28 (.load none 27),[]),
(oF 24 29 (.len 28),[]),
(oF 24 30 (.conv .u64 29),[]),
(oF 24 31 (.mov 4),[0,0,0,0,0,0]),
(oF 24 32 (.indexSl 1 31 (cI 1)),[1,0,0,0,0,0]),
(oF 24 33 (.load none 32),[2,0,0,0,0,0]),
(oF 24 34 (.bin .gtr 30 33),[]),
(oT 19 35 (.pick 24 cT 34),[]),
(oP 36 19 35 cF,[]),
(oM 13 36,[])])
(.cond 13
(.exit 1)
.skip))
(sq (sq (kr [0,1,4] [oM 38 1,
oD 39 (.nilck 38),
oA 40 0 39,
oL 41 40,
oB 42 .eql 41 (cI 13),
oM 43 42,
oT 43 44 (.mov 4),
oT 43 45 (.indexSl 1 44 (cI 1)),
oT 43 46 (.load none 45),
oT 43 47 (.bin .eql 46 (.c (.int .u64 0))),
oT 43 48 (.mov 47),
oF 48 49 (.mov 4),
oF 48 50 (.indexSl 1 49 (cI 0)),
oF 48 51 (.load none 50),
oF 48 52 (.bin .neq 51 (.c (.int .u64 4294967295))),
oF 48 53 (.mov 52),
oT 53 54 (.mov 1),
oT 53 55 (.nilck 54),
oT 53 56 (.fieldAddr 3 55),
oT 53 57 (.load none 56),
oT 53 58 (.len 57),
oT 53 59 (.bin .gtr 58 (cI 0)),
oF 48 60 (.pick 53 59 cF),
oT 43 61 (.pick 48 cT 60),
oP 62 43 61 cF,
oM 37 62])
(.cond 37
(.exit 2)
.skip))
(sq (sq (kr [0,1] [oM 64 1,
oD 65 (.nilck 64),
oA 66 0 65,
oL 67 66,
oB 68 .eql 67 (cI 10),
oM 63 68])
(.cond 63
(.exit 3)
.skip))
(sq (kr [0,1] [oM 70 1,
oD 71 (.nilck 70),
oA 72 0 71,
oL 73 72,
oB 74 .eql 73 (cI 13),
oM 69 74])
(.cond 69
(.exit 4)
.skip)))))
(.exit 5))))
(sq (kr [0,1] [oM 75 0,
oC 76 103 [75,(cI 10001)]])
(.exit 0))))
(sq (sq (kr [0,1] [oM 77 0,
oD 78 (.sliceAll (.int .i64) 5 [(0,1,(cI 4)),(1,1,(cI 2)),(2,1,(cI 1)),(3,1,(cI 1)),(4,1,(cI 8))]),
oM 79 1,
oD 80 (.nilck 79),
oA 81 2 80,
oL 82 81,
oC 83 99 [77,78,82]])
(sq (kr [0,1] [oM 84 0,
oM 85 1,
oD 86 (.nilck 85),
oA 87 5 86,
oL 88 87,
oC 89 101 [84,88]])
(sq (.reg [oM 90 0,
oD 91 (.sliceAll (.int .i64) 1 [(0,1,(cI (-2)))]),
oC 92 99 [90,91,(.c (.imm (.int .u64) []))]])
(kr [0,1] [oM 93 1,
oD 94 (.nilck 93),
oA 95 5 94,
oN (.store 1 95 (.c (.imm Y1 [])))]))))
(.exit 0))))
(sq (sq (kr [0,1] [oM 96 0,
oD 97 (.sliceAll (.int .i64) 2 [(0,1,(cI 4)),(1,1,(cI 4))]),
oM 98 1,
oD 99 (.nilck 98),
oA 100 2 99,
oL 101 100,
oC 102 99 [96,97,101]])
(sq (kr [0,1] [oM 103 0,
oD 104 (.sliceAll (.int .i64) 2 [(0,1,(cI 2)),(1,1,(cI (-6)))]),
oM 105 1,
oD 106 (.nilck 105),
oA 107 6 106,
oL 108 107,
oC 109 133 [108],
oD 110 (.conv .u64 109),
oD 111 (.sliceAll (.int .u64) 1 [(0,1,110)]),
oC 112 99 [103,104,111]])
(sq (kr [0,1] [oM 113 0,
oM 114 1,
oD 115 (.nilck 114),
oA 116 6 115,
oL 117 116,
oC 118 134 [113,117]])
(.reg [oM 119 1,
oD 120 (.nilck 119),
oA 121 6 120,
oN (.store 1 121 (.c (.imm Y2 [])))]))))
(.exit 0))))
(sq (kr [0,1] [oM 122 0,
oC 123 103 [122,(cI 10001)]])
(.exit 0))))
(sq (kr [0,1] [oM 124 0,
oM 125 1,
oD 126 (.nilck 125),
oA 127 3 126,
oL 128 127,
oC 129 117 [124,128]])
(kr [1] [oM 130 1,
oM 131 1,
oD 132 (.nilck 130),
oA 133 2 132,
oN (.store 1 133 (.c (.imm (.int .u64) []))),
oD 134 (.nilck 131),
oA 135 3 134,
oN (.store 1 135 (.c (.imm (.int .u8) [])))]))))
def gI_:List RD:=[]
theorem Ga_:zn_ Tryz.prog Tryz.f78 GD_ gI_=true:=by kernel_rfl
def wC_:List AV->List Obj->Option (Prop × AV × List Obj)
 | [.ptr 0 0,.ptr 1 0],[.box [.own 2,.int .i64 room,.mapv 3,.int .i64 e],.box zz0,.row false (.int .u8) l,.map sq (.int .i64) (.int .i64) h]=>K1_ YD zz0 fun ⟨tt,xi,n,d,el,x,a,ins,bu,ba,qu,po,ki,fl,pa,_⟩=>some ((room=65527/\l.length<=1000000/\okM x/\okL a/\d.length<=1000000/\n.length<=1000000,.tup [],[.box [.own 4,.int .i64 room,.mapv 3,.int .i64 (QT_ d (pkB tt n d x a l e) 65527 (pkE tt n d x a l e))],.box [.int .i64 tt,.int .u32 xi,.imm (.int .u64) ([]),.imm (.int .u8) ([]),.imm YB el,.imm Y1 ((if (decide (tt=10) && !Zy_ n d)=true then [] else x)),.imm Y2 ((if (decide (tt=13) && !Zr_ n d)=true then [] else a)),.imm Y3 ins,.imm Y4 bu,.imm Y5 ba,.imm Y7 qu,.imm Y8 po,.int .i64 ki,.int .i64 fl,.imm YC pa],.dead,.map sq (.int .i64) (.int .i64) h,.row false (.int .u8) (kb_ d (pkB tt n d x a l e) 65527 (pkE tt n d x a l e))]))
 | _,_=>none
theorem uw_:zd_ Tryz.prog 78 (RwF wC_).sum:=by
 refine qw_ Tryz.func78 Ga_ (za_ (s:=RwF zG_) zN_ (za_ (s:=RwF z6_) Zw_ (za_ (s:=RwF xS_) gz_ (za_ (s:=RoF jF_) XN_ (za_ (s:=RwF yF_) Hl_ (za_ (s:=RwF zF_) zK_ (zc_ _))))))) fun args objs p v o e=>?_
 unfold wC_ at e
 split at e
 ·rename_i room e zz0 l sq h
  replace e:=qk_ e
  obtain ⟨⟨tt,xi,n,d,el,x,a,ins,bu,ba,qu,po,ki,fl,pa,_⟩,hz,e⟩:=e
  replace hz:zz0=[.int .i64 tt,.int .u32 xi,.imm (.int .u64) n,.imm (.int .u8) d,.imm YB el,.imm Y1 x,.imm Y2 a,.imm Y3 ins,.imm Y4 bu,.imm Y5 ba,.imm Y7 qu,.imm Y8 po,.int .i64 ki,.int .i64 fl,.imm YC pa]:=hz
  subst hz
  change Int at tt
  change Int at xi
  change Int at ki
  change Int at fl
  cases e
  refine ⟨rfl,fun hw ho hp=>?_⟩
  change List Int at n
  change List Int at d
  change List Int at l
  clear hw ho
  change List AC at a
  change List OV at x
  change List Int at n
  change List Int at d
  obtain ⟨rfl,hl,hx,ha,hd,hn⟩:=hp
  have z0:([]++n++[0,0,0]).getD (Int.toNat 0) 0=nz3 n 0:=rfl
  have z1:([]++n++[0,0,0]).getD (Int.toNat 1) 0=nz3 n 1:=rfl
  have z2:([]++n++[0,0,0]).getD (Int.toNat 2) 0=nz3 n 2:=rfl
  have zl:([]++n++[0,0,0]).length=n.length+3:=by simp
  have zm:([]++n).length=n.length:=rfl
  have hsz:0<=szL a/\szL a<=65528:=by
   cases hr:rgL a with
   | true=>have:=qg_ hr;omega
   | false=>rw [zj2_ hr];decide
  have hr65:(65527:Int)<=1000000:=by decide
  have g1:=Qq_ (w:=w10) (xs:=n) (e:=e) hl hr65
  have g2:=zeY_ (x:=x) (e:=Qi_ w10 n l 65527 e) g1 hr65
  have g3:=Qq_ (w:=[-2]) (xs:=[]) (e:=mpE x (QS_ w10 n l 65527 e) 65527 (Qi_ w10 n l 65527 e)) g2 hr65
  have k1:=Qq_ (w:=[4,4]) (xs:=n) (e:=e) hl hr65
  have k2:=Qq_ (w:=[2,-6]) (xs:=[szL a]) (e:=Qi_ [4,4] n l 65527 e) k1 hr65
  have k3:=zfj_ (x:=a) (e:=Qi_ [2,-6] [szL a] (QS_ [4,4] n l 65527 e) 65527 (Qi_ [4,4] n l 65527 e)) k2 hr65
  by_cases h10:tt=10
  ·subst h10
   by_cases hb:Zy_ n d=true
   ·skip
    have hB:=zjk_ hb
    obtain ⟨q1,q2,q3,q4⟩:=zkc_ (x:=x) (a:=a) (l:=l) (e:=e) hb
    rw [q1,q2,q3,q4]
    clear g1 g2 g3 k1 k2 k3 q1 q2 q3 q4
    repeat'(intro t ht;first|(cases t<;>first|(cases ht;done)|(try simp only[zg_]at ht;try(exfalso;first|contradiction|omega)))|((first|refine zb_ ht ?_|refine ht ?_ ?_|refine ht.1 ?_ ?_|refine ht ?_)<;>clear ht))
    all_goals first
     | exact True.intro
     | (simp only [z0,z1,z2,zl,zm,List.length_nil,List.length_cons] at*;first | omega | (exfalso;omega) | ((try simp only [zk_,zl_,zj_] at*);omega))
     | exact ⟨by decide,by decide,hl,hd⟩
     | exact ⟨rfl,rfl⟩
   ·replace hb:Zy_ n d=false:=by simpa using hb
    have hB:=zjl_ hb
    obtain ⟨q1,q2,q3,q4⟩:=zln_ (x:=x) (a:=a) (l:=l) (e:=e) hb
    rw [q1,q2,q3,q4]
    unfold p10B p10E
    clear k1 k2 k3 q1 q2 q3 q4
    repeat'(intro t ht;first|(cases t<;>first|(cases ht;done)|(try simp only[zg_]at ht;try(exfalso;first|contradiction|omega)))|((first|refine zb_ ht ?_|refine ht ?_ ?_|refine ht.1 ?_ ?_|refine ht ?_)<;>clear ht))
    all_goals first
     | exact True.intro
     | exact ⟨by decide,by decide,hl⟩
     | exact ⟨hx,by decide,by decide,g1⟩
     | exact ⟨by decide,by decide,g2⟩
     | exact ⟨by decide,by decide,g3,hd⟩
     | exact ⟨rfl,rfl⟩
     | (simp only [z0,z1,z2,zl,zm,List.length_nil,List.length_cons] at*;first | omega | (exfalso;omega) | ((try simp only [zk_,zl_,zj_] at*);omega))
  ·by_cases h13:tt=13
   ·subst h13
    by_cases hb:Zr_ n d=true
    ·replace hb:Zr_ n d=true:=hb
     have hB:=zji_ hb
     obtain ⟨q1,q2,q3,q4⟩:=zkb_ (x:=x) (a:=a) (l:=l) (e:=e) hb
     rw [q1,q2,q3,q4]
     clear g1 g2 g3 k1 k2 k3 q1 q2 q3 q4
     repeat'(intro t ht;first|(cases t<;>first|(cases ht;done)|(try simp only[zg_]at ht;try(exfalso;first|contradiction|omega)))|((first|refine zb_ ht ?_|refine ht ?_ ?_|refine ht.1 ?_ ?_|refine ht ?_)<;>clear ht))
     all_goals first
      | exact True.intro
      | (simp only [z0,z1,z2,zl,zm,List.length_nil,List.length_cons] at*;first | omega | (exfalso;omega) | ((try simp only [zk_,zl_,zj_] at*);omega))
      | exact ⟨by decide,by decide,hl,hd⟩
      | exact ⟨rfl,rfl⟩
    ·replace hb:Zr_ n d=false:=by simpa using hb
     have hB:=zjj_ hb
     obtain ⟨q1,q2,q3,q4⟩:=zlm_ (x:=x) (a:=a) (l:=l) (e:=e) hb
     rw [q1,q2,q3,q4]
     unfold p13B p13E r13B r13E
     clear g1 g2 g3 q1 q2 q3 q4
     repeat'(intro t ht;first|(cases t<;>first|(cases ht;done)|(try simp only[zg_]at ht;try(exfalso;first|contradiction|omega)))|((first|refine zb_ ht ?_|refine ht ?_ ?_|refine ht.1 ?_ ?_|refine ht ?_)<;>clear ht))
     all_goals first
      | exact True.intro
      | exact ⟨by decide,by decide,hl⟩
      | exact ⟨by decide,by decide,k1⟩
      | exact ⟨ha,by decide,by decide,k2⟩
      | exact ⟨by decide,by decide,k3,hd⟩
      | exact ⟨rfl,rfl⟩
      | (simp only [z0,z1,z2,zl,zm,List.length_nil,List.length_cons] at*;first | omega | (exfalso;omega) | ((try simp only [zk_,zl_,zj_] at*);omega))
   ·obtain ⟨q1,q2,q3,q4⟩:=zll_ (n:=n) (d:=d) (x:=x) (a:=a) (l:=l) (e:=e) h10 h13
    rw [q1,q2,q3,q4]
    clear g1 g2 g3 k1 k2 k3 q1 q2 q3 q4
    repeat'(intro t ht;first|(cases t<;>first|(cases ht;done)|(try simp only[zg_]at ht;try(exfalso;first|contradiction|omega)))|((first|refine zb_ ht ?_|refine ht ?_ ?_|refine ht.1 ?_ ?_|refine ht ?_)<;>clear ht))
    all_goals first
     | exact True.intro
     | (simp only [z0,z1,z2,zl,zm,List.length_nil,List.length_cons] at*;first | omega | (exfalso;omega) | ((try simp only [zk_,zl_,zj_] at*);omega))
     | exact ⟨by decide,by decide,hl,hd⟩
     | exact ⟨rfl,rfl⟩
 ·cases e
theorem ziN_ {b:List Int} {p e:Int} (hb:∀ x ∈ b,0<=x/\x<=255) (h0:0<=p) (h1:p<=b.length):0<=mtP b p e/\mtP b p e<=b.length:=by
 unfold mtP;split
 ·have h:=zdK_ (b.drop p.toNat) fun x hx=>hb x (List.mem_of_mem_drop hx)
  rw [List.length_drop] at h;omega
 ·exact ⟨h0,h1⟩
theorem V5_ {n:Nat} (h:n<=100000000):IntKind.u64.min<=(n:Int)/\(n:Int)<=IntKind.u64.max:=by simp only [zj_];omega
theorem Xc_ (c:Prop) [Decidable c] (p:Nat) (b:List Int):(if c then b.drop p else []).length<=b.length:=by
 split
 ·rw [List.length_drop];omega
 ·exact Nat.zero_le _
theorem ziF_ {b:List Int} (hb:∀ x ∈ b,0<=x/\x<=255):0<=(o1L b).getD 2 0/\(o1L b).getD 2 0<=65535:=by
 have hm:=bH_ hb
 unfold o1L Qy_
 rw [if_pos rfl,show (0:Int).toNat=0 from rfl,List.drop_zero]
 unfold m13 at hm
 by_cases hk:zI_ w13 b=0
 ·have:=(rowN hb hk).1
  rw [show zq_ w13=3 by decide] at this
  rw [Ze_ (by omega)];exact hm
 ·rw [UQ_ hk];exact ⟨by decide,by decide⟩
def b5_:IR:=
(sq (kr [0] [oD 2 (.box [.int .i64 0,.int .u32 0,.imm (.int .u64) [],.imm (.int .u8) [],.imm YB [],.imm Y1 [],.imm Y2 [],.imm Y3 [],.imm Y4 [],.imm Y5 [],.imm Y7 [],.imm Y8 [],.int .i64 0,.int .i64 0,.imm YC []])])
(sq (kr [0,2] [oM 5 0,
oD 6 (.sliceAll (.int .i64) 5 [(0,1,(cI 4)),(1,1,(cI 2)),(2,1,(cI 1)),(3,1,(cI 1)),(4,1,(cI 8))]),
oC 7 107 [5,6],
oD 8 (.sliceAll (.int .u64) 5 [(0,1,(.c (.int .u64 0))),(1,1,(.c (.int .u64 0))),(2,1,(.c (.int .u64 0))),(3,1,(.c (.int .u64 0))),(4,1,(.c (.int .u64 0)))]),
oD 9 (.append (.int .u64) 8 7 8),
oM 3 9])
(sq (sq (.reg [oM 10 3,
oD 11 (.indexSl 1 10 (cI 2)),
oL 12 11,
oB 13 .gtr 12 (.c (.int .u64 2))])
(.cond 13
(kr [0,2,3] [oM 14 0,
oC 15 63 [14,(cI 269)]])
.skip))
(sq (kd [0,2,3] [(oM 16 3,[]),
(oD 17 (.slice 1 16 none (some (cI 5)) none),[]),
(oM 18 0,[0,0]),
(oC 19 108 [18],[1,0]),
(oA 20 2 2,[0,0]),
(oS 1 20 17,[]),
(oA 21 5 2,[]),
(oS 1 21 19,[])])
(sq (.reg [oM 22 0,
oD 23 (.sliceAll (.int .i64) 1 [(0,1,(cI (-2)))]),
oC 24 107 [22,23]])
(sq (kr [0,2,3] [oM 25 0,
oD 26 (.mkfn 62 [25] []),
oM 4 26])
(sq (sq (.reg [oM 27 4,
oD 28 (.call false 27 []),
oA 29 3 2,
oS 1 29 28])
(sq (kd [0,2,3] [(oA 30 3 2,[]),
(oL 31 30,[]),
(oE 32 31,[]),
(oD 33 (.conv .u64 32),[]),
(oM 34 3,[0,0,0,0]),
(oD 35 (.indexSl 1 34 (cI 1)),[1,0,0,0]),
(oL 36 35,[2,0,0,0]),
(oB 37 .gtr 33 36,[])])
(.cond 37
(kr [0,2] [oM 38 0,
oC 39 63 [38,(cI 269)]])
.skip)))
(sq (kr [2] [oK 40 15 2,
oS 15 2 40])
.ret))))))))
def HP_:List RD:=[.cell 2 (some 15) true []]
theorem bn_:zn_ Tryz.prog Tryz.f86 b5_ HP_=true:=by kernel_rfl
def xQ_:List AV->List Obj->Option (Prop × AV × List Obj)
 | [.ptr 0 0],[.box [.imm (.int .u8) b,.int .i64 p,.int .i64 sh,.int .i64 od,.int .i64 e,.bool true]]=>some ((p=0/\sh=263/\od=269/\e=0/\b.length<=100000000,.agg [.int .i64 0,.int .u32 0,.imm (.int .u64) ((i1L b).take 5),.imm (.int .u8) (iD b),.imm YB [],.imm Y1 (iX b),.imm Y2 [],.imm Y3 [],.imm Y4 [],.imm Y5 [],.imm Y7 [],.imm Y8 [],.int .i64 0,.int .i64 0,.imm YC []],[.box [.imm (.int .u8) b,.int .i64 (i5P b),.int .i64 sh,.int .i64 od,.int .i64 (i5E b),.bool true]]))
 | _,_=>none
theorem gx_:zd_ Tryz.prog 86 (RwF xQ_).sum:=by
 refine qw_ Tryz.func86 bn_ (za_ (s:=RwF ZY_) QH_ (za_ (s:=RwF zt_) zx_ (za_ (s:=RwF wI_) uC_ (za_ (s:=RwF ZG_) qo_ (zc_ _))))) fun args objs p v o e=>?_
 unfold xQ_ at e
 split at e
 ·rename_i b p sh od e
  cases e
  refine ⟨rfl,fun hw ho hp=>?_⟩
  change List Int at b
  have hb:∀ x ∈ (b:List Int),(0:Int)<=x/\x<=255:=fun x hx=>((ho _ (List.mem_cons_self ..)) (.imm (.int .u8) b) (by simp)).1 x hx
  clear hw ho
  obtain ⟨rfl,rfl,rfl,rfl,hl⟩:=hp
  have r1:=Bk_ (w:=w10) (b:=b) (p:=0) (e:=0) (by decide) (by omega)
  have r2:=ziN_ (e:=i2E b) hb r1.1 r1.2
  have r3:=Bk_ (w:=[-2]) (b:=b) (e:=i3E b) r2.1 r2.2
  have hcl:=Bl_ [4,2,1,1,8] b 0 0
  rw [show ([4,2,1,1,8]:List Int).length=5 from rfl] at hcl
  have hal:(Qy_ [4,2,1,1,8] b 0 0++[0,0,0,0,0]).length=(Qy_ [4,2,1,1,8] b 0 0).length+5:=by rw [List.length_append];rfl
  have hdl:∀ p:Nat,(b.drop p).length<=100000000:=fun p=>by rw [List.length_drop];omega
  unfold i3P at r3
  unfold i3E at r3
  by_cases h2:2 < (i1L b).getD 2 0
  ·have e2:i2E b=zs_ (Z6_ [4,2,1,1,8] b 0 263 269 0) 269:=if_pos h2
   unfold i5P i5E iX iD i4P i4E i3P i3E
   rw [e2] at r2 r3 ⊢
   unfold i1L w10
   repeat'(intro t ht;first|(cases t<;>first|(cases ht;done)|(try simp only[zg_]at ht;try(exfalso;first|contradiction|omega)))|((first|refine zb_ ht ?_|refine ht ?_ ?_|refine ht.1 ?_ ?_|refine ht ?_)<;>clear ht))
   all_goals first
    | exact True.intro
    | exact ⟨r1.1,r1.2,hl,by decide⟩
    | exact ⟨r2.1,r2.2,by omega⟩
    | exact ⟨r3.1,r3.2,by omega,by decide⟩
    | exact ⟨by omega,by omega,by omega⟩
    | (have h3:(Qy_ [4,2,1,1,8] b 0 0++[0,0,0,0,0]).getD 1 0 < _:=ht
       rw [if_pos h3];exact ⟨rfl,rfl⟩)
    | (have h3:¬ (Qy_ [4,2,1,1,8] b 0 0++[0,0,0,0,0]).getD 1 0 < _:=ht
       rw [if_neg h3];exact ⟨rfl,rfl⟩)
    | exact V5_ (Nat.le_trans (Xc_ _ _ _) hl)
    | (simp only [hal,List.length_cons,List.length_nil];first | omega | (constructor<;>omega))
  ·have e2:i2E b=Z6_ [4,2,1,1,8] b 0 263 269 0:=if_neg h2
   unfold i5P i5E iX iD i4P i4E i3P i3E
   rw [e2] at r2 r3 ⊢
   unfold i1L w10
   repeat'(intro t ht;first|(cases t<;>first|(cases ht;done)|(try simp only[zg_]at ht;try(exfalso;first|contradiction|omega)))|((first|refine zb_ ht ?_|refine ht ?_ ?_|refine ht.1 ?_ ?_|refine ht ?_)<;>clear ht))
   all_goals first
    | exact True.intro
    | exact ⟨r1.1,r1.2,hl,by decide⟩
    | exact ⟨r2.1,r2.2,by omega⟩
    | exact ⟨r3.1,r3.2,by omega,by decide⟩
    | exact ⟨by omega,by omega,by omega⟩
    | (have h3:(Qy_ [4,2,1,1,8] b 0 0++[0,0,0,0,0]).getD 1 0 < _:=ht
       rw [if_pos h3];exact ⟨rfl,rfl⟩)
    | (have h3:¬ (Qy_ [4,2,1,1,8] b 0 0++[0,0,0,0,0]).getD 1 0 < _:=ht
       rw [if_neg h3];exact ⟨rfl,rfl⟩)
    | exact V5_ (Nat.le_trans (Xc_ _ _ _) hl)
    | (simp only [hal,List.length_cons,List.length_nil];first | omega | (constructor<;>omega))
 ·cases e
def GE_:IR:=
(sq (kr [0] [oD 2 (.box [.int .i64 0,.int .u32 0,.imm (.int .u64) [],.imm (.int .u8) [],.imm YB [],.imm Y1 [],.imm Y2 [],.imm Y3 [],.imm Y4 [],.imm Y5 [],.imm Y7 [],.imm Y8 [],.int .i64 0,.int .i64 0,.imm YC []])])
(sq (kr [0,2] [oM 5 0,
oD 6 (.sliceAll (.int .i64) 4 [(0,1,(cI 4)),(1,1,(cI 4)),(2,1,(cI 2)),(3,1,(cI (-6)))]),
oC 7 107 [5,6],
oD 8 (.sliceAll (.int .u64) 3 [(0,1,(.c (.int .u64 0))),(1,1,(.c (.int .u64 0))),(2,1,(.c (.int .u64 0)))]),
oD 9 (.append (.int .u64) 8 7 8),
oM 3 9])
(sq (sq (.reg [oM 10 3,
oD 11 (.indexSl 1 10 (cI 1)),
oL 12 11,
oB 13 .eql 12 (.c (.int .u64 0))])
(.cond 13
(kr [0,2,3] [oM 14 0,
oC 15 63 [14,(cI 268)]])
.skip))
(sq (kd [0,2,3] [(oM 16 3,[]),
(oD 17 (.slice 1 16 none (some (cI 2)) none),[]),
(oM 18 0,[0,0]),
(oM 19 3,[0,0,0]),
(oD 20 (.indexSl 1 19 (cI 2)),[1,0,0]),
(oL 21 20,[2,0,0]),
(oD 22 (.conv .i64 21),[3,0,0]),
(oC 23 121 [18,22],[5,0]),
(oA 24 2 2,[0,0,0,0,0,0]),
(oS 1 24 17,[]),
(oA 25 6 2,[]),
(oS 1 25 23,[])])
(sq (kr [0,2,3] [oM 26 0,
oD 27 (.mkfn 62 [26] []),
oM 4 27])
(sq (sq (.reg [oM 28 4,
oD 29 (.call false 28 []),
oA 30 3 2,
oS 1 30 29])
(sq (kr [0,2,3] [oM 31 3,
oD 32 (.indexSl 1 31 (cI 0)),
oL 33 32,
oB 34 .neq 33 (.c (.int .u64 4294967295)),
oM 35 34,
oT 35 36 (.fieldAddr 3 2),
oT 35 37 (.load none 36),
oT 35 38 (.len 37),
oT 35 39 (.bin .gtr 38 (cI 0)),
oP 40 35 39 cF])
(.cond 40
(kr [0,2] [oM 41 0,
oC 42 63 [41,(cI 269)]])
.skip)))
(sq (kr [2] [oK 43 15 2,
oS 15 2 43])
.ret)))))))
def gJ_:List RD:=[.cell 2 (some 15) true []]
theorem Gb_:zn_ Tryz.prog Tryz.f87 GE_ gJ_=true:=by kernel_rfl
def wD_:List AV->List Obj->Option (Prop × AV × List Obj)
 | [.ptr 0 0],[.box [.imm (.int .u8) b,.int .i64 p,.int .i64 sh,.int .i64 od,.int .i64 e,.bool true]]=>some ((p=0/\sh=263/\od=269/\e=0/\b.length<=100000000,.agg [.int .i64 0,.int .u32 0,.imm (.int .u64) ((o1L b).take 2),.imm (.int .u8) (uD b),.imm YB [],.imm Y1 [],.imm Y2 (uA b),.imm Y3 [],.imm Y4 [],.imm Y5 [],.imm Y7 [],.imm Y8 [],.int .i64 0,.int .i64 0,.imm YC []],[.box [.imm (.int .u8) b,.int .i64 (o4P b),.int .i64 sh,.int .i64 od,.int .i64 (o5E b),.bool true]]))
 | _,_=>none
theorem ux_:zd_ Tryz.prog 87 (RwF wD_).sum:=by
 refine qw_ Tryz.func87 Gb_ (za_ (s:=RwF ZY_) QH_ (za_ (s:=RwF zt_) zx_ (za_ (s:=RwF xU_) gB_ (za_ (s:=RwF ZG_) qo_ (zc_ _))))) fun args objs p v o e=>?_
 unfold wD_ at e
 split at e
 ·rename_i b p sh od e
  cases e
  refine ⟨rfl,fun hw ho hp=>?_⟩
  change List Int at b
  have hb:∀ x ∈ (b:List Int),(0:Int)<=x/\x<=255:=fun x hx=>((ho _ (List.mem_cons_self ..)) (.imm (.int .u8) b) (by simp)).1 x hx
  clear hw ho
  obtain ⟨rfl,rfl,rfl,rfl,hl⟩:=hp
  have r1:=Bk_ (w:=w13) (b:=b) (p:=0) (e:=0) (by decide) (by omega)
  have r2:=zgA_ (n:=(o1L b).getD 2 0) (b:=b) (sh:=263) (e:=o2E b) r1.1 r1.2 (by decide)
  have hcl:=Bl_ [4,4,2,-6] b 0 0
  rw [show ([4,4,2,-6]:List Int).length=4 from rfl] at hcl
  have hal:(Qy_ [4,4,2,-6] b 0 0++[0,0,0]).length=(Qy_ [4,4,2,-6] b 0 0).length+3:=by rw [List.length_append];rfl
  have hr2:=ziF_ hb
  by_cases h1:(o1L b).getD 1 0=0
  ·have e2:o2E b=zs_ (Z6_ [4,4,2,-6] b 0 263 269 0) 268:=if_pos h1
   repeat'(intro t ht;first|(cases t<;>first|(cases ht;done)|(try simp only[zg_]at ht;try(exfalso;first|contradiction|omega)))|((first|refine zb_ ht ?_|refine ht ?_ ?_|refine ht.1 ?_ ?_|refine ht ?_)<;>clear ht))
   all_goals (try rw [<- e2] at ht)
   all_goals (try rw [<- e2])
   all_goals first
    | exact True.intro
    | exact ⟨r1.1,r1.2,hl,by decide⟩
    | exact ⟨r2.1,r2.2,by omega,by decide⟩
    | exact ⟨by omega,by omega,by omega⟩
    | (have h0:¬ (o1L b).getD 0 0=4294967295:=by assumption
       have h3:0 < ((uD b).length:Int):=ht
       have q:o5E b=zs_ (o3E b) 269:=if_pos ⟨h0,h3⟩
       rw [q];exact ⟨rfl,rfl⟩)
    | (have h3:¬ 0 < ((uD b).length:Int):=ht
       have q:o5E b=o3E b:=if_neg fun c=>h3 c.2
       rw [q];exact ⟨rfl,rfl⟩)
    | (have h3:(o1L b).getD 0 0=4294967295:=ht
       have q:o5E b=o3E b:=if_neg fun c=>c.1 h3
       rw [q];exact ⟨rfl,rfl⟩)
    | exact V5_ (Nat.le_trans (Xc_ _ _ _) hl)
    | (simp only [hal,List.length_cons,List.length_nil];first | omega | (constructor<;>omega))
    | exact ⟨Int.le_trans (by decide) hr2.1,Int.le_trans hr2.2 (by decide)⟩
  ·have e2:o2E b=Z6_ [4,4,2,-6] b 0 263 269 0:=if_neg h1
   repeat'(intro t ht;first|(cases t<;>first|(cases ht;done)|(try simp only[zg_]at ht;try(exfalso;first|contradiction|omega)))|((first|refine zb_ ht ?_|refine ht ?_ ?_|refine ht.1 ?_ ?_|refine ht ?_)<;>clear ht))
   all_goals (try rw [<- e2] at ht)
   all_goals (try rw [<- e2])
   all_goals first
    | exact True.intro
    | exact ⟨r1.1,r1.2,hl,by decide⟩
    | exact ⟨r2.1,r2.2,by omega,by decide⟩
    | exact ⟨by omega,by omega,by omega⟩
    | (have h0:¬ (o1L b).getD 0 0=4294967295:=by assumption
       have h3:0 < ((uD b).length:Int):=ht
       have q:o5E b=zs_ (o3E b) 269:=if_pos ⟨h0,h3⟩
       rw [q];exact ⟨rfl,rfl⟩)
    | (have h3:¬ 0 < ((uD b).length:Int):=ht
       have q:o5E b=o3E b:=if_neg fun c=>h3 c.2
       rw [q];exact ⟨rfl,rfl⟩)
    | (have h3:(o1L b).getD 0 0=4294967295:=ht
       have q:o5E b=o3E b:=if_neg fun c=>c.1 h3
       rw [q];exact ⟨rfl,rfl⟩)
    | exact V5_ (Nat.le_trans (Xc_ _ _ _) hl)
    | (simp only [hal,List.length_cons,List.length_nil];first | omega | (constructor<;>omega))
    | exact ⟨Int.le_trans (by decide) hr2.1,Int.le_trans hr2.2 (by decide)⟩
 ·cases e
theorem zhH_ (e:Int):wT_ [] e=e:=by unfold wT_;split<;>simp_all
theorem zi8_ {l:List Int} {e:Int} (h:wT_ [] e=0):XR_ l [] e=l/\e=0:=by
 rw [zhH_] at h;subst h;exact ⟨rfl,rfl⟩
theorem bd24 (tt xi:Int) (n d:List Int) (el:List VEl) (x:List OV) (a:List AC) (ins:List VIn) (bu:List BK) (ba:List VBd) (qu:List VQu) (po:List PV) (ki fl:Int) (pa:List VPa):
 (wT_ [] (QT_ d (pkB tt n d x a [] 0) 65527 (pkE tt n d x a [] 0))=0->kt_ (tt,xi,[],[],el,(if tt=10/\Zy_ n d=false then [] else x),(if tt=13/\Zr_ n d=false then [] else a),ins,bu,ba,qu,po,ki,fl,pa,())=true->wrR ((tt,xi,n,d,el,x,a,ins,bu,ba,qu,po,ki,fl,pa,()):VMs)=(XR_ (kb_ d (pkB tt n d x a [] 0) 65527 (pkE tt n d x a [] 0)) [] (QT_ d (pkB tt n d x a [] 0) 65527 (pkE tt n d x a [] 0)),0))/\
 (¬ (wT_ [] (QT_ d (pkB tt n d x a [] 0) 65527 (pkE tt n d x a [] 0))=0/\kt_ (tt,xi,[],[],el,(if tt=10/\Zy_ n d=false then [] else x),(if tt=13/\Zr_ n d=false then [] else a),ins,bu,ba,qu,po,ki,fl,pa,())=true)->wrR ((tt,xi,n,d,el,x,a,ins,bu,ba,qu,po,ki,fl,pa,()):VMs)=([],10001)):=by
 obtain ⟨k1,k2⟩:=zig_ ((tt,xi,n,d,el,x,a,ins,bu,ba,qu,po,ki,fl,pa,()):VMs)
 have e:XP_ (decide (mT ((tt,xi,n,d,el,x,a,ins,bu,ba,qu,po,ki,fl,pa,()):VMs)=10) && !Zy_ (mN ((tt,xi,n,d,el,x,a,ins,bu,ba,qu,po,ki,fl,pa,()):VMs)) (mD ((tt,xi,n,d,el,x,a,ins,bu,ba,qu,po,ki,fl,pa,()):VMs))) (decide (mT ((tt,xi,n,d,el,x,a,ins,bu,ba,qu,po,ki,fl,pa,()):VMs)=13) && !Zr_ (mN ((tt,xi,n,d,el,x,a,ins,bu,ba,qu,po,ki,fl,pa,()):VMs)) (mD ((tt,xi,n,d,el,x,a,ins,bu,ba,qu,po,ki,fl,pa,()):VMs))) ((tt,xi,n,d,el,x,a,ins,bu,ba,qu,po,ki,fl,pa,()):VMs)=(tt,xi,[],[],el,(if tt=10/\Zy_ n d=false then [] else x),(if tt=13/\Zr_ n d=false then [] else a),ins,bu,ba,qu,po,ki,fl,pa,()):=by
  unfold XP_
  simp only [Bool.and_eq_true,decide_eq_true_eq,Bool.not_eq_true']
 rw [e] at k1 k2
 constructor
 ·intro h1 h2
  obtain ⟨q1,q2⟩:=zi8_ (l:=kb_ d (pkB tt n d x a [] 0) 65527 (pkE tt n d x a [] 0)) h1
  rw [q1];exact k1 ⟨q2,h2⟩
 ·intro h
  exact k2 fun c=>h ⟨by rw [zhH_];exact c.1,c.2⟩
theorem zlk_ (b:List Int):jM_ 10 b=if (65527:Int) < b.length then zs_ (e10 b) 263 else e10 b:=by
 unfold jM_ zs_;rw [if_pos rfl]
 by_cases h:(65527:Int) < b.length
 ·rw [if_pos h]
  by_cases h2:e10 b=0
  ·rw [if_pos ⟨h2,h⟩,if_pos h2]
  ·rw [if_neg (fun c=>h2 c.1),if_neg h2]
 ·rw [if_neg h,if_neg (fun c=>h c.2)]
theorem zlj_ (b:List Int):jM_ 13 b=if (65527:Int) < b.length then zs_ (e13 b) 263 else e13 b:=by
 unfold jM_ zs_;rw [if_neg (by decide),if_pos rfl]
 by_cases h:(65527:Int) < b.length
 ·rw [if_pos h]
  by_cases h2:e13 b=0
  ·rw [if_pos ⟨h2,h⟩,if_pos h2]
  ·rw [if_neg (fun c=>h2 c.1),if_neg h2]
 ·rw [if_neg h,if_neg (fun c=>h c.2)]
theorem hj_ {t:Int} {b:List Int} (h:¬ jM_ t b=0):Z0_ t b=zMs:=by unfold Z0_;rw [if_neg h]
theorem zli_ {b:List Int} (h:jM_ 10 b=0):Z0_ 10 b=v10 b:=by unfold Z0_;rw [if_pos h,if_pos rfl]
theorem zlh_ {b:List Int} (h:jM_ 13 b=0):Z0_ 13 b=v13 b:=by unfold Z0_;rw [if_pos h,if_neg (by decide)]
theorem ue_ (e:Int):¬ zs_ e 263=0:=by unfold zs_;split<;>omega
def UC_:IR:=
(sq (kr [0] [oD 1 (.boxv 0),
oD 2 (.mov (.c (.imm (.int .u8) []))),
oD 3 (.mov (cI 0))])
(sq (.reg [oC 7 77 [(cI 65527)],
oM 4 7])
(sq (.reg [oM 8 4,
oC 9 78 [8,1]])
(sq (kr [1,4] [oM 11 4,
oC 12 79 [11],
oM 10 12,
oX 13 10 0,
oX 14 10 1,
oM 5 13,
oM 6 14])
(sq (sq (kr [1,5,6] [oM 15 6,
oB 16 .neq 15 (cI 0),
oM 17 16,
oF 17 18 (.load (some 15) 1),
oF 17 19 (.call false (.f 80) [18]),
oF 17 20 (.un .not 19),
oP 21 17 cT 20])
(.cond 21
(sq (kr [] [oD 2 (.mov (.c (.imm (.int .u8) []))),
oD 3 (.mov (cI 10001))])
.ret)
.skip))
(sq (kr [5] [oM 22 5,
oM 2 22,
oD 3 (.mov (cI 0))])
.ret))))))
def uS_:List RD:=[.tmp 2 true (some (.int .u8)),.tmp 3 true none]
theorem Uf_:zn_ Tryz.prog Tryz.f30 UC_ uS_=true:=by kernel_rfl
def Qz_:List AV->List Obj->Option (Prop × AV)
 | [.agg zz0],[]=>K1_ YD zz0 fun ⟨tt,xi,n,d,el,x,a,ins,bu,ba,qu,po,ki,fl,pa,_⟩=>some ((okM x/\okL a/\d.length<=1000000/\n.length<=1000000,.tup [.imm (.int .u8) (wrR ((tt,xi,n,d,el,x,a,ins,bu,ba,qu,po,ki,fl,pa,()):VMs)).1,.int .i64 (wrR ((tt,xi,n,d,el,x,a,ins,bu,ba,qu,po,ki,fl,pa,()):VMs)).2]))
 | _,_=>none
theorem Kg_:zd_ Tryz.prog 30 (RoF Qz_).sum:=by
 refine zi_ Tryz.func30 Uf_ (za_ (s:=RwF ki_) KW_ (za_ (s:=RwF wC_) uw_ (za_ (s:=RwF ZI_) qq_ (za_ (s:=RoF wK_) uD_ (zc_ _))))) fun args objs p v e=>?_
 unfold Qz_ at e
 split at e
 ·rename_i zz0
  replace e:=qk_ e
  obtain ⟨⟨tt,xi,n,d,el,x,a,ins,bu,ba,qu,po,ki,fl,pa,_⟩,hz,e⟩:=e
  replace hz:zz0=[.int .i64 tt,.int .u32 xi,.imm (.int .u64) n,.imm (.int .u8) d,.imm YB el,.imm Y1 x,.imm Y2 a,.imm Y3 ins,.imm Y4 bu,.imm Y5 ba,.imm Y7 qu,.imm Y8 po,.int .i64 ki,.int .i64 fl,.imm YC pa]:=hz
  subst hz
  change Int at tt
  change Int at xi
  change Int at ki
  change Int at fl
  cases e
  refine ⟨rfl,fun hw ho hp=>?_⟩
  change List Int at n
  change List Int at d
  clear hw ho
  change List AC at a
  change List OV at x
  change List Int at n
  change List Int at d
  obtain ⟨hx,ha,hd,hn⟩:=hp
  have hroom:v3_ 65527=65527:=by decide
  obtain ⟨k1,k2⟩:=bd24 tt xi n d el x a ins bu ba qu po ki fl pa
  have hlim:(kb_ d (pkB tt n d x a [] 0) 65527 (pkE tt n d x a [] 0)).length<=1000000:=by
   refine Kc_ ?_ (by decide)
   have z:([]:List Int).length<=1000000:=by decide
   unfold pkB p10B p13B r13B
   repeat' split
   all_goals first
    | exact z
    | exact Qq_ (zeY_ (Qq_ z (by decide)) (by decide)) (by decide)
    | exact zfj_ (Qq_ (Qq_ z (by decide)) (by decide)) (by decide)
  repeat'(intro t ht;first|(cases t<;>first|(cases ht;done)|(try simp only[zg_]at ht;try(exfalso;first|contradiction|omega)))|((first|refine zb_ ht ?_|refine ht ?_ ?_|refine ht.1 ?_ ?_|refine ht ?_)<;>clear ht))
  all_goals first
   | exact True.intro
   | exact ⟨hroom,by decide,hx,ha,hd,hn⟩
   | exact ⟨Nat.le_trans hlim (by decide),by decide⟩
   | (have c:=k1 (by assumption) ht;rw [c];exact ⟨rfl,rfl⟩)
   | (have c:=k2 (fun q=>ht q.1);rw [c];exact ⟨rfl,rfl⟩)
   | (have c:=k2 (fun q=>by rw [q.2] at ht;cases ht);rw [c];exact ⟨rfl,rfl⟩)
 ·cases e
def UB_:IR:=
(sq (kr [0,1] [oD 4 (.box [.int .i64 0,.int .u32 0,.imm (.int .u64) [],.imm (.int .u8) [],.imm YB [],.imm Y1 [],.imm Y2 [],.imm Y3 [],.imm Y4 [],.imm Y5 [],.imm Y7 [],.imm Y8 [],.int .i64 0,.int .i64 0,.imm YC []]),
oD 5 (.mov (cI 0))])
(sq (.reg [oM 7 1,
oC 8 20 [7,(cI 263),(cI 269)],
oM 6 8])
(sq (sq (.reg [oM 9 0])
(.block 0
(sq (.reg [oB 13 .eql 9 (cI 10),
oM 12 13])
(.cond 12
(kr [0,1,4,6] [oM 14 6,
oC 15 86 [14],
oS 15 4 15])
(sq (kr [0,1,4,6,9] [oB 17 .eql 9 (cI 13),
oM 16 17])
(.cond 16
(.reg [oM 18 6,
oC 19 87 [18],
oS 15 4 19])
(.reg [oM 10 6,
oC 11 63 [10,(cI 10001)]])))))))
(sq (sq (kr [0,1,4,6] [oM 20 1,
oE 21 20,
oB 22 .gtr 21 (cI 65527)])
(.cond 22
(.reg [oM 23 6,
oC 24 63 [23,(cI 263)]])
.skip))
(sq (sq (.reg [oM 25 6,
oC 26 23 [25],
oB 27 .neq 26 (cI 0)])
(.cond 27
(sq (kr [4,6] [oD 28 (.build [.int .i64 0,.int .u32 0,.imm (.int .u64) [],.imm (.int .u8) [],.imm YB [],.imm Y1 [],.imm Y2 [],.imm Y3 [],.imm Y4 [],.imm Y5 [],.imm Y7 [],.imm Y8 [],.int .i64 0,.int .i64 0,.imm YC []] []),
oM 29 6,
oC 30 23 [29],
oS 15 4 28,
oM 5 30])
.ret)
.skip))
(sq (kr [0,4] [oM 31 0,
oA 32 0 4,
oS 1 32 31])
(sq (.reg [oK 33 15 4,
oS 15 4 33,
oD 5 (.mov (cI 0))])
.ret)))))))
def uR_:List RD:=[.cell 4 (some 15) true [],.tmp 5 true none]
theorem Ue_:zn_ Tryz.prog Tryz.f34 UB_ uR_=true:=by kernel_rfl
def kV_:List AV->List Obj->Option (Prop × AV)
 | [.int .i64 tt,.imm (.int .u8) b],[]=>some ((b.length<=100000000,.tup [.agg [.int .i64 ((Z0_ tt b)).1,.int .u32 ((Z0_ tt b)).2.1,.imm (.int .u64) ((Z0_ tt b)).2.2.1,.imm (.int .u8) ((Z0_ tt b)).2.2.2.1,.imm YB ((Z0_ tt b)).2.2.2.2.1,.imm Y1 ((Z0_ tt b)).2.2.2.2.2.1,.imm Y2 ((Z0_ tt b)).2.2.2.2.2.2.1,.imm Y3 ((Z0_ tt b)).2.2.2.2.2.2.2.1,.imm Y4 ((Z0_ tt b)).2.2.2.2.2.2.2.2.1,.imm Y5 ((Z0_ tt b)).2.2.2.2.2.2.2.2.2.1,.imm Y7 ((Z0_ tt b)).2.2.2.2.2.2.2.2.2.2.1,.imm Y8 ((Z0_ tt b)).2.2.2.2.2.2.2.2.2.2.2.1,.int .i64 ((Z0_ tt b)).2.2.2.2.2.2.2.2.2.2.2.2.1,.int .i64 ((Z0_ tt b)).2.2.2.2.2.2.2.2.2.2.2.2.2.1,.imm YC ((Z0_ tt b)).2.2.2.2.2.2.2.2.2.2.2.2.2.2.1],.int .i64 (jM_ tt b)]))
 | _,_=>none
theorem wQ_:zd_ Tryz.prog 34 (RoF kV_).sum:=by
 refine zi_ Tryz.func34 Ue_ (za_ (s:=RwF qu_) qM_ (za_ (s:=RwF xQ_) gx_ (za_ (s:=RwF wD_) ux_ (za_ (s:=RwF zt_) zx_ (za_ (s:=RoF zr_) zu_ (zc_ _)))))) fun args objs p v e=>?_
 unfold kV_ at e
 split at e
 ·rename_i tt b
  cases e
  refine ⟨rfl,fun hw ho hp=>?_⟩
  change List Int at b
  have hb:∀ x ∈ (b:List Int),(0:Int)<=x/\x<=255:=fun x hx=>(hw (.imm (.int .u8) b) (by simp)).1 x hx
  clear hw ho
  obtain ⟨i1,i2⟩:=zlx_ hb
  obtain ⟨o1,o2⟩:=zkg_ hb
  by_cases h10:tt=10
  ·subst h10
   have hE:=zlk_ b
   rw [<- i1] at hE
   repeat'(intro t ht;first|(cases t<;>first|(cases ht;done)|(try simp only[zg_]at ht;try(exfalso;first|contradiction|omega)))|((first|refine zb_ ht ?_|refine ht ?_ ?_|refine ht.1 ?_ ?_|refine ht ?_)<;>clear ht))
   all_goals first
    | exact True.intro
    | exact ⟨rfl,rfl,rfl,rfl,hp⟩
    | exact Nat.le_trans hp (by decide)
    | exact absurd ht (ue_ _)
    | (rw [if_neg (by assumption)] at hE
       first
        | (have h0:i5E b=0:=ht
           obtain ⟨j1,j2,j3⟩:=i2 (i1 ▸ h0)
           rw [zli_ (hE.trans h0),hE,h0]
           unfold v10
           rw [<- j1,<- j2,<- j3];exact ⟨rfl,rfl⟩)
        | (rw [hj_ (by rw [hE];exact ht),hE];exact ⟨rfl,rfl⟩))
    | (rw [if_pos (by assumption)] at hE
       rw [hj_ (by rw [hE];exact ue_ _),hE];exact ⟨rfl,rfl⟩)
  ·by_cases h13:tt=13
   ·subst h13
    have hE:=zlj_ b
    rw [<- o1] at hE
    repeat'(intro t ht;first|(cases t<;>first|(cases ht;done)|(try simp only[zg_]at ht;try(exfalso;first|contradiction|omega)))|((first|refine zb_ ht ?_|refine ht ?_ ?_|refine ht.1 ?_ ?_|refine ht ?_)<;>clear ht))
    all_goals first
     | exact True.intro
     | exact ⟨rfl,rfl,rfl,rfl,hp⟩
     | exact Nat.le_trans hp (by decide)
     | exact absurd ht (ue_ _)
     | (rw [if_neg (by assumption)] at hE
        first
         | (have h0:o5E b=0:=ht
            obtain ⟨j1,j2,j3⟩:=o2 (o1 ▸ h0)
            rw [zlh_ (hE.trans h0),hE,h0]
            unfold v13
            rw [<- j1,<- j2,<- j3];exact ⟨rfl,rfl⟩)
         | (rw [hj_ (by rw [hE];exact ht),hE];exact ⟨rfl,rfl⟩))
     | (rw [if_pos (by assumption)] at hE
        rw [hj_ (by rw [hE];exact ue_ _),hE];exact ⟨rfl,rfl⟩)
   ·have hE:jM_ tt b=10001:=by unfold jM_;rw [if_neg h10,if_neg h13]
    have hM:=hj_ (t:=tt) (b:=b) (by rw [hE];decide)
    repeat'(intro t ht;first|(cases t<;>first|(cases ht;done)|(try simp only[zg_]at ht;try(exfalso;first|contradiction|omega)))|((first|refine zb_ ht ?_|refine ht ?_ ?_|refine ht.1 ?_ ?_|refine ht ?_)<;>clear ht))
    all_goals first
     | exact True.intro
     | exact Nat.le_trans hp (by decide)
     | (exfalso;have h0:¬ zs_ 0 10001=0:=by decide
        first | exact h0 ht | exact ht rfl)
     | (rw [hM,hE];exact ⟨rfl,rfl⟩)
 ·cases e
theorem zlf_ {s:Int} (hs:0<=s/\s<=65535):Zm_ [2,-6] [s]=ze_ s 2++[0,0,0,0,0,0]/\ZM_ [2,-6] [s]=true:=by
 have e1:s.fdiv (2 ^ 16)=0:=by rw [Int.fdiv_eq_ediv_of_nonneg _ (by decide)];omega
 have h:Q2_ [2,-6] [s]=some (ze_ s 2++[0,0,0,0,0,0]):=by
  unfold Q2_
  rw [if_pos ⟨by decide,(by decide:zq_ [2,-6]=1)⟩]
  have m:min (8*(2:Int)).toNat 64=16:=by decide
  simp only [qJ_,m]
  rw [if_neg (by decide),if_neg (by rintro ⟨_,h⟩;exact h e1)]
  rfl
 unfold Zm_ ZM_;rw [h];exact ⟨rfl,rfl⟩
def Y10 (n:List Int) (x:List OV) (d:List Int):List Int:=Zm_ w10 n++meB x++[0,0]++d
def Y13 (n:List Int) (a:List AC) (d:List Int):List Int:=Zm_ [4,4] n++ze_ (boA a).length 2++[0,0,0,0,0,0]++boA a++d
theorem zjS_ (xi:Int) (n d:List Int) (el:List VEl) (x:List OV) (a:List AC) (m8:List VIn × List BK × List VBd × List VQu × List PV × Int × Int × List VPa × Unit):
 (ZM_ w10 n=true->rgM x=true->Zy_ n d=false->wrR (10,xi,n,d,el,x,a,m8)=if kt_ (10,xi,[],[],el,[],a,m8)=true then (if (65527:Int) < (Y10 n x d).length then ([],10001) else (Y10 n x d,0)) else ([],10001))/\
 (¬ (ZM_ w10 n=true/\rgM x=true/\Zy_ n d=false)->wrR (10,xi,n,d,el,x,a,m8)=([],10001)):=by
 have e0:Qf_ 10 n d x a=if Zy_ n d=true then none else vO10 n x:=by unfold Qf_;rw [if_pos rfl]
 have e3:kz_ [-2] []=some [0,0]:=by decide
 constructor
 ·intro h1 h2 h3
  have e4:KP_ (Qf_ 10 n d x a) (some d)=some (Y10 n x d):=by
   rw [e0,h3,if_neg (by decide)]
   unfold vO10
   have q1:kz_ w10 n=some (Zm_ w10 n):=if_pos h1
   have q2:bF_ x=some (meB x):=if_pos h2
   rw [q1,q2,e3];rfl
  unfold wrR
  rw [show KP_ (Qf_ (mT (10,xi,n,d,el,x,a,m8)) (mN (10,xi,n,d,el,x,a,m8)) (mD (10,xi,n,d,el,x,a,m8)) (mX (10,xi,n,d,el,x,a,m8)) (mA (10,xi,n,d,el,x,a,m8))) (some (mD (10,xi,n,d,el,x,a,m8)))=some (Y10 n x d) from e4]
  rfl
 ·intro h
  have e4:KP_ (Qf_ 10 n d x a) (some d)=none:=by
   rw [e0]
   cases hb:Zy_ n d with
   | true=>rfl
   | false=>
     rw [if_neg (by decide)]
     unfold vO10
     cases hk:ZM_ w10 n with
     | false=>have q1:kz_ w10 n=none:=by unfold kz_;rw [hk];rfl
              rw [q1];rfl
     | true=>
       have q1:kz_ w10 n=some (Zm_ w10 n):=if_pos hk
       cases hr:rgM x with
       | true=>exact absurd ⟨hk,hr,hb⟩ h
       | false=>
         have q2:bF_ x=none:=by unfold bF_;rw [hr];rfl
         rw [q1,q2];rfl
  unfold wrR
  rw [show KP_ (Qf_ (mT (10,xi,n,d,el,x,a,m8)) (mN (10,xi,n,d,el,x,a,m8)) (mD (10,xi,n,d,el,x,a,m8)) (mX (10,xi,n,d,el,x,a,m8)) (mA (10,xi,n,d,el,x,a,m8))) (some (mD (10,xi,n,d,el,x,a,m8)))=none from e4]
theorem zjR_ (xi:Int) (n d:List Int) (el:List VEl) (x:List OV) (a:List AC) (m8:List VIn × List BK × List VBd × List VQu × List PV × Int × Int × List VPa × Unit):
 (ZM_ [4,4] n=true->rgL a=true->Zr_ n d=false->wrR (13,xi,n,d,el,x,a,m8)=if kt_ (13,xi,[],[],el,x,[],m8)=true then (if (65527:Int) < (Y13 n a d).length then ([],10001) else (Y13 n a d,0)) else ([],10001))/\
 (¬ (ZM_ [4,4] n=true/\rgL a=true/\Zr_ n d=false)->wrR (13,xi,n,d,el,x,a,m8)=([],10001)):=by
 have e0:Qf_ 13 n d x a=if Zr_ n d=true then none else vO13 n a:=by unfold Qf_;rw [if_neg (by decide),if_pos rfl]
 constructor
 ·intro h1 h2 h3
  obtain ⟨p1,p2,p3,p4⟩:=qg_ h2
  have e4:KP_ (Qf_ 13 n d x a) (some d)=some (Y13 n a d):=by
   rw [e0,h3,if_neg (by decide)]
   unfold vO13
   obtain ⟨r1,r2⟩:=zlf_ (s:=szL a) (by omega)
   have q1:kz_ [4,4] n=some (Zm_ [4,4] n):=if_pos h1
   have q3:kz_ [2,-6] [szL a]=some (ze_ (boA a).length 2++[0,0,0,0,0,0]):=by unfold kz_;rw [if_pos r2,r1,p4]
   have q2:Bw_ a=some (boA a):=if_pos h2
   rw [q1,q3,q2,yM_,yM_,yM_]
   unfold Y13;simp only [List.append_assoc]
  unfold wrR
  rw [show KP_ (Qf_ (mT (13,xi,n,d,el,x,a,m8)) (mN (13,xi,n,d,el,x,a,m8)) (mD (13,xi,n,d,el,x,a,m8)) (mX (13,xi,n,d,el,x,a,m8)) (mA (13,xi,n,d,el,x,a,m8))) (some (mD (13,xi,n,d,el,x,a,m8)))=some (Y13 n a d) from e4]
  rfl
 ·intro h
  have e4:KP_ (Qf_ 13 n d x a) (some d)=none:=by
   rw [e0]
   cases hb:Zr_ n d with
   | true=>rfl
   | false=>
     rw [if_neg (by decide)]
     unfold vO13
     cases hk:ZM_ [4,4] n with
     | false=>have q1:kz_ [4,4] n=none:=by unfold kz_;rw [hk];rfl
              rw [q1];rfl
     | true=>
       have q1:kz_ [4,4] n=some (Zm_ [4,4] n):=if_pos hk
       cases hr:rgL a with
       | true=>exact absurd ⟨hk,hr,hb⟩ h
       | false=>
         have q2:Bw_ a=none:=by unfold Bw_;rw [hr];rfl
         rw [q1,q2];cases kz_ [2,-6] [szL a]<;>rfl
  unfold wrR
  rw [show KP_ (Qf_ (mT (13,xi,n,d,el,x,a,m8)) (mN (13,xi,n,d,el,x,a,m8)) (mD (13,xi,n,d,el,x,a,m8)) (mX (13,xi,n,d,el,x,a,m8)) (mA (13,xi,n,d,el,x,a,m8))) (some (mD (13,xi,n,d,el,x,a,m8)))=none from e4]
theorem zjQ_ {m:VMs} (h1:¬ mT m=10) (h2:¬ mT m=13):wrR m=([],10001):=by
 have e:Qf_ (mT m) (mN m) (mD m) (mX m) (mA m)=none:=by unfold Qf_;rw [if_neg h1,if_neg h2]
 unfold wrR;rw [e];rfl
theorem zhY_ {n d:List Int} (h:n.length=5):Zy_ n d=(decide (2 < n.getD 2 0) || decide (n.getD 1 0 < (d.length:Int))):=by
 unfold Zy_ nz3;rw [Ze_ (by omega),Ze_ (by omega)]
theorem zhX_ {n d:List Int} (h:n.length=2):Zr_ n d=(decide (n.getD 1 0=0) || (decide (¬ n.getD 0 0=4294967295) && decide (0 < d.length))):=by
 unfold Zr_ nz3;rw [Ze_ (by omega),Ze_ (by omega)]
end Go.Eng
