/- Parts of the proof: A1, A2, M3, A3, A4, A6. No condition. -/
import Derived.Test.YteihcoggfaenaaaGreatDoorProg
import Derived.Test.YteihcoggfaenaaaGreatDoorWG10
import Derived.KernelRfl
import Derived.Test.YteihcoggfaenaaaGreatDoorWG15
import Derived.Test.YteihcoggfaenaaaGreatDoorWG16
namespace Go.Eng
open Go.Proofs
set_option linter.unusedVariables false
set_option linter.unusedSimpArgs false
set_option maxRecDepth 100000
set_option maxHeartbeats 1000000
def zE_ (t:Int):List Int:=if t=0 then [4,2,-6] else if t=22\/t=21\/t=65535 then [4] else if t=15\/t=23 then [1,-3] else if t=17\/t=19\/t=26\/t=20 then [2,-2] else if t=11\/t=12\/t=16\/t=18\/t=24\/t=27 then [-4] else []
def Gm_ (t:Int):Bool:=decide (t=0\/(t=22\/t=21\/t=65535)\/(t=15\/t=23)\/(t=17\/t=19\/t=26\/t=20)\/(t=11\/t=12\/t=16\/t=18\/t=24\/t=27))
theorem zfn_ {t:Int} (h:¬ (t=0\/(t=22\/t=21\/t=65535)\/(t=15\/t=23)\/(t=17\/t=19\/t=26\/t=20)\/(t=11\/t=12\/t=16\/t=18\/t=24\/t=27))):zE_ t=[]/\Gm_ t=false:=by
 refine ⟨?_,decide_eq_false h⟩
 unfold zE_
 rw [if_neg (by omega),if_neg (by omega),if_neg (by omega),if_neg (by omega),if_neg (by omega)]
theorem zhA_ {t:Int} (h:Gm_ t=true):t=0\/(t=22\/t=21\/t=65535)\/(t=15\/t=23)\/(t=17\/t=19\/t=26\/t=20)\/(t=11\/t=12\/t=16\/t=18\/t=24\/t=27):=of_decide_eq_true h
theorem zfm_ (t:Int):zE_ t=[4,2,-6]\/zE_ t=[4]\/zE_ t=[1,-3]\/zE_ t=[2,-2]\/zE_ t=[-4]\/zE_ t=[]:=by
 unfold zE_
 repeat' split
 all_goals simp
theorem gG_ (t:Int):0<=zH_ (zE_ t)/\zH_ (zE_ t)<=2:=by
 rcases zfm_ t with h | h | h | h | h | h<;>rw [h]<;>decide
theorem u8_ (t:Int):0<=zD_ (zE_ t)/\zD_ (zE_ t)<=12:=by
 rcases zfm_ t with h | h | h | h | h | h<;>rw [h]<;>decide
def gP_ (t n:Int):Int:=if t=0 then (if n=0 then 517 else 0) else if t=22 then (if 4294967040 < n then 522 else 0) else if t=17 then (if n ≠ 33024/\n ≠ 34984 then 518 else 0) else if t=19 then (if n ≠ 34887/\n ≠ 34888 then 518 else 0) else if t=26 then (if n ≠ 35047 then 518 else 0) else 0
def gj_:IR:=
(sq (kr [0] [oD 2 (.mov (.c (.imm (.int .i64) []))),
oD 3 (.mov cF)])
(sq (sq (.reg [oM 4 0])
(.block 0
(sq (.block 7
(.block 6
(sq (.block 5
(.block 4
(sq (.block 3
(sq (.block 2
(sq (.block 1
(sq (sq (sq (.reg [oB 6 .eql 4 (cI 0),
oM 5 6])
(.cond 5
(.exit 1)
.skip))
(sq (sq (sq (.reg [oB 8 .eql 4 (cI 22),
oM 7 8])
(.cond 7
.skip
(sq (kr [4] [oB 9 .eql 4 (cI 21),
oM 7 9])
(.cond 7
.skip
(.reg [oB 10 .eql 4 (cI 65535),
oM 7 10])))))
(.cond 7
(.exit 2)
.skip))
(sq (sq (sq (kr [4] [oB 12 .eql 4 (cI 15),
oM 11 12])
(.cond 11
.skip
(.reg [oB 13 .eql 4 (cI 23),
oM 11 13])))
(.cond 11
(.exit 3)
.skip))
(sq (sq (sq (.reg [oB 15 .eql 4 (cI 17),
oM 14 15])
(.cond 14
.skip
(sq (kr [4] [oB 16 .eql 4 (cI 19),
oM 14 16])
(.cond 14
.skip
(.reg [oB 17 .eql 4 (cI 26),
oM 14 17])))))
(.cond 14
(.exit 4)
.skip))
(sq (sq (kr [4] [oB 19 .eql 4 (cI 20),
oM 18 19])
(.cond 18
(.exit 5)
.skip))
(sq (sq (sq (.reg [oB 21 .eql 4 (cI 11),
oM 20 21])
(.cond 20
.skip
(sq (.reg [oB 22 .eql 4 (cI 12),
oM 20 22])
(.cond 20
.skip
(kr [4] [oB 23 .eql 4 (cI 16),
oM 20 23])))))
(.cond 20
(.exit 6)
.skip))
(sq (sq (kr [4] [oB 25 .eql 4 (cI 18),
oM 24 25])
(.cond 24
.skip
(sq (.reg [oB 26 .eql 4 (cI 24),
oM 24 26])
(.cond 24
.skip
(.reg [oB 27 .eql 4 (cI 27),
oM 24 27])))))
(.cond 24
(.exit 7)
.skip))))))))
(.exit 0)))
(sq (sq (kr [] [oD 28 (.sliceAll (.int .i64) 3 [(0,1,(cI 4)),(1,1,(cI 2)),(2,1,(cI (-6)))]),
oM 2 28,
oD 3 (.mov cT)])
.ret)
(.exit 0))))
(sq (sq (kr [] [oD 29 (.sliceAll (.int .i64) 1 [(0,1,(cI 4))]),
oM 2 29,
oD 3 (.mov cT)])
.ret)
(.exit 0))))
(sq (sq (kr [] [oD 30 (.sliceAll (.int .i64) 2 [(0,1,(cI 1)),(1,1,(cI (-3)))]),
oM 2 30,
oD 3 (.mov cT)])
.ret)
(.exit 0)))))
(sq (sq (kr [] [oD 31 (.sliceAll (.int .i64) 2 [(0,1,(cI 2)),(1,1,(cI (-2)))]),
oM 2 31,
oD 3 (.mov cT)])
.ret)
(.exit 0)))))
(sq (sq (kr [] [oD 32 (.sliceAll (.int .i64) 1 [(0,1,(cI (-4)))]),
oM 2 32,
oD 3 (.mov cT)])
.ret)
(.exit 0)))))
(sq (kr [] [oD 2 (.mov (.c (.imm (.int .i64) []))),
oD 3 (.mov cF)])
.ret)))
def Us_:List RD:=[.tmp 2 true (some (.int .i64)),.tmp 3 true none]
theorem UT_:zm_ Tryz.prog Tryz.f212 gj_ Us_=true:=by kernel_rfl
def qy_:List AV->List Obj->Option (Prop × AV)
 | [.int .i64 q],[]=>some ((True,.tup [.imm (.int .i64) (zE_ q),.bool (Gm_ q)]))
 | _,_=>none
theorem Qy_:zd_ Tryz.prog 212 (RoF qy_).sum:=by
 refine zi_ Tryz.func212 UT_ (zc_ _) fun args objs p v e=>?_
 unfold qy_ at e
 split at e
 ·rename_i q
  cases e
  refine ⟨rfl,fun hw ho hp=>?_⟩
  clear hw ho
  repeat'(intro t ht;first|(cases t<;>first|(cases ht;done)|(try simp only[zg_]at ht;try(exfalso;first|contradiction|omega)))|((first|refine zb_ ht ?_|refine ht ?_ ?_|refine ht.1 ?_ ?_|refine ht ?_)<;>clear ht))
  all_goals first
   | exact True.intro
   | (have h:=zfn_ (t:=q) (by omega)
      rw [h.1,h.2];exact ⟨rfl,rfl⟩)
   | (subst_vars;exact ⟨rfl,rfl⟩)
   | (have h:q=0\/(q=22\/q=21\/q=65535)\/(q=15\/q=23)\/(q=17\/q=19\/q=26\/q=20)\/(q=11\/q=12\/q=16\/q=18\/q=24\/q=27):=by omega
      rcases h with rfl | (rfl | rfl | rfl) | (rfl | rfl) | (rfl | rfl | rfl | rfl) | (rfl | rfl | rfl | rfl | rfl | rfl)<;>first | (exfalso;omega) | exact ⟨rfl,rfl⟩)
 ·cases e
def um_:IR:=
(sq (kr [0,1] [oD 4 (.mov (cI 0))])
(sq (.block 0
(sq (kr [0,1] [oM 6 0,
oB 7 .eql 6 (cI 0),
oM 8 7,
oT 8 9 (.mov 1),
oT 8 10 (.bin .eql 9 (.c (.int .u64 0))),
oP 11 8 10 cF,
oM 5 11])
(.cond 5
(sq (kr [] [oD 4 (.mov (cI 517))])
.ret)
(sq (kr [0,1] [oM 13 0,
oB 14 .eql 13 (cI 22),
oM 15 14,
oT 15 16 (.mov 1),
oT 15 17 (.bin .gtr 16 (.c (.int .u64 4294967040))),
oP 18 15 17 cF,
oM 12 18])
(.cond 12
(sq (kr [] [oD 4 (.mov (cI 522))])
.ret)
(sq (kr [0,1] [oM 20 0,
oB 21 .eql 20 (cI 17),
oM 22 21,
oT 22 23 (.mov 1),
oT 22 24 (.bin .neq 23 (.c (.int .u64 33024))),
oP 25 22 24 cF,
oM 26 25,
oT 26 27 (.mov 1),
oT 26 28 (.bin .neq 27 (.c (.int .u64 34984))),
oP 29 26 28 cF,
oM 19 29])
(.cond 19
(sq (kr [] [oD 4 (.mov (cI 518))])
.ret)
(sq (kr [0,1] [oM 31 0,
oB 32 .eql 31 (cI 19),
oM 33 32,
oT 33 34 (.mov 1),
oT 33 35 (.bin .neq 34 (.c (.int .u64 34887))),
oP 36 33 35 cF,
oM 37 36,
oT 37 38 (.mov 1),
oT 37 39 (.bin .neq 38 (.c (.int .u64 34888))),
oP 40 37 39 cF,
oM 30 40])
(.cond 30
(sq (kr [] [oD 4 (.mov (cI 518))])
.ret)
(sq (kr [0,1] [oM 42 0,
oB 43 .eql 42 (cI 26),
oM 44 43,
oT 44 45 (.mov 1),
oT 44 46 (.bin .neq 45 (.c (.int .u64 35047))),
oP 47 44 46 cF,
oM 41 47])
(.cond 41
(sq (kr [] [oD 4 (.mov (cI 518))])
.ret)
.skip)))))))))))
(sq (kr [] [oD 4 (.mov (cI 0))])
.ret)))
def VW_:List RD:=[.tmp 4 true none]
theorem V8_:zm_ Tryz.prog Tryz.f221 um_ VW_=true:=by kernel_rfl
def kg_:List AV->List Obj->Option (Prop × AV)
 | [.int .i64 q,.int .u64 n],[]=>some ((True,.int .i64 (gP_ q n)))
 | _,_=>none
theorem Jo_:zd_ Tryz.prog 221 (RoF kg_).sum:=by
 refine zi_ Tryz.func221 V8_ (zc_ _) fun args objs p v e=>?_
 unfold kg_ at e
 split at e
 ·rename_i q n
  cases e
  refine ⟨rfl,fun hw ho hp=>?_⟩
  clear hw ho
  repeat'(intro t ht;first|(cases t<;>first|(cases ht;done)|(try simp only[zg_]at ht;try(exfalso;first|contradiction|omega)))|((first|refine zb_ ht ?_|refine ht ?_ ?_|refine ht.1 ?_ ?_|refine ht ?_)<;>clear ht))
  all_goals first
   | exact True.intro
   | (refine ⟨congrArg (AV.int .i64) ?_,rfl⟩;unfold gP_;repeat' split
      all_goals first | rfl | omega)
 ·cases e
def yp_:IR:=
(sq (kr [0] [oD 1 (.boxv 0),
oD 2 (.mov cF)])
(sq (kr [1] [oA 3 0 1,
oL 4 3,
oB 5 .eql 4 (cI 32768),
oM 6 5,
oT 6 7 (.fieldAddr 2 1),
oT 6 8 (.load none 7),
oT 6 9 (.un .not 8),
oP 10 6 9 cF,
oM 11 10,
oT 11 12 (.fieldAddr 1 1),
oT 11 13 (.load none 12),
oT 11 14 (.call false (.f 227) [13]),
oP 15 11 14 cF,
oM 16 15,
oT 16 17 (.load (some 6) 1),
oT 16 18 (.call false (.f 118) [17]),
oP 19 16 18 cF,
oM 2 19])
.ret))
def ye_:List RD:=[.tmp 2 true none]
theorem yi_:zm_ Tryz.prog Tryz.f219 yp_ ye_=true:=by kernel_rfl
def kf_:List AV->List Obj->Option (Prop × AV)
 | [.agg [.int .i64 c,.int .i64 f,.bool h,.int .u64 x,.imm (.int .u8) v,.imm (.int .u8) m]],[]=>some ((v.length<=1000000/\m.length<=1000000,.bool (decide (c=32768) && !h && X1_ f && zS_ c f h x v m)))
 | _,_=>none
theorem XQ_:zd_ Tryz.prog 219 (RoF kf_).sum:=by
 refine zi_ Tryz.func219 yi_ (za_ (s:=RoF Qa_) K7_ (za_ (s:=RoF QK_) kR_ (zc_ _))) fun args objs p v e=>?_
 unfold kf_ at e
 split at e
 ·rename_i c f h x v m
  cases e
  refine ⟨rfl,fun hw ho hp=>?_⟩
  change List Int at v
  change List Int at m
  clear hw ho
  cases h
  all_goals repeat'(intro t ht;first|(cases t<;>first|(cases ht;done)|(try simp only[zg_]at ht;try(exfalso;first|contradiction|omega)))|((first|refine zb_ ht ?_|refine ht ?_ ?_|refine ht.1 ?_ ?_|refine ht ?_)<;>clear ht))
  all_goals first
   | exact True.intro
   | exact hp
   | (refine ⟨congrArg AV.bool ?_,rfl⟩;simp_all;done)
 ·cases e
def gk_:IR:=
(sq (kr [0] [oD 1 (.boxv 0),
oD 2 (.mov cF)])
(sq (.reg [oK 3 6 1,
oD 4 (.build [.int .i64 0,.int .i64 0,.kb false,.int .u64 0,.imm (.int .u8) [],.imm (.int .u8) []] []),
oC 5 228 [3,4],
oM 2 5])
.ret))
def Ut_:List RD:=[.tmp 2 true none]
theorem UU_:zm_ Tryz.prog Tryz.f220 gk_ Ut_=true:=by kernel_rfl
def Je_:List AV->List Obj->Option (Prop × AV)
 | [.agg [.int .i64 c,.int .i64 f,.bool h,.int .u64 x,.imm (.int .u8) v,.imm (.int .u8) m]],[]=>some ((True,.bool (QX_ c f h x v m 0 0 false 0 [] [])))
 | _,_=>none
theorem VL_:zd_ Tryz.prog 220 (RoF Je_).sum:=by
 refine zi_ Tryz.func220 UU_ (za_ (s:=RoF yJ_) H5_ (zc_ _)) fun args objs p v e=>?_
 unfold Je_ at e
 split at e
 ·rename_i c f h x v m
  cases e
  refine ⟨rfl,fun hw ho hp=>?_⟩
  change List Int at v
  change List Int at m
  clear hw ho
  repeat'(intro t ht;first|(cases t<;>first|(cases ht;done)|(try simp only[zg_]at ht;try(exfalso;first|contradiction|omega)))|((first|refine zb_ ht ?_|refine ht ?_ ?_|refine ht.1 ?_ ?_|refine ht ?_)<;>clear ht))
  all_goals first
   | exact True.intro
   | exact ⟨rfl,rfl⟩
 ·cases e
def jH_ (t a b:Int):List Int:=[a,b].take (zH_ (zE_ t)).toNat
def qh_ (R:Bool) (t a b c f:Int) (h:Bool) (x:Int) (v m d:List Int):Bool:=
 if t=25 then decide (a=0) && decide (b=0) && decide (d.length=0) && (decide (c=32768) && !h && X1_ f && R)
 else Gm_ t && QX_ c f h x v m 0 0 false 0 [] [] && decide (gP_ t a=0) && qq_ (zE_ t) (jH_ t a b) && (decide (2<=zH_ (zE_ t)) || decide (b=0)) && (decide (1<=zH_ (zE_ t)) || decide (a=0)) && (if t=65535 then decide ((d.length:Int).tmod 8=0) && decide ((d.length:Int)<=65520) else decide (d.length=0))
def un_:IR:=
(sq (kr [0] [oD 1 (.boxv 0),
oD 2 (.mov cF)])
(sq (sq (.reg [oA 8 0 1,
oL 9 8,
oB 10 .eql 9 (cI 25)])
(.cond 10
(sq (kr [1] [oA 11 1 1,
oL 12 11,
oB 13 .eql 12 (.c (.int .u64 0)),
oM 14 13,
oT 14 15 (.fieldAddr 2 1),
oT 14 16 (.load none 15),
oT 14 17 (.bin .eql 16 (.c (.int .u64 0))),
oP 18 14 17 cF,
oM 19 18,
oT 19 20 (.fieldAddr 9 1),
oT 19 21 (.load none 20),
oT 19 22 (.len 21),
oT 19 23 (.bin .eql 22 (cI 0)),
oP 24 19 23 cF,
oM 25 24,
oT 25 26 (.fieldAddr 3 1),
oT 25 27 (.load (some 6) 26),
oT 25 28 (.call false (.f 219) [27]),
oP 29 25 28 cF,
oM 2 29])
.ret)
.skip))
(sq (kr [1] [oA 31 0 1,
oL 32 31,
oC 33 212 [32],
oM 30 33,
oX 34 30 0,
oX 35 30 1,
oM 3 34,
oM 4 35])
(sq (sq (kr [1,3,4] [oM 36 4,
oD 37 (.un .not 36),
oM 38 37,
oF 38 39 (.fieldAddr 3 1),
oF 38 40 (.load (some 6) 39),
oF 38 41 (.call false (.f 220) [40]),
oF 38 42 (.un .not 41),
oP 43 38 cT 42,
oM 44 43,
oF 44 45 (.fieldAddr 0 1),
oF 44 46 (.load none 45),
oF 44 47 (.fieldAddr 1 1),
oF 44 48 (.load none 47),
oF 44 49 (.call false (.f 221) [46,48]),
oF 44 50 (.bin .neq 49 (cI 0)),
oP 51 44 cT 50])
(.cond 51
(sq (kr [] [oD 2 (.mov cF)])
.ret)
.skip))
(sq (kr [1,3] [oM 52 3,
oC 53 114 [52],
oM 5 53])
(sq (kr [1,3,5] [oM 55 3,
oA 56 1 1,
oL 57 56,
oA 58 2 1,
oL 59 58,
oD 60 (.sliceAll (.int .u64) 2 [(0,1,57),(1,1,59)]),
oM 61 5,
oD 62 (.slice 1 60 none (some 61) none),
oC 63 64 [55,62],
oM 54 63,
oX 64 54 0,
oX 65 54 1,
oM 6 64,
oM 7 65])
(sq (sq (kr [1,5,7] [oM 66 7,
oD 67 (.un .not 66),
oM 68 67,
oF 68 69 (.mov 5),
oF 68 70 (.bin .lss 69 (cI 2)),
oF 68 71 (.mov 70),
oT 71 72 (.fieldAddr 2 1),
oT 71 73 (.load none 72),
oT 71 74 (.bin .neq 73 (.c (.int .u64 0))),
oF 68 75 (.pick 71 74 cF),
oP 76 68 cT 75,
oM 77 76,
oF 77 78 (.mov 5),
oF 77 79 (.bin .lss 78 (cI 1)),
oF 77 80 (.mov 79),
oT 80 81 (.fieldAddr 1 1),
oT 80 82 (.load none 81),
oT 80 83 (.bin .neq 82 (.c (.int .u64 0))),
oF 77 84 (.pick 80 83 cF),
oP 85 77 cT 84])
(.cond 85
(sq (kr [] [oD 2 (.mov cF)])
.ret)
.skip))
(sq (sq (kr [1] [oA 86 0 1,
oL 87 86,
oB 88 .neq 87 (cI 65535)])
(.cond 88
(sq (kr [1] [oA 89 9 1,
oL 90 89,
oE 91 90,
oB 92 .eql 91 (cI 0),
oM 2 92])
.ret)
.skip))
(sq (kr [1] [oA 93 9 1,
oL 94 93,
oE 95 94,
oB 96 .rem 95 (cI 8),
oB 97 .eql 96 (cI 0),
oM 98 97,
oT 98 99 (.fieldAddr 9 1),
oT 98 100 (.load none 99),
oT 98 101 (.len 100),
oT 98 102 (.bin .leq 101 (cI 65520)),
oP 103 98 102 cF,
oM 2 103])
.ret)))))))))
def VX_:List RD:=[.tmp 2 true none]
theorem V9_:zm_ Tryz.prog Tryz.f210 un_ VX_=true:=by kernel_rfl
def kh_:List AV->List Obj->Option (Prop × AV)
 | [.agg [.int .i64 q,.int .u64 a,.int .u64 b,.int .i64 c,.int .i64 f,.bool h,.int .u64 x,.imm (.int .u8) v,.imm (.int .u8) m,.imm (.int .u8) d]],[]=>some ((v.length<=1000000/\m.length<=1000000,.bool (qh_ (zS_ c f h x v m) q a b c f h x v m d)))
 | _,_=>none
theorem Jp_:zd_ Tryz.prog 210 (RoF kh_).sum:=by
 refine zi_ Tryz.func210 V9_ (za_ (s:=RoF kf_) XQ_ (za_ (s:=RoF qy_) Qy_ (za_ (s:=RoF Je_) VL_ (za_ (s:=RoF kg_) Jo_ (za_ (s:=RoF QI_) kP_ (za_ (s:=RoF XJ_) Va_ (zc_ _))))))) fun args objs p v e=>?_
 unfold kh_ at e
 split at e
 ·rename_i q a b c f h x v m d
  cases e
  refine ⟨rfl,fun hw ho hp=>?_⟩
  change List Int at v
  change List Int at m
  change List Int at d
  have hdl:d.length<=maxLen:=(hw _ (List.mem_cons_self ..) (.imm (.int .u8) d) (by simp)).2
  unfold maxLen at hdl
  clear hw ho
  have hcn:=gG_ q
  by_cases h25:q=25
  ·subst h25
   repeat'(intro t ht;first|(cases t<;>first|(cases ht;done)|(try simp only[zg_]at ht;try(exfalso;first|contradiction|omega)))|((first|refine zb_ ht ?_|refine ht ?_ ?_|refine ht.1 ?_ ?_|refine ht ?_)<;>clear ht))
   all_goals first
    | exact True.intro
    | exact hp
    | ((try simp only [zk_,zl_,zj_] at*);omega)
    | (refine ⟨congrArg AV.bool ?_,rfl⟩;unfold qh_;rw [if_pos rfl];simp_all;done)
  ·repeat'(intro t ht;first|(cases t<;>first|(cases ht;done)|(try simp only[zg_]at ht;try(exfalso;first|contradiction|omega)))|((first|refine zb_ ht ?_|refine ht ?_ ?_|refine ht.1 ?_ ?_|refine ht ?_)<;>clear ht))
   all_goals first
    | exact True.intro
    | exact hp
    | ((try simp only [zk_,zl_,zj_] at*);omega)
    | (refine ⟨congrArg AV.bool ?_,rfl⟩;unfold qh_ jH_;rw [if_neg h25];simp_all;done)
    | (refine ⟨congrArg AV.bool ?_,rfl⟩;unfold qh_ jH_;rw [if_neg h25];simp_all;omega)
 ·cases e
def y8_ (R:Bool) (S:Int) (t a b c f:Int) (h:Bool) (x:Int) (v m d:List Int):Int:=if qh_ R t a b c f h x v m d=true then (if t=25 then (4+S+8 - 1).tdiv 8*8 else 4+zD_ (zE_ t)+d.length) else 0
theorem zdK_ {R:Bool} {t a b c f:Int} {h:Bool} {x:Int} {v m d:List Int} (hr:qh_ R t a b c f h x v m d=true):d.length<=65520:=by
 unfold qh_ at hr
 split at hr
 ·simp only [Bool.and_eq_true,decide_eq_true_eq] at hr;omega
 ·simp only [Bool.and_eq_true] at hr
  have:=hr.2
  split at this
  ·simp only [Bool.and_eq_true,decide_eq_true_eq] at this;omega
  ·simp only [decide_eq_true_eq] at this;omega
theorem zaO_ {c f:Int} {h:Bool} {x:Int} {v m:List Int} (hv:v.length<=1000000) (hm:m.length<=1000000):0<=Qc_ c f h x v m/\Qc_ c f h x v m<=3000000:=by
 unfold Qc_ Zk_;repeat' split
 all_goals omega
def gl_:IR:=
(sq (kr [0] [oD 1 (.boxv 0),
oD 2 (.mov (cI 0))])
(sq (sq (.reg [oK 5 10 1,
oC 6 210 [5],
oD 7 (.un .not 6)])
(.cond 7
(sq (.reg [oD 2 (.mov (cI 0))])
.ret)
.skip))
(sq (sq (kr [1] [oA 8 0 1,
oL 9 8,
oB 10 .eql 9 (cI 25)])
(.cond 10
(sq (kr [1] [oA 11 3 1,
oK 12 6 11,
oC 13 120 [12],
oB 14 .add (cI 4) 13,
oB 15 .add 14 (cI 8),
oB 16 .sub 15 (cI 1),
oB 17 .quo 16 (cI 8),
oB 18 .mul 17 (cI 8),
oM 2 18])
.ret)
.skip))
(sq (kr [1] [oA 20 0 1,
oL 21 20,
oC 22 212 [21],
oM 19 22,
oX 23 19 0,
oX 24 19 1,
oM 3 23,
oM 4 24])
(sq (kd [1,3] [(oM 25 3,[]),
(oC 26 94 [25],[]),
(oB 27 .add (cI 4) 26,[]),
(oA 28 9 1,[0,0,0]),
(oL 29 28,[1,0,0]),
(oE 30 29,[2,0,0]),
(oB 31 .add 27 30,[]),
(oM 2 31,[])])
.ret)))))
def Uu_:List RD:=[.tmp 2 true none]
theorem UV_:zm_ Tryz.prog Tryz.f209 gl_ Uu_=true:=by kernel_rfl
def k2_:List AV->List Obj->Option (Prop × AV)
 | [.agg [.int .i64 q,.int .u64 a,.int .u64 b,.int .i64 c,.int .i64 f,.bool h,.int .u64 x,.imm (.int .u8) v,.imm (.int .u8) m,.imm (.int .u8) d]],[]=>some ((v.length<=1000000/\m.length<=1000000,.int .i64 (y8_ (zS_ c f h x v m) (Qc_ c f h x v m) q a b c f h x v m d)))
 | _,_=>none
theorem Wd_:zd_ Tryz.prog 209 (RoF k2_).sum:=by
 refine zi_ Tryz.func209 UV_ (za_ (s:=RoF kh_) Jp_ (za_ (s:=RoF jm_) JZ_ (za_ (s:=RoF qy_) Qy_ (za_ (s:=RoF QC_) QW_ (zc_ _))))) fun args objs p v e=>?_
 unfold k2_ at e
 split at e
 ·rename_i q a b c f h x v m d
  cases e
  refine ⟨rfl,fun hw ho hp=>?_⟩
  change List Int at v
  change List Int at m
  change List Int at d
  clear hw ho
  have hs:=zaO_ (c:=c) (f:=f) (h:=h) (x:=x) hp.1 hp.2
  have hz:=u8_ q
  have htd:(4+Qc_ c f h x v m+8 - 1).tdiv 8=(4+Qc_ c f h x v m+8 - 1) / 8:=Int.tdiv_eq_ediv_of_nonneg (by omega)
  cases hr:qh_ (zS_ c f h x v m) q a b c f h x v m d with
  | false=>
    repeat'(intro t ht;first|(cases t<;>first|(cases ht;done)|(try simp only[zg_]at ht;try(exfalso;first|contradiction|omega)))|((first|refine zb_ ht ?_|refine ht ?_ ?_|refine ht.1 ?_ ?_|refine ht ?_)<;>clear ht))
    all_goals first
     | exact True.intro
     | exact hp
     | (exfalso;simp_all;done)
     | (refine ⟨?_,rfl⟩;unfold y8_;rw [hr];rfl)
  | true=>
    have hl:=zdK_ hr
    repeat'(intro t ht;first|(cases t<;>first|(cases ht;done)|(try simp only[zg_]at ht;try(exfalso;first|contradiction|omega)))|((first|refine zb_ ht ?_|refine ht ?_ ?_|refine ht.1 ?_ ?_|refine ht ?_)<;>clear ht))
    all_goals first
     | exact True.intro
     | exact hp
     | (exfalso;simp_all;done)
     | ((try simp only [zk_,zl_,zj_] at*);omega)
     | (rw [htd];(try simp only [zk_,zl_,zj_] at*);omega)
     | (refine ⟨congrArg (AV.int .i64) ?_,rfl⟩;unfold y8_;rw [if_pos hr,if_pos (by assumption)];done)
     | (refine ⟨congrArg (AV.int .i64) ?_,rfl⟩;unfold y8_;rw [if_pos hr,if_neg (by assumption)];done)
 ·cases e
def xQ_:IR:=
(sq (kr [0] [oD 2 (.mov (cI 0))])
(sq (sq (.reg [oM 3 0,
oC 4 66 [3]])
(.cond 4
(sq (.reg [oD 2 (.mov (cI 0))])
.ret)
.skip))
(sq (kr [0] [oM 5 0,
oD 6 (.nilck 5),
oA 7 0 6,
oL 8 7,
oE 9 8,
oM 2 9])
.ret)))
def xt_:List RD:=[.tmp 2 true none]
theorem xB_:zm_ Tryz.prog Tryz.f222 xQ_ xt_=true:=by kernel_rfl
def Qm_:List AV->List Obj->Option (Prop × AV)
 | [.ptr 0 0],[.box [.own 1,.int .i64 room,.mapv 2,.int .i64 e],.row false (.int .u8) l,.map sq (.int .i64) (.int .i64) h]=>some ((True,.int .i64 l.length))
 | _,_=>none
theorem Wj_:zd_ Tryz.prog 222 (RoF Qm_).sum:=by
 refine zi_ Tryz.func222 xB_ (za_ (s:=RoF z8_) Zu_ (zc_ _)) fun args objs p v e=>?_
 unfold Qm_ at e
 split at e
 ·rename_i room e l sq h
  cases e
  refine ⟨rfl,fun hw ho hp=>?_⟩
  change List Int at l
  repeat'(intro t ht;first|(cases t<;>first|(cases ht;done)|(try simp only[zg_]at ht))|((first|refine zb_ ht ?_|refine ht ?_ ?_|refine ht.1 ?_ ?_|refine ht ?_)<;>clear ht))
  all_goals first
   | exact True.intro
   | exact ⟨rfl,rfl⟩
 ·cases e
def evZ (s:Int) (n:Nat):List Int:=List.replicate ((s - (n:Int).tmod s).tmod s).toNat 0
theorem Xv_ {a s:Int} (ha:0<=a) (hs:1<=s):0<=a.tmod s/\a.tmod s < s:=by
 rw [Int.tmod_eq_emod_of_nonneg ha];exact ⟨Int.emod_nonneg _ (by omega),Int.emod_lt_of_pos _ (by omega)⟩
def W2_:IR:=
(sq (sq (kr [0,1] [oM 4 1,
oB 5 .lss 4 (cI 1),
oM 6 5,
oF 6 7 (.mov 1),
oF 6 8 (.bin .gtr 7 (cI 64)),
oP 9 6 cT 8])
(.cond 9
(sq (kr [0] [oM 10 0,
oC 11 34 [10,(cI 10001)]])
.ret)
.skip))
(kr [0,1] [oM 12 0,
oM 13 1,
oM 14 0,
oC 15 222 [14],
oM 16 1,
oB 17 .rem 15 16,
oB 18 .sub 13 17,
oM 19 1,
oB 20 .rem 18 19,
oD 21 (.mkrow (.int .u8) 1 (0:Int) 20 20),
oC 22 65 [12,21]]))
def Wx_:List RD:=[]
theorem WN_:zm_ Tryz.prog Tryz.f211 W2_ Wx_=true:=by kernel_rfl
def q3_:List AV->List Obj->Option (Prop × AV × List Obj)
 | [.ptr 0 0,.int .i64 s],[.box [.own 1,.int .i64 room,.mapv 2,.int .i64 e],.row false (.int .u8) l,.map sq (.int .i64) (.int .i64) h]=>some ((0<=room/\room<=1000000/\l.length<=1000000/\1<=s/\s<=64,.tup [],[.box [.own 3,.int .i64 room,.mapv 2,.int .i64 (QS_ (evZ s l.length) l room e)],.dead,.map sq (.int .i64) (.int .i64) h,.row false (.int .u8) (kH_ (evZ s l.length) l room e)]))
 | _,_=>none
theorem J9_:zd_ Tryz.prog 211 (RwF q3_).sum:=by
 refine qa_ Tryz.func211 WN_ (za_ (s:=RwF zF_) zJ_ (za_ (s:=RoF Qm_) Wj_ (za_ (s:=RwF zx_) zB_ (zc_ _)))) fun args objs p v o e=>?_
 unfold q3_ at e
 split at e
 ·rename_i s room e l sq h
  cases e
  refine ⟨rfl,fun hw ho hp=>?_⟩
  change List Int at l
  clear hw ho
  have b1:=Xv_ (a:=(l.length:Int)) (s:=s) (by omega) (by omega)
  have b2:=Xv_ (a:=s - (l.length:Int).tmod s) (s:=s) (by omega) (by omega)
  repeat'(intro t ht;first|(cases t<;>first|(cases ht;done)|(try simp only[zg_]at ht;try(exfalso;first|contradiction|omega)))|((first|refine zb_ ht ?_|refine ht ?_ ?_|refine ht.1 ?_ ?_|refine ht ?_)<;>clear ht))
  all_goals first
   | exact True.intro
   | ((try simp only [zk_,zl_,zj_] at*);omega)
   | exact ⟨hp.1,hp.2.1,hp.2.2.1,by rw [List.length_replicate];omega⟩
   | exact ⟨rfl,rfl⟩
 ·cases e
def qu_ (t a b:Int) (E d:List Int):List Int:=if t=25 then E++List.replicate ((8 - (4+E.length) % 8) % 8) 0 else ZR_ (zE_ t) (jH_ t a b)++d
def gE_ (t a b:Int) (E d:List Int):List Int:=ze_ t 2++ze_ (4+(qu_ t a b E d).length) 2++qu_ t a b E d
theorem Hd_ {a n:Int} (ha:0<=a/\a<=65535) (hn:0<=n/\n<=65535):ZR_ [2,2] [a,n]=ze_ a 2++ze_ n 2/\qq_ [2,2] [a,n]=true:=by
 have e1:a.fdiv (2 ^ 16)=0:=by rw [Int.fdiv_eq_ediv_of_nonneg _ (by decide)];omega
 have e2:n.fdiv (2 ^ 16)=0:=by rw [Int.fdiv_eq_ediv_of_nonneg _ (by decide)];omega
 have h:jz_ [2,2] [a,n]=some (ze_ a 2++ze_ n 2):=by
  unfold jz_
  rw [if_pos ⟨by decide,(by decide:zH_ [2,2]=2)⟩]
  have m:min (8*(2:Int)).toNat 64=16:=by decide
  simp only [Qh_,m]
  rw [if_neg (by decide),if_neg (by rintro ⟨_,h⟩;exact h e1),if_neg (by decide),if_neg (by rintro ⟨_,h⟩;exact h e2)]
  rfl
 unfold ZR_ qq_;rw [h];exact ⟨rfl,rfl⟩
theorem x1_ {x l:List Int} {room:Int} (h:(x.length:Int)<=room - l.length):kH_ x l room 0=l++x/\QS_ x l room 0=0:=by
 have hb:JK_ x l room 0=true:=by unfold JK_;rw [decide_eq_true h];rfl
 exact ⟨by unfold kH_;rw [if_pos hb],by unfold QS_;rw [if_pos rfl,if_pos h]⟩
theorem bd_ {w xs l:List Int} {room:Int} (hk:qq_ w xs=true) (h:((ZR_ w xs).length:Int)<=room - l.length):qK_ w xs l room 0=l++ZR_ w xs/\qJ_ w xs l room 0=0:=by
 unfold qK_ qJ_;rw [if_pos hk,if_pos hk];exact x1_ h
theorem Q9_ {x l:List Int} {room e:Int} (h:l.length<=1000000) (hr:room<=1000000):(kH_ x l room e).length<=1000000:=by
 unfold kH_ JK_;split
 ·rename_i hb;simp only [Bool.and_eq_true,decide_eq_true_eq] at hb;rw [List.length_append];omega
 ·exact h
theorem xl_ {w xs l:List Int} {room e:Int} (h:l.length<=1000000) (hr:room<=1000000):(qK_ w xs l room e).length<=1000000:=by
 unfold qK_;split
 ·exact Q9_ h hr
 ·exact h
theorem Jw_ {w xs:List Int} (hk:qq_ w xs=true):((ZR_ w xs).length:Int)=zD_ w:=by
 unfold qq_ at hk
 obtain ⟨r,hr⟩:=Option.isSome_iff_exists.1 hk
 have hb:ZR_ w xs=r:=by unfold ZR_;rw [hr];rfl
 rw [hb]
 unfold jz_ at hr
 split at hr
 ·rename_i h
  have:=Yf_ w xs [] r (Zj_.1 h.1).2 hr
  unfold zD_;rw [if_pos h.1,this];simp
 ·cases hr
theorem zm1_ (n:Nat):evZ 8 n=List.replicate ((8 - n % 8) % 8) 0:=by
 unfold evZ;congr 1
 have h1:(n:Int).tmod 8=(n:Int) % 8:=Int.tmod_eq_emod_of_nonneg (by omega)
 rw [h1,Int.tmod_eq_emod_of_nonneg (by omega)];omega
theorem Xy_ {R:Bool} {t a b c f:Int} {h:Bool} {x:Int} {v m d:List Int} (ht:t=25) (hr:qh_ R t a b c f h x v m d=true):a=0/\b=0/\d=[]/\c=32768/\h=false/\X1_ f=true/\R=true:=by
 unfold qh_ at hr;rw [if_pos ht] at hr
 simp only [Bool.and_eq_true,decide_eq_true_eq,Bool.not_eq_true'] at hr
 obtain ⟨⟨⟨h1,h2⟩,h3⟩,⟨⟨h4,h5⟩,h6⟩,h7⟩:=hr
 exact ⟨h1,h2,List.eq_nil_of_length_eq_zero h3,h4,h5,h6,h7⟩
theorem K9_ {R:Bool} {t a b c f:Int} {h:Bool} {x:Int} {v m d:List Int} (ht:¬ t=25) (hr:qh_ R t a b c f h x v m d=true):Gm_ t=true/\QX_ c f h x v m 0 0 false 0 [] []=true/\gP_ t a=0/\qq_ (zE_ t) (jH_ t a b)=true/\(2<=zH_ (zE_ t)\/b=0)/\(1<=zH_ (zE_ t)\/a=0)/\((t=65535/\(d.length:Int).tmod 8=0/\(d.length:Int)<=65520)\/(¬ t=65535/\d=[])):=by
 unfold qh_ at hr;rw [if_neg ht] at hr
 simp only [Bool.and_eq_true,Bool.or_eq_true,decide_eq_true_eq] at hr
 obtain ⟨⟨⟨⟨⟨⟨h1,h2⟩,h3⟩,h4⟩,h5⟩,h6⟩,h7⟩:=hr
 refine ⟨h1,h2,h3,h4,h5,h6,?_⟩
 split at h7
 ·rename_i h8
  simp only [Bool.and_eq_true,decide_eq_true_eq] at h7;exact .inl ⟨h8,h7⟩
 ·rename_i h8
  simp only [decide_eq_true_eq] at h7;exact .inr ⟨h8,List.eq_nil_of_length_eq_zero h7⟩
theorem jF_ {c f:Int} {h:Bool} {x:Int} {v m:List Int} (hr:zS_ c f h x v m=true):Qc_ c f h x v m=(ZF_ c f h x v m).length/\(ZF_ c f h x v m).length<=300:=by
 have h1:Qc_ c f h x v m=((Qg_ c f h x v m).length:Int):=by rw [zhw_,if_pos hr]
 have hrn:=qg_ hr
 have hl2:=zn_ (n:=c) (w:=2) (by decide)
 have:((Qg_ c f h x v m).length:Int)=4+Zk_ c v m:=by
  rw [hrn.2.2.2.2.2.2.2];unfold Qg_;simp only [List.length_append,List.length_cons,List.length_nil];omega
 rw [zab_ hr]
 exact ⟨h1,by omega⟩
theorem HQ_ {t:Int} (h:Gm_ t=true\/t=25):0<=t/\t<=65535:=by
 rcases h with h | h
 ·have:=zhA_ h;omega
 ·omega
theorem Xx_ {t a b c f:Int} {h:Bool} {x:Int} {v m d:List Int} (hr:qh_ (zS_ c f h x v m) t a b c f h x v m d=true):y8_ (zS_ c f h x v m) (Qc_ c f h x v m) t a b c f h x v m d=4+((qu_ t a b (ZF_ c f h x v m) d).length:Int)/\(qu_ t a b (ZF_ c f h x v m) d).length<=65524/\(4+(qu_ t a b (ZF_ c f h x v m) d).length) % 8=0/\8<=4+(qu_ t a b (ZF_ c f h x v m) d).length:=by
 unfold y8_ qu_
 rw [if_pos hr]
 by_cases ht:t=25
 ·rw [if_pos ht,if_pos ht]
  obtain ⟨_,_,_,_,_,_,hR⟩:=Xy_ ht hr
  obtain ⟨e1,e2⟩:=jF_ hR
  have h4:4<=(ZF_ c f h x v m).length:=by
   have:Qc_ c f h x v m=4+Zk_ c v m:=by unfold Qc_;rw [if_pos hR]
   have hrest:0<=Zk_ c v m:=by unfold Zk_;split<;>omega
   omega
  rw [e1,List.length_append,List.length_replicate,Int.tdiv_eq_ediv_of_nonneg (by omega)]
  omega
 ·rw [if_neg ht,if_neg ht]
  obtain ⟨k1,_,_,k4,_,_,k7⟩:=K9_ ht hr
  have hs:=Jw_ k4
  have hz:=u8_ t
  rw [List.length_append]
  have hq:zD_ (zE_ t)=4\/zD_ (zE_ t)=12:=by
   have:=zhA_ k1
   rcases this with rfl | (rfl | rfl | rfl) | (rfl | rfl) | (rfl | rfl | rfl | rfl) | (rfl | rfl | rfl | rfl | rfl | rfl)<;>decide
  rcases k7 with ⟨k8,k9,k10⟩ | ⟨_,rfl⟩
  ·have:zD_ (zE_ t)=4:=by rw [k8];decide
   rw [Int.tmod_eq_emod_of_nonneg (by omega)] at k9
   omega
  ·simp only [List.length_nil];omega
def vv_:IR:=
(sq (kr [0] [oD 1 (.boxv 0),
oD 2 (.mov (.c (.imm (.int .u8) []))),
oD 3 (.mov (cI 0))])
(sq (sq (.reg [oK 9 10 1,
oC 10 210 [9],
oD 11 (.un .not 10)])
(.cond 11
(sq (kr [] [oD 2 (.mov (.c (.imm (.int .u8) []))),
oD 3 (.mov (cI 10001))])
.ret)
.skip))
(sq (kr [1] [oK 12 10 1,
oC 13 209 [12],
oC 14 27 [13],
oM 4 14])
(sq (kd [1,4] [(oM 15 4,[]),
(oD 16 (.sliceAll (.int .i64) 2 [(0,1,(cI 2)),(1,1,(cI 2))]),[0]),
(oA 17 0 1,[0,0]),
(oL 18 17,[1,0]),
(oD 19 (.conv .u64 18),[2,0]),
(oK 20 10 1,[0,0,0,0,0]),
(oC 21 209 [20],[1,0,0,0,0]),
(oD 22 (.conv .u64 21),[2,0,0,0,0]),
(oD 23 (.sliceAll (.int .u64) 2 [(0,1,19),(1,1,22)]),[6,0]),
(oC 24 28 [15,16,23],[])])
(sq (sq (kr [1,4] [oA 25 0 1,
oL 26 25,
oB 27 .eql 26 (cI 25)])
(.cond 27
(sq (kr [1,4] [oA 29 3 1,
oK 30 6 29,
oC 31 71 [30],
oM 28 31,
oX 32 28 0,
oX 33 28 1,
oM 5 32,
oM 6 33])
(sq (kr [4,5] [oM 34 4,
oM 35 5,
oC 36 65 [34,35]])
(sq (.reg [oM 37 4,
oC 38 211 [37,(cI 8)]])
(sq (kr [4] [oM 39 4,
oC 40 29 [39],
oX 41 40 0,
oX 42 40 1,
oM 2 41,
oM 3 42])
.ret))))
.skip))
(sq (kr [1,4] [oA 44 0 1,
oL 45 44,
oC 46 212 [45],
oM 43 46,
oX 47 43 0,
oX 48 43 1,
oM 7 47,
oM 8 48])
(sq (kd [1,4,7] [(oM 49 4,[]),
(oM 50 7,[0]),
(oA 51 1 1,[0,0]),
(oL 52 51,[1,0]),
(oA 53 2 1,[0,0,0,0]),
(oL 54 53,[1,0,0,0]),
(oD 55 (.sliceAll (.int .u64) 2 [(0,1,52),(1,1,54)]),[4,0]),
(oM 56 7,[0,0,0,0,0,0,0]),
(oC 57 114 [56],[1,0,0,0,0,0,0]),
(oD 58 (.slice 1 55 none (some 57) none),[7,0]),
(oC 59 28 [49,50,58],[])])
(sq (kr [1,4] [oM 60 4,
oA 61 9 1,
oL 62 61,
oC 63 65 [60,62]])
(sq (kr [4] [oM 64 4,
oC 65 29 [64],
oX 66 65 0,
oX 67 65 1,
oM 2 66,
oM 3 67])
.ret)))))))))
def va_:List RD:=[.tmp 2 true (some (.int .u8)),.tmp 3 true none]
theorem vk_:zm_ Tryz.prog Tryz.f195 vv_ va_=true:=by kernel_rfl
def Ko_:List AV->List Obj->Option (Prop × AV)
 | [.agg [.int .i64 q,.int .u64 a,.int .u64 b,.int .i64 c,.int .i64 f,.bool h,.int .u64 x,.imm (.int .u8) v,.imm (.int .u8) m,.imm (.int .u8) d]],[]=>some ((v.length<=1000000/\m.length<=1000000,.tup [.imm (.int .u8) (if qh_ (zS_ c f h x v m) q a b c f h x v m d=true then gE_ q a b (ZF_ c f h x v m) d else []),.int .i64 (if qh_ (zS_ c f h x v m) q a b c f h x v m d=true then 0 else 10001)]))
 | _,_=>none
theorem y6_:zd_ Tryz.prog 195 (RoF Ko_).sum:=by
 refine zi_ Tryz.func195 vk_ (za_ (s:=RoF kh_) Jp_ (za_ (s:=RoF k2_) Wd_ (za_ (s:=RwF qk_) qM_ (za_ (s:=RwF zO_) z2_ (za_ (s:=RoF KL_) W9_ (za_ (s:=RwF zx_) zB_ (za_ (s:=RwF q3_) J9_ (za_ (s:=RwF Zm_) ZM_ (za_ (s:=RoF qy_) Qy_ (za_ (s:=RoF QI_) kP_ (zc_ _))))))))))) fun args objs p v e=>?_
 unfold Ko_ at e
 split at e
 ·rename_i q a b c f h x v m d
  cases e
  refine ⟨rfl,fun hw ho hp=>?_⟩
  change List Int at v
  change List Int at m
  change List Int at d
  clear hw ho
  cases hr:qh_ (zS_ c f h x v m) q a b c f h x v m d with
  | false=>
    repeat'(intro t ht;first|(cases t<;>first|(cases ht;done)|(try simp only[zg_]at ht;try(exfalso;first|contradiction|omega)))|((first|refine zb_ ht ?_|refine ht ?_ ?_|refine ht.1 ?_ ?_|refine ht ?_)<;>clear ht))
    all_goals first
     | exact True.intro
     | exact hp
     | (exfalso;simp_all;done)
     | exact ⟨rfl,rfl⟩
  | true=>
    obtain ⟨hS,hS1,hS2,hS3⟩:=Xx_ hr
    obtain ⟨S,hSd⟩:∃ S,y8_ (zS_ c f h x v m) (Qc_ c f h x v m) q a b c f h x v m d=S:=⟨_,rfl⟩
    rw [hSd] at hS
    have hroom:xm_ S=S:=zfo_ (by omega) (by omega)
    have hfl:(gE_ q a b (ZF_ c f h x v m) d).length=4+(qu_ q a b (ZF_ c f h x v m) d).length:=by
     unfold gE_
     have g2:=zn_ (n:=q) (w:=2) (by decide)
     have g3:=zn_ (n:=(4+(qu_ q a b (ZF_ c f h x v m) d).length)) (w:=2) (by decide)
     simp only [List.length_append];omega
    have hcn:=gG_ q
    by_cases h25:q=25
    ·have ht:=HQ_ (.inr h25)
     obtain ⟨r1,r2⟩:=Hd_ ht (show 0<=S/\S<=65535 by omega)
     have l2:=zn_ (n:=q) (w:=2) (by decide)
     have l3:=zn_ (n:=S) (w:=2) (by decide)
     obtain ⟨w1,w2⟩:=bd_ (l:=[]) (room:=S) r2 (by rw [r1,List.length_append,List.length_nil];omega)
     rw [List.nil_append,r1] at w1
     obtain ⟨_,_,_,_,_,_,hR⟩:=Xy_ h25 hr
     obtain ⟨e1,e2⟩:=jF_ hR
     have hB:qu_ q a b (ZF_ c f h x v m) d=ZF_ c f h x v m++List.replicate ((8 - (4+(ZF_ c f h x v m).length) % 8) % 8) 0:=if_pos h25
     have hBl:(qu_ q a b (ZF_ c f h x v m) d).length=(ZF_ c f h x v m).length+(8 - (4+(ZF_ c f h x v m).length) % 8) % 8:=by rw [hB,List.length_append,List.length_replicate]
     obtain ⟨u1,u2⟩:=x1_ (x:=ZF_ c f h x v m) (l:=ze_ q 2++ze_ S 2) (room:=S) (by rw [List.length_append];omega)
     have hlen:(ze_ q 2++ze_ S 2++ZF_ c f h x v m).length=4+(ZF_ c f h x v m).length:=by simp only [List.length_append];omega
     have hz:=zm1_ (4+(ZF_ c f h x v m).length)
     obtain ⟨y1,y2⟩:=x1_ (x:=List.replicate ((8 - (4+(ZF_ c f h x v m).length) % 8) % 8) (0:Int)) (l:=ze_ q 2++ze_ S 2++ZF_ c f h x v m) (room:=S) (by rw [hlen,List.length_replicate];omega)
     have hfin:gE_ q a b (ZF_ c f h x v m) d=ze_ q 2++ze_ S 2++ZF_ c f h x v m++List.replicate ((8 - (4+(ZF_ c f h x v m).length) % 8) % 8) (0:Int):=by
      unfold gE_;rw [<- hS,hB];simp only [List.append_assoc]
     repeat'(intro t ht;first|(cases t<;>first|(cases ht;done)|(try simp only[zg_]at ht;try(exfalso;first|contradiction|omega)))|((first|refine zb_ ht ?_|refine ht ?_ ?_|refine ht.1 ?_ ?_|refine ht ?_)<;>clear ht))
     all_goals (try simp only [hSd] at*)
     all_goals (try simp only [hroom,w1,w2,hR,if_true,u1,u2,hlen,hz,y1,y2,<- hfin] at*)
     all_goals first
      | exact True.intro
      | exact hp
      | omega
      | ((try simp only [zk_,zl_,zj_] at*);omega)
      | exact ⟨by omega,by omega,by simp only [List.length_nil];omega⟩
      | exact ⟨by omega,by omega,by simp only [List.length_append];omega,by omega⟩
      | exact ⟨by omega,by omega,by omega,by decide,by decide⟩
      | exact ⟨by omega,by decide⟩
      | (constructor<;>(simp only [List.length_append,List.length_replicate,List.length_nil];omega))
      | (unfold QG_ ks_ je_;exact ⟨rfl,by first | rfl | exact True.intro⟩)
      | (exfalso;simp_all;done)
    ·obtain ⟨k1,k2,k3,k4,k5,k6,k7⟩:=K9_ h25 hr
     have ht:=HQ_ (.inl k1)
     obtain ⟨r1,r2⟩:=Hd_ ht (show 0<=S/\S<=65535 by omega)
     have l2:=zn_ (n:=q) (w:=2) (by decide)
     have l3:=zn_ (n:=S) (w:=2) (by decide)
     obtain ⟨w1,w2⟩:=bd_ (l:=[]) (room:=S) r2 (by rw [r1,List.length_append,List.length_nil];omega)
     rw [List.nil_append,r1] at w1
     have hB:qu_ q a b (ZF_ c f h x v m) d=ZR_ (zE_ q) (jH_ q a b)++d:=if_neg h25
     have hBl:(qu_ q a b (ZF_ c f h x v m) d).length=(ZR_ (zE_ q) (jH_ q a b)).length+d.length:=by rw [hB,List.length_append]
     obtain ⟨u1,u2⟩:=bd_ (l:=ze_ q 2++ze_ S 2) (room:=S) k4 (by rw [List.length_append];omega)
     unfold jH_ at u1 u2 k4 hB hBl
     obtain ⟨y1,y2⟩:=x1_ (x:=d) (l:=ze_ q 2++ze_ S 2++ZR_ (zE_ q) ([a,b].take (zH_ (zE_ q)).toNat)) (room:=S) (by simp only [List.length_append];omega)
     have hfin:gE_ q a b (ZF_ c f h x v m) d=ze_ q 2++ze_ S 2++ZR_ (zE_ q) ([a,b].take (zH_ (zE_ q)).toNat)++d:=by
      unfold gE_;rw [<- hS,hB];simp only [List.append_assoc]
     repeat'(intro t ht;first|(cases t<;>first|(cases ht;done)|(try simp only[zg_]at ht;try(exfalso;first|contradiction|omega)))|((first|refine zb_ ht ?_|refine ht ?_ ?_|refine ht.1 ?_ ?_|refine ht ?_)<;>clear ht))
     all_goals (try simp only [hSd] at*)
     all_goals (try simp only [hroom,w1,w2,u1,u2,y1,y2,<- hfin] at*)
     all_goals first
      | exact True.intro
      | exact hp
      | omega
      | ((try simp only [zk_,zl_,zj_] at*);omega)
      | exact ⟨by omega,by omega,by simp only [List.length_nil];omega⟩
      | exact ⟨by omega,by omega,by simp only [List.length_append];omega⟩
      | exact ⟨by omega,by omega,by simp only [List.length_append];omega,by omega⟩
      | exact ⟨by omega,by decide⟩
      | (constructor<;>(simp only [List.length_append,List.length_nil];omega))
      | (unfold QG_ ks_ je_;exact ⟨rfl,by first | rfl | exact True.intro⟩)
      | (exfalso;simp_all;done)
 ·cases e
def smO (a b:OV):Bool:=QX_ a.1 a.2.1 a.2.2.1 a.2.2.2.1 a.2.2.2.2.1 a.2.2.2.2.2.1 b.1 b.2.1 b.2.2.1 b.2.2.2.1 b.2.2.2.2.1 b.2.2.2.2.2.1
theorem zmq_ {a b:OV} (h:smO a b=true):a=b:=by
 obtain ⟨a1,a2,a3,a4,a5,a6,_⟩:=a
 obtain ⟨b1,b2,b3,b4,b5,b6,_⟩:=b
 unfold smO QX_ at h
 simp only [Bool.and_eq_true,decide_eq_true_eq,beq_iff_eq] at h
 obtain ⟨⟨⟨⟨⟨h1,h2⟩,h3⟩,h4⟩,h5⟩,h6⟩:=h
 rw [h1,h2,h3,h4,h5,h6]
theorem zmr_ {a b:OV} (h:smO a b=false):¬ a=b:=fun e=>by
 rw [e] at h;unfold smO at h;rw [Hb_] at h;cases h
structure okM (l:List OV):Prop where
 a:allLen l
 n:l.length<=100000
def zcB_:IR:=
(sq (kr [0,1] [oD 4 (.mov cF)])
(sq (sq (kr [0,1] [oM 6 0,
oE 7 6,
oM 8 1,
oE 9 8,
oB 10 .neq 7 9])
(.cond 10
(sq (.reg [oD 4 (.mov cF)])
.ret)
.skip))
(sq (sq (kr [0,1] [oD 5 (.mov (cI 0))])
(.block 0
(.loop
(sq (sq (kr [0,1,5] [oM 11 5,
oM 12 0,
oE 13 12,
oB 14 .lss 11 13])
(.cond 14
.skip
(.exit 0)))
(sq (.block 1
(sq (kd [0,1,5] [(oM 17 0,[]),
(oM 18 5,[0]),
(oI 19 6 17 18,[]),
(oK 20 6 19,[]),
(oM 21 1,[0,0,0,0]),
(oM 22 5,[0,0,0,0,0]),
(oI 23 6 21 22,[2,0,0,0]),
(oK 24 6 23,[3,0,0,0]),
(oC 25 110 [20,24],[]),
(oD 26 (.un .not 25),[])])
(.cond 26
(sq (kr [] [oD 4 (.mov cF)])
.ret)
.skip)))
(kr [0,1,5] [oM 15 5,
oB 16 .add 15 (cI 1),
oM 5 16]))))))
(sq (kr [] [oD 4 (.mov cT)])
.ret))))
def zba_:List RD:=[.tmp 4 true none]
theorem zbN_:zm_ Tryz.prog Tryz.f54 zcB_ zba_=true:=by kernel_rfl
def wX_:List AV->List Obj->Option (Prop × AV)
 | [.imm (.cons (.int .i64) (.cons (.int .i64) (.cons .bool (.cons (.int .u64) (.cons (.sl (.int .u8)) (.cons (.sl (.int .u8)) .nil)))))) a,.imm (.cons (.int .i64) (.cons (.int .i64) (.cons .bool (.cons (.int .u64) (.cons (.sl (.int .u8)) (.cons (.sl (.int .u8)) .nil)))))) b],[]=>some ((True,.bool (decide ((a:List OV)=b))))
 | _,_=>none
theorem y1_:zd_ Tryz.prog 54 (RoF wX_).sum:=by
 refine zi_ Tryz.func54 zbN_ (za_ (s:=RoF wZ_) y2_ (zc_ _)) fun args objs p v e=>?_
 unfold wX_ at e
 split at e
 ·rename_i a b
  cases e
  refine ⟨rfl,fun hw ho hp=>?_⟩
  change List OV at a
  change List OV at b
  have hl:a.length<=maxLen:=(hw (.imm Y1 a) (by simp)).2
  unfold maxLen at hl
  clear hw ho
  repeat'(intro t ht;first|(cases t<;>first|(cases ht;done)|(try simp only[zg_]at ht))|((first|refine zb_ ht ?_|refine ht ?_ ?_|refine ht.1 ?_ ?_|refine ht ?_)<;>clear ht))
  all_goals first
   | (have hne:a ≠ b:=fun h=>(by assumption:¬ (a.length:Int)=b.length) (by rw [h])
      refine ⟨?_,rfl⟩;rw [decide_eq_false hne];done)
   | (intro r h1 h2;clear h1;refine h2 ⟨[0,1,5],Nat,(fun i=>i<=a.length/\a.take i=b.take i),fun i=>[.imm Y1 a,.imm Y1 b,.int .i64 i],fun _=>[],fun i=>a.length - i,⟨0,⟨Nat.zero_le _,rfl⟩,rfl,rfl⟩,?_⟩;clear h2)
  rintro i ⟨hi,he⟩
  have hl2:a.length=b.length:=by omega
  repeat'(intro t ht;first|(cases t<;>first|(cases ht;done)|(try simp only[zg_]at ht;try(exfalso;first|contradiction|omega)))|((first|refine zb_ ht ?_|refine ht ?_ ?_|refine ht.1 ?_ ?_|refine ht ?_)<;>clear ht))
  all_goals (try generalize (Ty.dflt Y1)=od at*)
  all_goals first
   | exact True.intro
   | ((try simp only [zk_,zl_,zj_] at*);omega)
   | (have e:=Ks_ he (by omega) hl2
      refine ⟨?_,rfl⟩;rw [decide_eq_true e];done)
   | (have hs:smO (a.getD i od) (b.getD i od)=false:=by assumption
      have hne:a ≠ b:=XO_ (d:=od) (i:=i) (zmr_ hs)
      refine ⟨?_,rfl⟩;rw [decide_eq_false hne];done)
   | (have hs:smO (a.getD i od) (b.getD i od)=true:=by assumption
      exact ⟨i+1,⟨by omega,Qe_ he (by omega) hl2 (d:=od) (zmq_ hs)⟩,by (try simp only [zk_,zl_,zj_] at*);omega,rfl,rfl⟩)
 ·cases e
def lgT (l:List OV) (i:Nat):Int:=4+((l.take i).map szO).sum
def qs_ (l:List OV):Int:=4+(l.map szO).sum
theorem zcb_ {l:List OV} {i:Nat} {d:OV} (h:i < l.length):lgT l (i+1)=lgT l i+szO (l.getD i d):=by
 unfold lgT
 rw [List.take_succ_eq_append_getElem h,List.map_append,List.sum_append,List.getD_eq_getElem?_getD,List.getElem?_eq_getElem h]
 simp only [List.map_cons,List.map_nil,List.sum_cons,List.sum_nil,Option.getD_some];omega
theorem zfK_ {l:List OV} {i:Nat} (h:l.length<=i):lgT l i=qs_ l:=by unfold lgT qs_;rw [List.take_of_length_le h]
theorem zhs_ {o:OV} (h:lenO o):0<=szO o/\szO o<=3000000:=by
 unfold szO;exact zaO_ (lenM h).1 (lenM h).2
theorem zif_ {l:List OV} (h:allLen l) (i:Nat) (hi:i<=l.length):4<=lgT l i/\lgT l i<=4+3000000*i:=by
 induction i with
 | zero=>unfold lgT;simp
 | succ i ih=>
   have:=ih (by omega)
   have d:OV:=(0,0,false,0,[],[],())
   have hs:=zhs_ (h.h _ (zL_ (show i < l.length by omega) d))
   rw [zcb_ (d:=d) (by omega)];omega
theorem zid_ {l:List OV} (h:okM l):4<=qs_ l/\qs_ l<=300000000004:=by
 have:=zif_ h.a l.length (Nat.le_refl _)
 rw [zfK_ (Nat.le_refl _)] at this
 have hn:=h.n
 omega
def hE_:IR:=
(sq (kr [0] [oD 2 (.mov (cI 0))])
(sq (.reg [oD 3 (.mov (cI 4))])
(sq (sq (.reg [oM 6 0,
oE 7 6,
oD 8 (.mov (cI 0))])
(.block 0
(.loop
(sq (kr [3,6,7,8] [oB 9 .lss 8 7])
(sq (.cond 9
.skip
(.exit 0))
(sq (.block 1
(sq (.reg [oI 10 6 6 8,
oK 11 6 10,
oD 5 (.box [.int .i64 0,.int .i64 0,.kb false,.int .u64 0,.imm (.int .u8) [],.imm (.int .u8) []]),
oS 6 5 11])
(kr [3,5,6,7,8] [oM 12 3,
oK 13 6 5,
oC 14 120 [13],
oB 15 .add 12 14,
oM 3 15])))
(kr [3,6,7,8] [oB 16 .add 8 (cI 1),
oM 8 16])))))))
(sq (kr [3] [oM 17 3,
oM 2 17])
.ret))))
def Gz_:List RD:=[.tmp 2 true none]
theorem G5_:zm_ Tryz.prog Tryz.f70 hE_ Gz_=true:=by kernel_rfl
def KP_:List AV->List Obj->Option (Prop × AV)
 | [.imm (.cons (.int .i64) (.cons (.int .i64) (.cons .bool (.cons (.int .u64) (.cons (.sl (.int .u8)) (.cons (.sl (.int .u8)) .nil)))))) l],[]=>some ((okM l,.int .i64 (qs_ l)))
 | _,_=>none
theorem xd_:zd_ Tryz.prog 70 (RoF KP_).sum:=by
 refine zi_ Tryz.func70 G5_ (za_ (s:=RoF jm_) JZ_ (zc_ _)) fun args objs p v e=>?_
 unfold KP_ at e
 split at e
 ·rename_i l
  cases e
  refine ⟨rfl,fun hw ho hp=>?_⟩
  change List OV at l
  clear hw ho
  have hn:=hp.n
  repeat'(intro t ht;first|(cases t<;>first|(cases ht;done)|(try simp only[zg_]at ht))|((first|refine zb_ ht ?_|refine ht ?_ ?_|refine ht.1 ?_ ?_|refine ht ?_)<;>clear ht))
  all_goals first
   | exact True.intro
   | (intro r h1 h2;clear h1;refine h2 ⟨[3,6,7,8],Nat,(fun i=>i<=l.length),fun i=>[.int .i64 (lgT l i),.imm Y1 l,.int .i64 l.length,.int .i64 i],fun _=>[],fun i=>l.length - i,⟨0,Nat.zero_le _,rfl,rfl⟩,?_⟩;clear h2)
  intro i hi
  repeat'(intro t ht;first|(cases t<;>first|(cases ht;done)|(try simp only[zg_]at ht;try(exfalso;first|contradiction|omega)))|((first|refine zb_ ht ?_|refine ht ?_ ?_|refine ht.1 ?_ ?_|refine ht ?_)<;>clear ht))
  all_goals (try generalize (Ty.dflt Y1)=od at*)
  all_goals first
   | exact True.intro
   | ((try simp only [zk_,zl_,zj_] at*);omega)
   | (rw [zfK_ (by omega)];exact ⟨rfl,rfl⟩)
   | (have hs:=hp.a.h _ (zL_ (show i < l.length by omega) od)
      first
       | exact lenM hs
       | (have h1:=zif_ hp.a i (by omega)
          have h2:0<=szO (l.getD i od)/\szO (l.getD i od)<=3000000:=zhs_ hs
          unfold szO at h2
          simp only [Bt_,Bv_,Int.toNat_natCast];omega)
       | (refine ⟨i+1,by omega,by dsimp only;omega,?_,rfl⟩
          dsimp only
          rw [zcb_ (d:=od) (by omega)];rfl))
 ·cases e
def rgM (l:List OV):Bool:=l.all rgO && decide ((ckS [] l).2=0) && decide (qs_ l<=65528)
theorem zkx_ {l:List OV}:(l.any fun o=>!rgO o)=!l.all rgO:=by
 rw [List.not_all_eq_any_not]
def ga_:IR:=
(sq (kr [0] [oD 2 (.mov cF)])
(sq (sq (.reg [oM 5 0,
oC 6 116 [5,.f 117]])
(.cond 6
(sq (.reg [oD 2 (.mov cF)])
.ret)
.skip))
(sq (kr [0] [oM 8 0,
oC 9 119 [8],
oM 7 9,
oX 10 7 0,
oX 11 7 1,
oM 3 10,
oM 4 11])
(sq (kr [0,4] [oM 12 4,
oB 13 .eql 12 (cI 0),
oM 14 13,
oT 14 15 (.mov 0),
oT 14 16 (.call false (.f 70) [15]),
oT 14 17 (.bin .leq 16 (cI 65528)),
oP 18 14 17 cF,
oM 2 18])
.ret))))
def Ui_:List RD:=[.tmp 2 true none]
theorem UK_:zm_ Tryz.prog Tryz.f69 ga_ Ui_=true:=by kernel_rfl
def Ja_:List AV->List Obj->Option (Prop × AV)
 | [.imm (.cons (.int .i64) (.cons (.int .i64) (.cons .bool (.cons (.int .u64) (.cons (.sl (.int .u8)) (.cons (.sl (.int .u8)) .nil)))))) l],[]=>some ((okM l,.bool (rgM l)))
 | _,_=>none
theorem VF_:zd_ Tryz.prog 69 (RoF Ja_).sum:=by
 refine zi_ Tryz.func69 UK_ (za_ (s:=RoF zC_) z3_ (za_ (s:=RoF QA_) jE_ (za_ (s:=RoF KO_) xc_ (za_ (s:=RoF KP_) xd_ (zc_ _))))) fun args objs p v e=>?_
 unfold Ja_ at e
 split at e
 ·rename_i l
  cases e
  refine ⟨rfl,fun hw ho hp=>?_⟩
  change List OV at l
  clear hw ho
  have hA:=hp.a
  have hN:=zkx_ (l:=l)
  repeat'(intro t ht;first|(cases t<;>first|(cases ht;done)|(try simp only[zg_]at ht;try(exfalso;first|contradiction|omega)))|((first|refine zb_ ht ?_|refine ht ?_ ?_|refine ht.1 ?_ ?_|refine ht ?_)<;>clear ht))
  all_goals first
   | exact True.intro
   | exact hA
   | exact hp
   | (have ha:l.all rgO=false:=by rw [ht] at hN;cases h:l.all rgO<;>simp_all
      refine ⟨congrArg AV.bool ?_,rfl⟩;unfold rgM;rw [ha];rfl)
   | (refine ⟨congrArg AV.bool ?_,rfl⟩;unfold rgM;simp_all;done)
 ·cases e
def pz (n:Int):Int:=(8 - n.tmod 8).tmod 8
theorem Ve_ {n:Int} (h:0<=n):pz n=(8 - n % 8) % 8/\0<=pz n/\pz n<=7:=by
 unfold pz
 rw [Int.tmod_eq_emod_of_nonneg h,Int.tmod_eq_emod_of_nonneg (by omega)];omega
def U9_:IR:=
(sq (kr [0] [oD 2 (.mov (cI 0))])
(sq (kr [0] [oM 3 0,
oB 4 .rem 3 (cI 8),
oB 5 .sub (cI 8) 4,
oB 6 .rem 5 (cI 8),
oM 2 6])
.ret))
def Uh_:List RD:=[.tmp 2 true none]
theorem UJ_:zm_ Tryz.prog Tryz.f72 U9_ Uh_=true:=by kernel_rfl
def kY_:List AV->List Obj->Option (Prop × AV)
 | [.int .i64 n],[]=>some ((0<=n,.int .i64 (pz n)))
 | _,_=>none
theorem Wb_:zd_ Tryz.prog 72 (RoF kY_).sum:=by
 refine zi_ Tryz.func72 UJ_ (zc_ _) fun args objs p v e=>?_
 unfold kY_ at e
 split at e
 ·rename_i n
  cases e
  refine ⟨rfl,fun hw ho hp=>?_⟩
  clear hw ho
  have h1:=Xv_ (a:=n) (s:=8) hp (by decide)
  repeat'(intro t ht;first|(cases t<;>first|(cases ht;done)|(try simp only[zg_]at ht;try(exfalso;first|contradiction|omega)))|((first|refine zb_ ht ?_|refine ht ?_ ?_|refine ht.1 ?_ ?_|refine ht ?_)<;>clear ht))
  all_goals first
   | exact True.intro
   | exact ⟨rfl,rfl⟩
   | ((try simp only [zk_,zl_,zj_] at*);omega)
 ·cases e
def BI_:IR:=
(sq (kr [0] [oD 2 (.mov (cI 0))])
(sq (kr [0] [oM 3 0,
oB 4 .rem 3 (cI 8),
oB 5 .sub (cI 8) 4,
oB 6 .rem 5 (cI 8),
oM 2 6])
.ret))
def bq_:List RD:=[.tmp 2 true none]
theorem b1_:zm_ Tryz.prog Tryz.f102 BI_ bq_=true:=by kernel_rfl
def Xf_:List AV->List Obj->Option (Prop × AV)
 | [.int .i64 n],[]=>some ((0<=n,.int .i64 (pz n)))
 | _,_=>none
theorem Ga_:zd_ Tryz.prog 102 (RoF Xf_).sum:=by
 refine zi_ Tryz.func102 b1_ (zc_ _) fun args objs p v e=>?_
 unfold Xf_ at e
 split at e
 ·rename_i n
  cases e
  refine ⟨rfl,fun hw ho hp=>?_⟩
  clear hw ho
  have h1:=Xv_ (a:=n) (s:=8) hp (by decide)
  repeat'(intro t ht;first|(cases t<;>first|(cases ht;done)|(try simp only[zg_]at ht;try(exfalso;first|contradiction|omega)))|((first|refine zb_ ht ?_|refine ht ?_ ?_|refine ht.1 ?_ ?_|refine ht ?_)<;>clear ht))
  all_goals first
   | exact True.intro
   | exact ⟨rfl,rfl⟩
   | ((try simp only [zk_,zl_,zj_] at*);omega)
 ·cases e
section
variable {I:Nat->Prop} {w:World} {mm:M}
end
theorem zmU_ (b:List Int):Zy_ [2,2] b=if b.length < 4 then ([],1) else ([Zd_ (b.take 2),Zd_ ((b.drop 2).take 2)],0):=by
 have hr:Zb_ [2,2]=true:=by decide
 unfold Zy_
 rw [if_pos hr]
 have a2:zr_ 2=2:=by decide
 have t2:Int.toNat 2=2:=rfl
 have p2:(0:Int) < 2:=by decide
 simp only [ZE_,a2,t2,if_pos p2,List.length_drop]
 by_cases h:b.length < 4
 ·rw [if_pos h]
  by_cases h2:(b.length:Int) < 2
  ·rw [if_pos h2]
  ·rw [if_neg h2,if_pos (by omega)]
 ·rw [if_neg h,if_neg (by omega),if_neg (by omega)];rfl
def tT (b:List Int):Int:=Zd_ (b.take 2)
def tN (b:List Int):Int:=Zd_ ((b.drop 2).take 2)
def tlE (b:List Int) (least step bad:Int):Int:=if b.length < 4 then bad else if tN b < least\/¬ (tN b).tmod step=0 then bad else if (b.length:Int) < tN b then bad else 0
def tlI (b:List Int) (least step bad x:Int):Int:=if tlE b least step bad=0 then x else 0
def tlR (b:List Int) (least step bad:Int):List Int:=if tlE b least step bad=0 then (b.take (tN b).toNat).drop 4 else []
theorem jI_ {b:List Int} {a:Nat} (hb:∀ x ∈ b,0<=x/\x<=255):0<=Zd_ ((b.drop a).take 2)/\Zd_ ((b.drop a).take 2)<=65535:=by
 have h:=Yo_ ((b.drop a).take 2) fun x hx=>hb x (List.mem_of_mem_drop (List.mem_of_mem_take hx))
 have hl:((b.drop a).take 2).length<=2:=by rw [List.length_take];omega
 have hp:∀ k ≤ 2,(256:Int) ^ k<=65536:=by decide
 have:=hp _ hl
 omega
def bd (b:List Int):List Int:=(b.take (tN b).toNat).drop 4
theorem gN_ {b:List Int} (hb:∀ x ∈ b,0<=x/\x<=255):(bd b).length<=65535:=by
 have:=jI_ (a:=2) hb
 unfold bd tN;rw [List.length_drop,List.length_take];omega
theorem zm2_ {b:List Int} {sh od:Int}:QR_ [2,2] b 0 0=(if b.length < 4 then [] else [tT b,tN b])/\kC_ [2,2] b 0 0=(if b.length < 4 then 0 else 4)/\Kg_ [2,2] b 0 sh od 0=(if b.length < 4 then sh else 0):=by
 have e:Zy_ [2,2] (b.drop (0:Int).toNat)=if b.length < 4 then ([],1) else ([tT b,tN b],0):=by
  rw [show (0:Int).toNat=0 from rfl,List.drop_zero,zmU_];rfl
 have es:zD_ [2,2]=4:=by decide
 unfold QR_ kC_ Kg_ zG_ zQ_
 rw [e,es]
 by_cases h:b.length < 4
 ·simp only [if_pos h];exact ⟨rfl,rfl,rfl⟩
 ·simp only [if_neg h];exact ⟨rfl,rfl,rfl⟩
def vr_:IR:=
(sq (kr [0] [oD 1 (.boxv 0),
oD 2 (.mov cF)])
(sq (kr [1] [oA 3 0 1,
oL 4 3,
oB 5 .geq 4 (cI 4),
oM 6 5,
oT 6 7 (.fieldAddr 0 1),
oT 6 8 (.load none 7),
oT 6 9 (.bin .leq 8 (cI 60000)),
oP 10 6 9 cF,
oM 11 10,
oT 11 12 (.fieldAddr 1 1),
oT 11 13 (.load none 12),
oT 11 14 (.bin .geq 13 (cI 1)),
oP 15 11 14 cF,
oM 16 15,
oT 16 17 (.fieldAddr 1 1),
oT 16 18 (.load none 17),
oT 16 19 (.bin .leq 18 (cI 64)),
oP 20 16 19 cF,
oM 21 20,
oT 21 22 (.fieldAddr 3 1),
oT 21 23 (.load none 22),
oT 21 24 (.bin .neq 23 (cI 0)),
oP 25 21 24 cF,
oM 26 25,
oT 26 27 (.fieldAddr 4 1),
oT 26 28 (.load none 27),
oT 26 29 (.bin .neq 28 (cI 0)),
oP 30 26 29 cF,
oM 2 30])
.ret))
def Y6_:List RD:=[.tmp 2 true none]
theorem vg_:zm_ Tryz.prog Tryz.f154 vr_ Y6_=true:=by kernel_rfl
def Qz_:List AV->List Obj->Option (Prop × AV)
 | [.agg [.int .i64 least,.int .i64 step,.bool pad,.int .i64 bad,.int .i64 odd]],[]=>some ((4<=least/\least<=60000/\1<=step/\step<=64/\bad ≠ 0/\odd ≠ 0,.bool true))
 | _,_=>none
theorem jC_:zd_ Tryz.prog 154 (RoF Qz_).sum:=by
 refine zi_ Tryz.func154 vg_ (zc_ _) fun args objs p v e=>?_
 unfold Qz_ at e
 split at e
 ·rename_i least step pad bad odd
  cases e
  refine ⟨rfl,fun hw ho hp=>?_⟩
  clear hw ho
  obtain ⟨h1,h2,h3,h4,h5,h6⟩:=hp
  repeat'(intro t ht;first|(cases t<;>first|(cases ht;done)|(try simp only[zg_]at ht;try(exfalso;first|contradiction|omega)))|((first|refine zb_ ht ?_|refine ht ?_ ?_|refine ht.1 ?_ ?_|refine ht ?_)<;>clear ht))
  all_goals first
   | exact True.intro
   | exact ⟨rfl,rfl⟩
   | (exfalso;omega)
   | (refine ⟨congrArg AV.bool ?_,rfl⟩;simp;omega)
 ·cases e
def Yt_:IR:=
(sq (kr [0,1] [oD 2 (.boxv 0),
oD 4 (.mov cF)])
(sq (kr [1,2] [oM 5 1,
oA 6 0 2,
oL 7 6,
oB 8 .geq 5 7,
oM 9 8,
oT 9 10 (.fieldAddr 2 2),
oT 9 11 (.load none 10),
oT 9 12 (.mov 11),
oF 12 13 (.mov 1),
oF 12 14 (.fieldAddr 1 2),
oF 12 15 (.load none 14),
oF 12 16 (.bin .rem 13 15),
oF 12 17 (.bin .eql 16 (cI 0)),
oT 9 18 (.pick 12 cT 17),
oP 19 9 18 cF,
oM 4 19])
.ret))
def Ya_:List RD:=[.tmp 4 true none]
theorem Yj_:zm_ Tryz.prog Tryz.f155 Yt_ Ya_=true:=by kernel_rfl
def q9_:List AV->List Obj->Option (Prop × AV)
 | [.agg [.int .i64 least,.int .i64 step,.bool pad,.int .i64 bad,.int .i64 odd],.int .i64 n],[]=>some ((pad=false/\1<=step,.bool (decide (least<=n) && decide (n.tmod step=0))))
 | _,_=>none
theorem K3_:zd_ Tryz.prog 155 (RoF q9_).sum:=by
 refine zi_ Tryz.func155 Yj_ (zc_ _) fun args objs p v e=>?_
 unfold q9_ at e
 split at e
 ·rename_i least step pad bad odd n
  cases e
  refine ⟨rfl,fun hw ho hp=>?_⟩
  clear hw ho
  obtain ⟨rfl,h1⟩:=hp
  repeat'(intro t ht;first|(cases t<;>first|(cases ht;done)|(try simp only[zg_]at ht;try(exfalso;first|contradiction|omega)))|((first|refine zb_ ht ?_|refine ht ?_ ?_|refine ht.1 ?_ ?_|refine ht ?_)<;>clear ht))
  all_goals first
   | exact True.intro
   | omega
   | (refine ⟨congrArg AV.bool ?_,rfl⟩;simp_all;done)
   | (refine ⟨congrArg AV.bool ?_,rfl⟩;rw [decide_eq_false (by omega)];rfl)
 ·cases e
def yn_:IR:=
(sq (kr [0,1] [oD 2 (.boxv 0),
oD 4 (.mov (cI 0))])
(sq (sq (.reg [oA 5 2 2,
oL 6 5,
oD 7 (.un .not 6)])
(.cond 7
(sq (.reg [oD 4 (.mov (cI 0))])
.ret)
.skip))
(sq (kd [1,2] [(oA 8 1 2,[]),
(oL 9 8,[]),
(oM 10 1,[0,0]),
(oA 11 1 2,[0,0,0]),
(oL 12 11,[1,0,0]),
(oB 13 .rem 10 12,[3,0]),
(oB 14 .sub 9 13,[]),
(oA 15 1 2,[0,0,0,0,0,0,0]),
(oL 16 15,[1,0,0,0,0,0,0]),
(oB 17 .rem 14 16,[]),
(oM 4 17,[])])
.ret)))
def yc_:List RD:=[.tmp 4 true none]
theorem yg_:zm_ Tryz.prog Tryz.f156 yn_ yc_=true:=by kernel_rfl
def qI_:List AV->List Obj->Option (Prop × AV)
 | [.agg [.int .i64 least,.int .i64 step,.bool pad,.int .i64 bad,.int .i64 odd],.int .i64 n],[]=>some ((pad=false,.int .i64 0))
 | _,_=>none
theorem Kt_:zd_ Tryz.prog 156 (RoF qI_).sum:=by
 refine zi_ Tryz.func156 yg_ (zc_ _) fun args objs p v e=>?_
 unfold qI_ at e
 split at e
 ·rename_i least step pad bad odd n
  cases e
  refine ⟨rfl,fun hw ho hp=>?_⟩
  clear hw ho
  subst hp
  repeat'(intro t ht;first|(cases t<;>first|(cases ht;done)|(try simp only[zg_]at ht;try(exfalso;first|contradiction|omega)))|((first|refine zb_ ht ?_|refine ht ?_ ?_|refine ht.1 ?_ ?_|refine ht ?_)<;>clear ht))
  all_goals first
   | exact True.intro
   | exact ⟨rfl,rfl⟩
 ·cases e
def zez_:IR:=
(sq (kr [0,1] [oD 2 (.boxv 0),
oD 4 (.box [.int .i64 0,.imm (.int .u8) []]),
oD 5 (.mov (cI 0)),
oD 6 (.mov (cI 0))])
(sq (sq (.reg [oK 13 5 2,
oC 14 154 [13],
oD 15 (.un .not 14)])
(.cond 15
(sq (kr [4] [oD 16 (.build [.int .i64 0,.imm (.int .u8) []] []),
oS 2 4 16,
oD 5 (.mov (cI 0)),
oD 6 (.mov (cI 10001))])
.ret)
.skip))
(sq (kr [1,2,4] [oM 17 1,
oA 18 3 2,
oL 19 18,
oA 20 4 2,
oL 21 20,
oC 22 41 [17,19,21],
oM 7 22])
(sq (kr [1,2,4,7] [oM 23 7,
oD 24 (.sliceAll (.int .i64) 2 [(0,1,(cI 2)),(1,1,(cI 2))]),
oC 25 42 [23,24],
oM 8 25])
(sq (sq (.reg [oM 26 8,
oE 27 26,
oB 28 .eql 27 (cI 0)])
(.cond 28
(sq (kr [4,7] [oD 29 (.build [.int .i64 0,.imm (.int .u8) []] []),
oM 30 7,
oC 31 43 [30],
oS 2 4 29,
oD 5 (.mov (cI 0)),
oM 6 31])
.ret)
.skip))
(sq (kr [1,2,4,7,8] [oM 32 8,
oD 33 (.indexSl 1 32 (cI 1)),
oL 34 33,
oD 35 (.conv .i64 34),
oM 9 35])
(sq (sq (kr [1,2,4,7,8,9] [oK 36 5 2,
oM 37 9,
oC 38 155 [36,37],
oD 39 (.un .not 38),
oM 40 39,
oF 40 41 (.mov 9),
oF 40 42 (.load (some 5) 2),
oF 40 43 (.mov 9),
oF 40 44 (.call false (.f 156) [42,43]),
oF 40 45 (.bin .add 41 44),
oF 40 46 (.mov 1),
oF 40 47 (.len 46),
oF 40 48 (.bin .gtr 45 47),
oP 49 40 cT 48])
(.cond 49
(sq (kd [2,4] [(oD 50 (.build [.int .i64 0,.imm (.int .u8) []] []),[]),
(oA 51 3 2,[0]),
(oL 52 51,[1]),
(oS 2 4 50,[0,0]),
(oD 5 (.mov (cI 0)),[1,0]),
(oM 6 52,[])])
.ret)
.skip))
(sq (kd [2,4,7,8,9] [(oM 53 8,[]),
(oD 54 (.indexSl 1 53 (cI 0)),[]),
(oL 55 54,[]),
(oD 56 (.conv .i64 55),[]),
(oM 57 7,[0,0,0,0]),
(oM 58 9,[0,0,0,0,0]),
(oB 59 .sub 58 (cI 4),[1,0,0,0,0]),
(oC 60 98 [57,59],[3,0,0,0]),
(oD 61 (.buildAll 2 [(0,1,56),(1,1,60)]),[]),
(oD 10 (.box [.int .i64 0,.imm (.int .u8) []]),[0,0,0,0,0,0,0,0,0]),
(oS 2 10 61,[])])
(sq (sq (kr [2,4,7,9,10] [oK 62 5 2,
oM 63 9,
oC 64 156 [62,63],
oM 11 64])
(sq (.reg [oM 65 11,
oB 66 .gtr 65 (cI 0)])
(.cond 66
(kr [4,7,10,11] [oM 67 7,
oM 68 11,
oD 69 (.un .neg 68),
oD 70 (.sliceAll (.int .i64) 1 [(0,1,69)]),
oC 71 42 [67,70]])
.skip)))
(sq (sq (kr [4,7,10] [oM 72 7,
oC 73 43 [72],
oM 12 73])
(sq (.reg [oM 74 12,
oB 75 .neq 74 (cI 0)])
(.cond 75
(sq (.reg [oD 76 (.build [.int .i64 0,.imm (.int .u8) []] []),
oM 77 12,
oS 2 4 76,
oD 5 (.mov (cI 0)),
oM 6 77])
.ret)
.skip)))
(sq (kd [4,7,10] [(oK 78 2 10,[]),
(oM 79 7,[0]),
(oC 80 133 [79],[1]),
(oS 2 4 78,[]),
(oM 5 80,[]),
(oD 6 (.mov (cI 0)),[])])
.ret)))))))))))
def zdO_:List RD:=[.cell 4 (some 2) true [],.tmp 5 true none,.tmp 6 true none]
theorem zd8_:zm_ Tryz.prog Tryz.f136 zez_ zdO_=true:=by kernel_rfl
def KZ_:List AV->List Obj->Option (Prop × AV)
 | [.agg [.int .i64 least,.int .i64 step,.bool pad,.int .i64 bad,.int .i64 odd],.imm (.int .u8) b],[]=>some ((pad=false/\(4<=least/\least<=60000/\1<=step/\step<=64/\bad ≠ 0/\odd ≠ 0)/\b.length<=140737488355328,.tup [.agg [.int .i64 (tlI b least step bad (tT b)),.imm (.int .u8) (tlR b least step bad)],.int .i64 (tlI b least step bad (tN b)),.int .i64 (tlE b least step bad)]))
 | _,_=>none
theorem jD_:zd_ Tryz.prog 136 (RoF KZ_).sum:=by
 refine zi_ Tryz.func136 zd8_ (za_ (s:=RoF Qz_) jC_ (za_ (s:=RwF ZP_) ZQ_ (za_ (s:=RwF z1_) Zf_ (za_ (s:=RoF zp_) zq_ (za_ (s:=RoF q9_) K3_ (za_ (s:=RoF qI_) Kt_ (za_ (s:=RwF zN_) z4_ (za_ (s:=RoF ZW_) qL_ (zc_ _))))))))) fun args objs p v e=>?_
 unfold KZ_ at e
 split at e
 ·rename_i least step pad bad odd b
  cases e
  refine ⟨rfl,fun hw ho hp=>?_⟩
  change List Int at b
  have hb:∀ x ∈ (b:List Int),(0:Int)<=x/\x<=255:=fun x hx=>(hw _ (by simp:AV.imm (.int .u8) b ∈ _)).1 x hx
  clear hw ho
  obtain ⟨rfl,hs,hl⟩:=hp
  have hs':=hs
  obtain ⟨h1,h2,h3,h4',h5,h6⟩:=hs'
  have hT:0<=tT b/\tT b<=65535:=jI_ (a:=0) hb
  have hN:0<=tN b/\tN b<=65535:=jI_ (a:=2) hb
  obtain ⟨c1,c2,c3⟩:=zm2_ (b:=b) (sh:=bad) (od:=odd)
  have hm:=Xv_ (a:=tN b) (s:=step) hN.1 h3
  by_cases h4:b.length < 4
  ·rw [if_pos h4] at c1 c2 c3
   have hE:tlE b least step bad=bad:=if_pos h4
   repeat'(intro t ht;first|(cases t<;>first|(cases ht;done)|(try simp only[zg_]at ht;try(exfalso;first|contradiction|omega)))|((first|refine zb_ ht ?_|refine ht ?_ ?_|refine ht.1 ?_ ?_|refine ht ?_)<;>clear ht))
   all_goals (try simp only [c1,c2,c3,List.length_nil,not_true_eq_false] at*)
   all_goals first
    | exact True.intro
    | exact ⟨rfl,hs⟩
    | exact hs
    | omega
    | exact ⟨by omega,by omega,by omega⟩
    | (unfold tlI tlR;simp only [hE,if_neg h5];first | done | exact ⟨rfl,by first | rfl | exact True.intro⟩ | exact ⟨trivial,trivial⟩)
    | (exfalso;omega)
  ·rw [if_neg h4] at c1 c2 c3
   have g0:∀ d:Int,[tT b,tN b].getD (Int.toNat 0) d=tT b:=fun _=>rfl
   have g1:∀ d:Int,[tT b,tN b].getD (Int.toNat 1) d=tN b:=fun _=>rfl
   have hok:4<=tN b->tN b<=b.length->Z1_ (tN b - 4) b 4 bad 0=0/\Qn_ (tN b - 4) b 4 bad 0=(b.take (tN b).toNat).drop 4/\jB_ (tN b - 4) b 4 bad 0=tN b:=fun q1 q2=>by
    have e:Z1_ (tN b - 4) b 4 bad 0=0:=by unfold Z1_;rw [if_neg (by omega),if_neg (by omega)]
    refine ⟨e,?_,?_⟩
    ·unfold Qn_;rw [if_pos e];congr 2;omega
    ·unfold jB_;rw [if_pos e];omega
   repeat'(intro t ht;first|(cases t<;>first|(cases ht;done)|(try simp only[zg_]at ht;try(exfalso;first|contradiction|omega)))|((first|refine zb_ ht ?_|refine ht ?_ ?_|refine ht.1 ?_ ?_|refine ht ?_)<;>clear ht))
   all_goals (try simp only [c1,c2,c3,g0,g1,List.length_cons,List.length_nil,not_true_eq_false] at*)
   all_goals first
    | exact True.intro
    | exact ⟨True.intro,h3⟩
    | exact hs
    | omega
    | exact ⟨by omega,by omega,by omega⟩
    | exact ⟨by omega,by omega,by omega,h5⟩
    | ((try simp only [zk_,zl_,zj_] at*);omega)
    | (exfalso;omega)
    | (have hE:tlE b least step bad=bad:=by
        unfold tlE;rw [if_neg h4]
        first
         | exact if_pos (by omega)
         | (by_cases hq:tN b < least\/¬ (tN b).tmod step=0
            ·exact if_pos hq
            ·rw [if_neg hq];exact if_pos (by omega))
       unfold tlI tlR;simp only [hE,if_neg h5];first | done | exact ⟨rfl,by first | rfl | exact True.intro⟩ | exact ⟨trivial,trivial⟩)
    | (obtain ⟨q1,q2,q3⟩:=hok (by omega) (by omega)
       first
        | exact absurd q1 (by assumption)
        | (have hE:tlE b least step bad=0:=by
            unfold tlE;rw [if_neg h4,if_neg (by omega)];exact if_neg (by omega)
           unfold tlI tlR;simp only [hE,q2,q3,if_true];first | done | exact ⟨rfl,by first | rfl | exact True.intro⟩ | exact ⟨trivial,trivial⟩))
 ·cases e
def xk_ (b:List Int):Int:=if zK_ b=0 then (if ¬ (zu_ b=32768/\X1_ (zz_ b)=true) then 526 else if z5_ b=true then 528 else if z9_ b+8<=b.length then 527 else if zT_ (b.drop (z9_ b).toNat)=true then 0 else 528) else if zK_ b=1026 then 527 else if zK_ b=1031 then 526 else 528
def plE (t:Int) (y:List Int):Int:=if ¬ t=65535/\¬ (y.length:Int)=zD_ (zE_ t) then 514 else if zQ_ (zE_ t) y=1 then 514 else if zQ_ (zE_ t) y=2 then 518 else gP_ t ((zG_ (zE_ t) y).getD 0 0)
def acE (b:List Int):Int:=if ¬ tlE b 8 8 514=0 then tlE b 8 8 514 else if tT b=25 then xk_ (bd b) else if Gm_ (tT b)=true then plE (tT b) (bd b) else 513
def acI (b:List Int) (x:Int):Int:=if acE b=0 then x else 0
def acA (b:List Int) (k:Nat):Int:=acI b (if tT b=25 then 0 else (zG_ (zE_ (tT b)) (bd b)).getD k 0)
def acS (b:List Int) (x:Int):Int:=acI b (if tT b=25 then x else 0)
def acH (b:List Int):Bool:=decide (acE b=0) && decide (tT b=25) && z5_ (bd b)
def acV (b l:List Int):List Int:=if acE b=0 then (if tT b=25 then l else []) else []
def acD (b:List Int):List Int:=if acE b=0 then (if tT b=25 then [] else (bd b).drop (zD_ (zE_ (tT b))).toNat) else []
theorem vB_:∀ (w b o:List Int),(ZE_ w b o).2=0\/(ZE_ w b o).2=1\/(ZE_ w b o).2=2
 | [],b,o=>.inl rfl
 | n :: r,b,o=>by
   simp only [ZE_]
   split
   ·exact .inr (.inl rfl)
   ·split
    ·exact vB_ r _ _
    ·split
     ·exact vB_ r _ _
     ·exact .inr (.inr rfl)
theorem KF_ (w b:List Int):zQ_ w b=0\/zQ_ w b=1\/zQ_ w b=2:=by
 unfold zQ_ Zy_;split
 ·exact vB_ w b []
 ·exact .inr (.inr rfl)
theorem zhS_ {t a b:Int} (h2:2<=zH_ (zE_ t)\/b=0) (h1:1<=zH_ (zE_ t)\/a=0):(jH_ t a b).getD 0 0=a/\(jH_ t a b).getD 1 0=b:=by
 have hc:=gG_ t
 unfold jH_
 generalize zH_ (zE_ t)=n at*
 have:n=0\/n=1\/n=2:=by omega
 rcases this with rfl | rfl | rfl
 ·have ha:a=0:=by omega
  have hb:b=0:=by omega
  subst ha;subst hb;exact ⟨rfl,rfl⟩
 ·have hb:b=0:=by omega
  subst hb;exact ⟨rfl,rfl⟩
 ·exact ⟨rfl,rfl⟩
theorem Ha_ {c f:Int} {h:Bool} {x:Int} {v m:List Int} (hs:QX_ c f h x v m 0 0 false 0 [] []=true):c=0/\f=0/\h=false/\x=0/\v=[]/\m=[]:=by
 unfold QX_ at hs
 simp only [Bool.and_eq_true,decide_eq_true_eq,beq_iff_eq] at hs
 obtain ⟨⟨⟨⟨⟨h1,h2⟩,h3⟩,h4⟩,h5⟩,h6⟩:=hs
 exact ⟨h1,h2,h4,h3,h5,h6⟩
theorem zcT_ {t N:Int} {body rest:List Int} (ht:0<=t/\t<=65535) (hN:N=4+body.length) (h8:8<=N) (hm:(4+body.length) % 8=0) (hN2:N<=65535):
 tT (ze_ t 2++ze_ N 2++body++rest)=t/\tN (ze_ t 2++ze_ N 2++body++rest)=N/\tlE (ze_ t 2++ze_ N 2++body++rest) 8 8 514=0/\bd (ze_ t 2++ze_ N 2++body++rest)=body:=by
 have l2:(ze_ t 2).length=2:=by have:=zn_ (n:=t) (w:=2) (by decide);omega
 have l3:(ze_ N 2).length=2:=by have:=zn_ (n:=N) (w:=2) (by decide);omega
 have e1:tT (ze_ t 2++ze_ N 2++body++rest)=t:=by
  unfold tT;rw [List.append_assoc,List.append_assoc,List.take_left' l2];exact num2 ht
 have e2:tN (ze_ t 2++ze_ N 2++body++rest)=N:=by
  unfold tN;rw [List.append_assoc,List.append_assoc,List.drop_left' l2,List.take_left' l3];exact num2 (by omega)
 have hl:(ze_ t 2++ze_ N 2++body++rest).length=4+body.length+rest.length:=by simp only [List.length_append];omega
 refine ⟨e1,e2,?_,?_⟩
 ·unfold tlE
  rw [e2,hl,if_neg (by omega),if_neg (by rw [Int.tmod_eq_emod_of_nonneg (by omega)];omega),if_neg (by omega)]
 ·unfold bd
  rw [e2,List.take_left' (by simp only [List.length_append];omega)]
  exact List.drop_left' (by rw [List.length_append];omega)
theorem zmj_ {t a b c f:Int} {h:Bool} {x:Int} {v m d rest:List Int} (hr:qh_ (zS_ c f h x v m) t a b c f h x v m d=true) (ha:0<=a/\a<=18446744073709551615) (hb:0<=b/\b<=18446744073709551615) (hx:0<=x):
 (let y:=gE_ t a b (ZF_ c f h x v m) d++rest
  acE y=0/\tT y=t/\tN y=4+(qu_ t a b (ZF_ c f h x v m) d).length/\acA y 0=a/\acA y 1=b/\acS y (zu_ (bd y))=c/\acS y (zz_ (bd y))=f/\acH y=h/\acS y (qf_ (bd y))=x/\acV y (Zp_ (bd y))=v/\acV y (Zq_ (bd y))=m/\acD y=d):=by
 obtain ⟨_,s1,s2,s3⟩:=Xx_ hr
 have htt:0<=t/\t<=65535:=by
  by_cases h25:t=25
  ·omega
  ·exact HQ_ (.inl (K9_ h25 hr).1)
 have hd:gE_ t a b (ZF_ c f h x v m) d++rest=ze_ t 2++ze_ (4+(qu_ t a b (ZF_ c f h x v m) d).length) 2++qu_ t a b (ZF_ c f h x v m) d++rest:=rfl
 obtain ⟨e1,e2,e3,e4⟩:=zcT_ (rest:=rest) htt rfl (by omega) s2 (by omega)
 dsimp only
 rw [hd]
 generalize ze_ t 2++ze_ (4+(qu_ t a b (ZF_ c f h x v m) d).length) 2++qu_ t a b (ZF_ c f h x v m) d++rest=y at*
 by_cases h25:t=25
 ·obtain ⟨rfl,rfl,rfl,rfl,rfl,k6,k7⟩:=Xy_ h25 hr
  have hB:qu_ t 0 0 (ZF_ 32768 f false x v m) []=Qg_ 32768 f false x v m++List.replicate ((8 - (4+(ZF_ 32768 f false x v m).length) % 8) % 8) 0:=by unfold qu_;rw [if_pos h25,zab_ k7]
  obtain ⟨D1,D2,D3,D4,D5,D6,D7,D8⟩:=zfU_ (b:=List.replicate ((8 - (4+(ZF_ 32768 f false x v m).length) % 8) % 8) (0:Int)) k7 hx
  rw [<- hB,<- e4] at D1 D2 D3 D4 D5 D6 D7 D8
  have hbl:(bd y).length=(Qg_ 32768 f false x v m).length+(8 - (4+(ZF_ 32768 f false x v m).length) % 8) % 8:=by rw [e4,hB,List.length_append,List.length_replicate]
  have hdz:zT_ ((bd y).drop (z9_ (bd y)).toNat)=true:=by
   rw [D8,e4,hB,Int.toNat_natCast,List.drop_left];exact YT_ _
  have hs:xk_ (bd y)=0:=by
   unfold xk_
   rw [if_pos D1,D2,D3,D4,if_neg (not_not_intro ⟨rfl,k6⟩),if_neg (by decide),if_neg (by rw [D8,hbl];omega),if_pos hdz]
  have hE:acE y=0:=by unfold acE;rw [if_neg (not_not_intro e3),e1,if_pos h25];exact hs
  unfold acA acS acH acV acD acI
  rw [hE,e1,D2,D3,D4,D5,D6,D7]
  simp only [if_pos h25,if_true]
  exact ⟨trivial,trivial,e2,trivial,trivial,trivial,trivial,by simp,trivial,trivial,trivial,trivial⟩
 ·obtain ⟨k1,k2,k3,k4,k5,k6,k7⟩:=K9_ h25 hr
  obtain ⟨rfl,rfl,rfl,rfl,rfl,rfl⟩:=Ha_ k2
  have hB:qu_ t a b (ZF_ 0 0 false 0 [] []) d=ZR_ (zE_ t) (jH_ t a b)++d:=if_neg h25
  have hn64:∀ z ∈ jH_ t a b,0<=z/\z<=18446744073709551615:=fun z hz=>by
   have:=List.mem_of_mem_take hz
   simp only [List.mem_cons,List.not_mem_nil,or_false] at this
   rcases this with rfl | rfl<;>assumption
  obtain ⟨g1,g2⟩:=vc_ d hn64 k4
  rw [<- hB,<- e4] at g1
  have gL:zG_ (zE_ t) (bd y)=jH_ t a b:=congrArg Prod.fst g1
  have gK:zQ_ (zE_ t) (bd y)=0:=congrArg Prod.snd g1
  obtain ⟨n1,n2⟩:=zhS_ k5 k6
  have hz:=u8_ t
  have hbl:((bd y).length:Int)=zD_ (zE_ t)+d.length:=by rw [e4,hB,List.length_append];omega
  have hs:plE t (bd y)=0:=by
   unfold plE
   rw [gK,gL,n1,if_neg (by
    rintro ⟨q1,q2⟩
    rcases k7 with ⟨q3,_⟩ | ⟨_,rfl⟩
    ·exact q1 q3
    ·simp only [List.length_nil] at hbl;omega),if_neg (by decide),if_neg (by decide)]
   exact k3
  have hE:acE y=0:=by unfold acE;rw [if_neg (not_not_intro e3),e1,if_neg h25,if_pos k1];exact hs
  have hdd:(bd y).drop (zD_ (zE_ t)).toNat=d:=by rw [e4,hB];exact List.drop_left' (by omega)
  unfold acA acS acH acV acD acI
  rw [hE,e1,gL,n1,n2,hdd]
  simp only [if_neg h25,if_true]
  exact ⟨trivial,trivial,e2,trivial,trivial,trivial,trivial,by simp [h25],trivial,trivial,trivial,trivial⟩
end Go.Eng
