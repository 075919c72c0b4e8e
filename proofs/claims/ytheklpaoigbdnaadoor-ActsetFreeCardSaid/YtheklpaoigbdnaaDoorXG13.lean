/- Parts of the proof: A1, A2, M3, A3, A4, A6, A7, A8, A9, H1, H2, H3, H4, Z1, F6, Z2, U1, U3, U8, U2. No condition. -/
import Derived.Test.YtheklpaoigbdnaaDoorProg
import Derived.Test.YtheklpaoigbdnaaDoorXG11
import Derived.KernelRfl
import Derived.Test.YtheklpaoigbdnaaDoorXG12
namespace Go.Eng
open Go.Proofs
set_option linter.unusedVariables false
set_option linter.unusedSimpArgs false
set_option maxRecDepth 100000
set_option maxHeartbeats 1000000
def KB_ (t:Int):List Int:=if t=0 then [4,2,-6] else if t=22\/t=21\/t=65535 then [4] else if t=15\/t=23 then [1,-3] else if t=17\/t=19\/t=26\/t=20 then [2,-2] else if t=11\/t=12\/t=16\/t=18\/t=24\/t=27 then [-4] else []
def GG_ (t:Int):Bool:=decide (t=0\/(t=22\/t=21\/t=65535)\/(t=15\/t=23)\/(t=17\/t=19\/t=26\/t=20)\/(t=11\/t=12\/t=16\/t=18\/t=24\/t=27))
theorem gz_ {t:Int} (h:¬ (t=0\/(t=22\/t=21\/t=65535)\/(t=15\/t=23)\/(t=17\/t=19\/t=26\/t=20)\/(t=11\/t=12\/t=16\/t=18\/t=24\/t=27))):KB_ t=[]/\GG_ t=false:=by
 refine ⟨?_,decide_eq_false h⟩
 unfold KB_
 rw [if_neg (by omega),if_neg (by omega),if_neg (by omega),if_neg (by omega),if_neg (by omega)]
theorem gy_ (t:Int):KB_ t=[4,2,-6]\/KB_ t=[4]\/KB_ t=[1,-3]\/KB_ t=[2,-2]\/KB_ t=[-4]\/KB_ t=[]:=by
 unfold KB_
 repeat' split
 all_goals simp
theorem G1_ (t:Int):0<=qS_ (KB_ t)/\qS_ (KB_ t)<=2:=by
 rcases gy_ t with h | h | h | h | h | h<;>rw [h]<;>decide
def G2_ (t n:Int):Int:=if t=0 then (if n=0 then 517 else 0) else if t=22 then (if 4294967040 < n then 522 else 0) else if t=17 then (if n ≠ 33024/\n ≠ 34984 then 518 else 0) else if t=19 then (if n ≠ 34887/\n ≠ 34888 then 518 else 0) else if t=26 then (if n ≠ 35047 then 518 else 0) else 0
def WC_:IR:=
(sq (kr [0] [oD 2 (.mov (.c (.imm (.int .i64) []))),
oD 3 (.mov cF)])
(sq (sq (.reg [oM 4 0])
(.block 0
(sq (.block 7
(.block 6
(sq (.block 5
(.block 4
(sq (.block 3
(sq (.block 2
(sq (.block 1
(sq (sq (sq (.reg [oB 6 .eql 4 (cI 0),
oM 5 6])
(.cond 5
(.exit 1)
.skip))
(sq (sq (sq (.reg [oB 8 .eql 4 (cI 22),
oM 7 8])
(.cond 7
.skip
(sq (kr [4] [oB 9 .eql 4 (cI 21),
oM 7 9])
(.cond 7
.skip
(.reg [oB 10 .eql 4 (cI 65535),
oM 7 10])))))
(.cond 7
(.exit 2)
.skip))
(sq (sq (sq (kr [4] [oB 12 .eql 4 (cI 15),
oM 11 12])
(.cond 11
.skip
(.reg [oB 13 .eql 4 (cI 23),
oM 11 13])))
(.cond 11
(.exit 3)
.skip))
(sq (sq (sq (.reg [oB 15 .eql 4 (cI 17),
oM 14 15])
(.cond 14
.skip
(sq (kr [4] [oB 16 .eql 4 (cI 19),
oM 14 16])
(.cond 14
.skip
(.reg [oB 17 .eql 4 (cI 26),
oM 14 17])))))
(.cond 14
(.exit 4)
.skip))
(sq (sq (kr [4] [oB 19 .eql 4 (cI 20),
oM 18 19])
(.cond 18
(.exit 5)
.skip))
(sq (sq (sq (.reg [oB 21 .eql 4 (cI 11),
oM 20 21])
(.cond 20
.skip
(sq (.reg [oB 22 .eql 4 (cI 12),
oM 20 22])
(.cond 20
.skip
(kr [4] [oB 23 .eql 4 (cI 16),
oM 20 23])))))
(.cond 20
(.exit 6)
.skip))
(sq (sq (kr [4] [oB 25 .eql 4 (cI 18),
oM 24 25])
(.cond 24
.skip
(sq (.reg [oB 26 .eql 4 (cI 24),
oM 24 26])
(.cond 24
.skip
(.reg [oB 27 .eql 4 (cI 27),
oM 24 27])))))
(.cond 24
(.exit 7)
.skip))))))))
(.exit 0)))
(sq (sq (kr [] [oD 28 (.sliceAll (.int .i64) 3 [(0,1,(cI 4)),(1,1,(cI 2)),(2,1,(cI (-6)))]),
oM 2 28,
oD 3 (.mov cT)])
.ret)
(.exit 0))))
(sq (sq (kr [] [oD 29 (.sliceAll (.int .i64) 1 [(0,1,(cI 4))]),
oM 2 29,
oD 3 (.mov cT)])
.ret)
(.exit 0))))
(sq (sq (kr [] [oD 30 (.sliceAll (.int .i64) 2 [(0,1,(cI 1)),(1,1,(cI (-3)))]),
oM 2 30,
oD 3 (.mov cT)])
.ret)
(.exit 0)))))
(sq (sq (kr [] [oD 31 (.sliceAll (.int .i64) 2 [(0,1,(cI 2)),(1,1,(cI (-2)))]),
oM 2 31,
oD 3 (.mov cT)])
.ret)
(.exit 0)))))
(sq (sq (kr [] [oD 32 (.sliceAll (.int .i64) 1 [(0,1,(cI (-4)))]),
oM 2 32,
oD 3 (.mov cT)])
.ret)
(.exit 0)))))
(sq (kr [] [oD 2 (.mov (.c (.imm (.int .i64) []))),
oD 3 (.mov cF)])
.ret)))
def w6_:List RD:=[.tmp 2 true (some (.int .i64)),.tmp 3 true none]
theorem Wk_:zs_ Tryd.prog Tryd.f39 WC_ w6_=true:=by kernel_rfl
def QK_:List AV->List Obj->Option (Prop × AV)
 | [.int .i64 q],[]=>some ((True,.tup [.imm (.int .i64) (KB_ q),.bool (GG_ q)]))
 | _,_=>none
theorem wa_:zg_ Tryd.prog 39 (RoF QK_).sum:=by
 refine zm_ Tryd.func39 Wk_ (ze_ _) fun args objs p v e=>?_
 unfold QK_ at e
 split at e
 ·rename_i q
  cases e
  refine ⟨rfl,fun hw ho hp=>?_⟩
  clear hw ho
  repeat'(intro t ht;first|(cases t<;>first|(cases ht;done)|(try simp only[zh_]at ht;try(exfalso;first|contradiction|omega)))|((first|refine zb_ ht ?_|refine ht ?_ ?_|refine ht.1 ?_ ?_|refine ht ?_)<;>clear ht))
  all_goals first
   | exact True.intro
   | (have h:=gz_ (t:=q) (by omega)
      rw [h.1,h.2];exact ⟨rfl,rfl⟩)
   | (subst_vars;exact ⟨rfl,rfl⟩)
   | (have h:q=0\/(q=22\/q=21\/q=65535)\/(q=15\/q=23)\/(q=17\/q=19\/q=26\/q=20)\/(q=11\/q=12\/q=16\/q=18\/q=24\/q=27):=by omega
      rcases h with rfl | (rfl | rfl | rfl) | (rfl | rfl) | (rfl | rfl | rfl | rfl) | (rfl | rfl | rfl | rfl | rfl | rfl)<;>first | (exfalso;omega) | exact ⟨rfl,rfl⟩)
 ·cases e
def ww_:IR:=
(sq (kr [0,1] [oD 4 (.mov (cI 0))])
(sq (.block 0
(sq (kr [0,1] [oM 6 0,
oB 7 .eql 6 (cI 0),
oM 8 7,
oT 8 9 (.mov 1),
oT 8 10 (.bin .eql 9 (.c (.int .u64 0))),
oP 11 8 10 cF,
oM 5 11])
(.cond 5
(sq (kr [] [oD 4 (.mov (cI 517))])
.ret)
(sq (kr [0,1] [oM 13 0,
oB 14 .eql 13 (cI 22),
oM 15 14,
oT 15 16 (.mov 1),
oT 15 17 (.bin .gtr 16 (.c (.int .u64 4294967040))),
oP 18 15 17 cF,
oM 12 18])
(.cond 12
(sq (kr [] [oD 4 (.mov (cI 522))])
.ret)
(sq (kr [0,1] [oM 20 0,
oB 21 .eql 20 (cI 17),
oM 22 21,
oT 22 23 (.mov 1),
oT 22 24 (.bin .neq 23 (.c (.int .u64 33024))),
oP 25 22 24 cF,
oM 26 25,
oT 26 27 (.mov 1),
oT 26 28 (.bin .neq 27 (.c (.int .u64 34984))),
oP 29 26 28 cF,
oM 19 29])
(.cond 19
(sq (kr [] [oD 4 (.mov (cI 518))])
.ret)
(sq (kr [0,1] [oM 31 0,
oB 32 .eql 31 (cI 19),
oM 33 32,
oT 33 34 (.mov 1),
oT 33 35 (.bin .neq 34 (.c (.int .u64 34887))),
oP 36 33 35 cF,
oM 37 36,
oT 37 38 (.mov 1),
oT 37 39 (.bin .neq 38 (.c (.int .u64 34888))),
oP 40 37 39 cF,
oM 30 40])
(.cond 30
(sq (kr [] [oD 4 (.mov (cI 518))])
.ret)
(sq (kr [0,1] [oM 42 0,
oB 43 .eql 42 (cI 26),
oM 44 43,
oT 44 45 (.mov 1),
oT 44 46 (.bin .neq 45 (.c (.int .u64 35047))),
oP 47 44 46 cF,
oM 41 47])
(.cond 41
(sq (kr [] [oD 4 (.mov (cI 518))])
.ret)
.skip)))))))))))
(sq (kr [] [oD 4 (.mov (cI 0))])
.ret)))
def wh_:List RD:=[.tmp 4 true none]
theorem wp_:zs_ Tryd.prog Tryd.f41 ww_ wh_=true:=by kernel_rfl
def Qn_:List AV->List Obj->Option (Prop × AV)
 | [.int .i64 q,.int .u64 n],[]=>some ((True,.int .i64 (G2_ q n)))
 | _,_=>none
theorem Jf_:zg_ Tryd.prog 41 (RoF Qn_).sum:=by
 refine zm_ Tryd.func41 wp_ (ze_ _) fun args objs p v e=>?_
 unfold Qn_ at e
 split at e
 ·rename_i q n
  cases e
  refine ⟨rfl,fun hw ho hp=>?_⟩
  clear hw ho
  repeat'(intro t ht;first|(cases t<;>first|(cases ht;done)|(try simp only[zh_]at ht;try(exfalso;first|contradiction|omega)))|((first|refine zb_ ht ?_|refine ht ?_ ?_|refine ht.1 ?_ ?_|refine ht ?_)<;>clear ht))
  all_goals first
   | exact True.intro
   | (refine ⟨congrArg (AV.int .i64) ?_,rfl⟩;unfold G2_;repeat' split
      all_goals first | rfl | omega)
 ·cases e
def K3_:IR:=
(sq (kr [0] [oD 1 (.boxv 0),
oD 2 (.mov cF)])
(sq (kr [1] [oA 3 0 1,
oL 4 3,
oB 5 .eql 4 (cI 32768),
oM 6 5,
oT 6 7 (.fieldAddr 2 1),
oT 6 8 (.load none 7),
oT 6 9 (.un .not 8),
oP 10 6 9 cF,
oM 11 10,
oT 11 12 (.fieldAddr 1 1),
oT 11 13 (.load none 12),
oT 11 14 (.call false (.f 47) [13]),
oP 15 11 14 cF,
oM 16 15,
oT 16 17 (.load (some 6) 1),
oT 16 18 (.call false (.f 48) [17]),
oP 19 16 18 cF,
oM 2 19])
.ret))
def KR_:List RD:=[.tmp 2 true none]
theorem KV_:zs_ Tryd.prog Tryd.f38 K3_ KR_=true:=by kernel_rfl
def qk_:List AV->List Obj->Option (Prop × AV)
 | [.agg [.int .i64 c,.int .i64 f,.bool h,.int .u64 x,.imm (.int .u8) v,.imm (.int .u8) m]],[]=>some ((v.length<=1000000/\m.length<=1000000,.bool (decide (c=32768) && !h && y4_ f && kR_ c f h x v m)))
 | _,_=>none
theorem KA_:zg_ Tryd.prog 38 (RoF qk_).sum:=by
 refine zm_ Tryd.func38 KV_ (zc_ (s:=RoF qw_) KL_ (zc_ (s:=RoF Kc_) xp_ (ze_ _))) fun args objs p v e=>?_
 unfold qk_ at e
 split at e
 ·rename_i c f h x v m
  cases e
  refine ⟨rfl,fun hw ho hp=>?_⟩
  change List Int at v
  change List Int at m
  clear hw ho
  cases h
  all_goals repeat'(intro t ht;first|(cases t<;>first|(cases ht;done)|(try simp only[zh_]at ht;try(exfalso;first|contradiction|omega)))|((first|refine zb_ ht ?_|refine ht ?_ ?_|refine ht.1 ?_ ?_|refine ht ?_)<;>clear ht))
  all_goals first
   | exact True.intro
   | exact hp
   | (refine ⟨congrArg AV.bool ?_,rfl⟩;simp_all;done)
 ·cases e
def WD_:IR:=
(sq (kr [0] [oD 1 (.boxv 0),
oD 2 (.mov cF)])
(sq (.reg [oK 3 6 1,
oD 4 (.build [.int .i64 0,.int .i64 0,.kb false,.int .u64 0,.imm (.int .u8) [],.imm (.int .u8) []] []),
oC 5 49 [3,4],
oM 2 5])
.ret))
def w7_:List RD:=[.tmp 2 true none]
theorem Wl_:zs_ Tryd.prog Tryd.f40 WD_ w7_=true:=by kernel_rfl
def QL_:List AV->List Obj->Option (Prop × AV)
 | [.agg [.int .i64 c,.int .i64 f,.bool h,.int .u64 x,.imm (.int .u8) v,.imm (.int .u8) m]],[]=>some ((True,.bool (Qt_ c f h x v m 0 0 false 0 [] [])))
 | _,_=>none
theorem wb_:zg_ Tryd.prog 40 (RoF QL_).sum:=by
 refine zm_ Tryd.func40 Wl_ (zc_ (s:=RoF jg_) XS_ (ze_ _)) fun args objs p v e=>?_
 unfold QL_ at e
 split at e
 ·rename_i c f h x v m
  cases e
  refine ⟨rfl,fun hw ho hp=>?_⟩
  change List Int at v
  change List Int at m
  clear hw ho
  repeat'(intro t ht;first|(cases t<;>first|(cases ht;done)|(try simp only[zh_]at ht;try(exfalso;first|contradiction|omega)))|((first|refine zb_ ht ?_|refine ht ?_ ?_|refine ht.1 ?_ ?_|refine ht ?_)<;>clear ht))
  all_goals first
   | exact True.intro
   | exact ⟨rfl,rfl⟩
 ·cases e
def Ui_ (t a b:Int):List Int:=[a,b].take (qS_ (KB_ t)).toNat
def Ji_ (R:Bool) (t a b c f:Int) (h:Bool) (x:Int) (v m d:List Int):Bool:=
 if t=25 then decide (a=0) && decide (b=0) && decide (d.length=0) && (decide (c=32768) && !h && y4_ f && R)
 else GG_ t && Qt_ c f h x v m 0 0 false 0 [] [] && decide (G2_ t a=0) && Ua_ (KB_ t) (Ui_ t a b) && (decide (2<=qS_ (KB_ t)) || decide (b=0)) && (decide (1<=qS_ (KB_ t)) || decide (a=0)) && (if t=65535 then decide ((d.length:Int).tmod 8=0) && decide ((d.length:Int)<=65520) else decide (d.length=0))
def wx_:IR:=
(sq (kr [0] [oD 1 (.boxv 0),
oD 2 (.mov cF)])
(sq (sq (.reg [oA 8 0 1,
oL 9 8,
oB 10 .eql 9 (cI 25)])
(.cond 10
(sq (kr [1] [oA 11 1 1,
oL 12 11,
oB 13 .eql 12 (.c (.int .u64 0)),
oM 14 13,
oT 14 15 (.fieldAddr 2 1),
oT 14 16 (.load none 15),
oT 14 17 (.bin .eql 16 (.c (.int .u64 0))),
oP 18 14 17 cF,
oM 19 18,
oT 19 20 (.fieldAddr 9 1),
oT 19 21 (.load none 20),
oT 19 22 (.len 21),
oT 19 23 (.bin .eql 22 (cI 0)),
oP 24 19 23 cF,
oM 25 24,
oT 25 26 (.fieldAddr 3 1),
oT 25 27 (.load (some 6) 26),
oT 25 28 (.call false (.f 38) [27]),
oP 29 25 28 cF,
oM 2 29])
.ret)
.skip))
(sq (kr [1] [oA 31 0 1,
oL 32 31,
oC 33 39 [32],
oM 30 33,
oX 34 30 0,
oX 35 30 1,
oM 3 34,
oM 4 35])
(sq (sq (kr [1,3,4] [oM 36 4,
oD 37 (.un .not 36),
oM 38 37,
oF 38 39 (.fieldAddr 3 1),
oF 38 40 (.load (some 6) 39),
oF 38 41 (.call false (.f 40) [40]),
oF 38 42 (.un .not 41),
oP 43 38 cT 42,
oM 44 43,
oF 44 45 (.fieldAddr 0 1),
oF 44 46 (.load none 45),
oF 44 47 (.fieldAddr 1 1),
oF 44 48 (.load none 47),
oF 44 49 (.call false (.f 41) [46,48]),
oF 44 50 (.bin .neq 49 (cI 0)),
oP 51 44 cT 50])
(.cond 51
(sq (kr [] [oD 2 (.mov cF)])
.ret)
.skip))
(sq (kr [1,3] [oM 52 3,
oC 53 42 [52],
oM 5 53])
(sq (kr [1,3,5] [oM 55 3,
oA 56 1 1,
oL 57 56,
oA 58 2 1,
oL 59 58,
oD 60 (.sliceAll (.int .u64) 2 [(0,1,57),(1,1,59)]),
oM 61 5,
oD 62 (.slice 1 60 none (some 61) none),
oC 63 43 [55,62],
oM 54 63,
oX 64 54 0,
oX 65 54 1,
oM 6 64,
oM 7 65])
(sq (sq (kr [1,5,7] [oM 66 7,
oD 67 (.un .not 66),
oM 68 67,
oF 68 69 (.mov 5),
oF 68 70 (.bin .lss 69 (cI 2)),
oF 68 71 (.mov 70),
oT 71 72 (.fieldAddr 2 1),
oT 71 73 (.load none 72),
oT 71 74 (.bin .neq 73 (.c (.int .u64 0))),
oF 68 75 (.pick 71 74 cF),
oP 76 68 cT 75,
oM 77 76,
oF 77 78 (.mov 5),
oF 77 79 (.bin .lss 78 (cI 1)),
oF 77 80 (.mov 79),
oT 80 81 (.fieldAddr 1 1),
oT 80 82 (.load none 81),
oT 80 83 (.bin .neq 82 (.c (.int .u64 0))),
oF 77 84 (.pick 80 83 cF),
oP 85 77 cT 84])
(.cond 85
(sq (kr [] [oD 2 (.mov cF)])
.ret)
.skip))
(sq (sq (kr [1] [oA 86 0 1,
oL 87 86,
oB 88 .neq 87 (cI 65535)])
(.cond 88
(sq (kr [1] [oA 89 9 1,
oL 90 89,
oE 91 90,
oB 92 .eql 91 (cI 0),
oM 2 92])
.ret)
.skip))
(sq (kr [1] [oA 93 9 1,
oL 94 93,
oE 95 94,
oB 96 .rem 95 (cI 8),
oB 97 .eql 96 (cI 0),
oM 98 97,
oT 98 99 (.fieldAddr 9 1),
oT 98 100 (.load none 99),
oT 98 101 (.len 100),
oT 98 102 (.bin .leq 101 (cI 65520)),
oP 103 98 102 cF,
oM 2 103])
.ret)))))))))
def wi_:List RD:=[.tmp 2 true none]
theorem wq_:zs_ Tryd.prog Tryd.f29 wx_ wi_=true:=by kernel_rfl
def Qo_:List AV->List Obj->Option (Prop × AV)
 | [.agg [.int .i64 q,.int .u64 a,.int .u64 b,.int .i64 c,.int .i64 f,.bool h,.int .u64 x,.imm (.int .u8) v,.imm (.int .u8) m,.imm (.int .u8) d]],[]=>some ((v.length<=1000000/\m.length<=1000000,.bool (Ji_ (kR_ c f h x v m) q a b c f h x v m d)))
 | _,_=>none
theorem Jg_:zg_ Tryd.prog 29 (RoF Qo_).sum:=by
 refine zm_ Tryd.func29 wq_ (zc_ (s:=RoF qk_) KA_ (zc_ (s:=RoF QK_) wa_ (zc_ (s:=RoF QL_) wb_ (zc_ (s:=RoF Qn_) Jf_ (zc_ (s:=RoF QA_) KF_ (zc_ (s:=RoF JJ_) y1_ (ze_ _))))))) fun args objs p v e=>?_
 unfold Qo_ at e
 split at e
 ·rename_i q a b c f h x v m d
  cases e
  refine ⟨rfl,fun hw ho hp=>?_⟩
  change List Int at v
  change List Int at m
  change List Int at d
  have hdl:d.length<=maxLen:=(hw _ (List.mem_cons_self ..) (.imm (.int .u8) d) (by simp)).2
  unfold maxLen at hdl
  clear hw ho
  have hcn:=G1_ q
  by_cases h25:q=25
  ·subst h25
   repeat'(intro t ht;first|(cases t<;>first|(cases ht;done)|(try simp only[zh_]at ht;try(exfalso;first|contradiction|omega)))|((first|refine zb_ ht ?_|refine ht ?_ ?_|refine ht.1 ?_ ?_|refine ht ?_)<;>clear ht))
   all_goals first
    | exact True.intro
    | exact hp
    | ((try simp only [zH_,zI_,zv_] at*);omega)
    | (refine ⟨congrArg AV.bool ?_,rfl⟩;unfold Ji_;rw [if_pos rfl];simp_all;done)
  ·repeat'(intro t ht;first|(cases t<;>first|(cases ht;done)|(try simp only[zh_]at ht;try(exfalso;first|contradiction|omega)))|((first|refine zb_ ht ?_|refine ht ?_ ?_|refine ht.1 ?_ ?_|refine ht ?_)<;>clear ht))
   all_goals first
    | exact True.intro
    | exact hp
    | ((try simp only [zH_,zI_,zv_] at*);omega)
    | (refine ⟨congrArg AV.bool ?_,rfl⟩;unfold Ji_ Ui_;rw [if_neg h25];simp_all;done)
    | (refine ⟨congrArg AV.bool ?_,rfl⟩;unfold Ji_ Ui_;rw [if_neg h25];simp_all;omega)
 ·cases e
structure okM (l:List OV):Prop where
 a:allLen l
 n:l.length<=100000
section
variable {I:Nat->Prop} {w:World} {mm:M}
end
def Xb_ (q a b c f:Int) (h:Bool) (x:Int) (v m d:List Int) (q' a' b' c' f':Int) (h':Bool) (x':Int) (v' m' d':List Int):Bool:=decide (q=q') && decide (a=a') && decide (b=b') && Qt_ c f h x v m c' f' h' x' v' m' && decide (d=d')
theorem vx_ (q a b c f:Int) (h:Bool) (x:Int) (v m d:List Int):Xb_ q a b c f h x v m d q a b c f h x v m d=true:=by unfold Xb_;rw [ua_];simp
def vY_:IR:=
(sq (kr [0] [oD 1 (.boxv 0),
oD 2 (.mov cF)])
(sq (kr [1] [oA 3 3 1,
oK 4 6 3,
oC 5 28 [4],
oM 6 5,
oT 6 7 (.fieldAddr 9 1),
oT 6 8 (.load none 7),
oT 6 9 (.len 8),
oT 6 10 (.bin .leq 9 (cI 500)),
oP 11 6 10 cF,
oM 2 11])
.ret))
def vC_:List RD:=[.tmp 2 true none]
theorem vK_:zs_ Tryd.prog Tryd.f12 vY_ vC_=true:=by kernel_rfl
def JK_:List AV->List Obj->Option (Prop × AV)
 | [.agg [.int .i64 q,.int .u64 a,.int .u64 b,.int .i64 c,.int .i64 f,.bool h,.int .u64 x,.imm (.int .u8) v,.imm (.int .u8) m,.imm (.int .u8) d]],[]=>some ((True,.bool (decide (v.length<=300) && decide (m.length<=300) && decide (d.length<=500))))
 | _,_=>none
theorem y2_:zg_ Tryd.prog 12 (RoF JK_).sum:=by
 refine zm_ Tryd.func12 vK_ (zc_ (s:=RoF JL_) y3_ (ze_ _)) fun args objs p v e=>?_
 unfold JK_ at e
 split at e
 ·rename_i q a b c f h x v m d
  cases e
  refine ⟨rfl,fun hw ho hp=>?_⟩
  change List Int at v
  change List Int at m
  change List Int at d
  clear hw ho
  repeat'(intro t ht;first|(cases t<;>first|(cases ht;done)|(try simp only[zh_]at ht;try(exfalso;first|contradiction|omega)))|((first|refine zb_ ht ?_|refine ht ?_ ?_|refine ht.1 ?_ ?_|refine ht ?_)<;>clear ht))
  all_goals first
   | exact True.intro
   | (refine ⟨congrArg AV.bool ?_,rfl⟩;simp_all;done)
   | (refine ⟨congrArg AV.bool ?_,rfl⟩;simp_all;omega)
 ·cases e
def YI_:IR:=
(sq (kr [0,1] [oD 2 (.boxv 0),
oD 3 (.boxv 1),
oD 4 (.mov cF)])
(sq (kr [2,3] [oA 5 0 2,
oL 6 5,
oA 7 0 3,
oL 8 7,
oB 9 .eql 6 8,
oM 10 9,
oT 10 11 (.fieldAddr 1 2),
oT 10 12 (.load none 11),
oT 10 13 (.fieldAddr 1 3),
oT 10 14 (.load none 13),
oT 10 15 (.bin .eql 12 14),
oP 16 10 15 cF,
oM 17 16,
oT 17 18 (.fieldAddr 2 2),
oT 17 19 (.load none 18),
oT 17 20 (.fieldAddr 2 3),
oT 17 21 (.load none 20),
oT 17 22 (.bin .eql 19 21),
oP 23 17 22 cF,
oM 24 23,
oT 24 25 (.fieldAddr 3 2),
oT 24 26 (.load (some 6) 25),
oT 24 27 (.fieldAddr 3 3),
oT 24 28 (.load (some 6) 27),
oT 24 29 (.call false (.f 35) [26,28]),
oP 30 24 29 cF,
oM 31 30,
oT 31 32 (.fieldAddr 9 2),
oT 31 33 (.load none 32),
oT 31 34 (.fieldAddr 9 3),
oT 31 35 (.load none 34),
oT 31 36 (.call false (.f 36) [33,35]),
oP 37 31 36 cF,
oM 4 37])
.ret))
def Yc_:List RD:=[.tmp 4 true none]
theorem Yo_:zs_ Tryd.prog Tryd.f24 YI_ Yc_=true:=by kernel_rfl
def jd_:List AV->List Obj->Option (Prop × AV)
 | [.agg [.int .i64 q,.int .u64 a,.int .u64 b,.int .i64 c,.int .i64 f,.bool h,.int .u64 x,.imm (.int .u8) v,.imm (.int .u8) m,.imm (.int .u8) d],.agg [.int .i64 q',.int .u64 a',.int .u64 b',.int .i64 c',.int .i64 f',.bool h',.int .u64 x',.imm (.int .u8) v',.imm (.int .u8) m',.imm (.int .u8) d']],[]=>some ((True,.bool (Xb_ q a b c f h x v m d q' a' b' c' f' h' x' v' m' d')))
 | _,_=>none
theorem XP_:zg_ Tryd.prog 24 (RoF jd_).sum:=by
 refine zm_ Tryd.func24 Yo_ (zc_ (s:=RoF je_) XQ_ (zc_ (s:=RoF QB_) KG_ (ze_ _))) fun args objs p v e=>?_
 unfold jd_ at e
 split at e
 ·rename_i q a b c f h x v m d q' a' b' c' f' h' x' v' m' d'
  cases e
  refine ⟨rfl,fun hw ho hp=>?_⟩
  change List Int at v
  change List Int at m
  change List Int at d
  change List Int at v'
  change List Int at m'
  change List Int at d'
  clear hw ho
  repeat'(intro t ht;first|(cases t<;>first|(cases ht;done)|(try simp only[zh_]at ht;try(exfalso;first|contradiction|omega)))|((first|refine zb_ ht ?_|refine ht ?_ ?_|refine ht.1 ?_ ?_|refine ht ?_)<;>clear ht))
  all_goals first
   | exact True.intro
   | (refine ⟨congrArg AV.bool ?_,rfl⟩;unfold Xb_;simp_all;done)
 ·cases e
def WE_:IR:=
(sq (kr [0] [oD 1 (.boxv 0),
oD 2 (.box [.int .i64 0,.int .u64 0,.int .u64 0,.int .i64 0,.int .i64 0,.kb false,.int .u64 0,.imm (.int .u8) [],.imm (.int .u8) [],.imm (.int .u8) []])])
(sq (kr [1,2] [oA 4 9 1,
oL 5 4,
oE 6 5,
oD 7 (.mkrow (.int .u8) 1 (0:Int) 6 6),
oM 3 7])
(sq (.reg [oM 8 3,
oA 9 9 1,
oL 10 9,
oD 11 (.copy (.int .u8) 8 10)])
(sq (kr [1,2,3] [oM 12 3,
oA 13 3 1,
oK 14 6 13,
oC 15 32 [14],
oA 16 9 1,
oS 1 16 12,
oA 17 3 1,
oS 6 17 15])
(sq (.reg [oK 18 10 1,
oS 10 2 18])
.ret)))))
def w8_:List RD:=[.cell 2 (some 10) false []]
theorem Wm_:zs_ Tryd.prog Tryd.f22 WE_ w8_=true:=by kernel_rfl
def qE_:List AV->List Obj->Option (Prop × AV × List Obj)
 | [.agg [.int .i64 q,.int .u64 a,.int .u64 b,.int .i64 c,.int .i64 f,.bool h,.int .u64 x,.imm (.int .u8) v,.imm (.int .u8) m,.imm (.int .u8) d]],[]=>some ((d.length<=1000000/\v.length<=100000/\m.length<=100000,.agg [.int .i64 q,.int .u64 a,.int .u64 b,.int .i64 c,.int .i64 f,.bool h,.int .u64 x,.view 0 0 v.length,.view 0 v.length m.length,.own 1],[.row false (.int .u8) (v++m),.row false (.int .u8) d]))
 | _,_=>none
theorem kA_:zg_ Tryd.prog 22 (RwF qE_).sum:=by
 refine y5_ Tryd.func22 Wm_ (zc_ (s:=RwF jh_) XT_ (ze_ _)) fun args objs p v o e=>?_
 unfold qE_ at e
 split at e
 ·rename_i q a b c f h x v m d
  cases e
  refine ⟨rfl,fun hw ho hp=>?_⟩
  change List Int at v
  change List Int at m
  change List Int at d
  clear hw ho
  have k1:(List.replicate d.length (0:Int)).length=d.length:=List.length_replicate
  have k2:d.take d.length=d:=List.take_length
  repeat'(intro t ht;first|(cases t<;>first|(cases ht;done)|(try simp only[zh_]at ht;try(exfalso;first|contradiction|omega)))|((first|refine zb_ ht ?_|refine ht ?_ ?_|refine ht.1 ?_ ?_|refine ht ?_)<;>clear ht))
  all_goals first
   | exact True.intro
   | exact hp.2
   | exact ⟨hp.2.1,hp.2.2⟩
   | omega
   | ((try simp only [zH_,zI_,zv_] at*);omega)
   | (simp only [Qi_,Int.toNat_natCast,k1,k2,List.drop_of_length_le (Nat.le_of_eq k1),List.append_nil,Nat.min_self];first | omega | exact ⟨rfl,by first | rfl | exact True.intro⟩)
 ·cases e
abbrev AC:=Int × Int × Int × OV × List Int × Unit
instance:DecidableEq (OV × List Int × Unit):=inferInstance
instance:DecidableEq (Int × OV × List Int × Unit):=inferInstance
instance:DecidableEq AC:=inferInstance
def hq_ (a:AC):Prop:=a.2.2.2.1.2.2.2.2.1.length<=100000/\a.2.2.2.1.2.2.2.2.2.1.length<=100000/\a.2.2.2.2.1.length<=100000
theorem Gq_ {a:AC} (h:hq_ a):a.2.2.2.1.2.2.2.2.1.length<=1000000/\a.2.2.2.1.2.2.2.2.2.1.length<=1000000:=⟨Nat.le_trans h.1 (by decide),Nat.le_trans h.2.1 (by decide)⟩
structure okL (l:List AC):Prop where
 a:∀ o ∈ l,hq_ o
 n:l.length<=1000000
def fwA (a:AC):Bool:=decide (a.2.2.2.1.2.2.2.2.1.length<=300) && decide (a.2.2.2.1.2.2.2.2.2.1.length<=300) && decide (a.2.2.2.2.1.length<=500)
theorem hv_ {a:AC} (h:(a.2.2.2.1.2.2.2.2.1.length<=300/\a.2.2.2.1.2.2.2.2.2.1.length<=300)/\a.2.2.2.2.1.length<=500):fwA a=true:=by unfold fwA;simp [h.1.1,h.1.2,h.2]
theorem hw_ {a:AC} (h:(¬ a.2.2.2.1.2.2.2.2.1.length<=300\/¬ a.2.2.2.1.2.2.2.2.2.1.length<=300)\/¬ a.2.2.2.2.1.length<=500):fwA a=false:=by unfold fwA;rcases h with (h | h) | h<;>simp [h]
def xX_ (l:List AC):Bool:=l.all fwA && decide (l.length<=80)
theorem wI_ {l:List AC} (h:xX_ l=true):okL l/\l.length<=80:=by
 unfold xX_ at h
 simp only [Bool.and_eq_true,decide_eq_true_eq] at h
 refine ⟨⟨fun o ho=>?_,by omega⟩,h.2⟩
 have:=List.all_eq_true.1 h.1 o ho
 unfold fwA at this
 simp only [Bool.and_eq_true,decide_eq_true_eq] at this
 exact ⟨by omega,by omega,by omega⟩
def vX_:IR:=
(sq (kr [0] [oD 2 (.mov cF)])
(sq (sq (.reg [oD 3 (.mov (cI 0))])
(.block 0
(.loop
(sq (sq (kr [0,3] [oM 4 3,
oM 5 0,
oE 6 5,
oB 7 .lss 4 6])
(.cond 7
.skip
(.exit 0)))
(sq (.block 1
(sq (kr [0,3] [oM 10 0,
oM 11 3,
oI 12 10 10 11,
oK 13 10 12,
oC 14 12 [13],
oD 15 (.un .not 14)])
(.cond 15
(sq (kr [] [oD 2 (.mov cF)])
.ret)
.skip)))
(kr [0,3] [oM 8 3,
oB 9 .add 8 (cI 1),
oM 3 9]))))))
(sq (kr [0] [oM 16 0,
oE 17 16,
oB 18 .leq 17 (cI 80),
oM 2 18])
.ret)))
def vB_:List RD:=[.tmp 2 true none]
theorem vJ_:zs_ Tryd.prog Tryd.f5 vX_ vB_=true:=by kernel_rfl
def Kt_:List AV->List Obj->Option (Prop × AV)
 | [.imm ty0 l],[]=>z8_ ty0 Y2 l fun l=>some ((True,.bool (xX_ l)))
 | _,_=>none
theorem JU_:zg_ Tryd.prog 5 (RoF Kt_).sum:=by
 refine zm_ Tryd.func5 vJ_ (zc_ (s:=RoF JK_) y2_ (ze_ _)) fun args objs p v e=>?_
 unfold Kt_ at e
 split at e
 ·rename_i ty0 l
  obtain rfl:=zy_ e
  replace e:=zz_ e
  cases e
  refine ⟨rfl,fun hw ho hp=>?_⟩
  change List AC at l
  have hl:l.length<=maxLen:=(hw (.imm Y2 l) (by simp)).2
  unfold maxLen at hl
  clear hw ho
  repeat'(intro t ht;first|(cases t<;>first|(cases ht;done)|(try simp only[zh_]at ht))|((first|refine zb_ ht ?_|refine ht ?_ ?_|refine ht.1 ?_ ?_|refine ht ?_)<;>clear ht))
  all_goals first
   | (intro r h1 h2;clear h1;refine h2 ⟨[0,3],Nat,(fun i=>i<=l.length/\(l.take i).all fwA=true),fun i=>[.imm Y2 l,.int .i64 i],fun _=>[],fun i=>l.length - i,⟨0,⟨Nat.zero_le _,rfl⟩,rfl,rfl⟩,?_⟩;clear h2)
  rintro i ⟨hi,he⟩
  repeat'(intro t ht;first|(cases t<;>first|(cases ht;done)|(try simp only[zh_]at ht;try(exfalso;first|contradiction|omega)))|((first|refine zb_ ht ?_|refine ht ?_ ?_|refine ht.1 ?_ ?_|refine ht ?_)<;>clear ht))
  all_goals (try generalize (Ty.dflt Y2)=od at*)
  all_goals first
   | exact True.intro
   | ((try simp only [zH_,zI_,zv_] at*);omega)
   | (have h:=gf_ (by omega) he
      refine ⟨?_,rfl⟩;unfold xX_;rw [h,Bool.true_and];congr 1;exact decide_eq_decide.2 (by omega))
   | (have hf:=hv_ ht
      exact ⟨i+1,⟨by omega,uP_ (d:=od) (by omega) he hf⟩,by dsimp only;omega,rfl,rfl⟩)
   | (have hf:=hw_ ht
      have h:xX_ l=false:=by unfold xX_;rw [ge_ (d:=od) (show i < l.length by omega) hf,Bool.false_and]
      refine ⟨?_,rfl⟩;rw [h];done)
 ·cases e
def smA (a b:AC):Bool:=Xb_ a.1 a.2.1 a.2.2.1 a.2.2.2.1.1 a.2.2.2.1.2.1 a.2.2.2.1.2.2.1 a.2.2.2.1.2.2.2.1 a.2.2.2.1.2.2.2.2.1 a.2.2.2.1.2.2.2.2.2.1 a.2.2.2.2.1 b.1 b.2.1 b.2.2.1 b.2.2.2.1.1 b.2.2.2.1.2.1 b.2.2.2.1.2.2.1 b.2.2.2.1.2.2.2.1 b.2.2.2.1.2.2.2.2.1 b.2.2.2.1.2.2.2.2.2.1 b.2.2.2.2.1
theorem hd_ {a b:AC} (h:smA a b=true):a=b:=by
 obtain ⟨a1,a2,a3,⟨a4,a5,a6,a7,a8,a9,_⟩,a10,_⟩:=a
 obtain ⟨b1,b2,b3,⟨b4,b5,b6,b7,b8,b9,_⟩,b10,_⟩:=b
 unfold smA Xb_ Qt_ at h
 simp only [Bool.and_eq_true,decide_eq_true_eq,beq_iff_eq] at h
 obtain ⟨⟨⟨⟨h1,h2⟩,h3⟩,⟨⟨⟨⟨⟨h4,h5⟩,h7⟩,h6⟩,h8⟩,h9⟩⟩,h10⟩:=h
 rw [h1,h2,h3,h4,h5,h6,h7,h8,h9,h10]
theorem he_ {a b:AC} (h:smA a b=false):¬ a=b:=fun e=>by
 rw [e] at h;unfold smA at h;rw [vx_] at h;cases h
def YH_:IR:=
(sq (kr [0,1] [oD 4 (.mov cF)])
(sq (sq (kr [0,1] [oM 6 0,
oE 7 6,
oM 8 1,
oE 9 8,
oB 10 .neq 7 9])
(.cond 10
(sq (.reg [oD 4 (.mov cF)])
.ret)
.skip))
(sq (sq (kr [0,1] [oD 5 (.mov (cI 0))])
(.block 0
(.loop
(sq (sq (kr [0,1,5] [oM 11 5,
oM 12 0,
oE 13 12,
oB 14 .lss 11 13])
(.cond 14
.skip
(.exit 0)))
(sq (.block 1
(sq (kd [0,1,5] [(oM 17 0,[]),
(oM 18 5,[0]),
(oI 19 10 17 18,[]),
(oK 20 10 19,[]),
(oM 21 1,[0,0,0,0]),
(oM 22 5,[0,0,0,0,0]),
(oI 23 10 21 22,[2,0,0,0]),
(oK 24 10 23,[3,0,0,0]),
(oC 25 24 [20,24],[]),
(oD 26 (.un .not 25),[])])
(.cond 26
(sq (kr [] [oD 4 (.mov cF)])
.ret)
.skip)))
(kr [0,1,5] [oM 15 5,
oB 16 .add 15 (cI 1),
oM 5 16]))))))
(sq (kr [] [oD 4 (.mov cT)])
.ret))))
def Yb_:List RD:=[.tmp 4 true none]
theorem Yn_:zs_ Tryd.prog Tryd.f8 YH_ Yb_=true:=by kernel_rfl
def Qj_:List AV->List Obj->Option (Prop × AV)
 | [.imm ty0 a,.imm ty1 b],[]=>z8_ ty0 Y2 a fun a=>z8_ ty1 Y2 b fun b=>some ((True,.bool (decide ((a:List AC)=b))))
 | _,_=>none
theorem Q9_:zg_ Tryd.prog 8 (RoF Qj_).sum:=by
 refine zm_ Tryd.func8 Yn_ (zc_ (s:=RoF jd_) XP_ (ze_ _)) fun args objs p v e=>?_
 unfold Qj_ at e
 split at e
 ·rename_i ty0 a ty1 b
  obtain rfl:=zy_ e
  replace e:=zz_ e
  obtain rfl:=zy_ e
  replace e:=zz_ e
  cases e
  refine ⟨rfl,fun hw ho hp=>?_⟩
  change List AC at a
  change List AC at b
  have hl:a.length<=maxLen:=(hw (.imm Y2 a) (by simp)).2
  unfold maxLen at hl
  clear hw ho
  repeat'(intro t ht;first|(cases t<;>first|(cases ht;done)|(try simp only[zh_]at ht))|((first|refine zb_ ht ?_|refine ht ?_ ?_|refine ht.1 ?_ ?_|refine ht ?_)<;>clear ht))
  all_goals first
   | (have hne:a ≠ b:=fun h=>(by assumption:¬ (a.length:Int)=b.length) (by rw [h])
      refine ⟨?_,rfl⟩;rw [decide_eq_false hne];done)
   | (intro r h1 h2;clear h1;refine h2 ⟨[0,1,5],Nat,(fun i=>i<=a.length/\a.take i=b.take i),fun i=>[.imm Y2 a,.imm Y2 b,.int .i64 i],fun _=>[],fun i=>a.length - i,⟨0,⟨Nat.zero_le _,rfl⟩,rfl,rfl⟩,?_⟩;clear h2)
  rintro i ⟨hi,he⟩
  have hl2:a.length=b.length:=by omega
  repeat'(intro t ht;first|(cases t<;>first|(cases ht;done)|(try simp only[zh_]at ht;try(exfalso;first|contradiction|omega)))|((first|refine zb_ ht ?_|refine ht ?_ ?_|refine ht.1 ?_ ?_|refine ht ?_)<;>clear ht))
  all_goals (try generalize (Ty.dflt Y2)=od at*)
  all_goals first
   | exact True.intro
   | ((try simp only [zH_,zI_,zv_] at*);omega)
   | (have e:=Gl_ he (by omega) hl2
      refine ⟨?_,rfl⟩;rw [decide_eq_true e];done)
   | (have hs:smA (a.getD i od) (b.getD i od)=false:=by assumption
      have hne:a ≠ b:=hc_ (d:=od) (i:=i) (he_ hs)
      refine ⟨?_,rfl⟩;rw [decide_eq_false hne];done)
   | (have hs:smA (a.getD i od) (b.getD i od)=true:=by assumption
      exact ⟨i+1,⟨by omega,u0_ he (by omega) hl2 (d:=od) (hd_ hs)⟩,by (try simp only [zH_,zI_,zv_] at*);omega,rfl,rfl⟩)
 ·cases e
theorem UU_ (a:AC):((a.1,a.2.1,a.2.2.1,(a.2.2.2.1.1,a.2.2.2.1.2.1,a.2.2.2.1.2.2.1,a.2.2.2.1.2.2.2.1,((a.2.2.2.1.2.2.2.2.1++a.2.2.2.1.2.2.2.2.2.1).drop 0).take a.2.2.2.1.2.2.2.2.1.length,((a.2.2.2.1.2.2.2.2.1++a.2.2.2.1.2.2.2.2.2.1).drop a.2.2.2.1.2.2.2.2.1.length).take a.2.2.2.1.2.2.2.2.2.1.length,()),a.2.2.2.2.1,()):AC)=a:=by
 rw [List.drop_zero,List.take_left,List.drop_left,List.take_length]
theorem Kh_ {α:Type} {l:List α} {i:Nat} {d:α} (h:i < l.length):l.take i++[l.getD i d]=l.take (i+1):=by
 rw [List.take_succ_eq_append_getElem h,List.getD_eq_getElem?_getD,List.getElem?_eq_getElem h];rfl
def yE_:IR:=
(sq (kr [0] [oD 2 (.mov (.c (.imm Y2 [])))])
(sq (.reg [oM 6 0,
oE 7 6,
oD 8 (.mkrow Y2 128 ((0:Int),((0:Int),((0:Int),(((0:Int),((0:Int),(false,((0:Int),(([]:List (Ty.den (.int .u8))),(([]:List (Ty.den (.int .u8))),())))))),(([]:List (Ty.den (.int .u8))),()))))) (cI 0) 7),
oM 3 8])
(sq (sq (.reg [oM 9 0,
oE 10 9,
oD 11 (.mov (cI 0))])
(.block 0
(.loop
(sq (kr [3,9,10,11] [oB 12 .lss 11 10])
(sq (.cond 12
.skip
(.exit 0))
(sq (.block 1
(sq (.reg [oI 13 10 9 11,
oK 14 10 13,
oD 5 (.box [.int .i64 0,.int .u64 0,.int .u64 0,.int .i64 0,.int .i64 0,.kb false,.int .u64 0,.imm (.int .u8) [],.imm (.int .u8) [],.imm (.int .u8) []]),
oS 10 5 14])
(kr [3,5,9,10,11] [oM 15 3,
oK 16 10 5,
oC 17 22 [16],
oD 18 (.sliceAll Y2 1 [(0,10,17)]),
oD 19 (.append Y2 128 15 18),
oM 3 19])))
(kr [3,9,10,11] [oB 20 .add 11 (cI 1),
oM 11 20])))))))
(sq (kr [3] [oM 21 3,
oM 2 21])
.ret))))
def X9_:List RD:=[.tmp 2 false none]
theorem yn_:zs_ Tryd.prog Tryd.f17 yE_ X9_=true:=by kernel_rfl
def QC_:List AV->List Obj->Option (Prop × AV × List Obj)
 | [.imm ty0 l],[]=>z8_ ty0 Y2 l fun l=>some ((okL l,.own 0,[.row false Y2 l]))
 | _,_=>none
theorem KH_:zg_ Tryd.prog 17 (RwF QC_).sum:=by
 refine y5_ Tryd.func17 yn_ (zc_ (s:=RwF qE_) kA_ (ze_ _)) fun args objs p v o e=>?_
 unfold QC_ at e
 split at e
 ·rename_i ty0 l
  obtain rfl:=zy_ e
  replace e:=zz_ e
  cases e
  refine ⟨rfl,fun hw ho hp=>?_⟩
  change List AC at l
  clear hw ho
  have hn:=hp.n
  repeat'(intro t ht;first|(cases t<;>first|(cases ht;done)|(try simp only[zh_]at ht))|((first|refine zb_ ht ?_|refine ht ?_ ?_|refine ht.1 ?_ ?_|refine ht ?_)<;>clear ht))
  all_goals first
   | exact True.intro
   | ((try simp only [zH_,zI_,zv_] at*);omega)
   | (intro r h1 h2;clear h1;refine h2 ⟨[3,9,10,11],Nat,(fun i=>i<=l.length),fun i=>[.own 0,.imm Y2 l,.int .i64 l.length,.int .i64 i],fun i=>[.row false Y2 (l.take i)],fun i=>l.length - i,⟨0,Nat.zero_le _,rfl,rfl⟩,?_⟩;clear h2)
  rintro i hi
  repeat'(intro t ht;first|(cases t<;>first|(cases ht;done)|(try simp only[zh_]at ht;try(exfalso;first|contradiction|omega)))|((first|refine zb_ ht ?_|refine ht ?_ ?_|refine ht.1 ?_ ?_|refine ht ?_)<;>clear ht))
  all_goals (try generalize (Ty.dflt Y2)=od at*)
  all_goals first
   | exact True.intro
   | ((try simp only [zH_,zI_,zv_] at*);omega)
   | (rw [List.take_of_length_le (show l.length<=i by omega)];exact ⟨rfl,rfl⟩)
   | (have hlt:i < l.length:=by omega
      have hln:=hp.a _ (zJ_ hlt od)
      have htk:(l.take i).length=i:=yX_ hi
      first
       | exact ⟨by have:=hln.2.2;exact Nat.le_trans this (by decide),hln.1,hln.2.1⟩
       | (simp only [Qi_,List.length_cons,List.length_nil];constructor<;>omega)
       | (simp only [List.length_append,Int.toNat_natCast];omega)
       | (refine ⟨i+1,by omega,by dsimp only;omega,rfl,?_⟩
          dsimp only
          rw [<- Kh_ (d:=od) hlt]
          simp only [Qi_,Int.toNat_natCast,UU_]))
 ·cases e
def zC_ (t:Int):Int:=if t=0 then 11 else if t=22 then 10 else if t=21 then 9 else if t=15\/t=23\/t=25 then 8 else if t=16\/t=24 then 7 else if t=11 then 6 else if t=17 then 5 else if t=26 then 4 else if t=19 then 3 else if t=18\/t=20\/t=27 then 2 else if t=12 then 1 else 0
def flF (t f:Int):Int:=if t=25 then f else 0
def WW_ (a b:Int):Int:=if a < b then -1 else if b < a then 1 else 0
def orL:List Int->Int
 | []=>0
 | x :: r=>if x=0 then orL r else x
theorem Yl_ {l:List Int} {i:Nat} {d:Int} (h:i < l.length):orL (l.drop i)=if l.getD i d=0 then orL (l.drop (i+1)) else l.getD i d:=by
 rw [zK_ h d];rfl
def wj_ (r k f r' k' f':Int):Int:=orL [WW_ r r',WW_ k k',WW_ f f']
def flA (a:AC):Int:=flF a.1 a.2.2.2.1.2.1
def Jl_ (a b:AC):Int:=wj_ (zC_ a.1) a.1 (flA a) (zC_ b.1) b.1 (flA b)
def un_ (q a b c f:Int) (h:Bool) (x:Int) (v m d:List Int):Bool:=decide (0 < zC_ q) && Ji_ (kR_ c f h x v m) q a b c f h x v m d
def Zf_ (a:AC):Bool:=un_ a.1 a.2.1 a.2.2.1 a.2.2.2.1.1 a.2.2.2.1.2.1 a.2.2.2.1.2.2.1 a.2.2.2.1.2.2.2.1 a.2.2.2.1.2.2.2.2.1 a.2.2.2.1.2.2.2.2.2.1 a.2.2.2.2.1
theorem hK_ (x y z:Int):orL [x,y,z]=if x=0 then (if y=0 then z else y) else x:=by
 unfold orL;unfold orL;unfold orL;unfold orL
 by_cases hx:x=0
 ·rw [if_pos hx,if_pos hx]
  by_cases hy:y=0
  ·rw [if_pos hy,if_pos hy]
   by_cases hz:z=0
   ·rw [if_pos hz,hz]
   ·rw [if_neg hz]
  ·rw [if_neg hy,if_neg hy]
 ·rw [if_neg hx,if_neg hx]
def WA_:IR:=
(sq (kr [0] [oD 1 (.boxv 0),
oD 2 (.mov (cI 0))])
(sq (sq (.reg [oA 3 0 1,
oL 4 3])
(.block 0
(sq (.block 11
(sq (.block 10
(sq (.block 9
(sq (.block 8
(sq (.block 7
(sq (.block 6
(sq (.block 5
(sq (.block 4
(sq (.block 3
(sq (.block 2
(sq (.block 1
(sq (sq (sq (.reg [oB 6 .eql 4 (cI 0),
oM 5 6])
(.cond 5
(.exit 1)
.skip))
(sq (sq (kr [2,4] [oB 8 .eql 4 (cI 22),
oM 7 8])
(.cond 7
(.exit 2)
.skip))
(sq (sq (.reg [oB 10 .eql 4 (cI 21),
oM 9 10])
(.cond 9
(.exit 3)
.skip))
(sq (sq (sq (.reg [oB 12 .eql 4 (cI 15),
oM 11 12])
(.cond 11
.skip
(sq (kr [2,4] [oB 13 .eql 4 (cI 23),
oM 11 13])
(.cond 11
.skip
(.reg [oB 14 .eql 4 (cI 25),
oM 11 14])))))
(.cond 11
(.exit 4)
.skip))
(sq (sq (sq (kr [2,4] [oB 16 .eql 4 (cI 16),
oM 15 16])
(.cond 15
.skip
(.reg [oB 17 .eql 4 (cI 24),
oM 15 17])))
(.cond 15
(.exit 5)
.skip))
(sq (sq (.reg [oB 19 .eql 4 (cI 11),
oM 18 19])
(.cond 18
(.exit 6)
.skip))
(sq (sq (kr [2,4] [oB 21 .eql 4 (cI 17),
oM 20 21])
(.cond 20
(.exit 7)
.skip))
(sq (sq (.reg [oB 23 .eql 4 (cI 26),
oM 22 23])
(.cond 22
(.exit 8)
.skip))
(sq (sq (.reg [oB 25 .eql 4 (cI 19),
oM 24 25])
(.cond 24
(.exit 9)
.skip))
(sq (sq (sq (kr [2,4] [oB 27 .eql 4 (cI 18),
oM 26 27])
(.cond 26
.skip
(sq (.reg [oB 28 .eql 4 (cI 20),
oM 26 28])
(.cond 26
.skip
(.reg [oB 29 .eql 4 (cI 27),
oM 26 29])))))
(.cond 26
(.exit 10)
.skip))
(sq (kr [2,4] [oB 31 .eql 4 (cI 12),
oM 30 31])
(.cond 30
(.exit 11)
.skip))))))))))))
(.exit 0)))
(kr [2] [oM 32 2,
oB 33 .add 32 (cI 1),
oM 2 33])))
(kr [2] [oM 34 2,
oB 35 .add 34 (cI 1),
oM 2 35])))
(kr [2] [oM 36 2,
oB 37 .add 36 (cI 1),
oM 2 37])))
(kr [2] [oM 38 2,
oB 39 .add 38 (cI 1),
oM 2 39])))
(kr [2] [oM 40 2,
oB 41 .add 40 (cI 1),
oM 2 41])))
(kr [2] [oM 42 2,
oB 43 .add 42 (cI 1),
oM 2 43])))
(kr [2] [oM 44 2,
oB 45 .add 44 (cI 1),
oM 2 45])))
(kr [2] [oM 46 2,
oB 47 .add 46 (cI 1),
oM 2 47])))
(kr [2] [oM 48 2,
oB 49 .add 48 (cI 1),
oM 2 49])))
(kr [2] [oM 50 2,
oB 51 .add 50 (cI 1),
oM 2 51])))
(sq (kr [2] [oM 52 2,
oB 53 .add 52 (cI 1),
oM 2 53])
(.exit 0)))))
(sq (kr [2] [oM 54 2,
oM 2 54])
.ret)))
def w4_:List RD:=[.tmp 2 true none]
theorem Wi_:zs_ Tryd.prog Tryd.f11 WA_ w4_=true:=by kernel_rfl
def ZP_:List AV->List Obj->Option (Prop × AV)
 | [.agg [.int .i64 q,.int .u64 a,.int .u64 b,.int .i64 c,.int .i64 f,.bool h,.int .u64 x,.imm (.int .u8) v,.imm (.int .u8) m,.imm (.int .u8) d]],[]=>some ((True,.int .i64 (zC_ q)))
 | _,_=>none
theorem qQ_:zg_ Tryd.prog 11 (RoF ZP_).sum:=by
 refine zm_ Tryd.func11 Wi_ (ze_ _) fun args objs p v e=>?_
 unfold ZP_ at e
 split at e
 ·rename_i q a b c f h x v m d
  cases e
  refine ⟨rfl,fun hw ho hp=>?_⟩
  change List Int at v
  change List Int at m
  change List Int at d
  clear hw ho hp
  have hr:∀ n:Int,zC_ q=n->AV.int .i64 n=AV.int .i64 (zC_ q):=fun n e=>by rw [e]
  repeat'(intro t ht;first|(cases t<;>first|(cases ht;done)|(try simp only[zh_]at ht;try(exfalso;first|contradiction|omega)))|((first|refine zb_ ht ?_|refine ht ?_ ?_|refine ht.1 ?_ ?_|refine ht ?_)<;>clear ht))
  all_goals first
   | exact True.intro
   | (simp only [zv_];omega)
   | (refine ⟨hr _ ?_,rfl⟩;unfold zC_;simp only [*];done)
   | (refine ⟨hr _ ?_,rfl⟩;unfold zC_;(repeat' split)<;>omega)
 ·cases e
def yD_:IR:=
(sq (kr [0] [oD 1 (.boxv 0),
oD 2 (.box [.int .i64 0,.int .i64 0,.int .i64 0])])
(sq (kd [1,2] [(oK 4 10 1,[]),
(oC 5 11 [4],[]),
(oA 6 0 1,[0,0]),
(oL 7 6,[1,0]),
(oD 8 (.build [.int .i64 0,.int .i64 0,.int .i64 0] [(0,1,5),(1,1,7)]),[]),
(oD 3 (.box [.int .i64 0,.int .i64 0,.int .i64 0]),[0,0,0,0,0]),
(oS 3 3 8,[])])
(sq (sq (.reg [oA 9 0 1,
oL 10 9,
oB 11 .eql 10 (cI 25)])
(.cond 11
(kr [1,2,3] [oA 12 3 1,
oA 13 1 12,
oL 14 13,
oA 15 2 3,
oS 1 15 14])
.skip))
(sq (kr [2,3] [oK 16 3 3,
oS 3 2 16])
.ret))))
def X8_:List RD:=[.cell 2 (some 3) true []]
theorem ym_:zs_ Tryd.prog Tryd.f18 yD_ X8_=true:=by kernel_rfl
def qN_:List AV->List Obj->Option (Prop × AV)
 | [.agg [.int .i64 q,.int .u64 a,.int .u64 b,.int .i64 c,.int .i64 f,.bool h,.int .u64 x,.imm (.int .u8) v,.imm (.int .u8) m,.imm (.int .u8) d]],[]=>some ((True,.agg [.int .i64 (zC_ q),.int .i64 q,.int .i64 (flF q f)]))
 | _,_=>none
theorem QF_:zg_ Tryd.prog 18 (RoF qN_).sum:=by
 refine zm_ Tryd.func18 ym_ (zc_ (s:=RoF ZP_) qQ_ (ze_ _)) fun args objs p v e=>?_
 unfold qN_ at e
 split at e
 ·rename_i q a b c f h x v m d
  cases e
  refine ⟨rfl,fun hw ho hp=>?_⟩
  change List Int at v
  change List Int at m
  change List Int at d
  clear hw ho hp
  by_cases h25:q=25
  ·have e:flF q f=f:=if_pos h25
   rw [e]
   repeat'(intro t ht;first|(cases t<;>first|(cases ht;done)|(try simp only[zh_]at ht;try(exfalso;first|contradiction|omega)))|((first|refine zb_ ht ?_|refine ht ?_ ?_|refine ht.1 ?_ ?_|refine ht ?_)<;>clear ht))
   all_goals first
    | exact True.intro
    | exact ⟨rfl,rfl⟩
  ·have e:flF q f=0:=if_neg h25
   rw [e]
   repeat'(intro t ht;first|(cases t<;>first|(cases ht;done)|(try simp only[zh_]at ht;try(exfalso;first|contradiction|omega)))|((first|refine zb_ ht ?_|refine ht ?_ ?_|refine ht.1 ?_ ?_|refine ht ?_)<;>clear ht))
   all_goals first
    | exact True.intro
    | exact ⟨rfl,rfl⟩
 ·cases e
def Jr_:IR:=
(sq (kr [0] [oD 2 (.mov cF)])
(sq (.reg [oM 3 0,
oM 4 0,
oB 5 .neq 3 4,
oM 2 5])
.ret))
def Jj_:List RD:=[.tmp 2 true none]
theorem Jn_:zs_ Tryd.prog Tryd.f44 Jr_ Jj_=true:=by kernel_rfl
def qV_:List AV->List Obj->Option (Prop × AV)
 | [.int .i64 n],[]=>some ((True,.bool false))
 | _,_=>none
theorem jq_:zg_ Tryd.prog 44 (RoF qV_).sum:=by
 refine zm_ Tryd.func44 Jn_ (ze_ _) fun args objs p v e=>?_
 unfold qV_ at e
 split at e
 ·rename_i n
  cases e
  refine ⟨rfl,fun hw ho hp=>?_⟩
  clear hw ho hp
  repeat'(intro t ht;first|(cases t<;>first|(cases ht;done)|(try simp only[zh_]at ht;try(exfalso;first|contradiction|omega)))|((first|refine zb_ ht ?_|refine ht ?_ ?_|refine ht.1 ?_ ?_|refine ht ?_)<;>clear ht))
  all_goals first
   | exact True.intro
   | exact ⟨rfl,rfl⟩
   | (refine ⟨congrArg AV.bool ?_,rfl⟩;simp;done)
 ·cases e
def K2_:IR:=
(sq (kr [0,1] [oD 4 (.mov (cI 0))])
(sq (.reg [oM 7 0,
oC 8 44 [7],
oM 5 8])
(sq (.reg [oM 9 1,
oC 10 44 [9],
oM 6 10])
(sq (sq (kr [0,1,5,6] [oM 11 5])
(.cond 11
(sq (sq (.reg [oM 12 6])
(.cond 12
(sq (.reg [oD 4 (.mov (cI 0))])
.ret)
.skip))
(sq (.reg [oD 4 (.mov (cI (-1)))])
.ret))
.skip))
(sq (sq (.reg [oM 13 6])
(.cond 13
(sq (kr [] [oD 4 (.mov (cI 1))])
.ret)
.skip))
(sq (sq (kr [0,1] [oM 14 0,
oM 15 1,
oB 16 .lss 14 15])
(.cond 16
(sq (.reg [oD 4 (.mov (cI (-1)))])
.ret)
.skip))
(sq (sq (.reg [oM 17 0,
oM 18 1,
oB 19 .gtr 17 18])
(.cond 19
(sq (kr [] [oD 4 (.mov (cI 1))])
.ret)
.skip))
(sq (kr [] [oD 4 (.mov (cI 0))])
.ret))))))))
def KQ_:List RD:=[.tmp 4 true none]
theorem KU_:zs_ Tryd.prog Tryd.f31 K2_ KQ_=true:=by kernel_rfl
def qi_:List AV->List Obj->Option (Prop × AV)
 | [.int .i64 a,.int .i64 b],[]=>some ((True,.int .i64 (WW_ a b)))
 | _,_=>none
theorem Kz_:zg_ Tryd.prog 31 (RoF qi_).sum:=by
 refine zm_ Tryd.func31 KU_ (zc_ (s:=RoF qV_) jq_ (ze_ _)) fun args objs p v e=>?_
 unfold qi_ at e
 split at e
 ·rename_i a b
  cases e
  refine ⟨rfl,fun hw ho hp=>?_⟩
  clear hw ho hp
  repeat'(intro t ht;first|(cases t<;>first|(cases ht;done)|(try simp only[zh_]at ht;try(exfalso;first|contradiction|omega)))|((first|refine zb_ ht ?_|refine ht ?_ ?_|refine ht.1 ?_ ?_|refine ht ?_)<;>clear ht))
  all_goals first
   | exact True.intro
   | (refine ⟨?_,rfl⟩;unfold WW_;(repeat' split)<;>first | rfl | omega)
 ·cases e
def xS_:IR:=
(sq (kr [0] [oD 2 (.mov (cI 0))])
(sq (.reg [oD 3 (.mov (cI 0))])
(sq (sq (.reg [oM 6 0,
oE 7 6,
oD 8 (.mov (cI 0))])
(.block 0
(.loop
(sq (kr [3,6,7,8] [oB 9 .lss 8 7])
(sq (.cond 9
.skip
(.exit 0))
(sq (.block 1
(sq (.reg [oI 10 1 6 8,
oL 11 10,
oM 5 11])
(sq (.reg [oM 12 5,
oM 13 3,
oB 14 .neq 12 13])
(.cond 14
(sq (kr [5] [oM 15 5,
oM 2 15])
.ret)
.skip))))
(kr [3,6,7,8] [oB 16 .add 8 (cI 1),
oM 8 16])))))))
(sq (kr [3] [oM 17 3,
oM 2 17])
.ret))))
def xx_:List RD:=[.tmp 2 true none]
theorem xI_:zs_ Tryd.prog Tryd.f30 xS_ xx_=true:=by kernel_rfl
def kw_:List AV->List Obj->Option (Prop × AV)
 | [.imm (.int .i64) l],[]=>some ((l.length<=1000000,.int .i64 (orL l)))
 | _,_=>none
theorem wY_:zg_ Tryd.prog 30 (RoF kw_).sum:=by
 refine zm_ Tryd.func30 xI_ (ze_ _) fun args objs p v e=>?_
 unfold kw_ at e
 split at e
 ·rename_i l
  cases e
  refine ⟨rfl,fun hw ho hp=>?_⟩
  change List Int at l
  clear hw ho
  repeat'(intro t ht;first|(cases t<;>first|(cases ht;done)|(try simp only[zh_]at ht;try(exfalso;first|contradiction|omega)))|((first|refine zb_ ht ?_|refine ht ?_ ?_|refine ht.1 ?_ ?_|refine ht ?_)<;>clear ht))
  all_goals first
   | exact True.intro
   | (intro r h1 h2;clear h1;refine h2 ⟨[3,6,7,8],Nat,(fun i=>i<=l.length/\orL l=orL (l.drop i)),fun i=>[.int .i64 0,.imm (.int .i64) l,.int .i64 l.length,.int .i64 i],fun _=>[],fun i=>l.length - i,⟨0,⟨Nat.zero_le _,rfl⟩,rfl,rfl⟩,?_⟩;clear h2)
  rintro i ⟨hi,he⟩
  repeat'(intro t ht;first|(cases t<;>first|(cases ht;done)|(try simp only[zh_]at ht;try(exfalso;first|contradiction|omega)))|((first|refine zb_ ht ?_|refine ht ?_ ?_|refine ht.1 ?_ ?_|refine ht ?_)<;>clear ht))
  all_goals first
   | exact True.intro
   | omega
   | ((try dsimp only);simp only [zv_];omega)
   | (rw [he,Yl_ (d:=0) (by omega),if_neg ht];exact ⟨rfl,by first | rfl | exact True.intro⟩)
   | (rw [he,List.drop_of_length_le (by omega)];exact ⟨rfl,by first | rfl | exact True.intro⟩)
   | (refine ⟨i+1,⟨by omega,?_⟩,?_,rfl,rfl⟩
      ·rw [he,Yl_ (d:=0) (by omega),if_pos ht]
      ·(try dsimp only);omega)
 ·cases e
def kK_:IR:=
(sq (kr [0,1] [oD 2 (.boxv 0),
oD 3 (.boxv 1),
oD 4 (.mov (cI 0))])
(sq (kd [2,3] [(oA 5 0 2,[]),
(oL 6 5,[]),
(oA 7 0 3,[0,0]),
(oL 8 7,[1,0]),
(oC 9 31 [6,8],[]),
(oA 10 1 2,[0,0,0,0,0]),
(oL 11 10,[1,0,0,0,0]),
(oA 12 1 3,[0,0,0,0,0,0,0]),
(oL 13 12,[1,0,0,0,0,0,0]),
(oC 14 31 [11,13],[]),
(oA 15 2 2,[0,0,0,0,0,0,0,0,0,0]),
(oL 16 15,[1,0,0,0,0,0,0,0,0,0]),
(oA 17 2 3,[0,0,0,0,0,0,0,0,0,0,0,0]),
(oL 18 17,[1,0,0,0,0,0,0,0,0,0,0,0]),
(oC 19 31 [16,18],[]),
(oD 20 (.sliceAll (.int .i64) 3 [(0,1,9),(1,1,14),(2,1,19)]),[]),
(oC 21 30 [20],[]),
(oM 4 21,[])])
.ret))
def kE_:List RD:=[.tmp 4 true none]
theorem kI_:zs_ Tryd.prog Tryd.f21 kK_ kE_=true:=by kernel_rfl
def z6_:List AV->List Obj->Option (Prop × AV)
 | [.agg [.int .i64 r,.int .i64 k,.int .i64 f],.agg [.int .i64 r',.int .i64 k',.int .i64 f']],[]=>some ((True,.int .i64 (wj_ r k f r' k' f')))
 | _,_=>none
theorem Z4_:zg_ Tryd.prog 21 (RoF z6_).sum:=by
 refine zm_ Tryd.func21 kI_ (zc_ (s:=RoF qi_) Kz_ (zc_ (s:=RoF kw_) wY_ (ze_ _))) fun args objs p v e=>?_
 unfold z6_ at e
 split at e
 ·rename_i r k f r' k' f'
  cases e
  refine ⟨rfl,fun hw ho hp=>?_⟩
  clear hw ho hp
  repeat'(intro t ht;first|(cases t<;>first|(cases ht;done)|(try simp only[zh_]at ht;try(exfalso;first|contradiction|omega)))|((first|refine zb_ ht ?_|refine ht ?_ ?_|refine ht.1 ?_ ?_|refine ht ?_)<;>clear ht))
  all_goals first
   | exact True.intro
   | exact ⟨rfl,rfl⟩
   | exact (by decide:(3:Nat)<=1000000)
   | (simp only [List.length_cons,List.length_nil];omega)
 ·cases e
def xU_:IR:=
(sq (kr [0] [oD 1 (.boxv 0),
oD 2 (.mov cF)])
(sq (kr [1] [oK 3 10 1,
oC 4 11 [3],
oB 5 .gtr 4 (cI 0),
oM 6 5,
oT 6 7 (.load (some 10) 1),
oT 6 8 (.call false (.f 29) [7]),
oP 9 6 8 cF,
oM 2 9])
.ret))
def xz_:List RD:=[.tmp 2 true none]
theorem xK_:zs_ Tryd.prog Tryd.f16 xU_ xz_=true:=by kernel_rfl
def q4_:List AV->List Obj->Option (Prop × AV)
 | [.agg [.int .i64 q,.int .u64 a,.int .u64 b,.int .i64 c,.int .i64 f,.bool h,.int .u64 x,.imm (.int .u8) v,.imm (.int .u8) m,.imm (.int .u8) d]],[]=>some ((v.length<=1000000/\m.length<=1000000,.bool (un_ q a b c f h x v m d)))
 | _,_=>none
theorem kP_:zg_ Tryd.prog 16 (RoF q4_).sum:=by
 refine zm_ Tryd.func16 xK_ (zc_ (s:=RoF ZP_) qQ_ (zc_ (s:=RoF Qo_) Jg_ (ze_ _))) fun args objs p v e=>?_
 unfold q4_ at e
 split at e
 ·rename_i q a b c f h x v m d
  cases e
  refine ⟨rfl,fun hw ho hp=>?_⟩
  change List Int at v
  change List Int at m
  change List Int at d
  clear hw ho
  repeat'(intro t ht;first|(cases t<;>first|(cases ht;done)|(try simp only[zh_]at ht;try(exfalso;first|contradiction|omega)))|((first|refine zb_ ht ?_|refine ht ?_ ?_|refine ht.1 ?_ ?_|refine ht ?_)<;>clear ht))
  all_goals first
   | exact True.intro
   | exact hp
   | exact ⟨rfl,rfl⟩
   | (refine ⟨congrArg AV.bool ?_,rfl⟩;unfold un_;first | (rw [decide_eq_false ht];rfl) | (rw [decide_eq_true (show 0 < zC_ q by omega)];rfl))
 ·cases e
def jQ_:IR:=
(sq (kr [0] [oD 1 (.boxv 0),
oD 2 (.mov cF)])
(sq (.reg [oK 3 10 1,
oC 4 16 [3],
oD 5 (.un .not 4),
oM 2 5])
.ret))
def jw_:List RD:=[.tmp 2 true none]
theorem jF_:zs_ Tryd.prog Tryd.f15 jQ_ jw_=true:=by kernel_rfl
def ZB_:List AV->List Obj->Option (Prop × AV)
 | [.agg [.int .i64 q,.int .u64 a,.int .u64 b,.int .i64 c,.int .i64 f,.bool h,.int .u64 x,.imm (.int .u8) v,.imm (.int .u8) m,.imm (.int .u8) d]],[]=>some ((v.length<=1000000/\m.length<=1000000,.bool (!un_ q a b c f h x v m d)))
 | _,_=>none
theorem Qc_:zg_ Tryd.prog 15 (RoF ZB_).sum:=by
 refine zm_ Tryd.func15 jF_ (zc_ (s:=RoF q4_) kP_ (ze_ _)) fun args objs p v e=>?_
 unfold ZB_ at e
 split at e
 ·rename_i q a b c f h x v m d
  cases e
  refine ⟨rfl,fun hw ho hp=>?_⟩
  change List Int at v
  change List Int at m
  change List Int at d
  clear hw ho
  repeat'(intro t ht;first|(cases t<;>first|(cases ht;done)|(try simp only[zh_]at ht;try(exfalso;first|contradiction|omega)))|((first|refine zb_ ht ?_|refine ht ?_ ?_|refine ht.1 ?_ ?_|refine ht ?_)<;>clear ht))
  all_goals first
   | exact True.intro
   | exact hp
   | exact ⟨rfl,rfl⟩
 ·cases e
def jP_:IR:=
(sq (kr [0,1] [oD 2 (.boxv 0),
oD 3 (.mov cF)])
(sq (kd [1,2] [(oK 4 10 2,[]),
(oC 5 18 [4],[]),
(oK 6 3 1,[0,0]),
(oC 7 21 [5,6],[]),
(oB 8 .geq 7 (cI 0),[]),
(oM 3 8,[])])
.ret))
def jv_:List RD:=[.tmp 3 true none]
theorem jE_:zs_ Tryd.prog Tryd.f20 jP_ jv_=true:=by kernel_rfl
def ZA_:List AV->List Obj->Option (Prop × AV)
 | [.agg [.int .i64 q,.int .u64 a,.int .u64 b,.int .i64 c,.int .i64 f,.bool h,.int .u64 x,.imm (.int .u8) v,.imm (.int .u8) m,.imm (.int .u8) d],.ptr 0 0],[.box [.int .i64 r,.int .i64 k,.int .i64 g]]=>some ((True,.bool (decide (0<=wj_ (zC_ q) q (flF q f) r k g))))
 | _,_=>none
theorem Qb_:zg_ Tryd.prog 20 (RoF ZA_).sum:=by
 refine zm_ Tryd.func20 jE_ (zc_ (s:=RoF qN_) QF_ (zc_ (s:=RoF z6_) Z4_ (ze_ _))) fun args objs p v e=>?_
 unfold ZA_ at e
 split at e
 ·rename_i q a b c f h x v m d r k g
  cases e
  refine ⟨rfl,fun hw ho hp=>?_⟩
  change List Int at v
  change List Int at m
  change List Int at d
  clear hw ho hp
  repeat'(intro t ht;first|(cases t<;>first|(cases ht;done)|(try simp only[zh_]at ht;try(exfalso;first|contradiction|omega)))|((first|refine zb_ ht ?_|refine ht ?_ ?_|refine ht.1 ?_ ?_|refine ht ?_)<;>clear ht))
  all_goals first
   | exact True.intro
   | exact ⟨rfl,rfl⟩
 ·cases e
def Js_:IR:=
(sq (kr [0] [oD 1 (.boxv 0),
oD 2 (.mov cF)])
(sq (.reg [oA 3 0 1,
oL 4 3,
oB 5 .eql 4 (cI 0),
oM 2 5])
.ret))
def Jk_:List RD:=[.tmp 2 true none]
theorem Jo_:zs_ Tryd.prog Tryd.f27 Js_ Jk_=true:=by kernel_rfl
def Ze_:List AV->List Obj->Option (Prop × AV)
 | [.agg [.int .i64 q,.int .u64 a,.int .u64 b,.int .i64 c,.int .i64 f,.bool h,.int .u64 x,.imm (.int .u8) v,.imm (.int .u8) m,.imm (.int .u8) d]],[]=>some ((True,.bool (decide (q=0))))
 | _,_=>none
theorem Z5_:zg_ Tryd.prog 27 (RoF Ze_).sum:=by
 refine zm_ Tryd.func27 Jo_ (ze_ _) fun args objs p v e=>?_
 unfold Ze_ at e
 split at e
 ·rename_i q a b c f h x v m d
  cases e
  refine ⟨rfl,fun hw ho hp=>?_⟩
  change List Int at v
  change List Int at m
  change List Int at d
  clear hw ho hp
  repeat'(intro t ht;first|(cases t<;>first|(cases ht;done)|(try simp only[zh_]at ht;try(exfalso;first|contradiction|omega)))|((first|refine zb_ ht ?_|refine ht ?_ ?_|refine ht.1 ?_ ?_|refine ht ?_)<;>clear ht))
  all_goals first
   | exact True.intro
   | exact ⟨rfl,rfl⟩
 ·cases e
def ws_:IR:=
(sq (kr [0,1] [oD 2 (.boxv 0),
oD 3 (.mov cF)])
(sq (kr [1,2] [oA 4 0 2,
oL 5 4,
oL 6 1,
oB 7 .eql 5 6,
oM 3 7])
.ret))
def wd_:List RD:=[.tmp 3 true none]
theorem wl_:zs_ Tryd.prog Tryd.f37 ws_ wd_=true:=by kernel_rfl
def qj_:List AV->List Obj->Option (Prop × AV)
 | [.agg [.int .i64 q,.int .u64 a,.int .u64 b,.int .i64 c,.int .i64 f,.bool h,.int .u64 x,.imm (.int .u8) v,.imm (.int .u8) m,.imm (.int .u8) d],.ptr 0 0],[.box [.int .i64 t0]]=>some ((True,.bool (decide (q=t0))))
 | _,_=>none
theorem QP_:zg_ Tryd.prog 37 (RoF qj_).sum:=by
 refine zm_ Tryd.func37 wl_ (ze_ _) fun args objs p v e=>?_
 unfold qj_ at e
 split at e
 ·rename_i q a b c f h x v m d t0
  cases e
  refine ⟨rfl,fun hw ho hp=>?_⟩
  change List Int at v
  change List Int at m
  change List Int at d
  clear hw ho hp
  repeat'(intro t ht;first|(cases t<;>first|(cases ht;done)|(try simp only[zh_]at ht;try(exfalso;first|contradiction|omega)))|((first|refine zb_ ht ?_|refine ht ?_ ?_|refine ht.1 ?_ ?_|refine ht ?_)<;>clear ht))
  all_goals first
   | exact True.intro
   | exact ⟨rfl,rfl⟩
 ·cases e
def Wn_ (l:List AC) (i:Nat):Prop:=Zf_ (l.getD i (Ty.dflt Y2))=true/\(0 < i->Jl_ (l.getD (i - 1) (Ty.dflt Y2)) (l.getD i (Ty.dflt Y2)) < 0)
instance (l:List AC) (i:Nat):Decidable (Wn_ l i):=by unfold Wn_;infer_instance
def rtA (l:List AC):Bool:=decide (∀ i,i < l.length->Wn_ l i)
theorem hg_ {l:List AC} {i:Nat} (h:∀ j,j < i->Wn_ l j) (hi:l.length<=i):rtA l=true:=decide_eq_true fun j hj=>h j (by omega)
theorem hh_ {l:List AC} {i:Nat} (h:¬ Wn_ l i) (hi:i < l.length):rtA l=false:=decide_eq_false fun k=>h (k i hi)
theorem uj_ {l:List AC} {i:Nat} (h:∀ j,j < i->Wn_ l j) (h1:Wn_ l i):∀ j,j < i+1->Wn_ l j:=fun j hj=>by
 by_cases e:j=i
 ·rw [e];exact h1
 ·exact h j (by omega)
def wu_:IR:=
(sq (kr [0] [oD 2 (.mov cF)])
(sq (sq (.reg [oM 5 0,
oE 6 5,
oD 7 (.mov (cI 0))])
(.block 0
(.loop
(sq (kr [0,5,6,7] [oB 8 .lss 7 6])
(sq (.cond 8
.skip
(.exit 0))
(sq (.block 1
(sq (kr [0,5,6,7] [oM 9 7,
oI 10 10 5 7,
oK 11 10 10,
oD 4 (.box [.int .i64 0,.int .u64 0,.int .u64 0,.int .i64 0,.int .i64 0,.kb false,.int .u64 0,.imm (.int .u8) [],.imm (.int .u8) [],.imm (.int .u8) []]),
oM 3 9,
oS 10 4 11])
(sq (kd [0,3,4,5,6,7] [(oK 12 10 4,[]),
(oC 13 16 [12],[]),
(oD 14 (.un .not 13),[]),
(oM 15 14,[]),
(oF 15 16 (.mov 3),[]),
(oF 15 17 (.bin .gtr 16 (cI 0)),[]),
(oF 15 18 (.mov 17),[]),
(oT 18 19 (.mov 0),[]),
(oT 18 20 (.mov 3),[0]),
(oT 18 21 (.bin .sub 20 (cI 1)),[1]),
(oT 18 22 (.indexSl 10 19 21),[]),
(oT 18 23 (.load (some 10) 22),[]),
(oT 18 24 (.call false (.f 18) [23]),[]),
(oT 18 25 (.load (some 10) 4),[0,0,0,0,0,0]),
(oT 18 26 (.call false (.f 18) [25]),[]),
(oT 18 27 (.call false (.f 21) [24,26]),[]),
(oT 18 28 (.bin .geq 27 (cI 0)),[]),
(oF 15 29 (.pick 18 28 cF),[]),
(oP 30 15 cT 29,[])])
(.cond 30
(sq (kr [] [oD 2 (.mov cF)])
.ret)
.skip))))
(kr [0,5,6,7] [oB 31 .add 7 (cI 1),
oM 7 31])))))))
(sq (kr [] [oD 2 (.mov cT)])
.ret)))
def wf_:List RD:=[.tmp 2 true none]
theorem wn_:zs_ Tryd.prog Tryd.f9 wu_ wf_=true:=by kernel_rfl
def Za_:List AV->List Obj->Option (Prop × AV)
 | [.imm ty0 l],[]=>z8_ ty0 Y2 l fun l=>some ((okL l,.bool (rtA l)))
 | _,_=>none
theorem Zx_:zg_ Tryd.prog 9 (RoF Za_).sum:=by
 refine zm_ Tryd.func9 wn_ (zc_ (s:=RoF q4_) kP_ (zc_ (s:=RoF qN_) QF_ (zc_ (s:=RoF z6_) Z4_ (ze_ _)))) fun args objs p v e=>?_
 unfold Za_ at e
 split at e
 ·rename_i ty0 l
  obtain rfl:=zy_ e
  replace e:=zz_ e
  cases e
  refine ⟨rfl,fun hw ho hp=>?_⟩
  change List AC at l
  clear hw ho
  have hl:=hp.n
  repeat'(intro t ht;first|(cases t<;>first|(cases ht;done)|(try simp only[zh_]at ht))|((first|refine zb_ ht ?_|refine ht ?_ ?_|refine ht.1 ?_ ?_|refine ht ?_)<;>clear ht))
  all_goals first
   | (intro r h1 h2;clear h1;refine h2 ⟨[0,5,6,7],Nat,(fun i=>i<=l.length/\∀ j,j < i->Wn_ l j),fun i=>[.imm Y2 l,.imm Y2 l,.int .i64 l.length,.int .i64 i],fun _=>[],fun i=>l.length - i,⟨0,⟨Nat.zero_le _,fun j hj=>absurd hj (Nat.not_lt_zero j)⟩,rfl,rfl⟩,?_⟩;clear h2)
  rintro i ⟨hi,he⟩
  repeat'(intro t ht;first|(cases t<;>first|(cases ht;done)|(try simp only[zh_]at ht;try(exfalso;first|contradiction|omega)))|((first|refine zb_ ht ?_|refine ht ?_ ?_|refine ht.1 ?_ ?_|refine ht ?_)<;>clear ht))
  all_goals first
   | exact True.intro
   | ((try simp only [zH_,zI_,zv_] at*);omega)
   | exact Gq_ (hp.a _ (zJ_ (by omega) _))
   | exact ⟨congrArg AV.bool (hg_ he (by omega)).symm,rfl⟩
   | (have hn:¬ Wn_ l i:=fun h=>by
       first
        | (have h1:=h.1;unfold Zf_ at h1;rw [ht] at h1;cases h1;done)
        | (have h2:=ht;rw [show ((i:Int) - 1).toNat=i - 1 by omega] at h2;exact absurd (h.2 (by omega)) (Int.not_lt.2 h2))
      exact ⟨congrArg AV.bool (hh_ hn (by omega)).symm,rfl⟩)
   | (have hn:Wn_ l i:=by
       first
        | exact ⟨by assumption,fun h=>absurd (by omega) ht⟩
        | exact ⟨by assumption,fun _=>by have h2:=ht;rw [show ((i:Int) - 1).toNat=i - 1 by omega] at h2;exact Int.not_le.1 h2⟩
      exact ⟨i+1,⟨by omega,uj_ he hn⟩,by dsimp only;omega,rfl,rfl⟩)
 ·cases e
def W7_ (a b:AC):Bool:=decide (Jl_ a b < 0)
def gF_ (a b:AC):Bool:=decide (a.1=b.1) && decide (flA a=flA b)
theorem yL_ {a b:Int}:WW_ a b=0 ↔ a=b:=by
 unfold WW_
 constructor
 ·intro h;split at h
  ·omega
  ·split at h<;>omega
 ·rintro rfl;rw [if_neg (by omega),if_neg (by omega)]
theorem WV_ {a b:Int}:WW_ a b < 0 ↔ a < b:=by
 unfold WW_
 constructor
 ·intro h;split at h
  ·assumption
  ·split at h<;>omega
 ·intro h;rw [if_pos h];omega
theorem VD_ {r k f r' k' f':Int}:wj_ r k f r' k' f' < 0 ↔ r < r'\/(r=r'/\(k < k'\/(k=k'/\f < f'))):=by
 unfold wj_
 rw [hK_]
 by_cases h1:WW_ r r'=0
 ·rw [if_pos h1]
  have e1:=yL_.1 h1
  by_cases h2:WW_ k k'=0
  ·rw [if_pos h2,WV_]
   have e2:=yL_.1 h2
   omega
  ·rw [if_neg h2,WV_]
   have e2:¬ k=k':=fun e=>h2 (yL_.2 e)
   omega
 ·rw [if_neg h1,WV_]
  have e2:¬ r=r':=fun e=>h1 (yL_.2 e)
  omega
def ZM_:IR:=
(sq (kr [0,1] [oD 4 (.mov (cI 0))])
(sq (sq (.reg [oM 6 0,
oE 7 6,
oD 8 (.mov (cI 0))])
(.block 0
(.loop
(sq (kr [0,1,7,8] [oB 9 .lss 8 7])
(sq (.cond 9
.skip
(.exit 0))
(sq (.block 1
(sq (.reg [oM 10 8,
oM 5 10])
(sq (kr [0,1,5,7,8] [oM 11 1,
oM 12 0,
oM 13 5,
oI 14 10 12 13,
oK 15 10 14,
oD 16 (.call false 11 [15])])
(.cond 16
(sq (kr [5] [oM 17 5,
oM 4 17])
.ret)
.skip))))
(kr [0,1,7,8] [oB 18 .add 8 (cI 1),
oM 8 18])))))))
(sq (kr [] [oD 4 (.mov (cI (-1)))])
.ret)))
def ZI_:List RD:=[.tmp 4 true none]
theorem ZJ_:zs_ Tryd.prog Tryd.f19 ZM_ ZI_=true:=by kernel_rfl
def zk_:List AV->List Obj->Option (Prop × AV)
 | [.imm ty0 l,.fn 15 [] []],[]=>z8_ ty0 Y2 l fun l=>some ((okL l,.int .i64 (ZG_ (α:=AC) (fun o=>!Zf_ o) l 0)))
 | [.imm ty0 l,.fn 20 [] [.ptr 0 0]],[.box [.int .i64 e0,.int .i64 e1,.int .i64 e2]]=>z8_ ty0 Y2 l fun l=>some ((True,.int .i64 (ZG_ (α:=AC) (fun a=>decide (0<=wj_ (zC_ a.1) a.1 (flA a) e0 e1 e2)) l 0)))
 | [.imm ty0 l,.fn 27 [] []],[]=>z8_ ty0 Y2 l fun l=>some ((True,.int .i64 (ZG_ (α:=AC) (fun a=>decide (a.1=0)) l 0)))
 | [.imm ty0 l,.fn 37 [] [.ptr 0 0]],[.box [.int .i64 t0]]=>z8_ ty0 Y2 l fun l=>some ((True,.int .i64 (ZG_ (α:=AC) (fun a=>decide (a.1=t0)) l 0)))
 | _,_=>none
theorem zA_:zg_ Tryd.prog 19 (RoF zk_).sum:=by
 refine zm_ Tryd.func19 ZJ_ (zc_ (s:=RoF Ze_) Z5_ (zc_ (s:=RoF ZB_) Qc_ (zc_ (s:=RoF ZA_) Qb_ (zc_ (s:=RoF qj_) QP_ (ze_ _))))) fun args objs p v e=>?_
 unfold zk_ at e
 split at e
 ·rename_i ty0 l
  obtain rfl:=zy_ e
  replace e:=zz_ e
  cases e
  refine ⟨rfl,fun hw ho hp=>?_⟩
  change List AC at l
  have hl:l.length<=maxLen:=(hw (.imm Y2 l) (by simp)).2
  unfold maxLen at hl
  clear hw ho
  repeat'(intro t ht;first|(cases t<;>first|(cases ht;done)|(try simp only[zh_]at ht))|((first|refine zb_ ht ?_|refine ht ?_ ?_|refine ht.1 ?_ ?_|refine ht ?_)<;>clear ht))
  all_goals first
   | (intro r h1 h2;clear h1;refine h2 ⟨[0,1,7,8],Nat,(fun i=>i<=l.length/\ZG_ (fun o=>!Zf_ o) l 0=ZG_ (fun o=>!Zf_ o) (l.drop i) i),fun i=>[.imm Y2 l,.fn 15 [] [],.int .i64 l.length,.int .i64 i],fun _=>[],fun i=>l.length - i,⟨0,⟨Nat.zero_le _,rfl⟩,rfl,rfl⟩,?_⟩;clear h2)
  rintro i ⟨hi,he⟩
  repeat'(intro t ht;first|(cases t<;>first|(cases ht;done)|(try simp only[zh_]at ht;try(exfalso;first|contradiction|omega)))|((first|refine zb_ ht ?_|refine ht ?_ ?_|refine ht.1 ?_ ?_|refine ht ?_)<;>clear ht))
  all_goals (try generalize (Ty.dflt Y2)=od at*)
  all_goals first
   | exact True.intro
   | ((try simp only [zH_,zI_,zv_] at*);omega)
   | exact Gq_ (hp.a _ (zJ_ (by omega) od))
   | (refine ⟨?_,rfl⟩;rw [he,jS_ (by omega)];done)
   | (refine ⟨?_,rfl⟩;rw [he,wG_ (p:=fun o=>!Zf_ o) (d:=od) (by omega) (by (try dsimp only);unfold Zf_;rw [ht];rfl)];done)
   | exact ⟨i+1,⟨by omega,he.trans (wF_ (p:=fun o=>!Zf_ o) (d:=od) (by omega) (by (try dsimp only);unfold Zf_;rw [ht];rfl))⟩,by dsimp only;omega,rfl,rfl⟩
 ·rename_i ty0 l e0 e1 e2
  obtain rfl:=zy_ e
  replace e:=zz_ e
  cases e
  refine ⟨rfl,fun hw ho hp=>?_⟩
  change List AC at l
  have hl:l.length<=maxLen:=(hw (.imm Y2 l) (by simp)).2
  unfold maxLen at hl
  clear hw ho
  repeat'(intro t ht;first|(cases t<;>first|(cases ht;done)|(try simp only[zh_]at ht))|((first|refine zb_ ht ?_|refine ht ?_ ?_|refine ht.1 ?_ ?_|refine ht ?_)<;>clear ht))
  all_goals first
   | (intro r h1 h2;clear h1;refine h2 ⟨[0,1,7,8],Nat,(fun i=>i<=l.length/\ZG_ (fun a=>decide (0<=wj_ (zC_ a.1) a.1 (flA a) e0 e1 e2)) l 0=ZG_ (fun a=>decide (0<=wj_ (zC_ a.1) a.1 (flA a) e0 e1 e2)) (l.drop i) i),fun i=>[.imm Y2 l,.fn 20 [] [.ptr 0 0],.int .i64 l.length,.int .i64 i],fun _=>[.box [.int .i64 e0,.int .i64 e1,.int .i64 e2]],fun i=>l.length - i,⟨0,⟨Nat.zero_le _,rfl⟩,rfl,rfl⟩,?_⟩;clear h2)
  rintro i ⟨hi,he⟩
  repeat'(intro t ht;first|(cases t<;>first|(cases ht;done)|(try simp only[zh_]at ht;try(exfalso;first|contradiction|omega)))|((first|refine zb_ ht ?_|refine ht ?_ ?_|refine ht.1 ?_ ?_|refine ht ?_)<;>clear ht))
  all_goals (try generalize (Ty.dflt Y2)=od at*)
  all_goals first
   | exact True.intro
   | ((try simp only [zH_,zI_,zv_] at*);omega)
   | (refine ⟨?_,rfl⟩;rw [he,jS_ (by omega)];done)
   | (refine ⟨?_,rfl⟩;rw [he,wG_ (p:=fun a=>decide (0<=wj_ (zC_ a.1) a.1 (flA a) e0 e1 e2)) (d:=od) (by omega) (decide_eq_true ht)];done)
   | exact ⟨i+1,⟨by omega,he.trans (wF_ (p:=fun a=>decide (0<=wj_ (zC_ a.1) a.1 (flA a) e0 e1 e2)) (d:=od) (by omega) (decide_eq_false ht))⟩,by dsimp only;omega,rfl,rfl⟩
 ·rename_i ty0 l
  obtain rfl:=zy_ e
  replace e:=zz_ e
  cases e
  refine ⟨rfl,fun hw ho hp=>?_⟩
  change List AC at l
  have hl:l.length<=maxLen:=(hw (.imm Y2 l) (by simp)).2
  unfold maxLen at hl
  clear hw ho
  repeat'(intro t ht;first|(cases t<;>first|(cases ht;done)|(try simp only[zh_]at ht))|((first|refine zb_ ht ?_|refine ht ?_ ?_|refine ht.1 ?_ ?_|refine ht ?_)<;>clear ht))
  all_goals first
   | (intro r h1 h2;clear h1;refine h2 ⟨[0,1,7,8],Nat,(fun i=>i<=l.length/\ZG_ (fun a=>decide (a.1=0)) l 0=ZG_ (fun a=>decide (a.1=0)) (l.drop i) i),fun i=>[.imm Y2 l,.fn 27 [] [],.int .i64 l.length,.int .i64 i],fun _=>[],fun i=>l.length - i,⟨0,⟨Nat.zero_le _,rfl⟩,rfl,rfl⟩,?_⟩;clear h2)
  rintro i ⟨hi,he⟩
  repeat'(intro t ht;first|(cases t<;>first|(cases ht;done)|(try simp only[zh_]at ht;try(exfalso;first|contradiction|omega)))|((first|refine zb_ ht ?_|refine ht ?_ ?_|refine ht.1 ?_ ?_|refine ht ?_)<;>clear ht))
  all_goals (try generalize (Ty.dflt Y2)=od at*)
  all_goals first
   | exact True.intro
   | ((try simp only [zH_,zI_,zv_] at*);omega)
   | (refine ⟨?_,rfl⟩;rw [he,jS_ (by omega)];done)
   | (refine ⟨?_,rfl⟩;rw [he,wG_ (p:=fun a=>decide (a.1=0)) (d:=od) (by omega) (decide_eq_true ht)];done)
   | exact ⟨i+1,⟨by omega,he.trans (wF_ (p:=fun a=>decide (a.1=0)) (d:=od) (by omega) (decide_eq_false ht))⟩,by dsimp only;omega,rfl,rfl⟩
 ·rename_i ty0 l t0
  obtain rfl:=zy_ e
  replace e:=zz_ e
  cases e
  refine ⟨rfl,fun hw ho hp=>?_⟩
  change List AC at l
  have hl:l.length<=maxLen:=(hw (.imm Y2 l) (by simp)).2
  unfold maxLen at hl
  clear hw ho
  repeat'(intro t ht;first|(cases t<;>first|(cases ht;done)|(try simp only[zh_]at ht))|((first|refine zb_ ht ?_|refine ht ?_ ?_|refine ht.1 ?_ ?_|refine ht ?_)<;>clear ht))
  all_goals first
   | (intro r h1 h2;clear h1;refine h2 ⟨[0,1,7,8],Nat,(fun i=>i<=l.length/\ZG_ (fun a=>decide (a.1=t0)) l 0=ZG_ (fun a=>decide (a.1=t0)) (l.drop i) i),fun i=>[.imm Y2 l,.fn 37 [] [.ptr 0 0],.int .i64 l.length,.int .i64 i],fun _=>[.box [.int .i64 t0]],fun i=>l.length - i,⟨0,⟨Nat.zero_le _,rfl⟩,rfl,rfl⟩,?_⟩;clear h2)
  rintro i ⟨hi,he⟩
  repeat'(intro t ht;first|(cases t<;>first|(cases ht;done)|(try simp only[zh_]at ht;try(exfalso;first|contradiction|omega)))|((first|refine zb_ ht ?_|refine ht ?_ ?_|refine ht.1 ?_ ?_|refine ht ?_)<;>clear ht))
  all_goals (try generalize (Ty.dflt Y2)=od at*)
  all_goals first
   | exact True.intro
   | ((try simp only [zH_,zI_,zv_] at*);omega)
   | (refine ⟨?_,rfl⟩;rw [he,jS_ (by omega)];done)
   | (refine ⟨?_,rfl⟩;rw [he,wG_ (p:=fun a=>decide (a.1=t0)) (d:=od) (by omega) (decide_eq_true ht)];done)
   | exact ⟨i+1,⟨by omega,he.trans (wF_ (p:=fun a=>decide (a.1=t0)) (d:=od) (by omega) (decide_eq_false ht))⟩,by dsimp only;omega,rfl,rfl⟩
 ·cases e
def Zr_:IR:=
(sq (kr [0,1] [oD 4 (.mov cF)])
(sq (kr [0,1] [oM 5 0,
oM 6 1,
oC 7 19 [5,6],
oB 8 .geq 7 (cI 0),
oM 4 8])
.ret))
def Zo_:List RD:=[.tmp 4 true none]
theorem Zq_:zs_ Tryd.prog Tryd.f14 Zr_ Zo_=true:=by kernel_rfl
def zo_:List AV->List Obj->Option (Prop × AV)
 | [.imm ty0 l,.fn 15 [] []],[]=>z8_ ty0 Y2 l fun l=>some ((okL l,.bool ((l:List AC).any (fun o=>!Zf_ o))))
 | [.imm ty0 l,.fn 37 [] [.ptr 0 0]],[.box [.int .i64 t0]]=>z8_ ty0 Y2 l fun l=>some ((True,.bool ((l:List AC).any (fun a=>decide (a.1=t0)))))
 | _,_=>none
theorem zW_:zg_ Tryd.prog 14 (RoF zo_).sum:=by
 refine zm_ Tryd.func14 Zq_ (zc_ (s:=RoF zk_) zA_ (ze_ _)) fun args objs p v e=>?_
 unfold zo_ at e
 split at e
 ·rename_i ty0 l
  obtain rfl:=zy_ e
  replace e:=zz_ e
  cases e
  refine ⟨rfl,fun hw ho hp=>?_⟩
  have h9:=WG_ (p:=fun o=>!Zf_ o) l 0 (Int.le_refl _)
  repeat'(intro t ht;first|(cases t<;>first|(cases ht;done)|(try simp only[zh_]at ht;try(exfalso;first|contradiction|omega)))|((first|refine zb_ ht ?_|refine ht ?_ ?_|refine ht.1 ?_ ?_|refine ht ?_)<;>clear ht))
  all_goals first
   | exact True.intro
   | exact hp
   | exact ⟨congrArg AV.bool h9,rfl⟩
 ·rename_i ty0 l t0
  obtain rfl:=zy_ e
  replace e:=zz_ e
  cases e
  refine ⟨rfl,fun hw ho hp=>?_⟩
  have h9:=WG_ (p:=fun a:AC=>decide (a.1=t0)) l 0 (Int.le_refl _)
  repeat'(intro t ht;first|(cases t<;>first|(cases ht;done)|(try simp only[zh_]at ht;try(exfalso;first|contradiction|omega)))|((first|refine zb_ ht ?_|refine ht ?_ ?_|refine ht.1 ?_ ?_|refine ht ?_)<;>clear ht))
  all_goals first
   | exact True.intro
   | exact ⟨congrArg AV.bool h9,rfl⟩
 ·cases e
def xV_:IR:=
(sq (kr [0,1] [oD 3 (.boxv 1),
oD 4 (.mov cF)])
(sq (.reg [oM 5 0,
oD 6 (.mkfn 37 [] [3]),
oC 7 14 [5,6],
oM 4 7])
.ret))
def xA_:List RD:=[.tmp 4 true none]
theorem xL_:zs_ Tryd.prog Tryd.f25 xV_ xA_=true:=by kernel_rfl
def q5_:List AV->List Obj->Option (Prop × AV)
 | [.imm ty0 l,.int .i64 t0],[]=>z8_ ty0 Y2 l fun l=>some ((True,.bool ((l:List AC).any (fun a=>decide (a.1=t0)))))
 | _,_=>none
theorem kQ_:zg_ Tryd.prog 25 (RoF q5_).sum:=by
 refine zm_ Tryd.func25 xL_ (zc_ (s:=RoF qj_) QP_ (zc_ (s:=RoF zo_) zW_ (ze_ _))) fun args objs p v e=>?_
 unfold q5_ at e
 split at e
 ·rename_i ty0 l t0
  obtain rfl:=zy_ e
  replace e:=zz_ e
  cases e
  refine ⟨rfl,fun hw ho hp=>?_⟩
  repeat'(intro t ht;first|(cases t<;>first|(cases ht;done)|(try simp only[zh_]at ht;try(exfalso;first|contradiction|omega)))|((first|refine zb_ ht ?_|refine ht ?_ ?_|refine ht.1 ?_ ?_|refine ht ?_)<;>clear ht))
  all_goals first
   | exact True.intro
   | exact ⟨rfl,rfl⟩
 ·cases e
end Go.Eng
