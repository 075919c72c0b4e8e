/- Parts of the proof: A1, A2, M3, DA, A3, A4, A6. No condition. -/
import Derived.Test.YtimkdohmkfjfaaaGreatDoorProg
import Derived.Test.YtimkdohmkfjfaaaGreatDoorXJ11
import Derived.KernelRfl
import Derived.Test.YtimkdohmkfjfaaaGreatDoorXJ14
namespace Go.Eng
open Go.Proofs
set_option linter.unusedVariables false
set_option linter.unusedSimpArgs false
set_option maxRecDepth 100000
set_option maxHeartbeats 1000000
def zs_ (t:Int):List Int:=if t=0 then [4,2,-6] else if t=22\/t=21\/t=65535 then [4] else if t=15\/t=23 then [1,-3] else if t=17\/t=19\/t=26\/t=20 then [2,-2] else if t=11\/t=12\/t=16\/t=18\/t=24\/t=27 then [-4] else []
def Us_ (t:Int):Bool:=decide (t=0\/(t=22\/t=21\/t=65535)\/(t=15\/t=23)\/(t=17\/t=19\/t=26\/t=20)\/(t=11\/t=12\/t=16\/t=18\/t=24\/t=27))
theorem zb5_ {t:Int} (h:¬ (t=0\/(t=22\/t=21\/t=65535)\/(t=15\/t=23)\/(t=17\/t=19\/t=26\/t=20)\/(t=11\/t=12\/t=16\/t=18\/t=24\/t=27))):zs_ t=[]/\Us_ t=false:=by
 refine ⟨?_,decide_eq_false h⟩
 unfold zs_
 rw [if_neg (by omega),if_neg (by omega),if_neg (by omega),if_neg (by omega),if_neg (by omega)]
theorem zae_ {t:Int} (h:Us_ t=true):t=0\/(t=22\/t=21\/t=65535)\/(t=15\/t=23)\/(t=17\/t=19\/t=26\/t=20)\/(t=11\/t=12\/t=16\/t=18\/t=24\/t=27):=of_decide_eq_true h
theorem bp_ (t:Int):zs_ t=[4,2,-6]\/zs_ t=[4]\/zs_ t=[1,-3]\/zs_ t=[2,-2]\/zs_ t=[-4]\/zs_ t=[]:=by
 unfold zs_
 repeat' split
 all_goals simp
theorem vO_ (t:Int):0<=zF_ (zs_ t)/\zF_ (zs_ t)<=2:=by
 rcases bp_ t with h | h | h | h | h | h<;>rw [h]<;>decide
theorem Yr_ (t:Int):0<=zV_ (zs_ t)/\zV_ (zs_ t)<=12:=by
 rcases bp_ t with h | h | h | h | h | h<;>rw [h]<;>decide
def H3_ (t n:Int):Int:=if t=0 then (if n=0 then 517 else 0) else if t=22 then (if 4294967040 < n then 522 else 0) else if t=17 then (if n ≠ 33024/\n ≠ 34984 then 518 else 0) else if t=19 then (if n ≠ 34887/\n ≠ 34888 then 518 else 0) else if t=26 then (if n ≠ 35047 then 518 else 0) else 0
def vp_:IR:=
(sq (kr [0] [oD 2 (.mov (.c (.imm (.int .i64) []))),
oD 3 (.mov cF)])
(sq (sq (.reg [oM 4 0])
(.block 0
(sq (.block 7
(.block 6
(sq (.block 5
(.block 4
(sq (.block 3
(sq (.block 2
(sq (.block 1
(sq (sq (sq (.reg [oB 6 .eql 4 (cI 0),
oM 5 6])
(.cond 5
(.exit 1)
.skip))
(sq (sq (sq (.reg [oB 8 .eql 4 (cI 22),
oM 7 8])
(.cond 7
.skip
(sq (kr [4] [oB 9 .eql 4 (cI 21),
oM 7 9])
(.cond 7
.skip
(.reg [oB 10 .eql 4 (cI 65535),
oM 7 10])))))
(.cond 7
(.exit 2)
.skip))
(sq (sq (sq (kr [4] [oB 12 .eql 4 (cI 15),
oM 11 12])
(.cond 11
.skip
(.reg [oB 13 .eql 4 (cI 23),
oM 11 13])))
(.cond 11
(.exit 3)
.skip))
(sq (sq (sq (.reg [oB 15 .eql 4 (cI 17),
oM 14 15])
(.cond 14
.skip
(sq (kr [4] [oB 16 .eql 4 (cI 19),
oM 14 16])
(.cond 14
.skip
(.reg [oB 17 .eql 4 (cI 26),
oM 14 17])))))
(.cond 14
(.exit 4)
.skip))
(sq (sq (kr [4] [oB 19 .eql 4 (cI 20),
oM 18 19])
(.cond 18
(.exit 5)
.skip))
(sq (sq (sq (.reg [oB 21 .eql 4 (cI 11),
oM 20 21])
(.cond 20
.skip
(sq (.reg [oB 22 .eql 4 (cI 12),
oM 20 22])
(.cond 20
.skip
(kr [4] [oB 23 .eql 4 (cI 16),
oM 20 23])))))
(.cond 20
(.exit 6)
.skip))
(sq (sq (kr [4] [oB 25 .eql 4 (cI 18),
oM 24 25])
(.cond 24
.skip
(sq (.reg [oB 26 .eql 4 (cI 24),
oM 24 26])
(.cond 24
.skip
(.reg [oB 27 .eql 4 (cI 27),
oM 24 27])))))
(.cond 24
(.exit 7)
.skip))))))))
(.exit 0)))
(sq (sq (kr [] [oD 28 (.sliceAll (.int .i64) 3 [(0,1,(cI 4)),(1,1,(cI 2)),(2,1,(cI (-6)))]),
oM 2 28,
oD 3 (.mov cT)])
.ret)
(.exit 0))))
(sq (sq (kr [] [oD 29 (.sliceAll (.int .i64) 1 [(0,1,(cI 4))]),
oM 2 29,
oD 3 (.mov cT)])
.ret)
(.exit 0))))
(sq (sq (kr [] [oD 30 (.sliceAll (.int .i64) 2 [(0,1,(cI 1)),(1,1,(cI (-3)))]),
oM 2 30,
oD 3 (.mov cT)])
.ret)
(.exit 0)))))
(sq (sq (kr [] [oD 31 (.sliceAll (.int .i64) 2 [(0,1,(cI 2)),(1,1,(cI (-2)))]),
oM 2 31,
oD 3 (.mov cT)])
.ret)
(.exit 0)))))
(sq (sq (kr [] [oD 32 (.sliceAll (.int .i64) 1 [(0,1,(cI (-4)))]),
oM 2 32,
oD 3 (.mov cT)])
.ret)
(.exit 0)))))
(sq (kr [] [oD 2 (.mov (.c (.imm (.int .i64) []))),
oD 3 (.mov cF)])
.ret)))
def YG_:List RD:=[.tmp 2 true (some (.int .i64)),.tmp 3 true none]
theorem Y1_:zl_ Tryz.prog Tryz.f175 vp_ YG_=true:=by kernel_rfl
def qi_:List AV->List Obj->Option (Prop × AV)
 | [.int .i64 q],[]=>some ((True,.tup [.imm (.int .i64) (zs_ q),.bool (Us_ q)]))
 | _,_=>none
theorem q9_:zf_ Tryz.prog 175 (RoF qi_).sum:=by
 refine zj_ Tryz.func175 Y1_ (ze_ _) fun args objs p v e=>?_
 unfold qi_ at e
 split at e
 ·rename_i q
  cases e
  refine ⟨rfl,fun hw ho hp=>?_⟩
  clear hw ho
  repeat'(intro t ht;first|(cases t<;>first|(cases ht;done)|(try simp only[zh_]at ht;try(exfalso;first|contradiction|omega)))|((first|refine zb_ ht ?_|refine ht ?_ ?_|refine ht.1 ?_ ?_|refine ht ?_)<;>clear ht))
  all_goals first
   | exact True.intro
   | (have h:=zb5_ (t:=q) (by omega)
      rw [h.1,h.2];exact ⟨rfl,rfl⟩)
   | (subst_vars;exact ⟨rfl,rfl⟩)
   | (have h:q=0\/(q=22\/q=21\/q=65535)\/(q=15\/q=23)\/(q=17\/q=19\/q=26\/q=20)\/(q=11\/q=12\/q=16\/q=18\/q=24\/q=27):=by omega
      rcases h with rfl | (rfl | rfl | rfl) | (rfl | rfl) | (rfl | rfl | rfl | rfl) | (rfl | rfl | rfl | rfl | rfl | rfl)<;>first | (exfalso;omega) | exact ⟨rfl,rfl⟩)
 ·cases e
def yO_:IR:=
(sq (kr [0,1] [oD 4 (.mov (cI 0))])
(sq (.block 0
(sq (kr [0,1] [oM 6 0,
oB 7 .eql 6 (cI 0),
oM 8 7,
oT 8 9 (.mov 1),
oT 8 10 (.bin .eql 9 (.c (.int .u64 0))),
oP 11 8 10 cF,
oM 5 11])
(.cond 5
(sq (kr [] [oD 4 (.mov (cI 517))])
.ret)
(sq (kr [0,1] [oM 13 0,
oB 14 .eql 13 (cI 22),
oM 15 14,
oT 15 16 (.mov 1),
oT 15 17 (.bin .gtr 16 (.c (.int .u64 4294967040))),
oP 18 15 17 cF,
oM 12 18])
(.cond 12
(sq (kr [] [oD 4 (.mov (cI 522))])
.ret)
(sq (kr [0,1] [oM 20 0,
oB 21 .eql 20 (cI 17),
oM 22 21,
oT 22 23 (.mov 1),
oT 22 24 (.bin .neq 23 (.c (.int .u64 33024))),
oP 25 22 24 cF,
oM 26 25,
oT 26 27 (.mov 1),
oT 26 28 (.bin .neq 27 (.c (.int .u64 34984))),
oP 29 26 28 cF,
oM 19 29])
(.cond 19
(sq (kr [] [oD 4 (.mov (cI 518))])
.ret)
(sq (kr [0,1] [oM 31 0,
oB 32 .eql 31 (cI 19),
oM 33 32,
oT 33 34 (.mov 1),
oT 33 35 (.bin .neq 34 (.c (.int .u64 34887))),
oP 36 33 35 cF,
oM 37 36,
oT 37 38 (.mov 1),
oT 37 39 (.bin .neq 38 (.c (.int .u64 34888))),
oP 40 37 39 cF,
oM 30 40])
(.cond 30
(sq (kr [] [oD 4 (.mov (cI 518))])
.ret)
(sq (kr [0,1] [oM 42 0,
oB 43 .eql 42 (cI 26),
oM 44 43,
oT 44 45 (.mov 1),
oT 44 46 (.bin .neq 45 (.c (.int .u64 35047))),
oP 47 44 46 cF,
oM 41 47])
(.cond 41
(sq (kr [] [oD 4 (.mov (cI 518))])
.ret)
.skip)))))))))))
(sq (kr [] [oD 4 (.mov (cI 0))])
.ret)))
def yw_:List RD:=[.tmp 4 true none]
theorem yF_:zl_ Tryz.prog Tryz.f206 yO_ yw_=true:=by kernel_rfl
def QL_:List AV->List Obj->Option (Prop × AV)
 | [.int .i64 q,.int .u64 n],[]=>some ((True,.int .i64 (H3_ q n)))
 | _,_=>none
theorem KV_:zf_ Tryz.prog 206 (RoF QL_).sum:=by
 refine zj_ Tryz.func206 yF_ (ze_ _) fun args objs p v e=>?_
 unfold QL_ at e
 split at e
 ·rename_i q n
  cases e
  refine ⟨rfl,fun hw ho hp=>?_⟩
  clear hw ho
  repeat'(intro t ht;first|(cases t<;>first|(cases ht;done)|(try simp only[zh_]at ht;try(exfalso;first|contradiction|omega)))|((first|refine zb_ ht ?_|refine ht ?_ ?_|refine ht.1 ?_ ?_|refine ht ?_)<;>clear ht))
  all_goals first
   | exact True.intro
   | (refine ⟨congrArg (AV.int .i64) ?_,rfl⟩;unfold H3_;repeat' split
      all_goals first | rfl | omega)
 ·cases e
def WG_:IR:=
(sq (kr [0] [oD 1 (.boxv 0),
oD 2 (.mov cF)])
(sq (kr [1] [oA 3 0 1,
oL 4 3,
oB 5 .eql 4 (cI 32768),
oM 6 5,
oT 6 7 (.fieldAddr 2 1),
oT 6 8 (.load none 7),
oT 6 9 (.un .not 8),
oP 10 6 9 cF,
oM 11 10,
oT 11 12 (.fieldAddr 1 1),
oT 11 13 (.load none 12),
oT 11 14 (.call false (.f 228) [13]),
oP 15 11 14 cF,
oM 16 15,
oT 16 17 (.load (some 6) 1),
oT 16 18 (.call false (.f 93) [17]),
oP 19 16 18 cF,
oM 2 19])
.ret))
def Wx_:List RD:=[.tmp 2 true none]
theorem WB_:zl_ Tryz.prog Tryz.f204 WG_ Wx_=true:=by kernel_rfl
def QK_:List AV->List Obj->Option (Prop × AV)
 | [.agg [.int .i64 c,.int .i64 f,.bool h,.int .u64 x,.imm (.int .u8) v,.imm (.int .u8) m]],[]=>some ((v.length<=1000000/\m.length<=1000000,.bool (decide (c=32768) && !h && XW_ f && zM_ c f h x v m)))
 | _,_=>none
theorem We_:zf_ Tryz.prog 204 (RoF QK_).sum:=by
 refine zj_ Tryz.func204 WB_ (za_ (s:=RoF qM_) k7_ (za_ (s:=RoF kv_) KA_ (ze_ _))) fun args objs p v e=>?_
 unfold QK_ at e
 split at e
 ·rename_i c f h x v m
  cases e
  refine ⟨rfl,fun hw ho hp=>?_⟩
  change List Int at v
  change List Int at m
  clear hw ho
  cases h
  all_goals repeat'(intro t ht;first|(cases t<;>first|(cases ht;done)|(try simp only[zh_]at ht;try(exfalso;first|contradiction|omega)))|((first|refine zb_ ht ?_|refine ht ?_ ?_|refine ht.1 ?_ ?_|refine ht ?_)<;>clear ht))
  all_goals first
   | exact True.intro
   | exact hp
   | (refine ⟨congrArg AV.bool ?_,rfl⟩;simp_all;done)
 ·cases e
def vq_:IR:=
(sq (kr [0] [oD 1 (.boxv 0),
oD 2 (.mov cF)])
(sq (.reg [oK 3 6 1,
oD 4 (.build [.int .i64 0,.int .i64 0,.kb false,.int .u64 0,.imm (.int .u8) [],.imm (.int .u8) []] []),
oC 5 45 [3,4],
oM 2 5])
.ret))
def YH_:List RD:=[.tmp 2 true none]
theorem Y2_:zl_ Tryz.prog Tryz.f205 vq_ YH_=true:=by kernel_rfl
def KK_:List AV->List Obj->Option (Prop × AV)
 | [.agg [.int .i64 c,.int .i64 f,.bool h,.int .u64 x,.imm (.int .u8) v,.imm (.int .u8) m]],[]=>some ((True,.bool (QQ_ c f h x v m 0 0 false 0 [] [])))
 | _,_=>none
theorem yn_:zf_ Tryz.prog 205 (RoF KK_).sum:=by
 refine zj_ Tryz.func205 Y2_ (za_ (s:=RoF jS_) W6_ (ze_ _)) fun args objs p v e=>?_
 unfold KK_ at e
 split at e
 ·rename_i c f h x v m
  cases e
  refine ⟨rfl,fun hw ho hp=>?_⟩
  change List Int at v
  change List Int at m
  clear hw ho
  repeat'(intro t ht;first|(cases t<;>first|(cases ht;done)|(try simp only[zh_]at ht;try(exfalso;first|contradiction|omega)))|((first|refine zb_ ht ?_|refine ht ?_ ?_|refine ht.1 ?_ ?_|refine ht ?_)<;>clear ht))
  all_goals first
   | exact True.intro
   | exact ⟨rfl,rfl⟩
 ·cases e
def kL_ (t a b:Int):List Int:=[a,b].take (zF_ (zs_ t)).toNat
def ZW_ (R:Bool) (t a b c f:Int) (h:Bool) (x:Int) (v m d:List Int):Bool:=
 if t=25 then decide (a=0) && decide (b=0) && decide (d.length=0) && (decide (c=32768) && !h && XW_ f && R)
 else Us_ t && QQ_ c f h x v m 0 0 false 0 [] [] && decide (H3_ t a=0) && Qc_ (zs_ t) (kL_ t a b) && (decide (2<=zF_ (zs_ t)) || decide (b=0)) && (decide (1<=zF_ (zs_ t)) || decide (a=0)) && (if t=65535 then decide ((d.length:Int).tmod 8=0) && decide ((d.length:Int)<=65520) else decide (d.length=0))
def yP_:IR:=
(sq (kr [0] [oD 1 (.boxv 0),
oD 2 (.mov cF)])
(sq (sq (.reg [oA 8 0 1,
oL 9 8,
oB 10 .eql 9 (cI 25)])
(.cond 10
(sq (kr [1] [oA 11 1 1,
oL 12 11,
oB 13 .eql 12 (.c (.int .u64 0)),
oM 14 13,
oT 14 15 (.fieldAddr 2 1),
oT 14 16 (.load none 15),
oT 14 17 (.bin .eql 16 (.c (.int .u64 0))),
oP 18 14 17 cF,
oM 19 18,
oT 19 20 (.fieldAddr 9 1),
oT 19 21 (.load none 20),
oT 19 22 (.len 21),
oT 19 23 (.bin .eql 22 (cI 0)),
oP 24 19 23 cF,
oM 25 24,
oT 25 26 (.fieldAddr 3 1),
oT 25 27 (.load (some 6) 26),
oT 25 28 (.call false (.f 204) [27]),
oP 29 25 28 cF,
oM 2 29])
.ret)
.skip))
(sq (kr [1] [oA 31 0 1,
oL 32 31,
oC 33 175 [32],
oM 30 33,
oX 34 30 0,
oX 35 30 1,
oM 3 34,
oM 4 35])
(sq (sq (kr [1,3,4] [oM 36 4,
oD 37 (.un .not 36),
oM 38 37,
oF 38 39 (.fieldAddr 3 1),
oF 38 40 (.load (some 6) 39),
oF 38 41 (.call false (.f 205) [40]),
oF 38 42 (.un .not 41),
oP 43 38 cT 42,
oM 44 43,
oF 44 45 (.fieldAddr 0 1),
oF 44 46 (.load none 45),
oF 44 47 (.fieldAddr 1 1),
oF 44 48 (.load none 47),
oF 44 49 (.call false (.f 206) [46,48]),
oF 44 50 (.bin .neq 49 (cI 0)),
oP 51 44 cT 50])
(.cond 51
(sq (kr [] [oD 2 (.mov cF)])
.ret)
.skip))
(sq (kr [1,3] [oM 52 3,
oC 53 151 [52],
oM 5 53])
(sq (kr [1,3,5] [oM 55 3,
oA 56 1 1,
oL 57 56,
oA 58 2 1,
oL 59 58,
oD 60 (.sliceAll (.int .u64) 2 [(0,1,57),(1,1,59)]),
oM 61 5,
oD 62 (.slice 1 60 none (some 61) none),
oC 63 149 [55,62],
oM 54 63,
oX 64 54 0,
oX 65 54 1,
oM 6 64,
oM 7 65])
(sq (sq (kr [1,5,7] [oM 66 7,
oD 67 (.un .not 66),
oM 68 67,
oF 68 69 (.mov 5),
oF 68 70 (.bin .lss 69 (cI 2)),
oF 68 71 (.mov 70),
oT 71 72 (.fieldAddr 2 1),
oT 71 73 (.load none 72),
oT 71 74 (.bin .neq 73 (.c (.int .u64 0))),
oF 68 75 (.pick 71 74 cF),
oP 76 68 cT 75,
oM 77 76,
oF 77 78 (.mov 5),
oF 77 79 (.bin .lss 78 (cI 1)),
oF 77 80 (.mov 79),
oT 80 81 (.fieldAddr 1 1),
oT 80 82 (.load none 81),
oT 80 83 (.bin .neq 82 (.c (.int .u64 0))),
oF 77 84 (.pick 80 83 cF),
oP 85 77 cT 84])
(.cond 85
(sq (kr [] [oD 2 (.mov cF)])
.ret)
.skip))
(sq (sq (kr [1] [oA 86 0 1,
oL 87 86,
oB 88 .neq 87 (cI 65535)])
(.cond 88
(sq (kr [1] [oA 89 9 1,
oL 90 89,
oE 91 90,
oB 92 .eql 91 (cI 0),
oM 2 92])
.ret)
.skip))
(sq (kr [1] [oA 93 9 1,
oL 94 93,
oE 95 94,
oB 96 .rem 95 (cI 8),
oB 97 .eql 96 (cI 0),
oM 98 97,
oT 98 99 (.fieldAddr 9 1),
oT 98 100 (.load none 99),
oT 98 101 (.len 100),
oT 98 102 (.bin .leq 101 (cI 65520)),
oP 103 98 102 cF,
oM 2 103])
.ret)))))))))
def yx_:List RD:=[.tmp 2 true none]
theorem yG_:zl_ Tryz.prog Tryz.f174 yP_ yx_=true:=by kernel_rfl
def QM_:List AV->List Obj->Option (Prop × AV)
 | [.agg [.int .i64 q,.int .u64 a,.int .u64 b,.int .i64 c,.int .i64 f,.bool h,.int .u64 x,.imm (.int .u8) v,.imm (.int .u8) m,.imm (.int .u8) d]],[]=>some ((v.length<=1000000/\m.length<=1000000,.bool (ZW_ (zM_ c f h x v m) q a b c f h x v m d)))
 | _,_=>none
theorem KW_:zf_ Tryz.prog 174 (RoF QM_).sum:=by
 refine zj_ Tryz.func174 yG_ (za_ (s:=RoF QK_) We_ (za_ (s:=RoF qi_) q9_ (za_ (s:=RoF KK_) yn_ (za_ (s:=RoF QL_) KV_ (za_ (s:=RoF Ql_) kb_ (za_ (s:=RoF w9_) XU_ (ze_ _))))))) fun args objs p v e=>?_
 unfold QM_ at e
 split at e
 ·rename_i q a b c f h x v m d
  cases e
  refine ⟨rfl,fun hw ho hp=>?_⟩
  change List Int at v
  change List Int at m
  change List Int at d
  have hdl:d.length<=maxLen:=(hw _ (List.mem_cons_self ..) (.imm (.int .u8) d) (by simp)).2
  unfold maxLen at hdl
  clear hw ho
  have hcn:=vO_ q
  by_cases h25:q=25
  ·subst h25
   repeat'(intro t ht;first|(cases t<;>first|(cases ht;done)|(try simp only[zh_]at ht;try(exfalso;first|contradiction|omega)))|((first|refine zb_ ht ?_|refine ht ?_ ?_|refine ht.1 ?_ ?_|refine ht ?_)<;>clear ht))
   all_goals first
    | exact True.intro
    | exact hp
    | ((try simp only [zn_,zo_,zm_] at*);omega)
    | (refine ⟨congrArg AV.bool ?_,rfl⟩;unfold ZW_;rw [if_pos rfl];simp_all;done)
  ·repeat'(intro t ht;first|(cases t<;>first|(cases ht;done)|(try simp only[zh_]at ht;try(exfalso;first|contradiction|omega)))|((first|refine zb_ ht ?_|refine ht ?_ ?_|refine ht.1 ?_ ?_|refine ht ?_)<;>clear ht))
   all_goals first
    | exact True.intro
    | exact hp
    | ((try simp only [zn_,zo_,zm_] at*);omega)
    | (refine ⟨congrArg AV.bool ?_,rfl⟩;unfold ZW_ kL_;rw [if_neg h25];simp_all;done)
    | (refine ⟨congrArg AV.bool ?_,rfl⟩;unfold ZW_ kL_;rw [if_neg h25];simp_all;omega)
 ·cases e
def xc_ (R:Bool) (S:Int) (t a b c f:Int) (h:Bool) (x:Int) (v m d:List Int):Int:=if ZW_ R t a b c f h x v m d=true then (if t=25 then (4+S+8 - 1).tdiv 8*8 else 4+zV_ (zs_ t)+d.length) else 0
theorem h8_ {R:Bool} {t a b c f:Int} {h:Bool} {x:Int} {v m d:List Int} (hr:ZW_ R t a b c f h x v m d=true):d.length<=65520:=by
 unfold ZW_ at hr
 split at hr
 ·simp only [Bool.and_eq_true,decide_eq_true_eq] at hr;omega
 ·simp only [Bool.and_eq_true] at hr
  have:=hr.2
  split at this
  ·simp only [Bool.and_eq_true,decide_eq_true_eq] at this;omega
  ·simp only [decide_eq_true_eq] at this;omega
theorem zaa_ {c f:Int} {h:Bool} {x:Int} {v m:List Int} (hv:v.length<=1000000) (hm:m.length<=1000000):0<=qY_ c f h x v m/\qY_ c f h x v m<=3000000:=by
 unfold qY_ z5_;repeat' split
 all_goals omega
def vr_:IR:=
(sq (kr [0] [oD 1 (.boxv 0),
oD 2 (.mov (cI 0))])
(sq (sq (.reg [oK 5 10 1,
oC 6 174 [5],
oD 7 (.un .not 6)])
(.cond 7
(sq (.reg [oD 2 (.mov (cI 0))])
.ret)
.skip))
(sq (sq (kr [1] [oA 8 0 1,
oL 9 8,
oB 10 .eql 9 (cI 25)])
(.cond 10
(sq (kr [1] [oA 11 3 1,
oK 12 6 11,
oC 13 147 [12],
oB 14 .add (cI 4) 13,
oB 15 .add 14 (cI 8),
oB 16 .sub 15 (cI 1),
oB 17 .quo 16 (cI 8),
oB 18 .mul 17 (cI 8),
oM 2 18])
.ret)
.skip))
(sq (kr [1] [oA 20 0 1,
oL 21 20,
oC 22 175 [21],
oM 19 22,
oX 23 19 0,
oX 24 19 1,
oM 3 23,
oM 4 24])
(sq (kd [1,3] [(oM 25 3,[]),
(oC 26 141 [25],[]),
(oB 27 .add (cI 4) 26,[]),
(oA 28 9 1,[0,0,0]),
(oL 29 28,[1,0,0]),
(oE 30 29,[2,0,0]),
(oB 31 .add 27 30,[]),
(oM 2 31,[])])
.ret)))))
def YI_:List RD:=[.tmp 2 true none]
theorem Y3_:zl_ Tryz.prog Tryz.f148 vr_ YI_=true:=by kernel_rfl
def kg_:List AV->List Obj->Option (Prop × AV)
 | [.agg [.int .i64 q,.int .u64 a,.int .u64 b,.int .i64 c,.int .i64 f,.bool h,.int .u64 x,.imm (.int .u8) v,.imm (.int .u8) m,.imm (.int .u8) d]],[]=>some ((v.length<=1000000/\m.length<=1000000,.int .i64 (xc_ (zM_ c f h x v m) (qY_ c f h x v m) q a b c f h x v m d)))
 | _,_=>none
theorem j7_:zf_ Tryz.prog 148 (RoF kg_).sum:=by
 refine zj_ Tryz.func148 Y3_ (za_ (s:=RoF QM_) KW_ (za_ (s:=RoF jR_) W5_ (za_ (s:=RoF qi_) q9_ (za_ (s:=RoF Qe_) Qs_ (ze_ _))))) fun args objs p v e=>?_
 unfold kg_ at e
 split at e
 ·rename_i q a b c f h x v m d
  cases e
  refine ⟨rfl,fun hw ho hp=>?_⟩
  change List Int at v
  change List Int at m
  change List Int at d
  clear hw ho
  have hs:=zaa_ (c:=c) (f:=f) (h:=h) (x:=x) hp.1 hp.2
  have hz:=Yr_ q
  have htd:(4+qY_ c f h x v m+8 - 1).tdiv 8=(4+qY_ c f h x v m+8 - 1) / 8:=Int.tdiv_eq_ediv_of_nonneg (by omega)
  cases hr:ZW_ (zM_ c f h x v m) q a b c f h x v m d with
  | false=>
    repeat'(intro t ht;first|(cases t<;>first|(cases ht;done)|(try simp only[zh_]at ht;try(exfalso;first|contradiction|omega)))|((first|refine zb_ ht ?_|refine ht ?_ ?_|refine ht.1 ?_ ?_|refine ht ?_)<;>clear ht))
    all_goals first
     | exact True.intro
     | exact hp
     | (exfalso;simp_all;done)
     | (refine ⟨?_,rfl⟩;unfold xc_;rw [hr];rfl)
  | true=>
    have hl:=h8_ hr
    repeat'(intro t ht;first|(cases t<;>first|(cases ht;done)|(try simp only[zh_]at ht;try(exfalso;first|contradiction|omega)))|((first|refine zb_ ht ?_|refine ht ?_ ?_|refine ht.1 ?_ ?_|refine ht ?_)<;>clear ht))
    all_goals first
     | exact True.intro
     | exact hp
     | (exfalso;simp_all;done)
     | ((try simp only [zn_,zo_,zm_] at*);omega)
     | (rw [htd];(try simp only [zn_,zo_,zm_] at*);omega)
     | (refine ⟨congrArg (AV.int .i64) ?_,rfl⟩;unfold xc_;rw [if_pos hr,if_pos (by assumption)];done)
     | (refine ⟨congrArg (AV.int .i64) ?_,rfl⟩;unfold xc_;rw [if_pos hr,if_neg (by assumption)];done)
 ·cases e
def wm_:IR:=
(sq (kr [0] [oD 2 (.mov (cI 0))])
(sq (sq (.reg [oM 3 0,
oC 4 107 [3]])
(.cond 4
(sq (.reg [oD 2 (.mov (cI 0))])
.ret)
.skip))
(sq (kr [0] [oM 5 0,
oD 6 (.nilck 5),
oA 7 0 6,
oL 8 7,
oE 9 8,
oM 2 9])
.ret)))
def J6_:List RD:=[.tmp 2 true none]
theorem we_:zl_ Tryz.prog Tryz.f207 wm_ J6_=true:=by kernel_rfl
def qU_:List AV->List Obj->Option (Prop × AV)
 | [.ptr 0 0],[.box [.own 1,.int .i64 room,.mapv 2,.int .i64 e],.row false (.int .u8) l,.map sq (.int .i64) (.int .i64) h]=>some ((True,.int .i64 l.length))
 | _,_=>none
theorem Jg_:zf_ Tryz.prog 207 (RoF qU_).sum:=by
 refine zj_ Tryz.func207 we_ (za_ (s:=RoF z8_) ZD_ (ze_ _)) fun args objs p v e=>?_
 unfold qU_ at e
 split at e
 ·rename_i room e l sq h
  cases e
  refine ⟨rfl,fun hw ho hp=>?_⟩
  change List Int at l
  repeat'(intro t ht;first|(cases t<;>first|(cases ht;done)|(try simp only[zh_]at ht))|((first|refine zb_ ht ?_|refine ht ?_ ?_|refine ht.1 ?_ ?_|refine ht ?_)<;>clear ht))
  all_goals first
   | exact True.intro
   | exact ⟨rfl,rfl⟩
 ·cases e
def evZ (s:Int) (n:Nat):List Int:=List.replicate ((s - (n:Int).tmod s).tmod s).toNat 0
theorem Uc_ {a s:Int} (ha:0<=a) (hs:1<=s):0<=a.tmod s/\a.tmod s < s:=by
 rw [Int.tmod_eq_emod_of_nonneg ha];exact ⟨Int.emod_nonneg _ (by omega),Int.emod_lt_of_pos _ (by omega)⟩
def JO_:IR:=
(sq (sq (kr [0,1] [oM 4 1,
oB 5 .lss 4 (cI 1),
oM 6 5,
oF 6 7 (.mov 1),
oF 6 8 (.bin .gtr 7 (cI 64)),
oP 9 6 cT 8])
(.cond 9
(sq (kr [0] [oM 10 0,
oC 11 103 [10,(cI 10001)]])
.ret)
.skip))
(kr [0,1] [oM 12 0,
oM 13 1,
oM 14 0,
oC 15 207 [14],
oM 16 1,
oB 17 .rem 15 16,
oB 18 .sub 13 17,
oM 19 1,
oB 20 .rem 18 19,
oD 21 (.mkrow (.int .u8) 1 (0:Int) 20 20),
oC 22 122 [12,21]]))
def Jq_:List RD:=[]
theorem JC_:zl_ Tryz.prog Tryz.f177 JO_ Jq_=true:=by kernel_rfl
def qG_:List AV->List Obj->Option (Prop × AV × List Obj)
 | [.ptr 0 0,.int .i64 s],[.box [.own 1,.int .i64 room,.mapv 2,.int .i64 e],.row false (.int .u8) l,.map sq (.int .i64) (.int .i64) h]=>some ((0<=room/\room<=1000000/\l.length<=1000000/\1<=s/\s<=64,.tup [],[.box [.own 3,.int .i64 room,.mapv 2,.int .i64 (kV_ (evZ s l.length) l room e)],.dead,.map sq (.int .i64) (.int .i64) h,.row false (.int .u8) (Kf_ (evZ s l.length) l room e)]))
 | _,_=>none
theorem jk_:zf_ Tryz.prog 177 (RwF qG_).sum:=by
 refine Qi_ Tryz.func177 JC_ (za_ (s:=RwF zU_) Zf_ (za_ (s:=RoF qU_) Jg_ (za_ (s:=RwF zA_) zH_ (ze_ _)))) fun args objs p v o e=>?_
 unfold qG_ at e
 split at e
 ·rename_i s room e l sq h
  cases e
  refine ⟨rfl,fun hw ho hp=>?_⟩
  change List Int at l
  clear hw ho
  have b1:=Uc_ (a:=(l.length:Int)) (s:=s) (by omega) (by omega)
  have b2:=Uc_ (a:=s - (l.length:Int).tmod s) (s:=s) (by omega) (by omega)
  repeat'(intro t ht;first|(cases t<;>first|(cases ht;done)|(try simp only[zh_]at ht;try(exfalso;first|contradiction|omega)))|((first|refine zb_ ht ?_|refine ht ?_ ?_|refine ht.1 ?_ ?_|refine ht ?_)<;>clear ht))
  all_goals first
   | exact True.intro
   | ((try simp only [zn_,zo_,zm_] at*);omega)
   | exact ⟨hp.1,hp.2.1,hp.2.2.1,by rw [List.length_replicate];omega⟩
   | exact ⟨rfl,rfl⟩
 ·cases e
def Z3_ (t a b:Int) (E d:List Int):List Int:=if t=25 then E++List.replicate ((8 - (4+E.length) % 8) % 8) 0 else ZZ_ (zs_ t) (kL_ t a b)++d
def xz_ (t a b:Int) (E d:List Int):List Int:=zd_ t 2++zd_ (4+(Z3_ t a b E d).length) 2++Z3_ t a b E d
theorem zaf_ {a n:Int} (ha:0<=a/\a<=65535) (hn:0<=n/\n<=65535):ZZ_ [2,2] [a,n]=zd_ a 2++zd_ n 2/\Qc_ [2,2] [a,n]=true:=by
 have e1:a.fdiv (2 ^ 16)=0:=by rw [Int.fdiv_eq_ediv_of_nonneg _ (by decide)];omega
 have e2:n.fdiv (2 ^ 16)=0:=by rw [Int.fdiv_eq_ediv_of_nonneg _ (by decide)];omega
 have h:KB_ [2,2] [a,n]=some (zd_ a 2++zd_ n 2):=by
  unfold KB_
  rw [if_pos ⟨by decide,(by decide:zF_ [2,2]=2)⟩]
  have m:min (8*(2:Int)).toNat 64=16:=by decide
  simp only [qR_,m]
  rw [if_neg (by decide),if_neg (by rintro ⟨_,h⟩;exact h e1),if_neg (by decide),if_neg (by rintro ⟨_,h⟩;exact h e2)]
  rfl
 unfold ZZ_ Qc_;rw [h];exact ⟨rfl,rfl⟩
theorem XB_ {x l:List Int} {room:Int} (h:(x.length:Int)<=room - l.length):Kf_ x l room 0=l++x/\kV_ x l room 0=0:=by
 have hb:K9_ x l room 0=true:=by unfold K9_;rw [decide_eq_true h];rfl
 exact ⟨by unfold Kf_;rw [if_pos hb],by unfold kV_;rw [if_pos rfl,if_pos h]⟩
theorem h7_ {w xs l:List Int} {room:Int} (hk:Qc_ w xs=true) (h:((ZZ_ w xs).length:Int)<=room - l.length):kk_ w xs l room 0=l++ZZ_ w xs/\Ka_ w xs l room 0=0:=by
 unfold kk_ Ka_;rw [if_pos hk,if_pos hk];exact XB_ h
theorem wC_ {x l:List Int} {room e:Int} (h:l.length<=1000000) (hr:room<=1000000):(Kf_ x l room e).length<=1000000:=by
 unfold Kf_ K9_;split
 ·rename_i hb;simp only [Bool.and_eq_true,decide_eq_true_eq] at hb;rw [List.length_append];omega
 ·exact h
theorem Gb_ {w xs l:List Int} {room e:Int} (h:l.length<=1000000) (hr:room<=1000000):(kk_ w xs l room e).length<=1000000:=by
 unfold kk_;split
 ·exact wC_ h hr
 ·exact h
theorem x7_ {w xs:List Int} (hk:Qc_ w xs=true):((ZZ_ w xs).length:Int)=zV_ w:=by
 unfold Qc_ at hk
 obtain ⟨r,hr⟩:=Option.isSome_iff_exists.1 hk
 have hb:ZZ_ w xs=r:=by unfold ZZ_;rw [hr];rfl
 rw [hb]
 unfold KB_ at hr
 split at hr
 ·rename_i h
  have:=xh_ w xs [] r (ZQ_.1 h.1).2 hr
  unfold zV_;rw [if_pos h.1,this];simp
 ·cases hr
theorem zeK_ (n:Nat):evZ 8 n=List.replicate ((8 - n % 8) % 8) 0:=by
 unfold evZ;congr 1
 have h1:(n:Int).tmod 8=(n:Int) % 8:=Int.tmod_eq_emod_of_nonneg (by omega)
 rw [h1,Int.tmod_eq_emod_of_nonneg (by omega)];omega
theorem wY_ {R:Bool} {t a b c f:Int} {h:Bool} {x:Int} {v m d:List Int} (ht:t=25) (hr:ZW_ R t a b c f h x v m d=true):a=0/\b=0/\d=[]/\c=32768/\h=false/\XW_ f=true/\R=true:=by
 unfold ZW_ at hr;rw [if_pos ht] at hr
 simp only [Bool.and_eq_true,decide_eq_true_eq,Bool.not_eq_true'] at hr
 obtain ⟨⟨⟨h1,h2⟩,h3⟩,⟨⟨h4,h5⟩,h6⟩,h7⟩:=hr
 exact ⟨h1,h2,List.eq_nil_of_length_eq_zero h3,h4,h5,h6,h7⟩
theorem Kb_ {R:Bool} {t a b c f:Int} {h:Bool} {x:Int} {v m d:List Int} (ht:¬ t=25) (hr:ZW_ R t a b c f h x v m d=true):Us_ t=true/\QQ_ c f h x v m 0 0 false 0 [] []=true/\H3_ t a=0/\Qc_ (zs_ t) (kL_ t a b)=true/\(2<=zF_ (zs_ t)\/b=0)/\(1<=zF_ (zs_ t)\/a=0)/\((t=65535/\(d.length:Int).tmod 8=0/\(d.length:Int)<=65520)\/(¬ t=65535/\d=[])):=by
 unfold ZW_ at hr;rw [if_neg ht] at hr
 simp only [Bool.and_eq_true,Bool.or_eq_true,decide_eq_true_eq] at hr
 obtain ⟨⟨⟨⟨⟨⟨h1,h2⟩,h3⟩,h4⟩,h5⟩,h6⟩,h7⟩:=hr
 refine ⟨h1,h2,h3,h4,h5,h6,?_⟩
 split at h7
 ·rename_i h8
  simp only [Bool.and_eq_true,decide_eq_true_eq] at h7;exact .inl ⟨h8,h7⟩
 ·rename_i h8
  simp only [decide_eq_true_eq] at h7;exact .inr ⟨h8,List.eq_nil_of_length_eq_zero h7⟩
theorem XV_ {c f:Int} {h:Bool} {x:Int} {v m:List Int} (hr:zM_ c f h x v m=true):qY_ c f h x v m=(Zq_ c f h x v m).length/\(Zq_ c f h x v m).length<=300:=by
 have h1:qY_ c f h x v m=((Qw_ c f h x v m).length:Int):=by rw [B9_,if_pos hr]
 have hrn:=qt_ hr
 have hl2:=zk_ (n:=c) (w:=2) (by decide)
 have:((Qw_ c f h x v m).length:Int)=4+z5_ c v m:=by
  rw [hrn.2.2.2.2.2.2.2];unfold Qw_;simp only [List.length_append,List.length_cons,List.length_nil];omega
 rw [gy_ hr]
 exact ⟨h1,by omega⟩
theorem Ua_ {t:Int} (h:Us_ t=true\/t=25):0<=t/\t<=65535:=by
 rcases h with h | h
 ·have:=zae_ h;omega
 ·omega
theorem wX_ {t a b c f:Int} {h:Bool} {x:Int} {v m d:List Int} (hr:ZW_ (zM_ c f h x v m) t a b c f h x v m d=true):xc_ (zM_ c f h x v m) (qY_ c f h x v m) t a b c f h x v m d=4+((Z3_ t a b (Zq_ c f h x v m) d).length:Int)/\(Z3_ t a b (Zq_ c f h x v m) d).length<=65524/\(4+(Z3_ t a b (Zq_ c f h x v m) d).length) % 8=0/\8<=4+(Z3_ t a b (Zq_ c f h x v m) d).length:=by
 unfold xc_ Z3_
 rw [if_pos hr]
 by_cases ht:t=25
 ·rw [if_pos ht,if_pos ht]
  obtain ⟨_,_,_,_,_,_,hR⟩:=wY_ ht hr
  obtain ⟨e1,e2⟩:=XV_ hR
  have h4:4<=(Zq_ c f h x v m).length:=by
   have:qY_ c f h x v m=4+z5_ c v m:=by unfold qY_;rw [if_pos hR]
   have hrest:0<=z5_ c v m:=by unfold z5_;split<;>omega
   omega
  rw [e1,List.length_append,List.length_replicate,Int.tdiv_eq_ediv_of_nonneg (by omega)]
  omega
 ·rw [if_neg ht,if_neg ht]
  obtain ⟨k1,_,_,k4,_,_,k7⟩:=Kb_ ht hr
  have hs:=x7_ k4
  have hz:=Yr_ t
  rw [List.length_append]
  have hq:zV_ (zs_ t)=4\/zV_ (zs_ t)=12:=by
   have:=zae_ k1
   rcases this with rfl | (rfl | rfl | rfl) | (rfl | rfl) | (rfl | rfl | rfl | rfl) | (rfl | rfl | rfl | rfl | rfl | rfl)<;>decide
  rcases k7 with ⟨k8,k9,k10⟩ | ⟨_,rfl⟩
  ·have:zV_ (zs_ t)=4:=by rw [k8];decide
   rw [Int.tmod_eq_emod_of_nonneg (by omega)] at k9
   omega
  ·simp only [List.length_nil];omega
def Xm_:IR:=
(sq (kr [0] [oD 1 (.boxv 0),
oD 2 (.mov (.c (.imm (.int .u8) []))),
oD 3 (.mov (cI 0))])
(sq (sq (.reg [oK 9 10 1,
oC 10 174 [9],
oD 11 (.un .not 10)])
(.cond 11
(sq (kr [] [oD 2 (.mov (.c (.imm (.int .u8) []))),
oD 3 (.mov (cI 10001))])
.ret)
.skip))
(sq (kr [1] [oK 12 10 1,
oC 13 148 [12],
oC 14 48 [13],
oM 4 14])
(sq (kd [1,4] [(oM 15 4,[]),
(oD 16 (.sliceAll (.int .i64) 2 [(0,1,(cI 2)),(1,1,(cI 2))]),[0]),
(oA 17 0 1,[0,0]),
(oL 18 17,[1,0]),
(oD 19 (.conv .u64 18),[2,0]),
(oK 20 10 1,[0,0,0,0,0]),
(oC 21 148 [20],[1,0,0,0,0]),
(oD 22 (.conv .u64 21),[2,0,0,0,0]),
(oD 23 (.sliceAll (.int .u64) 2 [(0,1,19),(1,1,22)]),[6,0]),
(oC 24 105 [15,16,23],[])])
(sq (sq (kr [1,4] [oA 25 0 1,
oL 26 25,
oB 27 .eql 26 (cI 25)])
(.cond 27
(sq (kr [1,4] [oA 29 3 1,
oK 30 6 29,
oC 31 137 [30],
oM 28 31,
oX 32 28 0,
oX 33 28 1,
oM 5 32,
oM 6 33])
(sq (kr [4,5] [oM 34 4,
oM 35 5,
oC 36 122 [34,35]])
(sq (.reg [oM 37 4,
oC 38 177 [37,(cI 8)]])
(sq (kr [4] [oM 39 4,
oC 40 50 [39],
oX 41 40 0,
oX 42 40 1,
oM 2 41,
oM 3 42])
.ret))))
.skip))
(sq (kr [1,4] [oA 44 0 1,
oL 45 44,
oC 46 175 [45],
oM 43 46,
oX 47 43 0,
oX 48 43 1,
oM 7 47,
oM 8 48])
(sq (kd [1,4,7] [(oM 49 4,[]),
(oM 50 7,[0]),
(oA 51 1 1,[0,0]),
(oL 52 51,[1,0]),
(oA 53 2 1,[0,0,0,0]),
(oL 54 53,[1,0,0,0]),
(oD 55 (.sliceAll (.int .u64) 2 [(0,1,52),(1,1,54)]),[4,0]),
(oM 56 7,[0,0,0,0,0,0,0]),
(oC 57 151 [56],[1,0,0,0,0,0,0]),
(oD 58 (.slice 1 55 none (some 57) none),[7,0]),
(oC 59 105 [49,50,58],[])])
(sq (kr [1,4] [oM 60 4,
oA 61 9 1,
oL 62 61,
oC 63 122 [60,62]])
(sq (kr [4] [oM 64 4,
oC 65 50 [64],
oX 66 65 0,
oX 67 65 1,
oM 2 66,
oM 3 67])
.ret)))))))))
def x4_:List RD:=[.tmp 2 true (some (.int .u8)),.tmp 3 true none]
theorem Xc_:zl_ Tryz.prog Tryz.f150 Xm_ x4_=true:=by kernel_rfl
def kG_:List AV->List Obj->Option (Prop × AV)
 | [.agg [.int .i64 q,.int .u64 a,.int .u64 b,.int .i64 c,.int .i64 f,.bool h,.int .u64 x,.imm (.int .u8) v,.imm (.int .u8) m,.imm (.int .u8) d]],[]=>some ((v.length<=1000000/\m.length<=1000000,.tup [.imm (.int .u8) (if ZW_ (zM_ c f h x v m) q a b c f h x v m d=true then xz_ q a b (Zq_ c f h x v m) d else []),.int .i64 (if ZW_ (zM_ c f h x v m) q a b c f h x v m d=true then 0 else 10001)]))
 | _,_=>none
theorem W9_:zf_ Tryz.prog 150 (RoF kG_).sum:=by
 refine zj_ Tryz.func150 Xc_ (za_ (s:=RoF QM_) KW_ (za_ (s:=RoF kg_) j7_ (za_ (s:=RwF qO_) Qv_ (za_ (s:=RwF zY_) Zn_ (za_ (s:=RoF jT_) Yg_ (za_ (s:=RwF zA_) zH_ (za_ (s:=RwF qG_) jk_ (za_ (s:=RwF z9_) ZE_ (za_ (s:=RoF qi_) q9_ (za_ (s:=RoF Ql_) kb_ (ze_ _))))))))))) fun args objs p v e=>?_
 unfold kG_ at e
 split at e
 ·rename_i q a b c f h x v m d
  cases e
  refine ⟨rfl,fun hw ho hp=>?_⟩
  change List Int at v
  change List Int at m
  change List Int at d
  clear hw ho
  cases hr:ZW_ (zM_ c f h x v m) q a b c f h x v m d with
  | false=>
    repeat'(intro t ht;first|(cases t<;>first|(cases ht;done)|(try simp only[zh_]at ht;try(exfalso;first|contradiction|omega)))|((first|refine zb_ ht ?_|refine ht ?_ ?_|refine ht.1 ?_ ?_|refine ht ?_)<;>clear ht))
    all_goals first
     | exact True.intro
     | exact hp
     | (exfalso;simp_all;done)
     | exact ⟨rfl,rfl⟩
  | true=>
    obtain ⟨hS,hS1,hS2,hS3⟩:=wX_ hr
    obtain ⟨S,hSd⟩:∃ S,xc_ (zM_ c f h x v m) (qY_ c f h x v m) q a b c f h x v m d=S:=⟨_,rfl⟩
    rw [hSd] at hS
    have hroom:Wm_ S=S:=bq_ (by omega) (by omega)
    have hfl:(xz_ q a b (Zq_ c f h x v m) d).length=4+(Z3_ q a b (Zq_ c f h x v m) d).length:=by
     unfold xz_
     have g2:=zk_ (n:=q) (w:=2) (by decide)
     have g3:=zk_ (n:=(4+(Z3_ q a b (Zq_ c f h x v m) d).length)) (w:=2) (by decide)
     simp only [List.length_append];omega
    have hcn:=vO_ q
    by_cases h25:q=25
    ·have ht:=Ua_ (.inr h25)
     obtain ⟨r1,r2⟩:=zaf_ ht (show 0<=S/\S<=65535 by omega)
     have l2:=zk_ (n:=q) (w:=2) (by decide)
     have l3:=zk_ (n:=S) (w:=2) (by decide)
     obtain ⟨w1,w2⟩:=h7_ (l:=[]) (room:=S) r2 (by rw [r1,List.length_append,List.length_nil];omega)
     rw [List.nil_append,r1] at w1
     obtain ⟨_,_,_,_,_,_,hR⟩:=wY_ h25 hr
     obtain ⟨e1,e2⟩:=XV_ hR
     have hB:Z3_ q a b (Zq_ c f h x v m) d=Zq_ c f h x v m++List.replicate ((8 - (4+(Zq_ c f h x v m).length) % 8) % 8) 0:=if_pos h25
     have hBl:(Z3_ q a b (Zq_ c f h x v m) d).length=(Zq_ c f h x v m).length+(8 - (4+(Zq_ c f h x v m).length) % 8) % 8:=by rw [hB,List.length_append,List.length_replicate]
     obtain ⟨u1,u2⟩:=XB_ (x:=Zq_ c f h x v m) (l:=zd_ q 2++zd_ S 2) (room:=S) (by rw [List.length_append];omega)
     have hlen:(zd_ q 2++zd_ S 2++Zq_ c f h x v m).length=4+(Zq_ c f h x v m).length:=by simp only [List.length_append];omega
     have hz:=zeK_ (4+(Zq_ c f h x v m).length)
     obtain ⟨y1,y2⟩:=XB_ (x:=List.replicate ((8 - (4+(Zq_ c f h x v m).length) % 8) % 8) (0:Int)) (l:=zd_ q 2++zd_ S 2++Zq_ c f h x v m) (room:=S) (by rw [hlen,List.length_replicate];omega)
     have hfin:xz_ q a b (Zq_ c f h x v m) d=zd_ q 2++zd_ S 2++Zq_ c f h x v m++List.replicate ((8 - (4+(Zq_ c f h x v m).length) % 8) % 8) (0:Int):=by
      unfold xz_;rw [<- hS,hB];simp only [List.append_assoc]
     repeat'(intro t ht;first|(cases t<;>first|(cases ht;done)|(try simp only[zh_]at ht;try(exfalso;first|contradiction|omega)))|((first|refine zb_ ht ?_|refine ht ?_ ?_|refine ht.1 ?_ ?_|refine ht ?_)<;>clear ht))
     all_goals (try simp only [hSd] at*)
     all_goals (try simp only [hroom,w1,w2,hR,if_true,u1,u2,hlen,hz,y1,y2,<- hfin] at*)
     all_goals first
      | exact True.intro
      | exact hp
      | omega
      | ((try simp only [zn_,zo_,zm_] at*);omega)
      | exact ⟨by omega,by omega,by simp only [List.length_nil];omega⟩
      | exact ⟨by omega,by omega,by simp only [List.length_append];omega,by omega⟩
      | exact ⟨by omega,by omega,by omega,by decide,by decide⟩
      | exact ⟨by omega,by decide⟩
      | (constructor<;>(simp only [List.length_append,List.length_replicate,List.length_nil];omega))
      | (unfold ww_ wx_ j9_;exact ⟨rfl,by first | rfl | exact True.intro⟩)
      | (exfalso;simp_all;done)
    ·obtain ⟨k1,k2,k3,k4,k5,k6,k7⟩:=Kb_ h25 hr
     have ht:=Ua_ (.inl k1)
     obtain ⟨r1,r2⟩:=zaf_ ht (show 0<=S/\S<=65535 by omega)
     have l2:=zk_ (n:=q) (w:=2) (by decide)
     have l3:=zk_ (n:=S) (w:=2) (by decide)
     obtain ⟨w1,w2⟩:=h7_ (l:=[]) (room:=S) r2 (by rw [r1,List.length_append,List.length_nil];omega)
     rw [List.nil_append,r1] at w1
     have hB:Z3_ q a b (Zq_ c f h x v m) d=ZZ_ (zs_ q) (kL_ q a b)++d:=if_neg h25
     have hBl:(Z3_ q a b (Zq_ c f h x v m) d).length=(ZZ_ (zs_ q) (kL_ q a b)).length+d.length:=by rw [hB,List.length_append]
     obtain ⟨u1,u2⟩:=h7_ (l:=zd_ q 2++zd_ S 2) (room:=S) k4 (by rw [List.length_append];omega)
     unfold kL_ at u1 u2 k4 hB hBl
     obtain ⟨y1,y2⟩:=XB_ (x:=d) (l:=zd_ q 2++zd_ S 2++ZZ_ (zs_ q) ([a,b].take (zF_ (zs_ q)).toNat)) (room:=S) (by simp only [List.length_append];omega)
     have hfin:xz_ q a b (Zq_ c f h x v m) d=zd_ q 2++zd_ S 2++ZZ_ (zs_ q) ([a,b].take (zF_ (zs_ q)).toNat)++d:=by
      unfold xz_;rw [<- hS,hB];simp only [List.append_assoc]
     repeat'(intro t ht;first|(cases t<;>first|(cases ht;done)|(try simp only[zh_]at ht;try(exfalso;first|contradiction|omega)))|((first|refine zb_ ht ?_|refine ht ?_ ?_|refine ht.1 ?_ ?_|refine ht ?_)<;>clear ht))
     all_goals (try simp only [hSd] at*)
     all_goals (try simp only [hroom,w1,w2,u1,u2,y1,y2,<- hfin] at*)
     all_goals first
      | exact True.intro
      | exact hp
      | omega
      | ((try simp only [zn_,zo_,zm_] at*);omega)
      | exact ⟨by omega,by omega,by simp only [List.length_nil];omega⟩
      | exact ⟨by omega,by omega,by simp only [List.length_append];omega⟩
      | exact ⟨by omega,by omega,by simp only [List.length_append];omega,by omega⟩
      | exact ⟨by omega,by decide⟩
      | (constructor<;>(simp only [List.length_append,List.length_nil];omega))
      | (unfold ww_ wx_ j9_;exact ⟨rfl,by first | rfl | exact True.intro⟩)
      | (exfalso;simp_all;done)
 ·cases e
structure okM (l:List OV):Prop where
 a:allLen l
 n:l.length<=100000
def V3_:IR:=
(sq (kr [0] [oD 1 (.boxv 0),
oD 2 (.box [.int .i64 0,.int .i64 0,.kb false,.int .u64 0,.imm (.int .u8) [],.imm (.int .u8) []])])
(sq (kr [1,2] [oA 5 4 1,
oL 6 5,
oE 7 6,
oA 8 5 1,
oL 9 8,
oE 10 9,
oB 11 .add 7 10,
oD 12 (.mkrow (.int .u8) 1 (0:Int) 11 11),
oM 3 12])
(sq (kr [1,2,3] [oM 13 3,
oA 14 4 1,
oL 15 14,
oD 16 (.copy (.int .u8) 13 15),
oM 4 16])
(sq (kd [1,2,3,4] [(oM 17 3,[]),
(oM 18 4,[0]),
(oD 19 (.slice 1 17 (some 18) none none),[]),
(oA 20 5 1,[0,0,0]),
(oL 21 20,[1,0,0]),
(oD 22 (.copy (.int .u8) 19 21),[])])
(sq (kd [1,2,3,4] [(oM 23 3,[]),
(oM 24 4,[0]),
(oM 25 4,[0,0]),
(oD 26 (.slice 1 23 none (some 24) (some 25)),[]),
(oM 27 3,[0,0,0,0]),
(oM 28 4,[0,0,0,0,0]),
(oD 29 (.slice 1 27 (some 28) none none),[2,0,0,0]),
(oA 30 4 1,[0,0,0]),
(oS 1 30 26,[1,0,0]),
(oA 31 5 1,[]),
(oS 1 31 29,[])])
(sq (kr [1,2] [oK 32 6 1,
oS 6 2 32])
.ret))))))
def Vp_:List RD:=[.cell 2 (some 6) false []]
theorem VI_:zl_ Tryz.prog Tryz.f42 V3_ Vp_=true:=by kernel_rfl
def jV_:List AV->List Obj->Option (Prop × AV × List Obj)
 | [.agg [.int .i64 c,.int .i64 f,.bool h,.int .u64 x,.jsl 0 (.int .u8) v,.jsl 0 (.int .u8) m]],[.reg false true]=>some ((v.length<=1000000/\m.length<=1000000,.agg [.int .i64 c,.int .i64 f,.bool h,.int .u64 x,.view 1 0 v.length,.view 1 v.length m.length],[.reg false true,.row false (.int .u8) (v++m)]))
 | _,_=>none
theorem Yi_:zf_ Tryz.prog 42 (RwF jV_).sum:=by
 refine Qi_ Tryz.func42 VI_ (ze_ _) fun args objs p v o e=>?_
 unfold jV_ at e
 split at e
 ·rename_i c f h x v m
  cases e
  refine ⟨rfl,fun hw ho hp=>?_⟩
  change List Int at v
  change List Int at m
  have k1:((v.length:Int)+m.length).toNat=v.length+m.length:=by omega
  have k2:(List.replicate (v.length+m.length) (0:Int)).length=v.length+m.length:=List.length_replicate
  have k3:v.take (v.length+m.length)=v:=List.take_of_length_le (by omega)
  have k4:(List.replicate (v.length+m.length) (0:Int)).drop v.length=List.replicate m.length 0:=by rw [List.drop_replicate];congr 1;omega
  have k5:min v.length (v.length+m.length)=v.length:=Nat.min_eq_left (by omega)
  have k6:(v++List.replicate m.length (0:Int)).length=v.length+m.length:=by simp
  have k7:(((v.length+m.length:Nat):Int) - (v.length:Int)).toNat=m.length:=by omega
  have k8:(v++List.replicate m.length (0:Int)).take v.length=v:=List.take_left
  have k9:m.take m.length=m:=List.take_length
  have k10:min m.length m.length=m.length:=Nat.min_self _
  have k11:(v++List.replicate m.length (0:Int)).drop (v.length+m.length)=[]:=List.drop_of_length_le (by simp)
  have k12:(v++m).length=v.length+m.length:=List.length_append
  have k13:((v.length:Int) - 0).toNat=v.length:=by omega
  repeat'(intro t ht;first|(cases t<;>first|(cases ht;done)|(try simp only[zh_]at ht))|((first|refine zb_ ht ?_|refine ht ?_ ?_|refine ht.1 ?_ ?_|refine ht ?_)<;>clear ht))
  all_goals first
   | exact True.intro
   | (simp only [Z8_,k1,k2,k3,k4,k5,k6,k7,k8,k9,k10,k11,k12,k13,List.append_nil,Int.toNat_natCast];first | omega | exact ⟨rfl,by first | rfl | exact True.intro⟩ | (refine ⟨?_,?_,?_,?_⟩<;>first | exact True.intro | omega))
   | omega
   | ((try simp only [zn_,zo_,zm_] at*);omega)
   | exact ⟨rfl,by first | rfl | exact True.intro⟩
 ·cases e
section
variable {I:Nat->Prop} {w:World} {mm:M}
end
theorem zeH_ (b:List Int):Z5_ [2,2] b=if b.length < 4 then ([],1) else ([ZN_ (b.take 2),ZN_ ((b.drop 2).take 2)],0):=by
 have hr:ZR_ [2,2]=true:=by decide
 unfold Z5_
 rw [if_pos hr]
 have a2:zq_ 2=2:=by decide
 have t2:Int.toNat 2=2:=rfl
 have p2:(0:Int) < 2:=by decide
 simp only [ZF_,a2,t2,if_pos p2,List.length_drop]
 by_cases h:b.length < 4
 ·rw [if_pos h]
  by_cases h2:(b.length:Int) < 2
  ·rw [if_pos h2]
  ·rw [if_neg h2,if_pos (by omega)]
 ·rw [if_neg h,if_neg (by omega),if_neg (by omega)];rfl
def tT (b:List Int):Int:=ZN_ (b.take 2)
def tN (b:List Int):Int:=ZN_ ((b.drop 2).take 2)
def tlE (b:List Int) (least step bad:Int):Int:=if b.length < 4 then bad else if tN b < least\/¬ (tN b).tmod step=0 then bad else if (b.length:Int) < tN b then bad else 0
def tlI (b:List Int) (least step bad x:Int):Int:=if tlE b least step bad=0 then x else 0
def tlR (b:List Int) (least step bad:Int):List Int:=if tlE b least step bad=0 then (b.take (tN b).toNat).drop 4 else []
theorem jy_ {b:List Int} {a:Nat} (hb:∀ x ∈ b,0<=x/\x<=255):0<=ZN_ ((b.drop a).take 2)/\ZN_ ((b.drop a).take 2)<=65535:=by
 have h:=xp_ ((b.drop a).take 2) fun x hx=>hb x (List.mem_of_mem_drop (List.mem_of_mem_take hx))
 have hl:((b.drop a).take 2).length<=2:=by rw [List.length_take];omega
 have hp:∀ k ≤ 2,(256:Int) ^ k<=65536:=by decide
 have:=hp _ hl
 omega
def bd (b:List Int):List Int:=(b.take (tN b).toNat).drop 4
theorem zbx_ {b:List Int} (hb:∀ x ∈ b,0<=x/\x<=255):(bd b).length<=65535:=by
 have:=jy_ (a:=2) hb
 unfold bd tN;rw [List.length_drop,List.length_take];omega
theorem zeL_ {b:List Int} {sh od:Int}:kU_ [2,2] b 0 0=(if b.length < 4 then [] else [tT b,tN b])/\K4_ [2,2] b 0 0=(if b.length < 4 then 0 else 4)/\wz_ [2,2] b 0 sh od 0=(if b.length < 4 then sh else 0):=by
 have e:Z5_ [2,2] (b.drop (0:Int).toNat)=if b.length < 4 then ([],1) else ([tT b,tN b],0):=by
  rw [show (0:Int).toNat=0 from rfl,List.drop_zero,zeH_];rfl
 have es:zV_ [2,2]=4:=by decide
 unfold kU_ K4_ wz_ Z0_ Zo_
 rw [e,es]
 by_cases h:b.length < 4
 ·simp only [if_pos h];exact ⟨rfl,rfl,rfl⟩
 ·simp only [if_neg h];exact ⟨rfl,rfl,rfl⟩
def Xj_:IR:=
(sq (kr [0] [oD 1 (.boxv 0),
oD 2 (.mov cF)])
(sq (kr [1] [oA 3 0 1,
oL 4 3,
oB 5 .geq 4 (cI 4),
oM 6 5,
oT 6 7 (.fieldAddr 0 1),
oT 6 8 (.load none 7),
oT 6 9 (.bin .leq 8 (cI 60000)),
oP 10 6 9 cF,
oM 11 10,
oT 11 12 (.fieldAddr 1 1),
oT 11 13 (.load none 12),
oT 11 14 (.bin .geq 13 (cI 1)),
oP 15 11 14 cF,
oM 16 15,
oT 16 17 (.fieldAddr 1 1),
oT 16 18 (.load none 17),
oT 16 19 (.bin .leq 18 (cI 64)),
oP 20 16 19 cF,
oM 21 20,
oT 21 22 (.fieldAddr 3 1),
oT 21 23 (.load none 22),
oT 21 24 (.bin .neq 23 (cI 0)),
oP 25 21 24 cF,
oM 26 25,
oT 26 27 (.fieldAddr 4 1),
oT 26 28 (.load none 27),
oT 26 29 (.bin .neq 28 (cI 0)),
oP 30 26 29 cF,
oM 2 30])
.ret))
def x1_:List RD:=[.tmp 2 true none]
theorem x9_:zl_ Tryz.prog Tryz.f119 Xj_ x1_=true:=by kernel_rfl
def Qa_:List AV->List Obj->Option (Prop × AV)
 | [.agg [.int .i64 least,.int .i64 step,.bool pad,.int .i64 bad,.int .i64 odd]],[]=>some ((4<=least/\least<=60000/\1<=step/\step<=64/\bad ≠ 0/\odd ≠ 0,.bool true))
 | _,_=>none
theorem Kq_:zf_ Tryz.prog 119 (RoF Qa_).sum:=by
 refine zj_ Tryz.func119 x9_ (ze_ _) fun args objs p v e=>?_
 unfold Qa_ at e
 split at e
 ·rename_i least step pad bad odd
  cases e
  refine ⟨rfl,fun hw ho hp=>?_⟩
  clear hw ho
  obtain ⟨h1,h2,h3,h4,h5,h6⟩:=hp
  repeat'(intro t ht;first|(cases t<;>first|(cases ht;done)|(try simp only[zh_]at ht;try(exfalso;first|contradiction|omega)))|((first|refine zb_ ht ?_|refine ht ?_ ?_|refine ht.1 ?_ ?_|refine ht ?_)<;>clear ht))
  all_goals first
   | exact True.intro
   | exact ⟨rfl,rfl⟩
   | (exfalso;omega)
   | (refine ⟨congrArg AV.bool ?_,rfl⟩;simp;omega)
 ·cases e
def xu_:IR:=
(sq (kr [0,1] [oD 2 (.boxv 0),
oD 4 (.mov cF)])
(sq (kr [1,2] [oM 5 1,
oA 6 0 2,
oL 7 6,
oB 8 .geq 5 7,
oM 9 8,
oT 9 10 (.fieldAddr 2 2),
oT 9 11 (.load none 10),
oT 9 12 (.mov 11),
oF 12 13 (.mov 1),
oF 12 14 (.fieldAddr 1 2),
oF 12 15 (.load none 14),
oF 12 16 (.bin .rem 13 15),
oF 12 17 (.bin .eql 16 (cI 0)),
oT 9 18 (.pick 12 cT 17),
oP 19 9 18 cF,
oM 4 19])
.ret))
def xe_:List RD:=[.tmp 4 true none]
theorem xm_:zl_ Tryz.prog Tryz.f120 xu_ xe_=true:=by kernel_rfl
def qL_:List AV->List Obj->Option (Prop × AV)
 | [.agg [.int .i64 least,.int .i64 step,.bool pad,.int .i64 bad,.int .i64 odd],.int .i64 n],[]=>some ((pad=false/\1<=step,.bool (decide (least<=n) && decide (n.tmod step=0))))
 | _,_=>none
theorem k5_:zf_ Tryz.prog 120 (RoF qL_).sum:=by
 refine zj_ Tryz.func120 xm_ (ze_ _) fun args objs p v e=>?_
 unfold qL_ at e
 split at e
 ·rename_i least step pad bad odd n
  cases e
  refine ⟨rfl,fun hw ho hp=>?_⟩
  clear hw ho
  obtain ⟨rfl,h1⟩:=hp
  repeat'(intro t ht;first|(cases t<;>first|(cases ht;done)|(try simp only[zh_]at ht;try(exfalso;first|contradiction|omega)))|((first|refine zb_ ht ?_|refine ht ?_ ?_|refine ht.1 ?_ ?_|refine ht ?_)<;>clear ht))
  all_goals first
   | exact True.intro
   | omega
   | (refine ⟨congrArg AV.bool ?_,rfl⟩;simp_all;done)
   | (refine ⟨congrArg AV.bool ?_,rfl⟩;rw [decide_eq_false (by omega)];rfl)
 ·cases e
def WF_:IR:=
(sq (kr [0,1] [oD 2 (.boxv 0),
oD 4 (.mov (cI 0))])
(sq (sq (.reg [oA 5 2 2,
oL 6 5,
oD 7 (.un .not 6)])
(.cond 7
(sq (.reg [oD 4 (.mov (cI 0))])
.ret)
.skip))
(sq (kd [1,2] [(oA 8 1 2,[]),
(oL 9 8,[]),
(oM 10 1,[0,0]),
(oA 11 1 2,[0,0,0]),
(oL 12 11,[1,0,0]),
(oB 13 .rem 10 12,[3,0]),
(oB 14 .sub 9 13,[]),
(oA 15 1 2,[0,0,0,0,0,0,0]),
(oL 16 15,[1,0,0,0,0,0,0]),
(oB 17 .rem 14 16,[]),
(oM 4 17,[])])
.ret)))
def Ww_:List RD:=[.tmp 4 true none]
theorem WA_:zl_ Tryz.prog Tryz.f121 WF_ Ww_=true:=by kernel_rfl
def qo_:List AV->List Obj->Option (Prop × AV)
 | [.agg [.int .i64 least,.int .i64 step,.bool pad,.int .i64 bad,.int .i64 odd],.int .i64 n],[]=>some ((pad=false,.int .i64 0))
 | _,_=>none
theorem kK_:zf_ Tryz.prog 121 (RoF qo_).sum:=by
 refine zj_ Tryz.func121 WA_ (ze_ _) fun args objs p v e=>?_
 unfold qo_ at e
 split at e
 ·rename_i least step pad bad odd n
  cases e
  refine ⟨rfl,fun hw ho hp=>?_⟩
  clear hw ho
  subst hp
  repeat'(intro t ht;first|(cases t<;>first|(cases ht;done)|(try simp only[zh_]at ht;try(exfalso;first|contradiction|omega)))|((first|refine zb_ ht ?_|refine ht ?_ ?_|refine ht.1 ?_ ?_|refine ht ?_)<;>clear ht))
  all_goals first
   | exact True.intro
   | exact ⟨rfl,rfl⟩
 ·cases e
def HB_:IR:=
(sq (kr [0,1] [oD 2 (.boxv 0),
oD 4 (.box [.int .i64 0,.imm (.int .u8) []]),
oD 5 (.mov (cI 0)),
oD 6 (.mov (cI 0))])
(sq (sq (.reg [oK 13 5 2,
oC 14 119 [13],
oD 15 (.un .not 14)])
(.cond 15
(sq (kr [4] [oD 16 (.build [.int .i64 0,.imm (.int .u8) []] []),
oS 2 4 16,
oD 5 (.mov (cI 0)),
oD 6 (.mov (cI 10001))])
.ret)
.skip))
(sq (kr [1,2,4] [oM 17 1,
oA 18 3 2,
oL 19 18,
oA 20 4 2,
oL 21 20,
oC 22 51 [17,19,21],
oM 7 22])
(sq (kr [1,2,4,7] [oM 23 7,
oD 24 (.sliceAll (.int .i64) 2 [(0,1,(cI 2)),(1,1,(cI 2))]),
oC 25 89 [23,24],
oM 8 25])
(sq (sq (.reg [oM 26 8,
oE 27 26,
oB 28 .eql 27 (cI 0)])
(.cond 28
(sq (kr [4,7] [oD 29 (.build [.int .i64 0,.imm (.int .u8) []] []),
oM 30 7,
oC 31 53 [30],
oS 2 4 29,
oD 5 (.mov (cI 0)),
oM 6 31])
.ret)
.skip))
(sq (kr [1,2,4,7,8] [oM 32 8,
oD 33 (.indexSl 1 32 (cI 1)),
oL 34 33,
oD 35 (.conv .i64 34),
oM 9 35])
(sq (sq (kr [1,2,4,7,8,9] [oK 36 5 2,
oM 37 9,
oC 38 120 [36,37],
oD 39 (.un .not 38),
oM 40 39,
oF 40 41 (.mov 9),
oF 40 42 (.load (some 5) 2),
oF 40 43 (.mov 9),
oF 40 44 (.call false (.f 121) [42,43]),
oF 40 45 (.bin .add 41 44),
oF 40 46 (.mov 1),
oF 40 47 (.len 46),
oF 40 48 (.bin .gtr 45 47),
oP 49 40 cT 48])
(.cond 49
(sq (kd [2,4] [(oD 50 (.build [.int .i64 0,.imm (.int .u8) []] []),[]),
(oA 51 3 2,[0]),
(oL 52 51,[1]),
(oS 2 4 50,[0,0]),
(oD 5 (.mov (cI 0)),[1,0]),
(oM 6 52,[])])
.ret)
.skip))
(sq (kd [2,4,7,8,9] [(oM 53 8,[]),
(oD 54 (.indexSl 1 53 (cI 0)),[]),
(oL 55 54,[]),
(oD 56 (.conv .i64 55),[]),
(oM 57 7,[0,0,0,0]),
(oM 58 9,[0,0,0,0,0]),
(oB 59 .sub 58 (cI 4),[1,0,0,0,0]),
(oC 60 88 [57,59],[3,0,0,0]),
(oD 61 (.buildAll 2 [(0,1,56),(1,1,60)]),[]),
(oD 10 (.box [.int .i64 0,.imm (.int .u8) []]),[0,0,0,0,0,0,0,0,0]),
(oS 2 10 61,[])])
(sq (sq (kr [2,4,7,9,10] [oK 62 5 2,
oM 63 9,
oC 64 121 [62,63],
oM 11 64])
(sq (.reg [oM 65 11,
oB 66 .gtr 65 (cI 0)])
(.cond 66
(kr [4,7,10,11] [oM 67 7,
oM 68 11,
oD 69 (.un .neg 68),
oD 70 (.sliceAll (.int .i64) 1 [(0,1,69)]),
oC 71 89 [67,70]])
.skip)))
(sq (sq (kr [4,7,10] [oM 72 7,
oC 73 53 [72],
oM 12 73])
(sq (.reg [oM 74 12,
oB 75 .neq 74 (cI 0)])
(.cond 75
(sq (.reg [oD 76 (.build [.int .i64 0,.imm (.int .u8) []] []),
oM 77 12,
oS 2 4 76,
oD 5 (.mov (cI 0)),
oM 6 77])
.ret)
.skip)))
(sq (kd [4,7,10] [(oK 78 2 10,[]),
(oM 79 7,[0]),
(oC 80 90 [79],[1]),
(oS 2 4 78,[]),
(oM 5 80,[]),
(oD 6 (.mov (cI 0)),[])])
.ret)))))))))))
def h9_:List RD:=[.cell 4 (some 2) true [],.tmp 5 true none,.tmp 6 true none]
theorem Hi_:zl_ Tryz.prog Tryz.f65 HB_ h9_=true:=by kernel_rfl
def ja_:List AV->List Obj->Option (Prop × AV)
 | [.agg [.int .i64 least,.int .i64 step,.bool pad,.int .i64 bad,.int .i64 odd],.imm (.int .u8) b],[]=>some ((pad=false/\(4<=least/\least<=60000/\1<=step/\step<=64/\bad ≠ 0/\odd ≠ 0)/\b.length<=140737488355328,.tup [.agg [.int .i64 (tlI b least step bad (tT b)),.imm (.int .u8) (tlR b least step bad)],.int .i64 (tlI b least step bad (tN b)),.int .i64 (tlE b least step bad)]))
 | _,_=>none
theorem JS_:zf_ Tryz.prog 65 (RoF ja_).sum:=by
 refine zj_ Tryz.func65 Hi_ (za_ (s:=RoF Qa_) Kq_ (za_ (s:=RwF qN_) Qt_ (za_ (s:=RwF Zh_) ZV_ (za_ (s:=RoF zB_) zG_ (za_ (s:=RoF qL_) k5_ (za_ (s:=RoF qo_) kK_ (za_ (s:=RwF zZ_) Zw_ (za_ (s:=RoF qe_) kj_ (ze_ _))))))))) fun args objs p v e=>?_
 unfold ja_ at e
 split at e
 ·rename_i least step pad bad odd b
  cases e
  refine ⟨rfl,fun hw ho hp=>?_⟩
  change List Int at b
  have hb:∀ x ∈ (b:List Int),(0:Int)<=x/\x<=255:=fun x hx=>(hw _ (by simp:AV.imm (.int .u8) b ∈ _)).1 x hx
  clear hw ho
  obtain ⟨rfl,hs,hl⟩:=hp
  have hs':=hs
  obtain ⟨h1,h2,h3,h4',h5,h6⟩:=hs'
  have hT:0<=tT b/\tT b<=65535:=jy_ (a:=0) hb
  have hN:0<=tN b/\tN b<=65535:=jy_ (a:=2) hb
  obtain ⟨c1,c2,c3⟩:=zeL_ (b:=b) (sh:=bad) (od:=odd)
  have hm:=Uc_ (a:=tN b) (s:=step) hN.1 h3
  by_cases h4:b.length < 4
  ·rw [if_pos h4] at c1 c2 c3
   have hE:tlE b least step bad=bad:=if_pos h4
   repeat'(intro t ht;first|(cases t<;>first|(cases ht;done)|(try simp only[zh_]at ht;try(exfalso;first|contradiction|omega)))|((first|refine zb_ ht ?_|refine ht ?_ ?_|refine ht.1 ?_ ?_|refine ht ?_)<;>clear ht))
   all_goals (try simp only [c1,c2,c3,List.length_nil,not_true_eq_false] at*)
   all_goals first
    | exact True.intro
    | exact ⟨rfl,hs⟩
    | exact hs
    | omega
    | exact ⟨by omega,by omega,by omega⟩
    | (unfold tlI tlR;simp only [hE,if_neg h5];first | done | exact ⟨rfl,by first | rfl | exact True.intro⟩ | exact ⟨trivial,trivial⟩)
    | (exfalso;omega)
  ·rw [if_neg h4] at c1 c2 c3
   have g0:∀ d:Int,[tT b,tN b].getD (Int.toNat 0) d=tT b:=fun _=>rfl
   have g1:∀ d:Int,[tT b,tN b].getD (Int.toNat 1) d=tN b:=fun _=>rfl
   have hok:4<=tN b->tN b<=b.length->qb_ (tN b - 4) b 4 bad 0=0/\qV_ (tN b - 4) b 4 bad 0=(b.take (tN b).toNat).drop 4/\j5_ (tN b - 4) b 4 bad 0=tN b:=fun q1 q2=>by
    have e:qb_ (tN b - 4) b 4 bad 0=0:=by unfold qb_;rw [if_neg (by omega),if_neg (by omega)]
    refine ⟨e,?_,?_⟩
    ·unfold qV_;rw [if_pos e];congr 2;omega
    ·unfold j5_;rw [if_pos e];omega
   repeat'(intro t ht;first|(cases t<;>first|(cases ht;done)|(try simp only[zh_]at ht;try(exfalso;first|contradiction|omega)))|((first|refine zb_ ht ?_|refine ht ?_ ?_|refine ht.1 ?_ ?_|refine ht ?_)<;>clear ht))
   all_goals (try simp only [c1,c2,c3,g0,g1,List.length_cons,List.length_nil,not_true_eq_false] at*)
   all_goals first
    | exact True.intro
    | exact ⟨True.intro,h3⟩
    | exact hs
    | omega
    | exact ⟨by omega,by omega,by omega⟩
    | exact ⟨by omega,by omega,by omega,h5⟩
    | ((try simp only [zn_,zo_,zm_] at*);omega)
    | (exfalso;omega)
    | (have hE:tlE b least step bad=bad:=by
        unfold tlE;rw [if_neg h4]
        first
         | exact if_pos (by omega)
         | (by_cases hq:tN b < least\/¬ (tN b).tmod step=0
            ·exact if_pos hq
            ·rw [if_neg hq];exact if_pos (by omega))
       unfold tlI tlR;simp only [hE,if_neg h5];first | done | exact ⟨rfl,by first | rfl | exact True.intro⟩ | exact ⟨trivial,trivial⟩)
    | (obtain ⟨q1,q2,q3⟩:=hok (by omega) (by omega)
       first
        | exact absurd q1 (by assumption)
        | (have hE:tlE b least step bad=0:=by
            unfold tlE;rw [if_neg h4,if_neg (by omega)];exact if_neg (by omega)
           unfold tlI tlR;simp only [hE,q2,q3,if_true];first | done | exact ⟨rfl,by first | rfl | exact True.intro⟩ | exact ⟨trivial,trivial⟩))
 ·cases e
def yo_ (b:List Int):Int:=if Zb_ b=0 then (if ¬ (zz_ b=32768/\XW_ (zR_ b)=true) then 526 else if ZX_ b=true then 528 else if Z7_ b+8<=b.length then 527 else if Z6_ (b.drop (Z7_ b).toNat)=true then 0 else 528) else if Zb_ b=1026 then 527 else if Zb_ b=1031 then 526 else 528
def plE (t:Int) (y:List Int):Int:=if ¬ t=65535/\¬ (y.length:Int)=zV_ (zs_ t) then 514 else if Zo_ (zs_ t) y=1 then 514 else if Zo_ (zs_ t) y=2 then 518 else H3_ t ((Z0_ (zs_ t) y).getD 0 0)
def acE (b:List Int):Int:=if ¬ tlE b 8 8 514=0 then tlE b 8 8 514 else if tT b=25 then yo_ (bd b) else if Us_ (tT b)=true then plE (tT b) (bd b) else 513
def acI (b:List Int) (x:Int):Int:=if acE b=0 then x else 0
def acA (b:List Int) (k:Nat):Int:=acI b (if tT b=25 then 0 else (Z0_ (zs_ (tT b)) (bd b)).getD k 0)
def acS (b:List Int) (x:Int):Int:=acI b (if tT b=25 then x else 0)
def acH (b:List Int):Bool:=decide (acE b=0) && decide (tT b=25) && ZX_ (bd b)
def acV (b l:List Int):List Int:=if acE b=0 then (if tT b=25 then l else []) else []
def acD (b:List Int):List Int:=if acE b=0 then (if tT b=25 then [] else (bd b).drop (zV_ (zs_ (tT b))).toNat) else []
theorem Xs_:∀ (w b o:List Int),(ZF_ w b o).2=0\/(ZF_ w b o).2=1\/(ZF_ w b o).2=2
 | [],b,o=>.inl rfl
 | n :: r,b,o=>by
   simp only [ZF_]
   split
   ·exact .inr (.inl rfl)
   ·split
    ·exact Xs_ r _ _
    ·split
     ·exact Xs_ r _ _
     ·exact .inr (.inr rfl)
theorem gu_ (w b:List Int):Zo_ w b=0\/Zo_ w b=1\/Zo_ w b=2:=by
 unfold Zo_ Z5_;split
 ·exact Xs_ w b []
 ·exact .inr (.inr rfl)
theorem zau_ {t a b:Int} (h2:2<=zF_ (zs_ t)\/b=0) (h1:1<=zF_ (zs_ t)\/a=0):(kL_ t a b).getD 0 0=a/\(kL_ t a b).getD 1 0=b:=by
 have hc:=vO_ t
 unfold kL_
 generalize zF_ (zs_ t)=n at*
 have:n=0\/n=1\/n=2:=by omega
 rcases this with rfl | rfl | rfl
 ·have ha:a=0:=by omega
  have hb:b=0:=by omega
  subst ha;subst hb;exact ⟨rfl,rfl⟩
 ·have hb:b=0:=by omega
  subst hb;exact ⟨rfl,rfl⟩
 ·exact ⟨rfl,rfl⟩
theorem zcf_ {t:Int} {l:List Int} (h:(l.length:Int)=zF_ (zs_ t)):kL_ t (l.getD 0 0) (l.getD 1 0)=l/\(2<=zF_ (zs_ t)\/l.getD 1 0=0)/\(1<=zF_ (zs_ t)\/l.getD 0 0=0):=by
 have hc:=vO_ t
 unfold kL_
 rw [<- h,Int.toNat_natCast]
 rcases l with _ | ⟨p,_ | ⟨q,_ | ⟨r,s⟩⟩⟩
 ·exact ⟨rfl,.inr rfl,.inr rfl⟩
 ·exact ⟨rfl,.inr rfl,.inl (by simp)⟩
 ·exact ⟨rfl,.inl (by simp),.inl (by simp)⟩
 ·simp only [List.length_cons] at h;omega
theorem uw_ {c f:Int} {h:Bool} {x:Int} {v m:List Int} (hs:QQ_ c f h x v m 0 0 false 0 [] []=true):c=0/\f=0/\h=false/\x=0/\v=[]/\m=[]:=by
 unfold QQ_ at hs
 simp only [Bool.and_eq_true,decide_eq_true_eq,beq_iff_eq] at hs
 obtain ⟨⟨⟨⟨⟨h1,h2⟩,h3⟩,h4⟩,h5⟩,h6⟩:=hs
 exact ⟨h1,h2,h4,h3,h5,h6⟩
theorem hl_ {t N:Int} {body rest:List Int} (ht:0<=t/\t<=65535) (hN:N=4+body.length) (h8:8<=N) (hm:(4+body.length) % 8=0) (hN2:N<=65535):
 tT (zd_ t 2++zd_ N 2++body++rest)=t/\tN (zd_ t 2++zd_ N 2++body++rest)=N/\tlE (zd_ t 2++zd_ N 2++body++rest) 8 8 514=0/\bd (zd_ t 2++zd_ N 2++body++rest)=body:=by
 have l2:(zd_ t 2).length=2:=by have:=zk_ (n:=t) (w:=2) (by decide);omega
 have l3:(zd_ N 2).length=2:=by have:=zk_ (n:=N) (w:=2) (by decide);omega
 have e1:tT (zd_ t 2++zd_ N 2++body++rest)=t:=by
  unfold tT;rw [List.append_assoc,List.append_assoc,List.take_left' l2];exact num2 ht
 have e2:tN (zd_ t 2++zd_ N 2++body++rest)=N:=by
  unfold tN;rw [List.append_assoc,List.append_assoc,List.drop_left' l2,List.take_left' l3];exact num2 (by omega)
 have hl:(zd_ t 2++zd_ N 2++body++rest).length=4+body.length+rest.length:=by simp only [List.length_append];omega
 refine ⟨e1,e2,?_,?_⟩
 ·unfold tlE
  rw [e2,hl,if_neg (by omega),if_neg (by rw [Int.tmod_eq_emod_of_nonneg (by omega)];omega),if_neg (by omega)]
 ·unfold bd
  rw [e2,List.take_left' (by simp only [List.length_append];omega)]
  exact List.drop_left' (by rw [List.length_append];omega)
theorem zee_ {t a b c f:Int} {h:Bool} {x:Int} {v m d rest:List Int} (hr:ZW_ (zM_ c f h x v m) t a b c f h x v m d=true) (ha:0<=a/\a<=18446744073709551615) (hb:0<=b/\b<=18446744073709551615) (hx:0<=x):
 (let y:=xz_ t a b (Zq_ c f h x v m) d++rest
  acE y=0/\tT y=t/\tN y=4+(Z3_ t a b (Zq_ c f h x v m) d).length/\acA y 0=a/\acA y 1=b/\acS y (zz_ (bd y))=c/\acS y (zR_ (bd y))=f/\acH y=h/\acS y (Q0_ (bd y))=x/\acV y (qz_ (bd y))=v/\acV y (qp_ (bd y))=m/\acD y=d):=by
 obtain ⟨_,s1,s2,s3⟩:=wX_ hr
 have htt:0<=t/\t<=65535:=by
  by_cases h25:t=25
  ·omega
  ·exact Ua_ (.inl (Kb_ h25 hr).1)
 have hd:xz_ t a b (Zq_ c f h x v m) d++rest=zd_ t 2++zd_ (4+(Z3_ t a b (Zq_ c f h x v m) d).length) 2++Z3_ t a b (Zq_ c f h x v m) d++rest:=rfl
 obtain ⟨e1,e2,e3,e4⟩:=hl_ (rest:=rest) htt rfl (by omega) s2 (by omega)
 dsimp only
 rw [hd]
 generalize zd_ t 2++zd_ (4+(Z3_ t a b (Zq_ c f h x v m) d).length) 2++Z3_ t a b (Zq_ c f h x v m) d++rest=y at*
 by_cases h25:t=25
 ·obtain ⟨rfl,rfl,rfl,rfl,rfl,k6,k7⟩:=wY_ h25 hr
  have hB:Z3_ t 0 0 (Zq_ 32768 f false x v m) []=Qw_ 32768 f false x v m++List.replicate ((8 - (4+(Zq_ 32768 f false x v m).length) % 8) % 8) 0:=by unfold Z3_;rw [if_pos h25,gy_ k7]
  obtain ⟨D1,D2,D3,D4,D5,D6,D7,D8⟩:=zcA_ (b:=List.replicate ((8 - (4+(Zq_ 32768 f false x v m).length) % 8) % 8) (0:Int)) k7 hx
  rw [<- hB,<- e4] at D1 D2 D3 D4 D5 D6 D7 D8
  have hbl:(bd y).length=(Qw_ 32768 f false x v m).length+(8 - (4+(Zq_ 32768 f false x v m).length) % 8) % 8:=by rw [e4,hB,List.length_append,List.length_replicate]
  have hdz:Z6_ ((bd y).drop (Z7_ (bd y)).toNat)=true:=by
   rw [D8,e4,hB,Int.toNat_natCast,List.drop_left];exact un_ _
  have hs:yo_ (bd y)=0:=by
   unfold yo_
   rw [if_pos D1,D2,D3,D4,if_neg (not_not_intro ⟨rfl,k6⟩),if_neg (by decide),if_neg (by rw [D8,hbl];omega),if_pos hdz]
  have hE:acE y=0:=by unfold acE;rw [if_neg (not_not_intro e3),e1,if_pos h25];exact hs
  unfold acA acS acH acV acD acI
  rw [hE,e1,D2,D3,D4,D5,D6,D7]
  simp only [if_pos h25,if_true]
  exact ⟨trivial,trivial,e2,trivial,trivial,trivial,trivial,by simp,trivial,trivial,trivial,trivial⟩
 ·obtain ⟨k1,k2,k3,k4,k5,k6,k7⟩:=Kb_ h25 hr
  obtain ⟨rfl,rfl,rfl,rfl,rfl,rfl⟩:=uw_ k2
  have hB:Z3_ t a b (Zq_ 0 0 false 0 [] []) d=ZZ_ (zs_ t) (kL_ t a b)++d:=if_neg h25
  have hn64:∀ z ∈ kL_ t a b,0<=z/\z<=18446744073709551615:=fun z hz=>by
   have:=List.mem_of_mem_take hz
   simp only [List.mem_cons,List.not_mem_nil,or_false] at this
   rcases this with rfl | rfl<;>assumption
  obtain ⟨g1,g2⟩:=uA_ d hn64 k4
  rw [<- hB,<- e4] at g1
  have gL:Z0_ (zs_ t) (bd y)=kL_ t a b:=congrArg Prod.fst g1
  have gK:Zo_ (zs_ t) (bd y)=0:=congrArg Prod.snd g1
  obtain ⟨n1,n2⟩:=zau_ k5 k6
  have hz:=Yr_ t
  have hbl:((bd y).length:Int)=zV_ (zs_ t)+d.length:=by rw [e4,hB,List.length_append];omega
  have hs:plE t (bd y)=0:=by
   unfold plE
   rw [gK,gL,n1,if_neg (by
    rintro ⟨q1,q2⟩
    rcases k7 with ⟨q3,_⟩ | ⟨_,rfl⟩
    ·exact q1 q3
    ·simp only [List.length_nil] at hbl;omega),if_neg (by decide),if_neg (by decide)]
   exact k3
  have hE:acE y=0:=by unfold acE;rw [if_neg (not_not_intro e3),e1,if_neg h25,if_pos k1];exact hs
  have hdd:(bd y).drop (zV_ (zs_ t)).toNat=d:=by rw [e4,hB];exact List.drop_left' (by omega)
  unfold acA acS acH acV acD acI
  rw [hE,e1,gL,n1,n2,hdd]
  simp only [if_neg h25,if_true]
  exact ⟨trivial,trivial,e2,trivial,trivial,trivial,trivial,by simp [h25],trivial,trivial,trivial,trivial⟩
theorem zef_ {b:List Int} (hb:∀ x ∈ b,0<=x/\x<=255) (h0:acE b=0):
 ZW_ (zM_ (acS b (zz_ (bd b))) (acS b (zR_ (bd b))) (acH b) (acS b (Q0_ (bd b))) (acV b (qz_ (bd b))) (acV b (qp_ (bd b)))) (tT b) (acA b 0) (acA b 1) (acS b (zz_ (bd b))) (acS b (zR_ (bd b))) (acH b) (acS b (Q0_ (bd b))) (acV b (qz_ (bd b))) (acV b (qp_ (bd b))) (acD b)=true/\
 xz_ (tT b) (acA b 0) (acA b 1) (Zq_ (acS b (zz_ (bd b))) (acS b (zR_ (bd b))) (acH b) (acS b (Q0_ (bd b))) (acV b (qz_ (bd b))) (acV b (qp_ (bd b)))) (acD b)=b.take (tN b).toNat/\0<=tN b/\tN b<=b.length:=by
 have hT:tlE b 8 8 514=0:=Classical.byContradiction fun h=>by
  unfold acE at h0;rw [if_pos h] at h0;exact h h0
 have hN0:0<=tN b/\tN b<=65535:=jy_ (a:=2) hb
 have hT0:0<=tT b/\tT b<=65535:=jy_ (a:=0) hb
 have hc:4<=b.length/\8<=tN b/\tN b % 8=0/\tN b<=b.length:=by
  unfold tlE at hT
  by_cases h1:b.length < 4
  ·rw [if_pos h1] at hT;cases hT
  ·rw [if_neg h1] at hT
   by_cases h2:tN b < 8\/¬ (tN b).tmod 8=0
   ·rw [if_pos h2] at hT;cases hT
   ·rw [if_neg h2] at hT
    by_cases h3:(b.length:Int) < tN b
    ·rw [if_pos h3] at hT;cases hT
    ·rw [Int.tmod_eq_emod_of_nonneg hN0.1] at h2;omega
 obtain ⟨c1,c2,c3,c4⟩:=hc
 have hbl:(bd b).length=(tN b).toNat - 4:=by unfold bd;rw [List.length_drop,List.length_take];omega
 have hbb:∀ x ∈ bd b,0<=x/\x<=255:=fun x hx=>hb x (List.mem_of_mem_take (List.mem_of_mem_drop hx))
 have b1:zd_ (tT b) 2=b.take 2:=Qj_ 2 (b.take 2) (by decide) (by rw [List.length_take];omega) fun x hx=>hb x (List.mem_of_mem_take hx)
 have b2:zd_ (tN b) 2=(b.drop 2).take 2:=Qj_ 2 ((b.drop 2).take 2) (by decide) (by rw [List.length_take,List.length_drop];omega) fun x hx=>hb x (List.mem_of_mem_drop (List.mem_of_mem_take hx))
 have hsplit:b.take (tN b).toNat=b.take 2++(b.drop 2).take 2++bd b:=by
  have e1:b.take 4=b.take 2++(b.drop 2).take 2:=by rw [<- List.take_add]
  rw [<- e1]
  unfold bd
  have e2:b.take 4=(b.take (tN b).toNat).take 4:=by rw [List.take_take,Nat.min_eq_left (by omega)]
  rw [e2,List.take_append_drop]
 have key:∀ {a' b':Int} {E d:List Int},Z3_ (tT b) a' b' E d=bd b->xz_ (tT b) a' b' E d=b.take (tN b).toNat:=fun {a' b' E d} hB=>by
  unfold xz_
  rw [hB,hbl,show (4+(((tN b).toNat - 4:Nat):Int))=tN b by omega,b1,b2,hsplit]
 have aI:∀ x,acI b x=x:=fun x=>if_pos h0
 by_cases h25:tT b=25
 ·have hs:yo_ (bd b)=0:=by have:=h0;unfold acE at this;rw [if_neg (not_not_intro hT),if_pos h25] at this;exact this
  have D0:Zb_ (bd b)=0:=Classical.byContradiction fun h=>by
   unfold yo_ at hs;rw [if_neg h] at hs
   split at hs
   ·cases hs
   ·split at hs<;>cases hs
  unfold yo_ at hs
  rw [if_pos D0] at hs
  have q1:zz_ (bd b)=32768/\XW_ (zR_ (bd b))=true:=Classical.byContradiction fun h=>by rw [if_pos h] at hs;cases hs
  rw [if_neg (not_not_intro q1)] at hs
  have q2:ZX_ (bd b)=false:=by
   cases hh:ZX_ (bd b) with
   | false=>rfl
   | true=>rw [if_pos hh] at hs;cases hs
  rw [if_neg (by rw [q2];decide)] at hs
  have q3:¬ Z7_ (bd b)+8<=(bd b).length:=fun h=>by rw [if_pos h] at hs;cases hs
  rw [if_neg q3] at hs
  have q4:Z6_ ((bd b).drop (Z7_ (bd b)).toNat)=true:=Classical.byContradiction fun h=>by rw [if_neg h] at hs;cases hs
  obtain ⟨E1,E2,E3,E4⟩:=bM_ hbb D0
  have aS:∀ x,acS b x=x:=fun x=>by unfold acS;rw [aI,if_pos h25]
  have aV:∀ l,acV b l=l:=fun l=>by unfold acV;rw [if_pos h0,if_pos h25]
  have aA:∀ k,acA b k=0:=fun k=>by unfold acA;rw [aI,if_pos h25]
  have aH:acH b=ZX_ (bd b):=by unfold acH;rw [decide_eq_true h0,decide_eq_true h25];rfl
  have aD:acD b=[]:=by unfold acD;rw [if_pos h0,if_pos h25]
  simp only [aS,aV,aA,aH,aD]
  refine ⟨?_,key ?_,hN0.1,c4⟩
  ·unfold ZW_;rw [if_pos h25,E1,q1.1,q1.2,q2];rfl
  ·unfold Z3_;rw [if_pos h25,gy_ E1,E2]
   have hd:=gR_ q4
   rw [List.length_drop] at hd
   have hk:(8 - (4+((bd b).take (Z7_ (bd b)).toNat).length) % 8) % 8=(bd b).length - (Z7_ (bd b)).toNat:=by rw [List.length_take];omega
   rw [hk,<- hd,List.take_append_drop]
 ·have hK:Us_ (tT b)=true:=Classical.byContradiction fun h=>by
   have:=h0;unfold acE at this;rw [if_neg (not_not_intro hT),if_neg h25,if_neg h] at this;cases this
  have hs:plE (tT b) (bd b)=0:=by have:=h0;unfold acE at this;rw [if_neg (not_not_intro hT),if_neg h25,if_pos hK] at this;exact this
  unfold plE at hs
  have q1:¬ (¬ tT b=65535/\¬ ((bd b).length:Int)=zV_ (zs_ (tT b))):=fun h=>by rw [if_pos h] at hs;cases hs
  rw [if_neg q1] at hs
  have q2:¬ Zo_ (zs_ (tT b)) (bd b)=1:=fun h=>by rw [if_pos h] at hs;cases hs
  rw [if_neg q2] at hs
  have q3:¬ Zo_ (zs_ (tT b)) (bd b)=2:=fun h=>by rw [if_pos h] at hs;cases hs
  rw [if_neg q3] at hs
  have hF:Z5_ (zs_ (tT b)) (bd b)=(Z0_ (zs_ (tT b)) (bd b),0):=by
   have h:=gu_ (zs_ (tT b)) (bd b)
   exact Prod.ext rfl (show Zo_ (zs_ (tT b)) (bd b)=0 by omega)
  obtain ⟨p1,p2,p3⟩:=K2_ hbb hF
  have hcl:((Z0_ (zs_ (tT b)) (bd b)).length:Int)=zF_ (zs_ (tT b)):=by
   unfold Qc_ at p1
   obtain ⟨r,hr⟩:=Option.isSome_iff_exists.1 p1
   unfold KB_ at hr
   split at hr
   ·rename_i h;exact h.2.symm
   ·cases hr
  obtain ⟨n1,n2,n3⟩:=zcf_ hcl
  have hz:=Yr_ (tT b)
  have aS:∀ x,acS b x=0:=fun x=>by unfold acS;rw [aI,if_neg h25]
  have aV:∀ l,acV b l=[]:=fun l=>by unfold acV;rw [if_pos h0,if_neg h25]
  have aA:∀ k,acA b k=(Z0_ (zs_ (tT b)) (bd b)).getD k 0:=fun k=>by unfold acA;rw [aI,if_neg h25]
  have aH:acH b=false:=by unfold acH;rw [decide_eq_false h25];simp
  have aD:acD b=(bd b).drop (zV_ (zs_ (tT b))).toNat:=by unfold acD;rw [if_pos h0,if_neg h25]
  simp only [aS,aV,aA,aH,aD]
  have hdl:((bd b).drop (zV_ (zs_ (tT b))).toNat).length=(bd b).length - (zV_ (zs_ (tT b))).toNat:=List.length_drop
  refine ⟨?_,key ?_,hN0.1,c4⟩
  ·unfold ZW_
   rw [if_neg h25,hK,n1,p1,hs]
   have hself:QQ_ 0 0 false 0 [] [] 0 0 false 0 [] []=true:=ux_ _ _ _ _ _ _
   rw [hself]
   have d2:(decide (2<=zF_ (zs_ (tT b))) || decide ((Z0_ (zs_ (tT b)) (bd b)).getD 1 0=0))=true:=by simpa using n2
   have d1:(decide (1<=zF_ (zs_ (tT b))) || decide ((Z0_ (zs_ (tT b)) (bd b)).getD 0 0=0))=true:=by simpa using n3
   rw [d1,d2]
   by_cases hx:tT b=65535
   ·have h4:zV_ (zs_ (tT b))=4:=by rw [hx];decide
    have d8:decide ((((bd b).length - (4:Int).toNat:Nat):Int).tmod 8=0)=true:=decide_eq_true (by rw [Int.tmod_eq_emod_of_nonneg (by omega)];omega)
    have d9:decide ((((bd b).length - (4:Int).toNat:Nat):Int)<=65520)=true:=decide_eq_true (by omega)
    rw [if_pos hx,hdl,h4,d8,d9];rfl
   ·have d10:decide ((bd b).length - (zV_ (zs_ (tT b))).toNat=0)=true:=decide_eq_true (by omega)
    rw [if_neg hx,hdl,d10];rfl
  ·unfold Z3_;rw [if_neg h25,n1,p2,List.take_append_drop]
end Go.Eng
