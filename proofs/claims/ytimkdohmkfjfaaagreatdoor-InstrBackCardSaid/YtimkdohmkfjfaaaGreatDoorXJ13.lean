/- Parts of the proof: F2, F4, O2, O9, O5. No condition. -/
import Derived.Test.YtimkdohmkfjfaaaGreatDoorProg
import Derived.Test.YtimkdohmkfjfaaaGreatDoorXJ11
import Derived.KernelRfl
import Derived.Test.YtimkdohmkfjfaaaGreatDoorXJ12
namespace Go.Eng
open Go.Proofs
set_option linter.unusedVariables false
set_option linter.unusedSimpArgs false
set_option maxRecDepth 100000
set_option maxHeartbeats 1000000
def fIs (n:Int):Bool:=decide (0<=n) && decide (n < 40)
theorem kq_ {n:Int}:fIs n=true ↔ 0<=n/\n < 40:=by unfold fIs;simp
theorem ws_ {n:Int}:fIs n=false ↔ ¬ (0<=n/\n < 40):=by rw [<- kq_];simp
def hg_:IR:=
(sq (kr [0] [oD 2 (.mov cF)])
(sq (kr [0] [oM 3 0,
oB 4 .geq 3 (cI 0),
oM 5 4,
oT 5 6 (.mov 0),
oT 5 7 (.bin .lss 6 (cI 40)),
oP 8 5 7 cF,
oM 2 8])
.ret))
def Gt_:List RD:=[.tmp 2 true none]
theorem GN_:zl_ Tryz.prog Tryz.f195 hg_ Gt_=true:=by kernel_rfl
def Kk_:List AV->List Obj->Option (Prop × AV)
 | [.int .i64 n],[]=>some ((True,.bool (fIs n)))
 | _,_=>none
theorem jg_:zf_ Tryz.prog 195 (RoF Kk_).sum:=by
 refine zj_ Tryz.func195 GN_ (ze_ _) fun args objs p v e=>?_
 unfold Kk_ at e
 split at e
 ·rename_i n
  cases e
  refine ⟨rfl,fun hw ho hp=>?_⟩
  repeat'(intro t ht;first|(cases t<;>first|(cases ht;done)|(try simp only[zh_]at ht))|((first|refine zb_ ht ?_|refine ht ?_ ?_|refine ht.1 ?_ ?_|refine ht ?_)<;>clear ht))
  all_goals refine ⟨?_,rfl⟩
  all_goals unfold fIs
  all_goals first | (congr 1;simp_all;done) | (congr 1;simp_all;omega)
 ·cases e
def Ja_:List Int:=[32,32,64,48,48,16,13,3,6,2,8,32,32,16,16,16,16,16,16,8,8,16,32,32,48,48,128,128,20,8,8,128,48,48,20,3,1,24,64,9]
def uc_:IR:=
(sq (kr [0] [oD 2 (.mov (cI 0))])
(sq (.reg [oD 4 (.buildAll 40 [(0,1,(cI 32)),(1,1,(cI 32)),(2,1,(cI 64)),(3,1,(cI 48)),(4,1,(cI 48)),(5,1,(cI 16)),(6,1,(cI 13)),(7,1,(cI 3)),(8,1,(cI 6)),(9,1,(cI 2)),(10,1,(cI 8)),(11,1,(cI 32)),(12,1,(cI 32)),(13,1,(cI 16)),(14,1,(cI 16)),(15,1,(cI 16)),(16,1,(cI 16)),(17,1,(cI 16)),(18,1,(cI 16)),(19,1,(cI 8)),(20,1,(cI 8)),(21,1,(cI 16)),(22,1,(cI 32)),(23,1,(cI 32)),(24,1,(cI 48)),(25,1,(cI 48)),(26,1,(cI 128)),(27,1,(cI 128)),(28,1,(cI 20)),(29,1,(cI 8)),(30,1,(cI 8)),(31,1,(cI 128)),(32,1,(cI 48)),(33,1,(cI 48)),(34,1,(cI 20)),(35,1,(cI 3)),(36,1,(cI 1)),(37,1,(cI 24)),(38,1,(cI 64)),(39,1,(cI 9))]),
oD 3 (.box [.int .i64 0,.int .i64 0,.int .i64 0,.int .i64 0,.int .i64 0,.int .i64 0,.int .i64 0,.int .i64 0,.int .i64 0,.int .i64 0,.int .i64 0,.int .i64 0,.int .i64 0,.int .i64 0,.int .i64 0,.int .i64 0,.int .i64 0,.int .i64 0,.int .i64 0,.int .i64 0,.int .i64 0,.int .i64 0,.int .i64 0,.int .i64 0,.int .i64 0,.int .i64 0,.int .i64 0,.int .i64 0,.int .i64 0,.int .i64 0,.int .i64 0,.int .i64 0,.int .i64 0,.int .i64 0,.int .i64 0,.int .i64 0,.int .i64 0,.int .i64 0,.int .i64 0,.int .i64 0]),
oS 40 3 4])
(sq (.reg [oM 5 0,
oD 6 (.indexArr 1 40 3 5),
oD 7 (.loadI .i64 6),
oM 2 7])
.ret)))
def Vy_:List RD:=[.tmp 2 true none]
theorem VR_:zl_ Tryz.prog Tryz.f196 uc_ Vy_=true:=by kernel_rfl
def QJ_:List AV->List Obj->Option (Prop × AV)
 | [.int .i64 n],[]=>some (0<=n/\n < 40,.int .i64 (Ja_.getD n.toNat 0))
 | _,_=>none
theorem k6_:zf_ Tryz.prog 196 (RoF QJ_).sum:=by
 refine zj_ Tryz.func196 VR_ (ze_ _) fun args objs p v e=>?_
 unfold QJ_ at e
 split at e
 ·rename_i n
  cases e
  refine ⟨rfl,fun hw _ hp=>?_⟩
  repeat'(intro t ht;first|(cases t<;>first|(cases ht;done)|(try simp only[zh_]at ht))|((first|refine zb_ ht ?_|refine ht ?_ ?_|refine ht.1 ?_ ?_|refine ht ?_)<;>clear ht))
  ·exact hp
  ·show 0+n.toNat*1 < 40;omega
  ·exact ⟨by simp [Ja_],rfl⟩
 ·cases e
theorem bU_:∀ k < 40,1<=Ja_.getD k 0/\Ja_.getD k 0<=128:=by decide
def KX_ (n:Int):Int:=if n=28\/n=34 then 4 else (Ja_.getD n.toNat 0+7) / 8
def V9_:IR:=
(sq (kr [0] [oD 2 (.mov (cI 0))])
(sq (sq (.reg [oM 3 0])
(.block 0
(sq (sq (.reg [oB 5 .eql 3 (cI 28),
oM 4 5])
(.cond 4
.skip
(.reg [oB 6 .eql 3 (cI 34),
oM 4 6])))
(.cond 4
(sq (kr [] [oD 2 (.mov (cI 4))])
.ret)
.skip))))
(sq (kr [0] [oM 7 0,
oC 8 196 [7],
oB 9 .add 8 (cI 8),
oB 10 .sub 9 (cI 1),
oB 11 .quo 10 (cI 8),
oM 2 11])
.ret)))
def Vv_:List RD:=[.tmp 2 true none]
theorem VO_:zl_ Tryz.prog Tryz.f197 V9_ Vv_=true:=by kernel_rfl
def kY_:List AV->List Obj->Option (Prop × AV)
 | [.int .i64 n],[]=>some (0<=n/\n < 40,.int .i64 (KX_ n))
 | _,_=>none
theorem JV_:zf_ Tryz.prog 197 (RoF kY_).sum:=by
 refine zj_ Tryz.func197 VO_ (za_ (s:=RoF QJ_) k6_ (ze_ _)) fun args objs p v e=>?_
 unfold kY_ at e
 split at e
 ·rename_i n
  cases e
  refine ⟨rfl,fun hw _ hp=>?_⟩
  repeat'(intro t ht;first|(cases t<;>first|(cases ht;done)|(try simp only[zh_]at ht))|((first|refine zb_ ht ?_|refine ht ?_ ?_|refine ht.1 ?_ ?_|refine ht ?_)<;>clear ht))
  all_goals have hb:=bU_ n.toNat (by omega)
  all_goals generalize hB:Ja_.getD n.toNat 0=B at*
  all_goals first
   | exact hp
   | exact (by decide)
   | (exfalso;(try simp only [zn_,zo_,zm_] at*);omega)
   | ((try simp only [zn_,zo_,zm_] at*);omega)
   | ((try simp only [zn_,zo_,zm_] at*);rw [ka_ (by omega)];omega)
   | (refine ⟨?_,rfl⟩;unfold KX_;rw [ka_ (by omega),hB,if_neg (by (try simp only [zn_,zo_,zm_] at*);omega)];congr 2;omega)
   | (refine ⟨?_,rfl⟩;unfold KX_;rw [if_pos (by (try simp only [zn_,zo_,zm_] at*);omega)])
 ·cases e
def U7_ (n:Int):Bool:=[2,3,4,6,11,12,37,38,39,22,23,24,25,26,27,28].contains n
def yM_:IR:=
(sq (kr [0] [oD 2 (.mov cF)])
(sq (sq (.reg [oM 3 0])
(.block 0
(sq (.block 2
(.block 1
(sq (sq (sq (sq (.reg [oB 5 .eql 3 (cI 2),
oM 4 5])
(.cond 4
.skip
(sq (.reg [oB 6 .eql 3 (cI 3),
oM 4 6])
(.cond 4
.skip
(sq (kr [3] [oB 7 .eql 3 (cI 4),
oM 4 7])
(.cond 4
.skip
(sq (.reg [oB 8 .eql 3 (cI 6),
oM 4 8])
(.cond 4
.skip
(sq (.reg [oB 9 .eql 3 (cI 11),
oM 4 9])
(.cond 4
.skip
(sq (kr [3] [oB 10 .eql 3 (cI 12),
oM 4 10])
(.cond 4
.skip
(sq (.reg [oB 11 .eql 3 (cI 37),
oM 4 11])
(.cond 4
.skip
(sq (.reg [oB 12 .eql 3 (cI 38),
oM 4 12])
(.cond 4
.skip
(kr [3] [oB 13 .eql 3 (cI 39),
oM 4 13])))))))))))))))))
(.cond 4
(.exit 1)
.skip))
(sq (sq (kr [3] [oB 15 .eql 3 (cI 22),
oM 14 15])
(.cond 14
.skip
(sq (.reg [oB 16 .eql 3 (cI 23),
oM 14 16])
(.cond 14
.skip
(sq (.reg [oB 17 .eql 3 (cI 24),
oM 14 17])
(.cond 14
.skip
(sq (kr [3] [oB 18 .eql 3 (cI 25),
oM 14 18])
(.cond 14
.skip
(sq (.reg [oB 19 .eql 3 (cI 26),
oM 14 19])
(.cond 14
.skip
(sq (.reg [oB 20 .eql 3 (cI 27),
oM 14 20])
(.cond 14
.skip
(kr [3] [oB 21 .eql 3 (cI 28),
oM 14 21])))))))))))))
(.cond 14
(.exit 2)
.skip)))
(.exit 0))))
(sq (sq (kr [] [oD 2 (.mov cT)])
.ret)
(.exit 0)))))
(sq (kr [] [oD 2 (.mov cF)])
.ret)))
def yu_:List RD:=[.tmp 2 true none]
theorem yD_:zl_ Tryz.prog Tryz.f198 yM_ yu_=true:=by kernel_rfl
def Kj_:List AV->List Obj->Option (Prop × AV)
 | [.int .i64 n],[]=>some (True,.bool (U7_ n))
 | _,_=>none
theorem xY_:zf_ Tryz.prog 198 (RoF Kj_).sum:=by
 refine zj_ Tryz.func198 yD_ (ze_ _) fun args objs p v e=>?_
 unfold Kj_ at e
 split at e
 ·rename_i n
  cases e
  refine ⟨rfl,fun hw _ hp=>?_⟩
  repeat'(intro t ht;first|(cases t<;>first|(cases ht;done)|(try simp only[zh_]at ht))|((first|refine zb_ ht ?_|refine ht ?_ ?_|refine ht.1 ?_ ?_|refine ht ?_)<;>clear ht))
  all_goals refine ⟨?_,rfl⟩
  all_goals (congr 1;simp_all [U7_];done)
 ·cases e
def bN_ (n:Int):Int × List Int:=
 if n=13\/n=14 then (10,[6]) else if n=15\/n=16 then (10,[17]) else if n=17\/n=18 then (10,[132]) else if n=19\/n=20 then (10,[1])
 else if n=29\/n=30 then (10,[58]) else if n=31 then (29,[135,136]) else if n=32 then (29,[135]) else if n=33 then (29,[136]) else (-1,[])
def ub_:IR:=
(sq (kr [0] [oD 2 (.mov (cI 0)),
oD 3 (.mov (.c (.imm (.int .u64) [])))])
(sq (sq (.reg [oM 4 0])
(.block 0
(sq (sq (.reg [oB 6 .eql 4 (cI 13),
oM 5 6])
(.cond 5
.skip
(.reg [oB 7 .eql 4 (cI 14),
oM 5 7])))
(.cond 5
(sq (kr [] [oD 8 (.sliceAll (.int .u64) 1 [(0,1,(.c (.int .u64 6)))]),
oD 2 (.mov (cI 10)),
oM 3 8])
.ret)
(sq (sq (kr [0,4] [oB 10 .eql 4 (cI 15),
oM 9 10])
(.cond 9
.skip
(.reg [oB 11 .eql 4 (cI 16),
oM 9 11])))
(.cond 9
(sq (.reg [oD 12 (.sliceAll (.int .u64) 1 [(0,1,(.c (.int .u64 17)))]),
oD 2 (.mov (cI 10)),
oM 3 12])
.ret)
(sq (sq (.reg [oB 14 .eql 4 (cI 17),
oM 13 14])
(.cond 13
.skip
(kr [0,4] [oB 15 .eql 4 (cI 18),
oM 13 15])))
(.cond 13
(sq (kr [] [oD 16 (.sliceAll (.int .u64) 1 [(0,1,(.c (.int .u64 132)))]),
oD 2 (.mov (cI 10)),
oM 3 16])
.ret)
(sq (sq (kr [0,4] [oB 18 .eql 4 (cI 19),
oM 17 18])
(.cond 17
.skip
(.reg [oB 19 .eql 4 (cI 20),
oM 17 19])))
(.cond 17
(sq (.reg [oD 20 (.sliceAll (.int .u64) 1 [(0,1,(.c (.int .u64 1)))]),
oD 2 (.mov (cI 10)),
oM 3 20])
.ret)
(sq (sq (.reg [oB 22 .eql 4 (cI 29),
oM 21 22])
(.cond 21
.skip
(kr [0,4] [oB 23 .eql 4 (cI 30),
oM 21 23])))
(.cond 21
(sq (kr [] [oD 24 (.sliceAll (.int .u64) 1 [(0,1,(.c (.int .u64 58)))]),
oD 2 (.mov (cI 10)),
oM 3 24])
.ret)
(sq (kr [0,4] [oB 26 .eql 4 (cI 31),
oM 25 26])
(.cond 25
(sq (.reg [oD 27 (.sliceAll (.int .u64) 2 [(0,1,(.c (.int .u64 135))),(1,1,(.c (.int .u64 136)))]),
oD 2 (.mov (cI 29)),
oM 3 27])
.ret)
(sq (sq (.reg [oB 29 .eql 4 (cI 32),
oM 28 29])
(.cond 28
.skip
(.reg [oB 30 .eql 4 (cI 33),
oM 28 30])))
(.cond 28
(sq (kr [0] [oM 31 0,
oD 32 (.conv .u64 31),
oB 33 .add 32 (.c (.int .u64 103)),
oD 34 (.sliceAll (.int .u64) 1 [(0,1,33)]),
oD 2 (.mov (cI 29)),
oM 3 34])
.ret)
.skip))))))))))))))))
(sq (kr [] [oD 2 (.mov (cI (-1))),
oD 3 (.mov (.c (.imm (.int .u64) [])))])
.ret)))
def Vx_:List RD:=[.tmp 2 true none,.tmp 3 true (some (.int .u64))]
theorem VQ_:zl_ Tryz.prog Tryz.f225 ub_ Vx_=true:=by kernel_rfl
def j1_:List AV->List Obj->Option (Prop × AV)
 | [.int .i64 n],[]=>some (True,.tup [.int .i64 (bN_ n).1,.imm (.int .u64) (bN_ n).2])
 | _,_=>none
theorem Yo_:zf_ Tryz.prog 225 (RoF j1_).sum:=by
 refine zj_ Tryz.func225 VQ_ (ze_ _) fun args objs p v e=>?_
 unfold j1_ at e
 split at e
 ·rename_i n
  cases e
  refine ⟨rfl,fun hw _ hp=>?_⟩
  repeat'(intro t ht;first|(cases t<;>first|(cases ht;done)|(try simp only[zh_]at ht))|((first|refine zb_ ht ?_|refine ht ?_ ?_|refine ht.1 ?_ ?_|refine ht ?_)<;>clear ht))
  all_goals first
   | (exfalso;(try simp only [zn_,zo_,zm_] at*);omega)
   | (refine ⟨?_,rfl⟩;simp_all [bN_];done)
   | ((try simp only [zn_,zo_,zm_] at*);omega)
   | ((try simp only [zn_,zo_,zm_] at*);subst_vars;exact ⟨rfl,rfl⟩)
   | ((try simp only [zn_,zo_,zm_] at*);have hn:n=32\/n=33:=by omega
      rcases hn with rfl | rfl<;>exact ⟨rfl,rfl⟩)
 ·cases e
def q3_ (n:Int):Int × List Int:=
 if n=1 then (0,[]) else if n=7 then (6,[]) else if n=8\/n=9\/n=10 then (5,[2048,34525]) else if n=11\/n=12 then (5,[2048])
 else if n=21\/n=22\/n=23\/n=24\/n=25 then (5,[2054]) else if n=26\/n=27\/n=28\/n=39 then (5,[34525])
 else if n=34\/n=35\/n=36 then (5,[34887,34888]) else if n=37 then (5,[35047]) else bN_ n
def ua_:IR:=
(sq (kr [0] [oD 2 (.mov (cI 0)),
oD 3 (.mov (.c (.imm (.int .u64) [])))])
(sq (sq (.reg [oM 4 0])
(.block 0
(sq (.reg [oB 6 .eql 4 (cI 1),
oM 5 6])
(.cond 5
(sq (.reg [oD 2 (.mov (cI 0)),
oD 3 (.mov (.c (.imm (.int .u64) [])))])
.ret)
(sq (.reg [oB 8 .eql 4 (cI 7),
oM 7 8])
(.cond 7
(sq (kr [] [oD 2 (.mov (cI 6)),
oD 3 (.mov (.c (.imm (.int .u64) [])))])
.ret)
(sq (sq (kr [0,4] [oB 10 .eql 4 (cI 8),
oM 9 10])
(.cond 9
.skip
(sq (.reg [oB 11 .eql 4 (cI 9),
oM 9 11])
(.cond 9
.skip
(.reg [oB 12 .eql 4 (cI 10),
oM 9 12])))))
(.cond 9
(sq (kr [] [oD 13 (.sliceAll (.int .u64) 2 [(0,1,(.c (.int .u64 2048))),(1,1,(.c (.int .u64 34525)))]),
oD 2 (.mov (cI 5)),
oM 3 13])
.ret)
(sq (sq (kr [0,4] [oB 15 .eql 4 (cI 11),
oM 14 15])
(.cond 14
.skip
(.reg [oB 16 .eql 4 (cI 12),
oM 14 16])))
(.cond 14
(sq (.reg [oD 17 (.sliceAll (.int .u64) 1 [(0,1,(.c (.int .u64 2048)))]),
oD 2 (.mov (cI 5)),
oM 3 17])
.ret)
(sq (sq (.reg [oB 19 .eql 4 (cI 21),
oM 18 19])
(.cond 18
.skip
(sq (kr [0,4] [oB 20 .eql 4 (cI 22),
oM 18 20])
(.cond 18
.skip
(sq (.reg [oB 21 .eql 4 (cI 23),
oM 18 21])
(.cond 18
.skip
(sq (.reg [oB 22 .eql 4 (cI 24),
oM 18 22])
(.cond 18
.skip
(kr [0,4] [oB 23 .eql 4 (cI 25),
oM 18 23])))))))))
(.cond 18
(sq (kr [] [oD 24 (.sliceAll (.int .u64) 1 [(0,1,(.c (.int .u64 2054)))]),
oD 2 (.mov (cI 5)),
oM 3 24])
.ret)
(sq (sq (kr [0,4] [oB 26 .eql 4 (cI 26),
oM 25 26])
(.cond 25
.skip
(sq (.reg [oB 27 .eql 4 (cI 27),
oM 25 27])
(.cond 25
.skip
(sq (.reg [oB 28 .eql 4 (cI 28),
oM 25 28])
(.cond 25
.skip
(kr [0,4] [oB 29 .eql 4 (cI 39),
oM 25 29])))))))
(.cond 25
(sq (kr [] [oD 30 (.sliceAll (.int .u64) 1 [(0,1,(.c (.int .u64 34525)))]),
oD 2 (.mov (cI 5)),
oM 3 30])
.ret)
(sq (sq (kr [0,4] [oB 32 .eql 4 (cI 34),
oM 31 32])
(.cond 31
.skip
(sq (.reg [oB 33 .eql 4 (cI 35),
oM 31 33])
(.cond 31
.skip
(.reg [oB 34 .eql 4 (cI 36),
oM 31 34])))))
(.cond 31
(sq (kr [] [oD 35 (.sliceAll (.int .u64) 2 [(0,1,(.c (.int .u64 34887))),(1,1,(.c (.int .u64 34888)))]),
oD 2 (.mov (cI 5)),
oM 3 35])
.ret)
(sq (kr [0,4] [oB 37 .eql 4 (cI 37),
oM 36 37])
(.cond 36
(sq (.reg [oD 38 (.sliceAll (.int .u64) 1 [(0,1,(.c (.int .u64 35047)))]),
oD 2 (.mov (cI 5)),
oM 3 38])
.ret)
.skip))))))))))))))))))
(sq (kr [0] [oM 39 0,
oC 40 225 [39],
oX 41 40 0,
oX 42 40 1,
oM 2 41,
oM 3 42])
.ret)))
def Vw_:List RD:=[.tmp 2 true none,.tmp 3 true (some (.int .u64))]
theorem VP_:zl_ Tryz.prog Tryz.f199 ua_ Vw_=true:=by kernel_rfl
def j0_:List AV->List Obj->Option (Prop × AV)
 | [.int .i64 n],[]=>some (True,.tup [.int .i64 (q3_ n).1,.imm (.int .u64) (q3_ n).2])
 | _,_=>none
theorem Yn_:zf_ Tryz.prog 199 (RoF j0_).sum:=by
 refine zj_ Tryz.func199 VP_ (za_ (s:=RoF j1_) Yo_ (ze_ _)) fun args objs p v e=>?_
 unfold j0_ at e
 split at e
 ·rename_i n
  cases e
  refine ⟨rfl,fun hw _ hp=>?_⟩
  repeat'(intro t ht;first|(cases t<;>first|(cases ht;done)|(try simp only[zh_]at ht))|((first|refine zb_ ht ?_|refine ht ?_ ?_|refine ht.1 ?_ ?_|refine ht ?_)<;>clear ht))
  all_goals first
   | trivial
   | (exfalso;(try simp only [zn_,zo_,zm_] at*);omega)
   | (refine ⟨?_,rfl⟩;simp_all [q3_];done)
   | ((try simp only [zn_,zo_,zm_] at*);subst_vars;exact ⟨rfl,rfl⟩)
 ·cases e
def U3_:List (List Int):=[[105,110,95,112,111,114,116],[105,110,95,112,104,121,95,112,111,114,116],[109,101,116,97,100,97,116,97],[101,116,104,95,100,115,116],[101,116,104,95,115,114,99],[101,116,104,95,116,121,112,101],[118,108,97,110,95,118,105,100],[118,108,97,110,95,112,99,112],[105,112,95,100,115,99,112],[105,112,95,101,99,110],[105,112,95,112,114,111,116,111],[105,112,118,52,95,115,114,99],[105,112,118,52,95,100,115,116],[116,99,112,95,115,114,99],[116,99,112,95,100,115,116],[117,100,112,95,115,114,99],[117,100,112,95,100,115,116],[115,99,116,112,95,115,114,99],[115,99,116,112,95,100,115,116],[105,99,109,112,118,52,95,116,121,112,101],[105,99,109,112,118,52,95,99,111,100,101],[97,114,112,95,111,112],[97,114,112,95,115,112,97],[97,114,112,95,116,112,97],[97,114,112,95,115,104,97],[97,114,112,95,116,104,97],[105,112,118,54,95,115,114,99],[105,112,118,54,95,100,115,116],[105,112,118,54,95,102,108,97,98,101,108],[105,99,109,112,118,54,95,116,121,112,101],[105,99,109,112,118,54,95,99,111,100,101],[105,112,118,54,95,110,100,95,116,97,114,103,101,116],[105,112,118,54,95,110,100,95,115,108,108],[105,112,118,54,95,110,100,95,116,108,108],[109,112,108,115,95,108,97,98,101,108],[109,112,108,115,95,116,99],[109,112,108,115,95,98,111,115],[112,98,98,95,105,115,105,100],[116,117,110,110,101,108,95,105,100],[105,112,118,54,95,101,120,116,104,100,114]]
def XW_ (n:Int):Bool:=decide (2 < n) && decide (n < 39)
def xv_:IR:=
(sq (kr [0] [oD 2 (.mov cF)])
(sq (kr [0] [oM 3 0,
oC 4 195 [3],
oM 5 4,
oT 5 6 (.mov 0),
oT 5 7 (.bin .gtr 6 (cI 2)),
oP 8 5 7 cF,
oM 9 8,
oT 9 10 (.mov 0),
oT 9 11 (.bin .neq 10 (cI 39)),
oP 12 9 11 cF,
oM 2 12])
.ret))
def xf_:List RD:=[.tmp 2 true none]
theorem xn_:zl_ Tryz.prog Tryz.f228 xv_ xf_=true:=by kernel_rfl
def qM_:List AV->List Obj->Option (Prop × AV)
 | [.int .i64 n],[]=>some ((True,.bool (XW_ n)))
 | _,_=>none
theorem k7_:zf_ Tryz.prog 228 (RoF qM_).sum:=by
 refine zj_ Tryz.func228 xn_ (za_ (s:=RoF Kk_) jg_ (ze_ _)) fun args objs p v e=>?_
 unfold qM_ at e
 split at e
 ·rename_i n
  cases e
  refine ⟨rfl,fun hw ho hp=>?_⟩
  repeat'(intro t ht;first|(cases t<;>first|(cases ht;done)|(try simp only[zh_]at ht))|((first|refine zb_ ht ?_|refine ht ?_ ?_|refine ht.1 ?_ ?_|refine ht ?_)<;>clear ht))
  all_goals first
   | trivial
   | (refine ⟨?_,rfl⟩;unfold XW_;congr 1;rw [Bool.eq_iff_iff];first | (have h:=kq_.1 (by assumption);simp at*;omega) | (have h:=ws_.1 (by assumption);simp at*;omega) | (simp at*;omega))
 ·cases e
def X7_ (n:Int):Int:=if fIs n then Ja_.getD n.toNat 0 else 0
def wr_ (n:Int):Int:=if fIs n then KX_ n else 0
def zbh_ (n:Int):Bool:=if fIs n then U7_ n else false
def zbg_ (n:Int):Int:=if fIs n then (q3_ n).1 else 0
def zbf_ (n:Int):List Int:=if fIs n then (q3_ n).2 else []
abbrev ofF (n:Int):AV:=.tup [.agg [.int .i64 (X7_ n),.int .i64 (wr_ n),.bool (zbh_ n),.int .i64 (zbg_ n),.imm (.int .u64) (zbf_ n)],.bool (fIs n)]
def hh_:IR:=
(sq (kr [0] [oD 2 (.box [.int .i64 0,.int .i64 0,.kb false,.int .i64 0,.imm (.int .u64) []]),
oD 3 (.mov cF)])
(sq (sq (.reg [oM 5 0,
oC 6 195 [5],
oD 7 (.un .not 6)])
(.cond 7
(sq (.reg [oD 8 (.build [.int .i64 0,.int .i64 0,.kb false,.int .i64 0,.imm (.int .u64) []] []),
oS 5 2 8,
oD 3 (.mov cF)])
.ret)
.skip))
(sq (kr [0,2] [oM 9 0,
oC 10 196 [9],
oM 11 0,
oC 12 197 [11],
oM 13 0,
oC 14 198 [13],
oD 15 (.build [.int .i64 0,.int .i64 0,.kb false,.int .i64 0,.imm (.int .u64) []] [(0,1,10),(1,1,12),(2,1,14)]),
oD 4 (.box [.int .i64 0,.int .i64 0,.kb false,.int .i64 0,.imm (.int .u64) []]),
oS 5 4 15])
(sq (kr [0,2,4] [oM 17 0,
oC 18 199 [17],
oM 16 18,
oX 19 16 0,
oX 20 16 1,
oA 21 3 4,
oS 1 21 19,
oA 22 4 4,
oS 1 22 20])
(sq (kr [2,4] [oK 23 5 4,
oS 5 2 23,
oD 3 (.mov cT)])
.ret)))))
def Gu_:List RD:=[.cell 2 (some 5) true [],.tmp 3 true none]
theorem GO_:zl_ Tryz.prog Tryz.f167 hh_ Gu_=true:=by kernel_rfl
def WW_:List AV->List Obj->Option (Prop × AV)
 | [.int .i64 n],[]=>some ((True,ofF n))
 | _,_=>none
theorem Um_:zf_ Tryz.prog 167 (RoF WW_).sum:=by
 refine zj_ Tryz.func167 GO_ (za_ (s:=RoF Kk_) jg_ (za_ (s:=RoF QJ_) k6_ (za_ (s:=RoF kY_) JV_ (za_ (s:=RoF Kj_) xY_ (za_ (s:=RoF j0_) Yn_ (ze_ _)))))) fun args objs p v e=>?_
 unfold WW_ at e
 split at e
 ·rename_i n
  cases e
  refine ⟨rfl,fun hw ho hp=>?_⟩
  repeat'(intro t ht;first|(cases t<;>first|(cases ht;done)|(try simp only[zh_]at ht))|((first|refine zb_ ht ?_|refine ht ?_ ?_|refine ht.1 ?_ ?_|refine ht ?_)<;>clear ht))
  all_goals try (try simp only [zn_,zo_,zm_] at*)
  all_goals first
   | exact kq_.1 (by assumption)
   | (simp_all [ofF,X7_,wr_,zbh_,zbg_,zbf_];done)
 ·cases e
def idxF:List (List Int)->List Int->Nat->Int
 | [],_,_=>-1
 | a :: r,s,k=>if s=a then k else idxF r s (k+1)
def zc4_ (s:List Int):Int:=if 0 > idxF U3_ s 0 then 0 else idxF U3_ s 0
def zc5_ (s:List Int):Bool:=decide (0<=idxF U3_ s 0)
def qc_ (s:Int):List Int->Bool
 | []=>true
 | b :: r=>if b.fdiv (2 ^ (min (8 - (if 8 < s then 8 else s)).toNat 8))=0 then qc_ (s - (if 8 < s then 8 else s)) r else false
theorem XT_ {s:Int} {v:List Int} {i:Nat} (h:i < v.length):qc_ s (v.drop i)=if (v.getD i 0).fdiv (2 ^ (min (8 - (if 8 < s then 8 else s)).toNat 8))=0 then qc_ (s - (if 8 < s then 8 else s)) (v.drop (i+1)) else false:=by
 rw [List.drop_eq_getElem_cons h,List.getD_eq_getElem?_getD,List.getElem?_eq_getElem h]
 rfl
theorem h2_ {s:Int} {v:List Int} {i:Nat} (h:v.length<=i):qc_ s (v.drop i)=true:=by
 rw [List.drop_of_length_le h];rfl
def Wo_ (n:Int) (v:List Int):Bool:=if (0<=n/\n < 40)/\(v.length:Int)=KX_ n then qc_ (8*KX_ n - Ja_.getD n.toNat 0) v else false
theorem bn_:∀ k < 40,1<=KX_ (k:Nat)/\KX_ (k:Nat)<=16/\0<=8*KX_ (k:Nat) - Ja_.getD k 0/\8*KX_ (k:Nat) - Ja_.getD k 0<=12:=by decide
def ud_:IR:=
(sq (kr [0,1] [oD 4 (.mov cF)])
(sq (sq (kr [0,1] [oM 9 0,
oC 10 195 [9],
oD 11 (.un .not 10),
oM 12 11,
oF 12 13 (.mov 1),
oF 12 14 (.len 13),
oF 12 15 (.mov 0),
oF 12 16 (.call false (.f 197) [15]),
oF 12 17 (.bin .neq 14 16),
oP 18 12 cT 17])
(.cond 18
(sq (kr [] [oD 4 (.mov cF)])
.ret)
.skip))
(sq (kr [0,1] [oM 19 0,
oC 20 197 [19],
oB 21 .mul (cI 8) 20,
oM 22 0,
oC 23 196 [22],
oB 24 .sub 21 23,
oM 5 24])
(sq (sq (kr [1,5] [oM 25 1,
oE 26 25,
oD 27 (.mov (cI 0))])
(.block 0
(.loop
(sq (kr [5,25,26,27] [oB 28 .lss 27 26])
(sq (.cond 28
.skip
(.exit 0))
(sq (.block 1
(sq (.reg [oI 29 1 25 27,
oL 30 29,
oM 7 30])
(sq (.reg [oM 31 5,
oD 32 (.minmax false 31 (cI 8)),
oM 8 32])
(sq (sq (kr [5,7,8,25,26,27] [oM 33 7,
oM 34 8,
oB 35 .sub (cI 8) 34,
oB 36 .shr 33 35,
oB 37 .neq 36 (.c (.int .u8 0))])
(.cond 37
(sq (.reg [oD 4 (.mov cF)])
.ret)
.skip))
(kr [5,8,25,26,27] [oM 38 5,
oM 39 8,
oB 40 .sub 38 39,
oM 5 40])))))
(kr [5,25,26,27] [oB 41 .add 27 (cI 1),
oM 27 41])))))))
(sq (kr [] [oD 4 (.mov cT)])
.ret)))))
def Vz_:List RD:=[.tmp 4 true none]
theorem VS_:zl_ Tryz.prog Tryz.f168 ud_ Vz_=true:=by kernel_rfl
def j2_:List AV->List Obj->Option (Prop × AV)
 | [.int .i64 n,.imm (.int .u8) v],[]=>some (True,.bool (Wo_ n v))
 | _,_=>none
theorem Yp_:zf_ Tryz.prog 168 (RoF j2_).sum:=by
 refine zj_ Tryz.func168 VS_ (za_ (s:=RoF Kk_) jg_ (za_ (s:=RoF kY_) JV_ (za_ (s:=RoF QJ_) k6_ (ze_ _)))) fun args objs p v e=>?_
 unfold j2_ at e
 split at e
 ·rename_i n v
  cases e
  refine ⟨rfl,fun hw _ hp=>?_⟩
  have hl:v.length<=maxLen:=(hw (.imm (.int .u8) v) (by simp)).2
  unfold maxLen at hl
  repeat'(intro t ht;first|(cases t<;>first|(cases ht;done)|(try simp only[zh_]at ht))|((first|refine zb_ ht ?_|refine ht ?_ ?_|refine ht.1 ?_ ?_|refine ht ?_)<;>clear ht))
  all_goals first
   | trivial
   | (intro r h1 h2;(try simp only [kq_,ws_,zn_,zo_,zm_] at*)
      have hsz:=bn_ n.toNat (by omega)
      rw [Int.toNat_of_nonneg (by omega)] at hsz
      refine h2 ⟨[],[25,26,27,5],Nat × Int,(fun p=>p.1<=v.length/\0<=p.2/\p.2<=12/\qc_ (8*KX_ n - Ja_.getD n.toNat 0) v=qc_ p.2 (v.drop p.1)),
       fun a=>[.imm (.int .u8) v,.int .i64 v.length,.int .i64 a.1,.int .i64 a.2],fun _=>[],fun a=>v.length - a.1,⟨(0,8*KX_ n - Ja_.getD n.toNat 0),⟨Nat.zero_le _,hsz.2.2.1,hsz.2.2.2,rfl⟩,rfl,rfl⟩,?_⟩
      clear h1 h2)
   | ((try simp only [kq_,ws_,zn_,zo_,zm_] at*);omega)
   | ((try simp only [kq_,ws_,zn_,zo_,zm_] at*);have hsz:=bn_ n.toNat (by omega)
      rw [Int.toNat_of_nonneg (by omega)] at hsz
      have hb:=bU_ n.toNat (by omega)
      omega)
   | (refine ⟨?_,rfl⟩;(try simp only [kq_,ws_,zn_,zo_,zm_] at*);unfold Wo_;rw [if_neg (by omega)])
  rintro ⟨i,s⟩ ⟨hi,hs0,hs1,he⟩
  dsimp only at hi hs0 hs1 he
  repeat'(intro t ht;first|(cases t<;>first|(cases ht;done)|(try simp only[zh_]at ht))|((first|refine zb_ ht ?_|refine ht ?_ ?_|refine ht.1 ?_ ?_|refine ht ?_)<;>clear ht))
  all_goals have hk:0<=(if (8:Int) < s then 8 else s)/\(if (8:Int) < s then 8 else s)<=8/\(if (8:Int) < s then 8 else s)<=s:=by split<;>omega
  all_goals have hv:(0<=n/\n < 40)/\(v.length:Int)=KX_ n:=⟨by omega,by omega⟩
  all_goals first
   | (refine ⟨?_,rfl⟩;unfold Wo_;rw [if_pos hv,he];(try simp only [kq_,ws_,zn_,zo_,zm_] at*);rw [h2_ (by omega)];done)
   | (refine ⟨?_,rfl⟩;unfold Wo_;rw [if_pos hv,he];(try simp only [kq_,ws_,zn_,zo_,zm_] at*);rw [XT_ (by omega),if_neg (by assumption)];done)
   | ((try simp only [kq_,ws_,zn_,zo_,zm_] at*);omega)
   | ((try simp only [kq_,ws_,zn_,zo_,zm_] at*);generalize (if (8:Int) < s then 8 else s)=k at*;omega)
   | (have hlt:i < v.length:=by ((try simp only [kq_,ws_,zn_,zo_,zm_] at*);omega)
      refine ⟨(i+1,s - (if (8:Int) < s then 8 else s)),⟨hlt,by dsimp only;omega,by dsimp only;omega,by (try simp only [kq_,ws_,zn_,zo_,zm_] at*);rw [he,XT_ hlt,if_pos (by assumption)]⟩,by dsimp only;omega,rfl,rfl⟩)
 ·cases e
def Wv_ (v:List Int) (z:Int):Nat->Int->Bool
 | 0,_=>true
 | f+1,i=>if Qk_ .and .u8 ((v.getD (z - 1 - i.tdiv 8).toNat 0).fdiv (2 ^ (min (i.tmod 8).toNat 8))) 1=1 then false else Wv_ v z f (i+1)
theorem zai_ {v:List Int} {z i:Int} {f:Nat} (h:Qk_ .and .u8 ((v.getD (z - 1 - i.tdiv 8).toNat 0).fdiv (2 ^ (min (i.tmod 8).toNat 8))) 1=1):Wv_ v z (f+1) i=false:=if_pos h
theorem zaj_ {v:List Int} {z i:Int} {f:Nat} (h:¬ Qk_ .and .u8 ((v.getD (z - 1 - i.tdiv 8).toNat 0).fdiv (2 ^ (min (i.tmod 8).toNat 8))) 1=1):Wv_ v z (f+1) i=Wv_ v z f (i+1):=if_neg h
def zdG_ (n:Int):List Int:=if 0<=n/\n < 40 then (if (q3_ n).1=-1 then [] else if (q3_ (q3_ n).1).1=-1 then [(q3_ n).1] else if (q3_ (q3_ (q3_ n).1).1).1=-1 then [(q3_ (q3_ n).1).1,(q3_ n).1] else [(q3_ (q3_ (q3_ n).1).1).1,(q3_ (q3_ n).1).1,(q3_ n).1]) else []
theorem c1:zdG_ 31=[5,10,29]:=by decide
theorem c2:zc4_ [105,112,118,54,95,110,100,95,116,108,108]=33/\zc5_ [105,112,118,54,95,110,100,95,116,108,108]=true:=by
 have h:idxF U3_ [105,112,118,54,95,110,100,95,116,108,108] 0=33:=by decide+kernel
 unfold zc4_ zc5_;rw [h];exact ⟨rfl,rfl⟩
theorem c3:fIs 33=true/\zbg_ 33=29/\zbf_ 33=[136]:=by decide
theorem c4:Wo_ 7 [8]=false:=by decide
theorem B7_:∀ v:List Int,(∀ b ∈ v,0<=b/\b<=255)->qc_ 0 v=true
 | [],_=>rfl
 | b :: r,h=>by
   unfold qc_
   have hb:=h b (by simp)
   rw [if_pos (by show b.fdiv (2 ^ 8)=0;rw [Int.fdiv_eq_ediv_of_nonneg _ (by decide)];omega)]
   exact B7_ r fun x hx=>h x (by simp [hx])
theorem Gf_ (v:List Int) (z:Int):∀ (f g:Nat) (i:Int),Wv_ v z (f+g) i=(Wv_ v z f i && Wv_ v z g (i+f))
 | 0,g,i=>by simp [Wv_]
 | f+1,g,i=>by
   rw [show f+1+g=(f+g)+1 by omega]
   by_cases h:Qk_ .and .u8 ((v.getD (z - 1 - i.tdiv 8).toNat 0).fdiv (2 ^ (min (i.tmod 8).toNat 8))) 1=1
   ·rw [zai_ h,zai_ h];rfl
   ·rw [zaj_ h,zaj_ h,Gf_ v z f g (i+1),show i+1+(f:Int)=i+((f+1:Nat):Int) by omega]
theorem zbT_:∀ s ≤ 8,∀ b < 256,qc_ (s:Nat) [((b:Nat):Int)]=Wv_ [((b:Nat):Int)] 1 s ((8:Int) - (s:Nat)):=by decide+kernel
theorem bl_ {s:Nat} {b:Int} (hs:s<=8) (h:0<=b/\b<=255):qc_ s [b]=Wv_ [b] 1 s (8 - s):=by
 have:=zbT_ s hs b.toNat (by omega)
 rw [Int.toNat_of_nonneg h.1] at this;exact this
theorem b9_ {s:Int} {b:Int} {r:List Int} (h:s<=8) (hr:∀ x ∈ r,0<=x/\x<=255):qc_ s (b :: r)=qc_ s [b]:=by
 unfold qc_
 rw [if_neg (by omega:¬ 8 < s),Int.sub_self,B7_ r hr]
 rfl
theorem two {b0 b1 b2 b3:Int} {v:List Int} (e:v=[b0,b1,b2,b3]) (hv:∀ b ∈ v,0<=b/\b<=255):qc_ 12 v=Wv_ v 4 12 20:=by
 subst e
 have h0:=bl_ (s:=8) (Nat.le_refl _) (hv b0 (by simp))
 have h1:=bl_ (s:=4) (by omega) (hv b1 (by simp))
 have hr:=Gf_ [b0,b1,b2,b3] 4 4 8 20
 have e1:Wv_ [b0,b1,b2,b3] 4 4 20=Wv_ [b1] 1 4 (8 - (4:Nat)):=rfl
 have e2:Wv_ [b0,b1,b2,b3] 4 8 (20+(4:Nat))=Wv_ [b0] 1 8 (8 - (8:Nat)):=rfl
 have hc:qc_ 4 (b1 :: [b2,b3])=qc_ 4 [b1]:=b9_ (by omega) fun x hx=>hv x (by simp at hx ⊢;omega)
 rw [show (12:Nat)=4+8 from rfl,hr,e1,e2,<- h0,<- h1]
 show (if b0.fdiv (2 ^ (min (8 - (8:Int)).toNat 8))=0 then qc_ 4 [b1,b2,b3] else false)=(qc_ 4 [b1] && (if b0.fdiv (2 ^ (min (8 - (8:Int)).toNat 8))=0 then true else false))
 rw [hc]
 split<;>simp
structure Ox where
 c:Int
 f:Int
 has:Bool
 x:Int
 v:List Int
 m:List Int
def gk_:IR:=
(sq (kr [0] [oD 2 (.mov cF)])
(sq (kr [0] [oM 3 0,
oC 4 192 [3,(.c (.str [0]))],
oE 5 4,
oB 6 .eql 5 (cI 0),
oM 2 6])
.ret))
def UC_:List RD:=[.tmp 2 true none]
theorem UT_:zl_ Tryz.prog Tryz.f169 gk_ UC_=true:=by kernel_rfl
def wL_:List AV->List Obj->Option (Prop × AV)
 | [.imm (.int .u8) b],[]=>some ((b.length<=140737488355328,.bool (Z6_ b)))
 | _,_=>none
theorem Ve_:zf_ Tryz.prog 169 (RoF wL_).sum:=by
 refine zj_ Tryz.func169 UT_ (za_ (s:=RoF kZ_) JW_ (ze_ _)) fun args objs p v e=>?_
 unfold wL_ at e
 split at e
 ·rename_i b
  cases e
  refine ⟨rfl,fun hw ho hp=>?_⟩
  change List Int at b
  have h:=us_ b
  repeat'(intro t ht;first|(cases t<;>first|(cases ht;done)|(try simp only[zh_]at ht))|((first|refine zb_ ht ?_|refine ht ?_ ?_|refine ht.1 ?_ ?_|refine ht ?_)<;>clear ht))
  all_goals first
   | exact hp
   | (refine ⟨?_,rfl⟩;rw [<- h];congr 1;rw [Bool.eq_iff_iff];simp only [decide_eq_true_eq];omega)
 ·cases e
def ownA (s:Int):Int:=if 0 < s then (255:Int).fdiv (2 ^ (min (if 8 < s then 8 else s).toNat 8)) else 255
def xl_:List Int->Int->Bool
 | [],_=>true
 | x :: r,s=>if x=ownA s then xl_ r (s - 8) else false
def bu_ (b:List Int) (bits:Int):Bool:=xl_ b (b.length*8 - bits)
def hb_:IR:=
(sq (kr [0,1] [oD 4 (.mov cF)])
(sq (.reg [oM 10 0,
oE 11 10,
oB 12 .mul 11 (cI 8),
oM 5 12])
(sq (sq (.reg [oM 13 0,
oE 14 13,
oD 15 (.mov (cI 0))])
(.block 0
(.loop
(sq (kr [1,5,13,14,15] [oB 16 .lss 15 14])
(sq (.cond 16
.skip
(.exit 0))
(sq (.block 1
(sq (kr [1,5,13,14,15] [oM 17 15,
oI 18 1 13 15,
oL 19 18,
oM 6 17,
oM 7 19])
(sq (.reg [oD 8 (.mov (.c (.int .u8 255)))])
(sq (sq (kr [1,5,6,7,8,13,14,15] [oM 20 5,
oM 21 6,
oB 22 .mul 21 (cI 8),
oB 23 .sub 20 22,
oM 24 1,
oB 25 .sub 23 24,
oM 9 25])
(sq (kr [1,5,7,8,9,13,14,15] [oM 26 9,
oB 27 .gtr 26 (cI 0)])
(.cond 27
(kr [1,5,7,8,9,13,14,15] [oM 28 8,
oM 29 9,
oD 30 (.minmax false 29 (cI 8)),
oB 31 .shr 28 30,
oM 8 31])
.skip)))
(sq (.reg [oM 32 7,
oM 33 8,
oB 34 .neq 32 33])
(.cond 34
(sq (kr [] [oD 4 (.mov cF)])
.ret)
.skip))))))
(kr [1,5,13,14,15] [oB 35 .add 15 (cI 1),
oM 15 35])))))))
(sq (kr [] [oD 4 (.mov cT)])
.ret))))
def Go_:List RD:=[.tmp 4 true none]
theorem GI_:zl_ Tryz.prog Tryz.f170 hb_ Go_=true:=by kernel_rfl
def WT_:List AV->List Obj->Option (Prop × AV)
 | [.imm (.int .u8) b,.int .i64 n],[]=>some ((0<=n/\n<=1000000/\b.length<=1000000,.bool (bu_ b n)))
 | _,_=>none
theorem Uj_:zf_ Tryz.prog 170 (RoF WT_).sum:=by
 refine zj_ Tryz.func170 GI_ (ze_ _) fun args objs p v e=>?_
 unfold WT_ at e
 split at e
 ·rename_i b n
  cases e
  refine ⟨rfl,fun hw ho hp=>?_⟩
  change List Int at b
  repeat'(intro t ht;first|(cases t<;>first|(cases ht;done)|(try simp only[zh_]at ht))|((first|refine zb_ ht ?_|refine ht ?_ ?_|refine ht.1 ?_ ?_|refine ht ?_)<;>clear ht))
  all_goals first
   | ((try simp only [zn_,zo_,zm_] at*);omega)
   | (intro r h1 h2;clear h1;refine h2 ⟨[],[1,5,13,14,15],Nat,(fun i=>i<=b.length/\bu_ b n=xl_ (b.drop i) (b.length*8 - i*8 - n)),fun i=>[.int .i64 n,.int .i64 (b.length*8),.imm (.int .u8) b,.int .i64 b.length,.int .i64 i],fun _=>[],fun i=>b.length - i,⟨0,⟨Nat.zero_le _,by unfold bu_;simp⟩,rfl,rfl⟩,?_⟩;clear h2)
  rintro i ⟨hi,he⟩
  repeat'(intro t ht;first|(cases t<;>first|(cases ht;done)|(try simp only[zh_]at ht))|((first|refine zb_ ht ?_|refine ht ?_ ?_|refine ht.1 ?_ ?_|refine ht ?_)<;>clear ht))
  all_goals first
   | ((try simp only [zn_,zo_,zm_] at*);omega)
   | (have h0:b.drop i=[]:=List.drop_of_length_le (by omega)
      refine ⟨?_,rfl⟩;rw [he,h0];rfl)
   | ((try simp only [zn_,zo_,zm_] at*);split<;>omega)
   | (have hlt:i < b.length:=by omega
      rw [zX_ hlt 0] at he
      first
       | (have hn:¬ 0 < (b.length:Int)*8 - i*8 - n:=by assumption
          have ho:ownA ((b.length:Int)*8 - i*8 - n)=255:=if_neg hn
          first
           | (have hx:b.getD i 0=255:=by assumption
              have h1:xl_ (b.getD i 0 :: b.drop (i+1)) ((b.length:Int)*8 - i*8 - n)=xl_ (b.drop (i+1)) ((b.length:Int)*8 - i*8 - n - 8):=if_pos (hx.trans ho.symm)
              refine ⟨i+1,⟨hlt,?_⟩,by dsimp only;omega,rfl,rfl⟩
              rw [he,h1];congr 1;omega)
           | (have hx:¬ b.getD i 0=255:=by assumption
              have h1:xl_ (b.getD i 0 :: b.drop (i+1)) ((b.length:Int)*8 - i*8 - n)=false:=if_neg (fun e=>hx (e.trans ho))
              refine ⟨?_,rfl⟩;rw [he,h1]))
       | (have hn:0 < (b.length:Int)*8 - i*8 - n:=by assumption
          have ho:ownA ((b.length:Int)*8 - i*8 - n)=(255:Int).fdiv (2 ^ (min (if 8 < (b.length:Int)*8 - i*8 - n then 8 else (b.length:Int)*8 - i*8 - n).toNat 8)):=if_pos hn
          first
           | (have hx:b.getD i 0=(255:Int).fdiv (2 ^ (min (if 8 < (b.length:Int)*8 - i*8 - n then 8 else (b.length:Int)*8 - i*8 - n).toNat 8)):=by assumption
              have h1:xl_ (b.getD i 0 :: b.drop (i+1)) ((b.length:Int)*8 - i*8 - n)=xl_ (b.drop (i+1)) ((b.length:Int)*8 - i*8 - n - 8):=if_pos (hx.trans ho.symm)
              refine ⟨i+1,⟨hlt,?_⟩,by dsimp only;omega,rfl,rfl⟩
              rw [he,h1];congr 1;omega)
           | (have hx:¬ b.getD i 0=(255:Int).fdiv (2 ^ (min (if 8 < (b.length:Int)*8 - i*8 - n then 8 else (b.length:Int)*8 - i*8 - n).toNat 8)):=by assumption
              have h1:xl_ (b.getD i 0 :: b.drop (i+1)) ((b.length:Int)*8 - i*8 - n)=false:=if_neg (fun e=>hx (e.trans ho))
              refine ⟨?_,rfl⟩;rw [he,h1])))
 ·cases e
def Gy_:List Int->List Int->Bool
 | x :: r,y :: l=>if Qk_ .andNot .u8 x y=0 then Gy_ r l else true
 | _,_=>false
def vg_:IR:=
(sq (kr [0,1] [oD 4 (.mov cF)])
(sq (sq (.reg [oM 7 0,
oE 8 7,
oD 9 (.mov (cI 0))])
(.block 0
(.loop
(sq (kr [1,7,8,9] [oB 10 .lss 9 8])
(sq (.cond 10
.skip
(.exit 0))
(sq (.block 1
(sq (kr [1,7,8,9] [oM 11 9,
oI 12 1 7 9,
oL 13 12,
oM 5 11,
oM 6 13])
(sq (kr [1,5,6,7,8,9] [oM 14 6,
oM 15 1,
oM 16 5,
oI 17 1 15 16,
oL 18 17,
oB 19 .andNot 14 18,
oB 20 .neq 19 (.c (.int .u8 0))])
(.cond 20
(sq (kr [] [oD 4 (.mov cT)])
.ret)
.skip))))
(kr [1,7,8,9] [oB 21 .add 9 (cI 1),
oM 9 21])))))))
(sq (kr [] [oD 4 (.mov cF)])
.ret)))
def Yx_:List RD:=[.tmp 4 true none]
theorem YS_:zl_ Tryz.prog Tryz.f171 vg_ Yx_=true:=by kernel_rfl
def KF_:List AV->List Obj->Option (Prop × AV)
 | [.imm (.int .u8) v,.imm (.int .u8) m],[]=>some ((v.length<=m.length,.bool (Gy_ v m)))
 | _,_=>none
theorem yi_:zf_ Tryz.prog 171 (RoF KF_).sum:=by
 refine zj_ Tryz.func171 YS_ (ze_ _) fun args objs p v e=>?_
 unfold KF_ at e
 split at e
 ·rename_i v m
  cases e
  refine ⟨rfl,fun hw ho hp=>?_⟩
  change List Int at v
  change List Int at m
  have hl:m.length<=maxLen:=(hw (.imm (.int .u8) m) (by simp)).2
  unfold maxLen at hl
  repeat'(intro t ht;first|(cases t<;>first|(cases ht;done)|(try simp only[zh_]at ht))|((first|refine zb_ ht ?_|refine ht ?_ ?_|refine ht.1 ?_ ?_|refine ht ?_)<;>clear ht))
  all_goals first
   | (intro r h1 h2;clear h1;refine h2 ⟨[],[1,7,8,9],Nat,(fun i=>i<=v.length/\Gy_ v m=Gy_ (v.drop i) (m.drop i)),fun i=>[.imm (.int .u8) m,.imm (.int .u8) v,.int .i64 v.length,.int .i64 i],fun _=>[],fun i=>v.length - i,⟨0,⟨Nat.zero_le _,rfl⟩,rfl,rfl⟩,?_⟩;clear h2)
  rintro i ⟨hi,he⟩
  repeat'(intro t ht;first|(cases t<;>first|(cases ht;done)|(try simp only[zh_]at ht))|((first|refine zb_ ht ?_|refine ht ?_ ?_|refine ht.1 ?_ ?_|refine ht ?_)<;>clear ht))
  all_goals first
   | ((try simp only [zn_,zo_,zm_] at*);omega)
   | (have h0:v.drop i=[]:=List.drop_of_length_le (by omega)
      refine ⟨?_,rfl⟩;rw [he,h0];rfl)
   | (have hlt:i < v.length:=by omega
      have hlm:i < m.length:=by omega
      rw [zX_ hlt 0,zX_ hlm 0] at he
      first
       | (have hx:Qk_ .andNot .u8 (v.getD i 0) (m.getD i 0)=0:=by assumption
          have h1:Gy_ (v.getD i 0 :: v.drop (i+1)) (m.getD i 0 :: m.drop (i+1))=Gy_ (v.drop (i+1)) (m.drop (i+1)):=if_pos hx
          exact ⟨i+1,⟨hlt,by rw [he,h1]⟩,by dsimp only;omega,rfl,rfl⟩)
       | (have hx:¬ Qk_ .andNot .u8 (v.getD i 0) (m.getD i 0)=0:=by assumption
          have h1:Gy_ (v.getD i 0 :: v.drop (i+1)) (m.getD i 0 :: m.drop (i+1))=true:=if_neg hx
          refine ⟨?_,rfl⟩;rw [he,h1]))
 ·cases e
def KC_ (c f:Int):Bool:=if c=65535 then decide (0<=f) && decide (f<=127) else fIs f && decide (c=32768)
def qw_ (c f:Int):Int:=if c=65535 then 100 else wr_ f
def Qy_ (c f:Int):Int:=if c=65535 then 0 else X7_ f
def qx_ (c f:Int):Bool:=if c=65535 then true else zbh_ f
def Zl_ (c:Int):Bool:=decide (c=65535)
theorem fK:∀ k < 40,0<=wr_ (k:Nat)/\wr_ (k:Nat)<=16/\0<=X7_ (k:Nat)/\X7_ (k:Nat)<=128:=by decide+kernel
theorem f_le (f:Int):0<=wr_ f/\wr_ f<=16/\0<=X7_ f/\X7_ f<=128:=by
 cases h:fIs f with
 | true=>
   have hn:=kq_.1 h
   have:=fK f.toNat (by omega)
   rwa [Int.toNat_of_nonneg hn.1] at this
 | false=>unfold wr_ X7_;rw [h];simp
theorem uD_ (c f:Int):0<=qw_ c f/\qw_ c f<=100/\0<=Qy_ c f/\Qy_ c f<=128:=by
 have:=f_le f
 unfold qw_ Qy_;split<;>omega
def Bw_:IR:=
(sq (kr [0] [oD 1 (.boxv 0),
oD 2 (.box [.int .i64 0,.int .i64 0,.kb false,.kb false]),
oD 3 (.mov cF)])
(sq (sq (.reg [oA 6 0 1,
oL 7 6,
oB 8 .eql 7 (cI 65535)])
(.cond 8
(sq (kd [1,2] [(oD 9 (.build [.int .i64 0,.int .i64 0,.kb false,.kb false] [(0,1,(cI 100)),(2,1,cT),(3,1,cT)]),[]),
(oA 10 1 1,[0]),
(oL 11 10,[1]),
(oB 12 .geq 11 (cI 0),[2]),
(oM 13 12,[3]),
(oT 13 14 (.fieldAddr 1 1),[4]),
(oT 13 15 (.load none 14),[5]),
(oT 13 16 (.bin .leq 15 (cI 127)),[6]),
(oP 17 13 16 cF,[7]),
(oS 4 2 9,[0,0,0,0]),
(oM 3 17,[])])
.ret)
.skip))
(sq (kr [1,2] [oA 19 1 1,
oL 20 19,
oC 21 167 [20],
oM 18 21,
oX 22 18 0,
oX 23 18 1,
oD 4 (.box [.int .i64 0,.int .i64 0,.kb false,.int .i64 0,.imm (.int .u64) []]),
oS 5 4 22,
oM 5 23])
(sq (kd [1,2,4,5] [(oA 24 1 4,[]),
(oL 25 24,[]),
(oA 26 0 4,[0,0]),
(oL 27 26,[1,0]),
(oA 28 2 4,[0,0,0,0]),
(oL 29 28,[1,0,0,0]),
(oD 30 (.build [.int .i64 0,.int .i64 0,.kb false,.kb false] [(0,1,25),(1,1,27),(2,1,29)]),[]),
(oM 31 5,[0,0,0,0,0,0,0]),
(oM 32 31,[1,0,0,0,0,0,0]),
(oT 32 33 (.fieldAddr 0 1),[2,0,0,0,0,0,0]),
(oT 32 34 (.load none 33),[3,0,0,0,0,0,0]),
(oT 32 35 (.bin .eql 34 (cI 32768)),[4,0,0,0,0,0,0]),
(oP 36 32 35 cF,[5,0,0,0,0,0,0]),
(oS 4 2 30,[0,0,0,0]),
(oM 3 36,[])])
.ret))))
def Bf_:List RD:=[.cell 2 (some 4) true [],.tmp 3 true none]
theorem Bk_:zl_ Tryz.prog Tryz.f143 Bw_ Bf_=true:=by kernel_rfl
def xI_:List AV->List Obj->Option (Prop × AV)
 | [.agg [.int .i64 c,.int .i64 f,.bool h,.int .u64 x,.imm (.int .u8) v,.imm (.int .u8) m]],[]=>some ((True,.tup [.agg [.int .i64 (qw_ c f),.int .i64 (Qy_ c f),.bool (qx_ c f),.bool (Zl_ c)],.bool (KC_ c f)]))
 | _,_=>none
theorem Yf_:zf_ Tryz.prog 143 (RoF xI_).sum:=by
 refine zj_ Tryz.func143 Bk_ (za_ (s:=RoF WW_) Um_ (ze_ _)) fun args objs p v e=>?_
 unfold xI_ at e
 split at e
 ·rename_i c f h x v m
  cases e
  refine ⟨rfl,fun hw ho hp=>?_⟩
  change List Int at v
  change List Int at m
  repeat'(intro t ht;first|(cases t<;>first|(cases ht;done)|(try simp only[zh_]at ht))|((first|refine zb_ ht ?_|refine ht ?_ ?_|refine ht.1 ?_ ?_|refine ht ?_)<;>clear ht))
  all_goals first
   | exact True.intro
   | (simp_all [KC_,qw_,Qy_,qx_,Zl_];done)
   | (simp_all [KC_,qw_,Qy_,qx_,Zl_];omega)
 ·cases e
def k4_ (f:Int) (h:Bool) (v m:List Int) (bits:Int) (ex:Bool):Int:=
 if ex=false/\Wo_ f v=false then 1032 else if h=true/\ex=false/\Wo_ f m=false then 1033
 else if h=true/\(Z6_ m=true\/bu_ m (if ex=true then m.length*8 else bits)=true) then 1033 else if h=true/\Gy_ v m=true then 1030 else 0
def gj_:IR:=
(sq (kr [0,1] [oD 2 (.boxv 0),
oD 3 (.boxv 1),
oD 4 (.mov (cI 0))])
(sq (sq (.reg [oA 5 3 3,
oL 6 5])
(.cond 6
(kr [2,3] [oA 7 5 2,
oL 8 7,
oE 9 8,
oB 10 .mul 9 (cI 8),
oA 11 1 3,
oS 1 11 10])
.skip))
(sq (.block 0
(sq (.block 3
(.block 2
(sq (.block 1
(sq (sq (sq (kr [2,3] [oA 13 3 3,
oL 14 13,
oD 15 (.un .not 14),
oM 16 15,
oT 16 17 (.fieldAddr 1 2),
oT 16 18 (.load none 17),
oT 16 19 (.fieldAddr 4 2),
oT 16 20 (.load none 19),
oT 16 21 (.call false (.f 168) [18,20]),
oT 16 22 (.un .not 21),
oP 23 16 22 cF,
oM 12 23])
(.cond 12
(.exit 1)
.skip))
(sq (sq (kr [2,3] [oA 25 2 2,
oL 26 25,
oM 27 26,
oT 27 28 (.fieldAddr 3 3),
oT 27 29 (.load none 28),
oT 27 30 (.un .not 29),
oP 31 27 30 cF,
oM 32 31,
oT 32 33 (.fieldAddr 1 2),
oT 32 34 (.load none 33),
oT 32 35 (.fieldAddr 5 2),
oT 32 36 (.load none 35),
oT 32 37 (.call false (.f 168) [34,36]),
oT 32 38 (.un .not 37),
oP 39 32 38 cF,
oM 24 39])
(.cond 24
(.exit 2)
.skip))
(sq (kr [2,3] [oA 41 2 2,
oL 42 41,
oM 43 42,
oT 43 44 (.fieldAddr 5 2),
oT 43 45 (.load none 44),
oT 43 46 (.call false (.f 169) [45]),
oT 43 47 (.mov 46),
oF 47 48 (.fieldAddr 5 2),
oF 47 49 (.load none 48),
oF 47 50 (.fieldAddr 1 3),
oF 47 51 (.load none 50),
oF 47 52 (.call false (.f 170) [49,51]),
oT 43 53 (.pick 47 cT 52),
oP 54 43 53 cF,
oM 40 54])
(.cond 40
(.exit 3)
.skip))))
(.exit 0)))
(sq (sq (kr [] [oD 4 (.mov (cI 1032))])
.ret)
(.exit 0)))))
(sq (sq (kr [] [oD 4 (.mov (cI 1033))])
.ret)
(.exit 0))))
(sq (sq (kr [2] [oA 55 2 2,
oL 56 55,
oM 57 56,
oT 57 58 (.fieldAddr 4 2),
oT 57 59 (.load none 58),
oT 57 60 (.fieldAddr 5 2),
oT 57 61 (.load none 60),
oT 57 62 (.call false (.f 171) [59,61]),
oP 63 57 62 cF])
(.cond 63
(sq (kr [] [oD 4 (.mov (cI 1030))])
.ret)
.skip))
(sq (kr [] [oD 4 (.mov (cI 0))])
.ret)))))
def UB_:List RD:=[.tmp 4 true none]
theorem US_:zl_ Tryz.prog Tryz.f144 gj_ UB_=true:=by kernel_rfl
def Kx_:List AV->List Obj->Option (Prop × AV)
 | [.agg [.int .i64 c,.int .i64 f,.bool h,.int .u64 x,.imm (.int .u8) v,.imm (.int .u8) m],.agg [.int .i64 sz,.int .i64 bits,.bool mk,.bool ex]],[]=>some (((h=true->v.length<=m.length)/\m.length<=100000/\0<=bits/\bits<=1000000,.int .i64 (k4_ f h v m bits ex)))
 | _,_=>none
theorem Wj_:zf_ Tryz.prog 144 (RoF Kx_).sum:=by
 refine zj_ Tryz.func144 US_ (za_ (s:=RoF j2_) Yp_ (za_ (s:=RoF wL_) Ve_ (za_ (s:=RoF WT_) Uj_ (za_ (s:=RoF KF_) yi_ (ze_ _))))) fun args objs p v e=>?_
 unfold Kx_ at e
 split at e
 ·rename_i c f h x v m sz bits mk ex
  cases e
  refine ⟨rfl,fun hw ho hp=>?_⟩
  change List Int at v
  change List Int at m
  cases h<;>cases ex
  all_goals repeat'(intro t ht;first|(cases t<;>first|(cases ht;done)|(try simp only[zh_]at ht))|((first|refine zb_ ht ?_|refine ht ?_ ?_|refine ht.1 ?_ ?_|refine ht ?_)<;>clear ht))
  all_goals first
   | exact True.intro
   | exact hp.1 rfl
   | ((try simp only [zn_,zo_,zm_] at*);omega)
   | (unfold k4_;simp_all;done)
 ·cases e
def z5_ (c:Int) (v m:List Int):Int:=if c=65535 then (v.length:Int)+m.length+4 else (v.length:Int)+m.length
def zM_ (c f:Int) (h:Bool) (x:Int) (v m:List Int):Bool:=
 KC_ c f && (!h || qx_ c f) && (Zl_ c || decide (x=0)) && decide (x.fdiv (2 ^ (min (Int.toNat 32) IntKind.u64.bits))=0) &&
  (match h with | true=>decide ((m.length:Int)=v.length) | false=>decide (m.length=0)) && decide ((v.length:Int)<=qw_ c f) && decide (k4_ f h v m (Qy_ c f) (Zl_ c)=0)
def gl_:IR:=
(sq (kr [0] [oD 1 (.boxv 0),
oD 2 (.mov cF)])
(sq (kr [1] [oK 6 6 1,
oC 7 143 [6],
oM 5 7,
oX 8 5 0,
oX 9 5 1,
oD 3 (.box [.int .i64 0,.int .i64 0,.kb false,.kb false]),
oS 4 3 8,
oM 4 9])
(sq (.block 0
(sq (.block 4
(sq (.block 3
(.block 2
(sq (.block 1
(sq (sq (sq (kr [1,3,4] [oM 11 4,
oD 12 (.un .not 11),
oM 13 12,
oF 13 14 (.fieldAddr 2 1),
oF 13 15 (.load none 14),
oF 13 16 (.mov 15),
oT 16 17 (.fieldAddr 2 3),
oT 16 18 (.load none 17),
oT 16 19 (.un .not 18),
oF 13 20 (.pick 16 19 cF),
oP 21 13 cT 20,
oM 10 21])
(.cond 10
(.exit 1)
.skip))
(sq (sq (kr [1,3] [oA 23 3 3,
oL 24 23,
oD 25 (.un .not 24),
oM 26 25,
oT 26 27 (.fieldAddr 3 1),
oT 26 28 (.load none 27),
oT 26 29 (.bin .neq 28 (.c (.int .u64 0))),
oP 30 26 29 cF,
oM 22 30])
(.cond 22
(.exit 2)
.skip))
(sq (sq (kr [1,3] [oA 32 3 1,
oL 33 32,
oB 34 .shr 33 (.c (.int .u64 32)),
oB 35 .neq 34 (.c (.int .u64 0)),
oM 31 35])
(.cond 31
(.exit 3)
.skip))
(sq (kr [1,3] [oA 37 2 1,
oL 38 37,
oM 39 38,
oT 39 40 (.fieldAddr 5 1),
oT 39 41 (.load none 40),
oT 39 42 (.len 41),
oT 39 43 (.fieldAddr 4 1),
oT 39 44 (.load none 43),
oT 39 45 (.len 44),
oT 39 46 (.bin .neq 42 45),
oP 47 39 46 cF,
oM 48 47,
oF 48 49 (.fieldAddr 2 1),
oF 48 50 (.load none 49),
oF 48 51 (.un .not 50),
oF 48 52 (.mov 51),
oT 52 53 (.fieldAddr 5 1),
oT 52 54 (.load none 53),
oT 52 55 (.len 54),
oT 52 56 (.bin .gtr 55 (cI 0)),
oF 48 57 (.pick 52 56 cF),
oP 58 48 cT 57,
oM 59 58,
oF 59 60 (.fieldAddr 4 1),
oF 59 61 (.load none 60),
oF 59 62 (.len 61),
oF 59 63 (.fieldAddr 0 3),
oF 59 64 (.load none 63),
oF 59 65 (.bin .gtr 62 64),
oP 66 59 cT 65,
oM 36 66])
(.cond 36
(.exit 4)
.skip)))))
(.exit 0)))
(sq (sq (kr [] [oD 2 (.mov cF)])
.ret)
(.exit 0)))))
(sq (sq (kr [] [oD 2 (.mov cF)])
.ret)
(.exit 0))))
(sq (sq (kr [] [oD 2 (.mov cF)])
.ret)
(.exit 0))))
(sq (kr [1,3] [oK 67 6 1,
oK 68 4 3,
oC 69 144 [67,68],
oB 70 .eql 69 (cI 0),
oM 2 70])
.ret))))
def UD_:List RD:=[.tmp 2 true none]
theorem UU_:zl_ Tryz.prog Tryz.f93 gl_ UD_=true:=by kernel_rfl
def kv_:List AV->List Obj->Option (Prop × AV)
 | [.agg [.int .i64 c,.int .i64 f,.bool h,.int .u64 x,.imm (.int .u8) v,.imm (.int .u8) m]],[]=>some ((v.length<=1000000/\m.length<=1000000,.bool (zM_ c f h x v m)))
 | _,_=>none
theorem KA_:zf_ Tryz.prog 93 (RoF kv_).sum:=by
 refine zj_ Tryz.func93 UU_ (za_ (s:=RoF xI_) Yf_ (za_ (s:=RoF Kx_) Wj_ (ze_ _))) fun args objs p v e=>?_
 unfold kv_ at e
 split at e
 ·rename_i c f h x v m
  cases e
  refine ⟨rfl,fun hw ho hp=>?_⟩
  change List Int at v
  change List Int at m
  have hof:=uD_ c f
  cases h
  all_goals repeat'(intro t ht;first|(cases t<;>first|(cases ht;done)|(try simp only[zh_]at ht))|((first|refine zb_ ht ?_|refine ht ?_ ?_|refine ht.1 ?_ ?_|refine ht ?_)<;>clear ht))
  all_goals first
   | exact True.intro
   | exact (by decide)
   | (refine ⟨fun h=>?_,?_,?_,?_⟩<;>first | omega | (cases h;done))
   | (unfold zM_;simp_all;done)
   | (have h0:¬ m.length=0:=by omega
      unfold zM_;simp_all;done)
   | (unfold zM_;simp_all;omega)
 ·cases e
def ha_:IR:=
(sq (kr [0] [oD 1 (.boxv 0),
oD 2 (.mov (cI 0))])
(sq (kr [1] [oA 4 4 1,
oL 5 4,
oE 6 5,
oA 7 5 1,
oL 8 7,
oE 9 8,
oB 10 .add 6 9,
oM 3 10])
(sq (sq (kr [1,3] [oA 11 0 1,
oL 12 11,
oB 13 .eql 12 (cI 65535)])
(.cond 13
(.reg [oM 14 3,
oB 15 .add 14 (cI 4),
oM 3 15])
.skip))
(sq (kr [3] [oM 16 3,
oM 2 16])
.ret))))
def Gn_:List RD:=[.tmp 2 true none]
theorem GH_:zl_ Tryz.prog Tryz.f160 ha_ Gn_=true:=by kernel_rfl
def jQ_:List AV->List Obj->Option (Prop × AV)
 | [.agg [.int .i64 c,.int .i64 f,.bool h,.int .u64 x,.imm (.int .u8) v,.imm (.int .u8) m]],[]=>some ((v.length<=1000000/\m.length<=1000000,.int .i64 (z5_ c v m)))
 | _,_=>none
theorem W4_:zf_ Tryz.prog 160 (RoF jQ_).sum:=by
 refine zj_ Tryz.func160 GH_ (ze_ _) fun args objs p v e=>?_
 unfold jQ_ at e
 split at e
 ·rename_i c f h x v m
  cases e
  refine ⟨rfl,fun hw ho hp=>?_⟩
  change List Int at v
  change List Int at m
  repeat'(intro t ht;first|(cases t<;>first|(cases ht;done)|(try simp only[zh_]at ht))|((first|refine zb_ ht ?_|refine ht ?_ ?_|refine ht.1 ?_ ?_|refine ht ?_)<;>clear ht))
  all_goals first
   | ((try simp only [zn_,zo_,zm_] at*);omega)
   | (unfold z5_;simp_all;done)
 ·cases e
theorem KZ_ {c f:Int} {h:Bool} {x:Int} {v m:List Int} (hr:zM_ c f h x v m=true):(v.length:Int)<=qw_ c f/\(h=true->(m.length:Int)=v.length)/\(h=false->m.length=0)/\KC_ c f=true/\(h=true->qx_ c f=true)/\(Zl_ c=true\/x=0)/\x.fdiv (2 ^ (min (Int.toNat 32) IntKind.u64.bits))=0/\k4_ f h v m (Qy_ c f) (Zl_ c)=0:=by
 unfold zM_ at hr
 simp only [Bool.and_eq_true,Bool.or_eq_true,decide_eq_true_eq] at hr
 obtain ⟨⟨⟨⟨⟨⟨a1,a2⟩,a3⟩,a4⟩,a5⟩,a6⟩,a7⟩:=hr
 cases h with
 | true=>exact ⟨a6,fun _=>of_decide_eq_true a5,fun h=>(by cases h),a1,fun _=>a2.resolve_left (by simp),a3,a4,a7⟩
 | false=>exact ⟨a6,fun h=>(by cases h),fun _=>of_decide_eq_true a5,a1,fun h=>(by cases h),a3,a4,a7⟩
def wE_ (c x:Int) (v m:List Int):List Int:=(if c=65535 then zd_ x 4 else [])++v++m
def Qw_ (c f:Int) (h:Bool) (x:Int) (v m:List Int):List Int:=zd_ c 2++[2*f+if h=true then 1 else 0,((wE_ c x v m).length:Int)]++wE_ c x v m
def qY_ (c f:Int) (h:Bool) (x:Int) (v m:List Int):Int:=if zM_ c f h x v m=true then 4+z5_ c v m else 0
def hd_:IR:=
(sq (kr [0] [oD 1 (.boxv 0),
oD 2 (.mov (cI 0))])
(sq (sq (.reg [oK 3 6 1,
oC 4 93 [3],
oD 5 (.un .not 4)])
(.cond 5
(sq (.reg [oD 2 (.mov (cI 0))])
.ret)
.skip))
(sq (kr [1] [oK 6 6 1,
oC 7 160 [6],
oB 8 .add (cI 4) 7,
oM 2 8])
.ret)))
def Gq_:List RD:=[.tmp 2 true none]
theorem GK_:zl_ Tryz.prog Tryz.f147 hd_ Gq_=true:=by kernel_rfl
def jR_:List AV->List Obj->Option (Prop × AV)
 | [.agg [.int .i64 c,.int .i64 f,.bool h,.int .u64 x,.imm (.int .u8) v,.imm (.int .u8) m]],[]=>some ((v.length<=1000000/\m.length<=1000000,.int .i64 (qY_ c f h x v m)))
 | _,_=>none
theorem W5_:zf_ Tryz.prog 147 (RoF jR_).sum:=by
 refine zj_ Tryz.func147 GK_ (za_ (s:=RoF kv_) KA_ (za_ (s:=RoF jQ_) W4_ (ze_ _))) fun args objs p v e=>?_
 unfold jR_ at e
 split at e
 ·rename_i c f h x v m
  cases e
  refine ⟨rfl,fun hw ho hp=>?_⟩
  change List Int at v
  change List Int at m
  repeat'(intro t ht;first|(cases t<;>first|(cases ht;done)|(try simp only[zh_]at ht))|((first|refine zb_ ht ?_|refine ht ?_ ?_|refine ht.1 ?_ ?_|refine ht ?_)<;>clear ht))
  all_goals first
   | exact hp
   | (have hr:zM_ c f h x v m=true:=by assumption
      have hl:=KZ_ hr
      have hof:=uD_ c f
      have hm:(m.length:Int)<=100:=by cases h;have:=hl.2.2.1 rfl;omega;have:=hl.2.1 rfl;omega
      have hrest:0<=z5_ c v m/\z5_ c v m<=204:=by unfold z5_;split<;>omega
      first
       | ((try simp only [zn_,zo_,zm_] at*);omega)
       | (unfold qY_;rw [if_pos hr];exact ⟨rfl,rfl⟩))
   | (have hr:zM_ c f h x v m=false:=by assumption
      unfold qY_;rw [hr];exact ⟨rfl,rfl⟩)
 ·cases e
theorem bq_ {n:Int} (h:0<=n) (h1:n<=1000000):Wm_ n=n:=by unfold Wm_;rw [if_neg (by omega)];split<;>omega
def bL_ (c f:Int) (h:Bool) (v m:List Int):List Int:=zd_ c 2++zd_ (2*f+if h=true then 1 else 0) 1++zd_ (z5_ c v m) 1
def Zq_ (c f:Int) (h:Bool) (x:Int) (v m:List Int):List Int:=bL_ c f h v m++(if c=65535 then zd_ x 4 else [])++v++m
theorem zdt_ {a b c:Int} (ha:0<=a/\a<=65535) (hb:0<=b/\b<=255) (hc:0<=c/\c<=255):ZZ_ [2,1,1] [a,b,c]=zd_ a 2++zd_ b 1++zd_ c 1/\Qc_ [2,1,1] [a,b,c]=true:=by
 have e1:a.fdiv (2 ^ 16)=0:=by rw [Int.fdiv_eq_ediv_of_nonneg _ (by decide)];omega
 have e2:b.fdiv (2 ^ 8)=0:=by rw [Int.fdiv_eq_ediv_of_nonneg _ (by decide)];omega
 have e3:c.fdiv (2 ^ 8)=0:=by rw [Int.fdiv_eq_ediv_of_nonneg _ (by decide)];omega
 have h:KB_ [2,1,1] [a,b,c]=some (zd_ a 2++zd_ b 1++zd_ c 1):=by
  unfold KB_
  rw [if_pos ⟨by decide,show zF_ [2,1,1]=3 by decide⟩]
  show (if (2:Int) < 8/\a.fdiv (2 ^ 16) ≠ 0 then none else qR_ [1,1] [b,c] ([]++zd_ a 2))=_
  rw [if_neg (fun h=>h.2 e1)]
  show (if (1:Int) < 8/\b.fdiv (2 ^ 8) ≠ 0 then none else qR_ [1] [c] ([]++zd_ a 2++zd_ b 1))=_
  rw [if_neg (fun h=>h.2 e2)]
  show (if (1:Int) < 8/\c.fdiv (2 ^ 8) ≠ 0 then none else qR_ [] [] ([]++zd_ a 2++zd_ b 1++zd_ c 1))=_
  rw [if_neg (fun h=>h.2 e3)]
  simp [qR_]
 unfold ZZ_ Qc_;rw [h];exact ⟨rfl,rfl⟩
theorem put4 {a:Int} (ha:0<=a/\a<=4294967295):ZZ_ [4] [a]=zd_ a 4/\Qc_ [4] [a]=true:=by
 have e1:a.fdiv (2 ^ 32)=0:=by rw [Int.fdiv_eq_ediv_of_nonneg _ (by decide)];omega
 have h:KB_ [4] [a]=some (zd_ a 4):=by
  unfold KB_
  rw [if_pos ⟨by decide,show zF_ [4]=1 by decide⟩]
  show (if (4:Int) < 8/\a.fdiv (2 ^ 32) ≠ 0 then none else qR_ [] [] ([]++zd_ a 4))=_
  rw [if_neg (fun h=>h.2 e1)]
  simp [qR_]
 unfold ZZ_ Qc_;rw [h];exact ⟨rfl,rfl⟩
theorem QE_ {x l:List Int} {room:Int} (h:(x.length:Int)<=room - l.length):Kf_ x l room 0=l++x/\kV_ x l room 0=0:=by
 unfold Kf_ kV_ K9_;rw [decide_eq_true h];simp;omega
theorem zb4_ {a b c room:Int} (ha:0<=a/\a<=65535) (hb:0<=b/\b<=255) (hc:0<=c/\c<=255) (hr:4<=room):kk_ [2,1,1] [a,b,c] [] room 0=zd_ a 2++zd_ b 1++zd_ c 1/\Ka_ [2,1,1] [a,b,c] [] room 0=0:=by
 obtain ⟨h1,h2⟩:=zdt_ ha hb hc
 have l1:=zk_ (n:=a) (w:=2) (by decide)
 have l2:=zk_ (n:=b) (w:=1) (by decide)
 have l3:=zk_ (n:=c) (w:=1) (by decide)
 have:=QE_ (x:=zd_ a 2++zd_ b 1++zd_ c 1) (l:=[]) (room:=room) (by simp only [List.length_append,List.length_nil];omega)
 unfold kk_ Ka_;rw [h1,h2];exact this
theorem nm4 {x room:Int} {l:List Int} (hx:0<=x/\x<=4294967295) (hr:4<=room - l.length):nmB 4 x l room 0=l++zd_ x 4/\nmE 4 x l room 0=0:=by
 obtain ⟨h1,h2⟩:=put4 hx
 have l1:=zk_ (n:=x) (w:=4) (by decide)
 have:=QE_ (x:=zd_ x 4) (l:=l) (room:=room) (by omega)
 have hw:KM_ 4=true:=by decide
 unfold nmB nmE kk_ Ka_;rw [hw,h1,h2];exact this
def V1_:IR:=
(sq (kr [0] [oD 1 (.boxv 0),
oD 2 (.mov (.c (.imm (.int .u8) []))),
oD 3 (.mov (cI 0))])
(sq (sq (.reg [oK 6 6 1,
oC 7 93 [6],
oD 8 (.un .not 7)])
(.cond 8
(sq (kr [] [oD 2 (.mov (.c (.imm (.int .u8) []))),
oD 3 (.mov (cI 10001))])
.ret)
.skip))
(sq (kr [1] [oK 9 6 1,
oC 10 147 [9],
oC 11 48 [10],
oM 4 11])
(sq (kr [1,4] [oA 12 1 1,
oL 13 12,
oB 14 .mul (cI 2) 13,
oD 15 (.conv .u64 14),
oM 5 15])
(sq (sq (.reg [oA 16 2 1,
oL 17 16])
(.cond 17
(kr [1,4,5] [oM 18 5,
oB 19 .add 18 (.c (.int .u64 1)),
oM 5 19])
.skip))
(sq (kd [1,4,5] [(oM 20 4,[]),
(oD 21 (.sliceAll (.int .i64) 3 [(0,1,(cI 2)),(1,1,(cI 1)),(2,1,(cI 1))]),[0]),
(oA 22 0 1,[0,0]),
(oL 23 22,[1,0]),
(oD 24 (.conv .u64 23),[2,0]),
(oM 25 5,[0,0,0,0,0]),
(oK 26 6 1,[0,0,0,0,0,0]),
(oC 27 160 [26],[1,0,0,0,0,0]),
(oD 28 (.conv .u64 27),[2,0,0,0,0,0]),
(oD 29 (.sliceAll (.int .u64) 3 [(0,1,24),(1,1,25),(2,1,28)]),[7,0]),
(oC 30 105 [20,21,29],[])])
(sq (sq (kr [1,4] [oA 31 0 1,
oL 32 31,
oB 33 .eql 32 (cI 65535)])
(.cond 33
(.reg [oM 34 4,
oA 35 3 1,
oL 36 35,
oC 37 161 [34,(cI 4),36]])
.skip))
(sq (kr [1,4] [oM 38 4,
oA 39 4 1,
oL 40 39,
oC 41 122 [38,40]])
(sq (.reg [oM 42 4,
oA 43 5 1,
oL 44 43,
oC 45 122 [42,44]])
(sq (kr [4] [oM 46 4,
oC 47 50 [46],
oX 48 47 0,
oX 49 47 1,
oM 2 48,
oM 3 49])
.ret))))))))))
def Vn_:List RD:=[.tmp 2 true (some (.int .u8)),.tmp 3 true none]
theorem VG_:zl_ Tryz.prog Tryz.f137 V1_ Vn_=true:=by kernel_rfl
def jT_:List AV->List Obj->Option (Prop × AV)
 | [.agg [.int .i64 c,.int .i64 f,.bool h,.int .u64 x,.imm (.int .u8) v,.imm (.int .u8) m]],[]=>some ((v.length<=1000000/\m.length<=1000000,.tup [.imm (.int .u8) (if zM_ c f h x v m=true then Zq_ c f h x v m else []),.int .i64 (if zM_ c f h x v m=true then 0 else 10001)]))
 | _,_=>none
theorem Yg_:zf_ Tryz.prog 137 (RoF jT_).sum:=by
 refine zj_ Tryz.func137 VG_ (za_ (s:=RoF kv_) KA_ (za_ (s:=RoF jR_) W5_ (za_ (s:=RwF qO_) Qv_ (za_ (s:=RoF jQ_) W4_ (za_ (s:=RwF zY_) Zn_ (za_ (s:=RwF qT_) Jf_ (za_ (s:=RwF zA_) zH_ (za_ (s:=RwF z9_) ZE_ (ze_ _))))))))) fun args objs p v e=>?_
 unfold jT_ at e
 split at e
 ·rename_i c f h x v m
  cases e
  refine ⟨rfl,fun hw ho hp=>?_⟩
  change List Int at v
  change List Int at m
  cases hr:zM_ c f h x v m with
  | false=>
    repeat'(intro t ht;first|(cases t<;>first|(cases ht;done)|(try simp only[zh_]at ht))|((first|refine zb_ ht ?_|refine ht ?_ ?_|refine ht.1 ?_ ?_|refine ht ?_)<;>clear ht))
    all_goals first
     | exact hp
     | (exfalso;simp_all;done)
     | exact ⟨rfl,rfl⟩
  | true=>
    have hl:=KZ_ hr
    have hof:=uD_ c f
    have hm:(m.length:Int)<=100:=by cases h;have:=hl.2.2.1 rfl;omega;have:=hl.2.1 rfl;omega
    have hrest:0<=z5_ c v m/\z5_ c v m<=204:=by unfold z5_;split<;>omega
    have hcf:0<=f/\f<=127/\(c=65535\/c=32768):=by
     have h4:=hl.2.2.2.1
     unfold KC_ at h4
     split at h4
     ·simp at h4;omega
     ·simp at h4;have:=kq_.1 h4.1;omega
    have hs:qY_ c f h x v m=4+z5_ c v m:=by unfold qY_;rw [if_pos hr]
    have hroom:Wm_ (qY_ c f h x v m)=4+z5_ c v m:=by rw [hs];exact bq_ (by omega) (by omega)
    have hx0:0<=x:=((hw _ (List.mem_cons_self ..)) (.int .u64 x) (by simp)).1
    have hx1:x<=4294967295:=by
     have h7:x.fdiv (2 ^ 32)=0:=hl.2.2.2.2.2.2.1
     rw [Int.fdiv_eq_ediv_of_nonneg _ (by decide)] at h7;omega
    obtain ⟨N,hN⟩:∃ N,N=2*f+if h=true then 1 else 0:=⟨_,rfl⟩
    have hN1:0<=N/\N<=255:=by rw [hN];split<;>omega
    obtain ⟨R,hR⟩:∃ R,R=z5_ c v m:=⟨_,rfl⟩
    have hR1:0<=R/\R<=204:=by omega
    obtain ⟨H1,H2⟩:=zb4_ (a:=c) (b:=N) (c:=R) (room:=4+R) (by omega) (by omega) (by omega) (by omega)
    have l0:((zd_ c 2++zd_ N 1++zd_ R 1).length:Int)=4:=by
     have l1:=zk_ (n:=c) (w:=2) (by decide)
     have l2:=zk_ (n:=N) (w:=1) (by decide)
     have l3:=zk_ (n:=R) (w:=1) (by decide)
     simp only [List.length_append];omega
    have l4:=zk_ (n:=x) (w:=4) (by decide)
    have hd0:ww_=ww_:=rfl
    have e0:∀ l,ww_ l [] 0=l:=fun l=>rfl
    have e1:wx_ [] 0=0:=rfl
    rw [<- hR] at hroom
    by_cases hc:c=65535
    ·have hRe:R=(v.length:Int)+m.length+4:=by rw [hR];unfold z5_;rw [if_pos hc]
     obtain ⟨H3,H4⟩:=nm4 (x:=x) (room:=4+R) (l:=zd_ c 2++zd_ N 1++zd_ R 1) ⟨hx0,hx1⟩ (by omega)
     obtain ⟨H5,H6⟩:=QE_ (x:=v) (room:=4+R) (l:=zd_ c 2++zd_ N 1++zd_ R 1++zd_ x 4) (by rw [List.length_append];omega)
     obtain ⟨H7,H8⟩:=QE_ (x:=m) (room:=4+R) (l:=zd_ c 2++zd_ N 1++zd_ R 1++zd_ x 4++v) (by rw [List.length_append,List.length_append];omega)
     have hfin:Zq_ c f h x v m=zd_ c 2++zd_ N 1++zd_ R 1++zd_ x 4++v++m:=by unfold Zq_ bL_;rw [<- hN,<- hR,if_pos hc]
     rw [hfin]
     cases h
     all_goals (simp only [if_true,if_false,Bool.false_eq_true,Int.add_zero] at hN)
     all_goals repeat'(intro t ht;first|(cases t<;>first|(cases ht;done)|(try simp only[zh_]at ht))|((first|refine zb_ ht ?_|refine ht ?_ ?_|refine ht.1 ?_ ?_|refine ht ?_)<;>clear ht))
     all_goals (try simp only [<- hN,<- hR])
     all_goals first
      | exact True.intro
      | exact hp
      | (exfalso;simp_all;done)
      | ((try simp only [zn_,zo_,zm_] at*);omega)
      | (simp only [hroom,H1,H2,H3,H4,H5,H6,H7,H8];simp only [List.length_append,List.length_nil] at l0 ⊢;omega)
      | (refine ⟨?_,?_⟩<;>first | rfl | (simp only [hroom,H1,H2,H3,H4,H5,H6,H7,H8,e0,e1];done) | (simp only [hroom,H1,H2,H3,H4,H5,H6,H7,H8,e0,e1];rfl))
    ·have hRe:R=(v.length:Int)+m.length:=by rw [hR];unfold z5_;rw [if_neg hc]
     obtain ⟨H5,H6⟩:=QE_ (x:=v) (room:=4+R) (l:=zd_ c 2++zd_ N 1++zd_ R 1) (by omega)
     obtain ⟨H7,H8⟩:=QE_ (x:=m) (room:=4+R) (l:=zd_ c 2++zd_ N 1++zd_ R 1++v) (by rw [List.length_append];omega)
     have hfin:Zq_ c f h x v m=zd_ c 2++zd_ N 1++zd_ R 1++v++m:=by unfold Zq_ bL_;rw [<- hN,<- hR,if_neg hc,List.append_nil]
     rw [hfin]
     cases h
     all_goals (simp only [if_true,if_false,Bool.false_eq_true,Int.add_zero] at hN)
     all_goals repeat'(intro t ht;first|(cases t<;>first|(cases ht;done)|(try simp only[zh_]at ht))|((first|refine zb_ ht ?_|refine ht ?_ ?_|refine ht.1 ?_ ?_|refine ht ?_)<;>clear ht))
     all_goals (try simp only [<- hN,<- hR])
     all_goals first
      | exact True.intro
      | exact hp
      | (exfalso;simp_all;done)
      | ((try simp only [zn_,zo_,zm_] at*);omega)
      | (simp only [hroom,H1,H2,H5,H6,H7,H8];simp only [List.length_append,List.length_nil] at l0 ⊢;omega)
      | (refine ⟨?_,?_⟩<;>first | rfl | (simp only [hroom,H1,H2,H5,H6,H7,H8,e0,e1];done) | (simp only [hroom,H1,H2,H5,H6,H7,H8,e0,e1];rfl))
 ·cases e
def va_ (h ex:Bool) (sz n:Int):Int:=if ex=true then (n - 4).tdiv (if h=true then 2 else 1) else sz
def xs_ (h ex:Bool) (sz n:Int):Bool:=if ex=true then decide (0<=n - 4) && decide ((n - 4).tmod (if h=true then 2 else 1)=0) && decide ((n - 4).tdiv (if h=true then 2 else 1)<=sz) else decide (n=(if h=true then 2 else 1)*sz)
def hc_:IR:=
(sq (kr [0,1,2] [oD 3 (.boxv 0),
oD 4 (.boxv 1),
oD 6 (.mov (cI 0)),
oD 7 (.mov cF)])
(sq (.reg [oD 8 (.mov (cI 1))])
(sq (sq (.reg [oA 9 2 3,
oL 10 9])
(.cond 10
(kr [2,4,8] [oM 11 8,
oB 12 .add 11 (cI 1),
oM 8 12])
.skip))
(sq (sq (kr [2,4,8] [oA 13 3 4,
oL 14 13,
oD 15 (.un .not 14)])
(.cond 15
(sq (kd [2,4,8] [(oA 16 0 4,[]),
(oL 17 16,[]),
(oM 18 2,[0,0]),
(oM 19 8,[0,0,0]),
(oA 20 0 4,[0,0,0,0]),
(oL 21 20,[1,0,0,0]),
(oB 22 .mul 19 21,[3,0,0]),
(oB 23 .eql 18 22,[5,0]),
(oM 6 17,[0,0,0,0,0,0]),
(oM 7 23,[])])
.ret)
.skip))
(sq (kr [2,4,8] [oM 24 2,
oB 25 .sub 24 (cI 4),
oM 2 25])
(sq (kd [2,4,8] [(oM 26 2,[]),
(oM 27 8,[0]),
(oB 28 .quo 26 27,[]),
(oM 29 2,[0,0,0]),
(oB 30 .geq 29 (cI 0),[1,0,0]),
(oM 31 30,[2,0,0]),
(oT 31 32 (.mov 2),[3,0,0]),
(oT 31 33 (.mov 8),[0,3,0,0]),
(oT 31 34 (.bin .rem 32 33),[5,0,0]),
(oT 31 35 (.bin .eql 34 (cI 0)),[6,0,0]),
(oP 36 31 35 cF,[7,0,0]),
(oM 37 36,[8,0,0]),
(oT 37 38 (.mov 2),[9,0,0]),
(oT 37 39 (.mov 8),[0,9,0,0]),
(oT 37 40 (.bin .quo 38 39),[11,0,0]),
(oT 37 41 (.fieldAddr 0 4),[0,0,0,9,0,0]),
(oT 37 42 (.load none 41),[1,0,0,9,0,0]),
(oT 37 43 (.bin .leq 40 42),[14,0,0]),
(oP 44 37 43 cF,[15,0,0]),
(oM 6 28,[0,0,0,0,0,0,0]),
(oM 7 44,[])])
.ret))))))
def Gp_:List RD:=[.tmp 6 true none,.tmp 7 true none]
theorem GJ_:zl_ Tryz.prog Tryz.f194 hc_ Gp_=true:=by kernel_rfl
def WU_:List AV->List Obj->Option (Prop × AV)
 | [.agg [.int .i64 c,.int .i64 f,.bool h,.int .u64 x,.imm (.int .u8) v,.imm (.int .u8) m],.agg [.int .i64 sz,.int .i64 bits,.bool mk,.bool ex],.int .i64 n],[]=>some ((0<=n/\n<=255/\0<=sz/\sz<=100,.tup [.int .i64 (va_ h ex sz n),.bool (xs_ h ex sz n)]))
 | _,_=>none
theorem Uk_:zf_ Tryz.prog 194 (RoF WU_).sum:=by
 refine zj_ Tryz.func194 GJ_ (ze_ _) fun args objs p v e=>?_
 unfold WU_ at e
 split at e
 ·rename_i c f h x v m sz bits mk ex n
  cases e
  refine ⟨rfl,fun hw ho hp=>?_⟩
  change List Int at v
  change List Int at m
  have t1:(n - 4).tdiv 1=n - 4:=Int.tdiv_one _
  have t2:-4<=(n - 4).tdiv 2/\(n - 4).tdiv 2<=255:=by
   by_cases h:0<=n - 4
   ·rw [ka_ h];omega
   ·have:n=0\/n=1\/n=2\/n=3:=by omega
    rcases this with h | h | h | h<;>subst h<;>decide
  have e2:(1+1:Int)=2:=rfl
  cases h<;>cases ex
  all_goals repeat'(intro t ht;first|(cases t<;>first|(cases ht;done)|(try simp only[zh_]at ht))|((first|refine zb_ ht ?_|refine ht ?_ ?_|refine ht.1 ?_ ?_|refine ht ?_)<;>clear ht))
  all_goals (try simp only [e2] at*)
  all_goals first
   | exact True.intro
   | exact (by decide)
   | ((try simp only [zn_,zo_,zm_] at*);simp only [t1];omega)
   | ((try simp only [zn_,zo_,zm_] at*);omega)
   | (have hn:¬ 0<=n - 4:=by assumption
      refine ⟨?_,by first | rfl | exact True.intro⟩;unfold xs_;rw [decide_eq_false hn];rfl)
   | (unfold va_ xs_;simp_all;done)
 ·cases e
end Go.Eng
