/- Parts of the proof: F2, F4. No condition. -/
import Derived.Test.YtheklpaoigbdnaaGreatDoorProg
import Derived.Test.YtheklpaoigbdnaaGreatDoorXF11
import Derived.KernelRfl
namespace Go.Eng
open Go.Proofs
set_option linter.unusedVariables false
set_option linter.unusedSimpArgs false
set_option maxRecDepth 100000
set_option maxHeartbeats 1000000
def fIs (n:Int):Bool:=decide (0<=n) && decide (n < 40)
theorem ZR_ {n:Int}:fIs n=true ↔ 0<=n/\n < 40:=by unfold fIs;simp
theorem QR_ {n:Int}:fIs n=false ↔ ¬ (0<=n/\n < 40):=by rw [<- ZR_];simp
def uu_:IR:=
(sq (kr [0] [oD 2 (.mov cF)])
(sq (kr [0] [oM 3 0,
oB 4 .geq 3 (cI 0),
oM 5 4,
oT 5 6 (.mov 0),
oT 5 7 (.bin .lss 6 (cI 40)),
oP 8 5 7 cF,
oM 2 8])
.ret))
def VH_:List RD:=[.tmp 2 true none]
theorem V0_:zl_ Tryz.prog Tryz.f70 uu_ VH_=true:=by kernel_rfl
def QC_:List AV->List Obj->Option (Prop × AV)
 | [.int .i64 n],[]=>some ((True,.bool (fIs n)))
 | _,_=>none
theorem ky_:zf_ Tryz.prog 70 (RoF QC_).sum:=by
 refine zi_ Tryz.func70 V0_ (ze_ _) fun args objs p v e=>?_
 unfold QC_ at e
 split at e
 ·rename_i n
  cases e
  refine ⟨rfl,fun hw ho hp=>?_⟩
  repeat'(intro t ht;first|(cases t<;>first|(cases ht;done)|(try simp only[zh_]at ht))|((first|refine za_ ht ?_|refine ht ?_ ?_|refine ht.1 ?_ ?_|refine ht ?_)<;>clear ht))
  all_goals refine ⟨?_,rfl⟩
  all_goals unfold fIs
  all_goals first | (congr 1;simp_all;done) | (congr 1;simp_all;omega)
 ·cases e
def q7_:List Int:=[32,32,64,48,48,16,13,3,6,2,8,32,32,16,16,16,16,16,16,8,8,16,32,32,48,48,128,128,20,8,8,128,48,48,20,3,1,24,64,9]
def X8_:IR:=
(sq (kr [0] [oD 2 (.mov (cI 0))])
(sq (.reg [oD 4 (.buildAll 40 [(0,1,(cI 32)),(1,1,(cI 32)),(2,1,(cI 64)),(3,1,(cI 48)),(4,1,(cI 48)),(5,1,(cI 16)),(6,1,(cI 13)),(7,1,(cI 3)),(8,1,(cI 6)),(9,1,(cI 2)),(10,1,(cI 8)),(11,1,(cI 32)),(12,1,(cI 32)),(13,1,(cI 16)),(14,1,(cI 16)),(15,1,(cI 16)),(16,1,(cI 16)),(17,1,(cI 16)),(18,1,(cI 16)),(19,1,(cI 8)),(20,1,(cI 8)),(21,1,(cI 16)),(22,1,(cI 32)),(23,1,(cI 32)),(24,1,(cI 48)),(25,1,(cI 48)),(26,1,(cI 128)),(27,1,(cI 128)),(28,1,(cI 20)),(29,1,(cI 8)),(30,1,(cI 8)),(31,1,(cI 128)),(32,1,(cI 48)),(33,1,(cI 48)),(34,1,(cI 20)),(35,1,(cI 3)),(36,1,(cI 1)),(37,1,(cI 24)),(38,1,(cI 64)),(39,1,(cI 9))]),
oD 3 (.box [.int .i64 0,.int .i64 0,.int .i64 0,.int .i64 0,.int .i64 0,.int .i64 0,.int .i64 0,.int .i64 0,.int .i64 0,.int .i64 0,.int .i64 0,.int .i64 0,.int .i64 0,.int .i64 0,.int .i64 0,.int .i64 0,.int .i64 0,.int .i64 0,.int .i64 0,.int .i64 0,.int .i64 0,.int .i64 0,.int .i64 0,.int .i64 0,.int .i64 0,.int .i64 0,.int .i64 0,.int .i64 0,.int .i64 0,.int .i64 0,.int .i64 0,.int .i64 0,.int .i64 0,.int .i64 0,.int .i64 0,.int .i64 0,.int .i64 0,.int .i64 0,.int .i64 0,.int .i64 0]),
oS 40 3 4])
(sq (.reg [oM 5 0,
oD 6 (.indexArr 1 40 3 5),
oD 7 (.loadI .i64 6),
oM 2 7])
.ret)))
def XK_:List RD:=[.tmp 2 true none]
theorem XW_:zl_ Tryz.prog Tryz.f90 X8_ XK_=true:=by kernel_rfl
def qr_:List AV->List Obj->Option (Prop × AV)
 | [.int .i64 n],[]=>some (0<=n/\n < 40,.int .i64 (q7_.getD n.toNat 0))
 | _,_=>none
theorem Qn_:zf_ Tryz.prog 90 (RoF qr_).sum:=by
 refine zi_ Tryz.func90 XW_ (ze_ _) fun args objs p v e=>?_
 unfold qr_ at e
 split at e
 ·rename_i n
  cases e
  refine ⟨rfl,fun hw _ hp=>?_⟩
  repeat'(intro t ht;first|(cases t<;>first|(cases ht;done)|(try simp only[zh_]at ht))|((first|refine za_ ht ?_|refine ht ?_ ?_|refine ht.1 ?_ ?_|refine ht ?_)<;>clear ht))
  ·exact hp
  ·show 0+n.toNat*1 < 40;omega
  ·exact ⟨by simp [q7_],rfl⟩
 ·cases e
theorem v3_:∀ k < 40,1<=q7_.getD k 0/\q7_.getD k 0<=128:=by decide
def Qq_ (n:Int):Int:=if n=28\/n=34 then 4 else (q7_.getD n.toNat 0+7) / 8
def X5_:IR:=
(sq (kr [0] [oD 2 (.mov (cI 0))])
(sq (sq (.reg [oM 3 0])
(.block 0
(sq (sq (.reg [oB 5 .eql 3 (cI 28),
oM 4 5])
(.cond 4
.skip
(.reg [oB 6 .eql 3 (cI 34),
oM 4 6])))
(.cond 4
(sq (kr [] [oD 2 (.mov (cI 4))])
.ret)
.skip))))
(sq (kr [0] [oM 7 0,
oC 8 90 [7],
oB 9 .add 8 (cI 8),
oB 10 .sub 9 (cI 1),
oB 11 .quo 10 (cI 8),
oM 2 11])
.ret)))
def XH_:List RD:=[.tmp 2 true none]
theorem XT_:zl_ Tryz.prog Tryz.f91 X5_ XH_=true:=by kernel_rfl
def Qe_:List AV->List Obj->Option (Prop × AV)
 | [.int .i64 n],[]=>some (0<=n/\n < 40,.int .i64 (Qq_ n))
 | _,_=>none
theorem Kk_:zf_ Tryz.prog 91 (RoF Qe_).sum:=by
 refine zi_ Tryz.func91 XT_ (zc_ (s:=RoF qr_) Qn_ (ze_ _)) fun args objs p v e=>?_
 unfold Qe_ at e
 split at e
 ·rename_i n
  cases e
  refine ⟨rfl,fun hw _ hp=>?_⟩
  repeat'(intro t ht;first|(cases t<;>first|(cases ht;done)|(try simp only[zh_]at ht))|((first|refine za_ ht ?_|refine ht ?_ ?_|refine ht.1 ?_ ?_|refine ht ?_)<;>clear ht))
  all_goals have hb:=v3_ n.toNat (by omega)
  all_goals generalize hB:q7_.getD n.toNat 0=B at*
  all_goals first
   | exact hp
   | exact (by decide)
   | (exfalso;(try simp only [zm_,zn_,zk_] at*);omega)
   | ((try simp only [zm_,zn_,zk_] at*);omega)
   | ((try simp only [zm_,zn_,zk_] at*);rw [kw_ (by omega)];omega)
   | (refine ⟨?_,rfl⟩;unfold Qq_;rw [kw_ (by omega),hB,if_neg (by (try simp only [zm_,zn_,zk_] at*);omega)];congr 2;omega)
   | (refine ⟨?_,rfl⟩;unfold Qq_;rw [if_pos (by (try simp only [zm_,zn_,zk_] at*);omega)])
 ·cases e
def vq_ (n:Int):Bool:=[2,3,4,6,11,12,37,38,39,22,23,24,25,26,27,28].contains n
def Wv_:IR:=
(sq (kr [0] [oD 2 (.mov cF)])
(sq (sq (.reg [oM 3 0])
(.block 0
(sq (.block 2
(.block 1
(sq (sq (sq (sq (.reg [oB 5 .eql 3 (cI 2),
oM 4 5])
(.cond 4
.skip
(sq (.reg [oB 6 .eql 3 (cI 3),
oM 4 6])
(.cond 4
.skip
(sq (kr [3] [oB 7 .eql 3 (cI 4),
oM 4 7])
(.cond 4
.skip
(sq (.reg [oB 8 .eql 3 (cI 6),
oM 4 8])
(.cond 4
.skip
(sq (.reg [oB 9 .eql 3 (cI 11),
oM 4 9])
(.cond 4
.skip
(sq (kr [3] [oB 10 .eql 3 (cI 12),
oM 4 10])
(.cond 4
.skip
(sq (.reg [oB 11 .eql 3 (cI 37),
oM 4 11])
(.cond 4
.skip
(sq (.reg [oB 12 .eql 3 (cI 38),
oM 4 12])
(.cond 4
.skip
(kr [3] [oB 13 .eql 3 (cI 39),
oM 4 13])))))))))))))))))
(.cond 4
(.exit 1)
.skip))
(sq (sq (kr [3] [oB 15 .eql 3 (cI 22),
oM 14 15])
(.cond 14
.skip
(sq (.reg [oB 16 .eql 3 (cI 23),
oM 14 16])
(.cond 14
.skip
(sq (.reg [oB 17 .eql 3 (cI 24),
oM 14 17])
(.cond 14
.skip
(sq (kr [3] [oB 18 .eql 3 (cI 25),
oM 14 18])
(.cond 14
.skip
(sq (.reg [oB 19 .eql 3 (cI 26),
oM 14 19])
(.cond 14
.skip
(sq (.reg [oB 20 .eql 3 (cI 27),
oM 14 20])
(.cond 14
.skip
(kr [3] [oB 21 .eql 3 (cI 28),
oM 14 21])))))))))))))
(.cond 14
(.exit 2)
.skip)))
(.exit 0))))
(sq (sq (kr [] [oD 2 (.mov cT)])
.ret)
(.exit 0)))))
(sq (kr [] [oD 2 (.mov cF)])
.ret)))
def We_:List RD:=[.tmp 2 true none]
theorem Wn_:zl_ Tryz.prog Tryz.f92 Wv_ We_=true:=by kernel_rfl
def QB_:List AV->List Obj->Option (Prop × AV)
 | [.int .i64 n],[]=>some (True,.bool (vq_ n))
 | _,_=>none
theorem JZ_:zf_ Tryz.prog 92 (RoF QB_).sum:=by
 refine zi_ Tryz.func92 Wn_ (ze_ _) fun args objs p v e=>?_
 unfold QB_ at e
 split at e
 ·rename_i n
  cases e
  refine ⟨rfl,fun hw _ hp=>?_⟩
  repeat'(intro t ht;first|(cases t<;>first|(cases ht;done)|(try simp only[zh_]at ht))|((first|refine za_ ht ?_|refine ht ?_ ?_|refine ht.1 ?_ ?_|refine ht ?_)<;>clear ht))
  all_goals refine ⟨?_,rfl⟩
  all_goals (congr 1;simp_all [vq_];done)
 ·cases e
def gI_ (n:Int):Int × List Int:=
 if n=13\/n=14 then (10,[6]) else if n=15\/n=16 then (10,[17]) else if n=17\/n=18 then (10,[132]) else if n=19\/n=20 then (10,[1])
 else if n=29\/n=30 then (10,[58]) else if n=31 then (29,[135,136]) else if n=32 then (29,[135]) else if n=33 then (29,[136]) else (-1,[])
def X7_:IR:=
(sq (kr [0] [oD 2 (.mov (cI 0)),
oD 3 (.mov (.c (.imm (.int .u64) [])))])
(sq (sq (.reg [oM 4 0])
(.block 0
(sq (sq (.reg [oB 6 .eql 4 (cI 13),
oM 5 6])
(.cond 5
.skip
(.reg [oB 7 .eql 4 (cI 14),
oM 5 7])))
(.cond 5
(sq (kr [] [oD 8 (.sliceAll (.int .u64) 1 [(0,1,(.c (.int .u64 6)))]),
oD 2 (.mov (cI 10)),
oM 3 8])
.ret)
(sq (sq (kr [0,4] [oB 10 .eql 4 (cI 15),
oM 9 10])
(.cond 9
.skip
(.reg [oB 11 .eql 4 (cI 16),
oM 9 11])))
(.cond 9
(sq (.reg [oD 12 (.sliceAll (.int .u64) 1 [(0,1,(.c (.int .u64 17)))]),
oD 2 (.mov (cI 10)),
oM 3 12])
.ret)
(sq (sq (.reg [oB 14 .eql 4 (cI 17),
oM 13 14])
(.cond 13
.skip
(kr [0,4] [oB 15 .eql 4 (cI 18),
oM 13 15])))
(.cond 13
(sq (kr [] [oD 16 (.sliceAll (.int .u64) 1 [(0,1,(.c (.int .u64 132)))]),
oD 2 (.mov (cI 10)),
oM 3 16])
.ret)
(sq (sq (kr [0,4] [oB 18 .eql 4 (cI 19),
oM 17 18])
(.cond 17
.skip
(.reg [oB 19 .eql 4 (cI 20),
oM 17 19])))
(.cond 17
(sq (.reg [oD 20 (.sliceAll (.int .u64) 1 [(0,1,(.c (.int .u64 1)))]),
oD 2 (.mov (cI 10)),
oM 3 20])
.ret)
(sq (sq (.reg [oB 22 .eql 4 (cI 29),
oM 21 22])
(.cond 21
.skip
(kr [0,4] [oB 23 .eql 4 (cI 30),
oM 21 23])))
(.cond 21
(sq (kr [] [oD 24 (.sliceAll (.int .u64) 1 [(0,1,(.c (.int .u64 58)))]),
oD 2 (.mov (cI 10)),
oM 3 24])
.ret)
(sq (kr [0,4] [oB 26 .eql 4 (cI 31),
oM 25 26])
(.cond 25
(sq (.reg [oD 27 (.sliceAll (.int .u64) 2 [(0,1,(.c (.int .u64 135))),(1,1,(.c (.int .u64 136)))]),
oD 2 (.mov (cI 29)),
oM 3 27])
.ret)
(sq (sq (.reg [oB 29 .eql 4 (cI 32),
oM 28 29])
(.cond 28
.skip
(.reg [oB 30 .eql 4 (cI 33),
oM 28 30])))
(.cond 28
(sq (kr [0] [oM 31 0,
oD 32 (.conv .u64 31),
oB 33 .add 32 (.c (.int .u64 103)),
oD 34 (.sliceAll (.int .u64) 1 [(0,1,33)]),
oD 2 (.mov (cI 29)),
oM 3 34])
.ret)
.skip))))))))))))))))
(sq (kr [] [oD 2 (.mov (cI (-1))),
oD 3 (.mov (.c (.imm (.int .u64) [])))])
.ret)))
def XJ_:List RD:=[.tmp 2 true none,.tmp 3 true (some (.int .u64))]
theorem XV_:zl_ Tryz.prog Tryz.f95 X7_ XJ_=true:=by kernel_rfl
def kY_:List AV->List Obj->Option (Prop × AV)
 | [.int .i64 n],[]=>some (True,.tup [.int .i64 (gI_ n).1,.imm (.int .u64) (gI_ n).2])
 | _,_=>none
theorem WX_:zf_ Tryz.prog 95 (RoF kY_).sum:=by
 refine zi_ Tryz.func95 XV_ (ze_ _) fun args objs p v e=>?_
 unfold kY_ at e
 split at e
 ·rename_i n
  cases e
  refine ⟨rfl,fun hw _ hp=>?_⟩
  repeat'(intro t ht;first|(cases t<;>first|(cases ht;done)|(try simp only[zh_]at ht))|((first|refine za_ ht ?_|refine ht ?_ ?_|refine ht.1 ?_ ?_|refine ht ?_)<;>clear ht))
  all_goals first
   | (exfalso;(try simp only [zm_,zn_,zk_] at*);omega)
   | (refine ⟨?_,rfl⟩;simp_all [gI_];done)
   | ((try simp only [zm_,zn_,zk_] at*);omega)
   | ((try simp only [zm_,zn_,zk_] at*);subst_vars;exact ⟨rfl,rfl⟩)
   | ((try simp only [zm_,zn_,zk_] at*);have hn:n=32\/n=33:=by omega
      rcases hn with rfl | rfl<;>exact ⟨rfl,rfl⟩)
 ·cases e
def Z1_ (n:Int):Int × List Int:=
 if n=1 then (0,[]) else if n=7 then (6,[]) else if n=8\/n=9\/n=10 then (5,[2048,34525]) else if n=11\/n=12 then (5,[2048])
 else if n=21\/n=22\/n=23\/n=24\/n=25 then (5,[2054]) else if n=26\/n=27\/n=28\/n=39 then (5,[34525])
 else if n=34\/n=35\/n=36 then (5,[34887,34888]) else if n=37 then (5,[35047]) else gI_ n
def X6_:IR:=
(sq (kr [0] [oD 2 (.mov (cI 0)),
oD 3 (.mov (.c (.imm (.int .u64) [])))])
(sq (sq (.reg [oM 4 0])
(.block 0
(sq (.reg [oB 6 .eql 4 (cI 1),
oM 5 6])
(.cond 5
(sq (.reg [oD 2 (.mov (cI 0)),
oD 3 (.mov (.c (.imm (.int .u64) [])))])
.ret)
(sq (.reg [oB 8 .eql 4 (cI 7),
oM 7 8])
(.cond 7
(sq (kr [] [oD 2 (.mov (cI 6)),
oD 3 (.mov (.c (.imm (.int .u64) [])))])
.ret)
(sq (sq (kr [0,4] [oB 10 .eql 4 (cI 8),
oM 9 10])
(.cond 9
.skip
(sq (.reg [oB 11 .eql 4 (cI 9),
oM 9 11])
(.cond 9
.skip
(.reg [oB 12 .eql 4 (cI 10),
oM 9 12])))))
(.cond 9
(sq (kr [] [oD 13 (.sliceAll (.int .u64) 2 [(0,1,(.c (.int .u64 2048))),(1,1,(.c (.int .u64 34525)))]),
oD 2 (.mov (cI 5)),
oM 3 13])
.ret)
(sq (sq (kr [0,4] [oB 15 .eql 4 (cI 11),
oM 14 15])
(.cond 14
.skip
(.reg [oB 16 .eql 4 (cI 12),
oM 14 16])))
(.cond 14
(sq (.reg [oD 17 (.sliceAll (.int .u64) 1 [(0,1,(.c (.int .u64 2048)))]),
oD 2 (.mov (cI 5)),
oM 3 17])
.ret)
(sq (sq (.reg [oB 19 .eql 4 (cI 21),
oM 18 19])
(.cond 18
.skip
(sq (kr [0,4] [oB 20 .eql 4 (cI 22),
oM 18 20])
(.cond 18
.skip
(sq (.reg [oB 21 .eql 4 (cI 23),
oM 18 21])
(.cond 18
.skip
(sq (.reg [oB 22 .eql 4 (cI 24),
oM 18 22])
(.cond 18
.skip
(kr [0,4] [oB 23 .eql 4 (cI 25),
oM 18 23])))))))))
(.cond 18
(sq (kr [] [oD 24 (.sliceAll (.int .u64) 1 [(0,1,(.c (.int .u64 2054)))]),
oD 2 (.mov (cI 5)),
oM 3 24])
.ret)
(sq (sq (kr [0,4] [oB 26 .eql 4 (cI 26),
oM 25 26])
(.cond 25
.skip
(sq (.reg [oB 27 .eql 4 (cI 27),
oM 25 27])
(.cond 25
.skip
(sq (.reg [oB 28 .eql 4 (cI 28),
oM 25 28])
(.cond 25
.skip
(kr [0,4] [oB 29 .eql 4 (cI 39),
oM 25 29])))))))
(.cond 25
(sq (kr [] [oD 30 (.sliceAll (.int .u64) 1 [(0,1,(.c (.int .u64 34525)))]),
oD 2 (.mov (cI 5)),
oM 3 30])
.ret)
(sq (sq (kr [0,4] [oB 32 .eql 4 (cI 34),
oM 31 32])
(.cond 31
.skip
(sq (.reg [oB 33 .eql 4 (cI 35),
oM 31 33])
(.cond 31
.skip
(.reg [oB 34 .eql 4 (cI 36),
oM 31 34])))))
(.cond 31
(sq (kr [] [oD 35 (.sliceAll (.int .u64) 2 [(0,1,(.c (.int .u64 34887))),(1,1,(.c (.int .u64 34888)))]),
oD 2 (.mov (cI 5)),
oM 3 35])
.ret)
(sq (kr [0,4] [oB 37 .eql 4 (cI 37),
oM 36 37])
(.cond 36
(sq (.reg [oD 38 (.sliceAll (.int .u64) 1 [(0,1,(.c (.int .u64 35047)))]),
oD 2 (.mov (cI 5)),
oM 3 38])
.ret)
.skip))))))))))))))))))
(sq (kr [0] [oM 39 0,
oC 40 95 [39],
oX 41 40 0,
oX 42 40 1,
oM 2 41,
oM 3 42])
.ret)))
def XI_:List RD:=[.tmp 2 true none,.tmp 3 true (some (.int .u64))]
theorem XU_:zl_ Tryz.prog Tryz.f93 X6_ XI_=true:=by kernel_rfl
def kX_:List AV->List Obj->Option (Prop × AV)
 | [.int .i64 n],[]=>some (True,.tup [.int .i64 (Z1_ n).1,.imm (.int .u64) (Z1_ n).2])
 | _,_=>none
theorem WW_:zf_ Tryz.prog 93 (RoF kX_).sum:=by
 refine zi_ Tryz.func93 XU_ (zc_ (s:=RoF kY_) WX_ (ze_ _)) fun args objs p v e=>?_
 unfold kX_ at e
 split at e
 ·rename_i n
  cases e
  refine ⟨rfl,fun hw _ hp=>?_⟩
  repeat'(intro t ht;first|(cases t<;>first|(cases ht;done)|(try simp only[zh_]at ht))|((first|refine za_ ht ?_|refine ht ?_ ?_|refine ht.1 ?_ ?_|refine ht ?_)<;>clear ht))
  all_goals first
   | trivial
   | (exfalso;(try simp only [zm_,zn_,zk_] at*);omega)
   | (refine ⟨?_,rfl⟩;simp_all [Z1_];done)
   | ((try simp only [zm_,zn_,zk_] at*);subst_vars;exact ⟨rfl,rfl⟩)
 ·cases e
def vn_:List (List Int):=[[105,110,95,112,111,114,116],[105,110,95,112,104,121,95,112,111,114,116],[109,101,116,97,100,97,116,97],[101,116,104,95,100,115,116],[101,116,104,95,115,114,99],[101,116,104,95,116,121,112,101],[118,108,97,110,95,118,105,100],[118,108,97,110,95,112,99,112],[105,112,95,100,115,99,112],[105,112,95,101,99,110],[105,112,95,112,114,111,116,111],[105,112,118,52,95,115,114,99],[105,112,118,52,95,100,115,116],[116,99,112,95,115,114,99],[116,99,112,95,100,115,116],[117,100,112,95,115,114,99],[117,100,112,95,100,115,116],[115,99,116,112,95,115,114,99],[115,99,116,112,95,100,115,116],[105,99,109,112,118,52,95,116,121,112,101],[105,99,109,112,118,52,95,99,111,100,101],[97,114,112,95,111,112],[97,114,112,95,115,112,97],[97,114,112,95,116,112,97],[97,114,112,95,115,104,97],[97,114,112,95,116,104,97],[105,112,118,54,95,115,114,99],[105,112,118,54,95,100,115,116],[105,112,118,54,95,102,108,97,98,101,108],[105,99,109,112,118,54,95,116,121,112,101],[105,99,109,112,118,54,95,99,111,100,101],[105,112,118,54,95,110,100,95,116,97,114,103,101,116],[105,112,118,54,95,110,100,95,115,108,108],[105,112,118,54,95,110,100,95,116,108,108],[109,112,108,115,95,108,97,98,101,108],[109,112,108,115,95,116,99],[109,112,108,115,95,98,111,115],[112,98,98,95,105,115,105,100],[116,117,110,110,101,108,95,105,100],[105,112,118,54,95,101,120,116,104,100,114]]
def Jj_ (n:Int):Bool:=decide (2 < n) && decide (n < 39)
def JE_:IR:=
(sq (kr [0] [oD 2 (.mov cF)])
(sq (kr [0] [oM 3 0,
oC 4 70 [3],
oM 5 4,
oT 5 6 (.mov 0),
oT 5 7 (.bin .gtr 6 (cI 2)),
oP 8 5 7 cF,
oM 9 8,
oT 9 10 (.mov 0),
oT 9 11 (.bin .neq 10 (cI 39)),
oP 12 9 11 cF,
oM 2 12])
.ret))
def Jm_:List RD:=[.tmp 2 true none]
theorem Ju_:zl_ Tryz.prog Tryz.f56 JE_ Jm_=true:=by kernel_rfl
def qH_:List AV->List Obj->Option (Prop × AV)
 | [.int .i64 n],[]=>some ((True,.bool (Jj_ n)))
 | _,_=>none
theorem jv_:zf_ Tryz.prog 56 (RoF qH_).sum:=by
 refine zi_ Tryz.func56 Ju_ (zc_ (s:=RoF QC_) ky_ (ze_ _)) fun args objs p v e=>?_
 unfold qH_ at e
 split at e
 ·rename_i n
  cases e
  refine ⟨rfl,fun hw ho hp=>?_⟩
  repeat'(intro t ht;first|(cases t<;>first|(cases ht;done)|(try simp only[zh_]at ht))|((first|refine za_ ht ?_|refine ht ?_ ?_|refine ht.1 ?_ ?_|refine ht ?_)<;>clear ht))
  all_goals first
   | trivial
   | (refine ⟨?_,rfl⟩;unfold Jj_;congr 1;rw [Bool.eq_iff_iff];first | (have h:=ZR_.1 (by assumption);simp at*;omega) | (have h:=QR_.1 (by assumption);simp at*;omega) | (simp at*;omega))
 ·cases e
def qT_ (n:Int):Int:=if fIs n then q7_.getD n.toNat 0 else 0
def Kv_ (n:Int):Int:=if fIs n then Qq_ n else 0
def yN_ (n:Int):Bool:=if fIs n then vq_ n else false
def hI_ (n:Int):Int:=if fIs n then (Z1_ n).1 else 0
def hH_ (n:Int):List Int:=if fIs n then (Z1_ n).2 else []
abbrev ofF (n:Int):AV:=.tup [.agg [.int .i64 (qT_ n),.int .i64 (Kv_ n),.bool (yN_ n),.int .i64 (hI_ n),.imm (.int .u64) (hH_ n)],.bool (fIs n)]
def uv_:IR:=
(sq (kr [0] [oD 2 (.box [.int .i64 0,.int .i64 0,.kb false,.int .i64 0,.imm (.int .u64) []]),
oD 3 (.mov cF)])
(sq (sq (.reg [oM 5 0,
oC 6 70 [5],
oD 7 (.un .not 6)])
(.cond 7
(sq (.reg [oD 8 (.build [.int .i64 0,.int .i64 0,.kb false,.int .i64 0,.imm (.int .u64) []] []),
oS 5 2 8,
oD 3 (.mov cF)])
.ret)
.skip))
(sq (kr [0,2] [oM 9 0,
oC 10 90 [9],
oM 11 0,
oC 12 91 [11],
oM 13 0,
oC 14 92 [13],
oD 15 (.build [.int .i64 0,.int .i64 0,.kb false,.int .i64 0,.imm (.int .u64) []] [(0,1,10),(1,1,12),(2,1,14)]),
oD 4 (.box [.int .i64 0,.int .i64 0,.kb false,.int .i64 0,.imm (.int .u64) []]),
oS 5 4 15])
(sq (kr [0,2,4] [oM 17 0,
oC 18 93 [17],
oM 16 18,
oX 19 16 0,
oX 20 16 1,
oA 21 3 4,
oS 1 21 19,
oA 22 4 4,
oS 1 22 20])
(sq (kr [2,4] [oK 23 5 4,
oS 5 2 23,
oD 3 (.mov cT)])
.ret)))))
def VI_:List RD:=[.cell 2 (some 5) true [],.tmp 3 true none]
theorem V1_:zl_ Tryz.prog Tryz.f80 uv_ VI_=true:=by kernel_rfl
def j4_:List AV->List Obj->Option (Prop × AV)
 | [.int .i64 n],[]=>some ((True,ofF n))
 | _,_=>none
theorem Yp_:zf_ Tryz.prog 80 (RoF j4_).sum:=by
 refine zi_ Tryz.func80 V1_ (zc_ (s:=RoF QC_) ky_ (zc_ (s:=RoF qr_) Qn_ (zc_ (s:=RoF Qe_) Kk_ (zc_ (s:=RoF QB_) JZ_ (zc_ (s:=RoF kX_) WW_ (ze_ _)))))) fun args objs p v e=>?_
 unfold j4_ at e
 split at e
 ·rename_i n
  cases e
  refine ⟨rfl,fun hw ho hp=>?_⟩
  repeat'(intro t ht;first|(cases t<;>first|(cases ht;done)|(try simp only[zh_]at ht))|((first|refine za_ ht ?_|refine ht ?_ ?_|refine ht.1 ?_ ?_|refine ht ?_)<;>clear ht))
  all_goals try (try simp only [zm_,zn_,zk_] at*)
  all_goals first
   | exact ZR_.1 (by assumption)
   | (simp_all [ofF,qT_,Kv_,yN_,hI_,hH_];done)
 ·cases e
def hy_:List (List Int)->List Int->Nat->Int
 | [],_,_=>-1
 | a :: r,s,k=>if s=a then k else hy_ r s (k+1)
def bl_ (s:List Int):Int:=if 0 > hy_ vn_ s 0 then 0 else hy_ vn_ s 0
def bm_ (s:List Int):Bool:=decide (0<=hy_ vn_ s 0)
abbrev vS_:Ty:=(.cons .str (.cons (.int .i64) (.cons (.int .i64) (.cons .bool (.cons (.int .i64) (.cons (.sl (.int .u64)) .nil))))))
def tab:List vS_.den:=[([105,110,95,112,111,114,116],32,4,false,-1,[],()),
 ([105,110,95,112,104,121,95,112,111,114,116],32,4,false,0,[],()),
 ([109,101,116,97,100,97,116,97],64,8,true,-1,[],()),
 ([101,116,104,95,100,115,116],48,6,true,-1,[],()),
 ([101,116,104,95,115,114,99],48,6,true,-1,[],()),
 ([101,116,104,95,116,121,112,101],16,2,false,-1,[],()),
 ([118,108,97,110,95,118,105,100],13,2,true,-1,[],()),
 ([118,108,97,110,95,112,99,112],3,1,false,6,[],()),
 ([105,112,95,100,115,99,112],6,1,false,5,[2048,34525],()),
 ([105,112,95,101,99,110],2,1,false,5,[2048,34525],()),
 ([105,112,95,112,114,111,116,111],8,1,false,5,[2048,34525],()),
 ([105,112,118,52,95,115,114,99],32,4,true,5,[2048],()),
 ([105,112,118,52,95,100,115,116],32,4,true,5,[2048],()),
 ([116,99,112,95,115,114,99],16,2,false,10,[6],()),
 ([116,99,112,95,100,115,116],16,2,false,10,[6],()),
 ([117,100,112,95,115,114,99],16,2,false,10,[17],()),
 ([117,100,112,95,100,115,116],16,2,false,10,[17],()),
 ([115,99,116,112,95,115,114,99],16,2,false,10,[132],()),
 ([115,99,116,112,95,100,115,116],16,2,false,10,[132],()),
 ([105,99,109,112,118,52,95,116,121,112,101],8,1,false,10,[1],()),
 ([105,99,109,112,118,52,95,99,111,100,101],8,1,false,10,[1],()),
 ([97,114,112,95,111,112],16,2,false,5,[2054],()),
 ([97,114,112,95,115,112,97],32,4,true,5,[2054],()),
 ([97,114,112,95,116,112,97],32,4,true,5,[2054],()),
 ([97,114,112,95,115,104,97],48,6,true,5,[2054],()),
 ([97,114,112,95,116,104,97],48,6,true,5,[2054],()),
 ([105,112,118,54,95,115,114,99],128,16,true,5,[34525],()),
 ([105,112,118,54,95,100,115,116],128,16,true,5,[34525],()),
 ([105,112,118,54,95,102,108,97,98,101,108],20,4,true,5,[34525],()),
 ([105,99,109,112,118,54,95,116,121,112,101],8,1,false,10,[58],()),
 ([105,99,109,112,118,54,95,99,111,100,101],8,1,false,10,[58],()),
 ([105,112,118,54,95,110,100,95,116,97,114,103,101,116],128,16,false,29,[135,136],()),
 ([105,112,118,54,95,110,100,95,115,108,108],48,6,false,29,[135],()),
 ([105,112,118,54,95,110,100,95,116,108,108],48,6,false,29,[136],()),
 ([109,112,108,115,95,108,97,98,101,108],20,4,false,5,[34887,34888],()),
 ([109,112,108,115,95,116,99],3,1,false,5,[34887,34888],()),
 ([109,112,108,115,95,98,111,115],1,1,false,5,[34887,34888],()),
 ([112,98,98,95,105,115,105,100],24,3,true,5,[35047],()),
 ([116,117,110,110,101,108,95,105,100],64,8,true,-1,[],()),
 ([105,112,118,54,95,101,120,116,104,100,114],9,2,true,5,[34525],())]
def UV_:IR:=
(sq (kr [] [oD 0 (.mov (.c (.imm (.cons .str (.cons (.int .i64) (.cons (.int .i64) (.cons .bool (.cons (.int .i64) (.cons (.sl (.int .u64)) .nil)))))) [])))])
(sq (kr [] [oD 1 (.buildAll 6 [(0,1,(.c (.str [105,110,95,112,111,114,116]))),(1,1,(cI 32)),(2,1,(cI 4)),(3,1,cF),(4,1,(cI (-1))),(5,1,(.c (.imm (.int .u64) [])))]),
oD 2 (.buildAll 6 [(0,1,(.c (.str [105,110,95,112,104,121,95,112,111,114,116]))),(1,1,(cI 32)),(2,1,(cI 4)),(3,1,cF),(4,1,(cI 0)),(5,1,(.c (.imm (.int .u64) [])))]),
oD 3 (.buildAll 6 [(0,1,(.c (.str [109,101,116,97,100,97,116,97]))),(1,1,(cI 64)),(2,1,(cI 8)),(3,1,cT),(4,1,(cI (-1))),(5,1,(.c (.imm (.int .u64) [])))]),
oD 4 (.buildAll 6 [(0,1,(.c (.str [101,116,104,95,100,115,116]))),(1,1,(cI 48)),(2,1,(cI 6)),(3,1,cT),(4,1,(cI (-1))),(5,1,(.c (.imm (.int .u64) [])))]),
oD 5 (.buildAll 6 [(0,1,(.c (.str [101,116,104,95,115,114,99]))),(1,1,(cI 48)),(2,1,(cI 6)),(3,1,cT),(4,1,(cI (-1))),(5,1,(.c (.imm (.int .u64) [])))]),
oD 6 (.buildAll 6 [(0,1,(.c (.str [101,116,104,95,116,121,112,101]))),(1,1,(cI 16)),(2,1,(cI 2)),(3,1,cF),(4,1,(cI (-1))),(5,1,(.c (.imm (.int .u64) [])))]),
oD 7 (.buildAll 6 [(0,1,(.c (.str [118,108,97,110,95,118,105,100]))),(1,1,(cI 13)),(2,1,(cI 2)),(3,1,cT),(4,1,(cI (-1))),(5,1,(.c (.imm (.int .u64) [])))]),
oD 8 (.buildAll 6 [(0,1,(.c (.str [118,108,97,110,95,112,99,112]))),(1,1,(cI 3)),(2,1,(cI 1)),(3,1,cF),(4,1,(cI 6)),(5,1,(.c (.imm (.int .u64) [])))]),
oD 9 (.sliceAll (.int .u64) 2 [(0,1,(.c (.int .u64 2048))),(1,1,(.c (.int .u64 34525)))]),
oD 10 (.buildAll 6 [(0,1,(.c (.str [105,112,95,100,115,99,112]))),(1,1,(cI 6)),(2,1,(cI 1)),(3,1,cF),(4,1,(cI 5)),(5,1,9)]),
oD 11 (.sliceAll (.int .u64) 2 [(0,1,(.c (.int .u64 2048))),(1,1,(.c (.int .u64 34525)))]),
oD 12 (.buildAll 6 [(0,1,(.c (.str [105,112,95,101,99,110]))),(1,1,(cI 2)),(2,1,(cI 1)),(3,1,cF),(4,1,(cI 5)),(5,1,11)]),
oD 13 (.sliceAll (.int .u64) 2 [(0,1,(.c (.int .u64 2048))),(1,1,(.c (.int .u64 34525)))]),
oD 14 (.buildAll 6 [(0,1,(.c (.str [105,112,95,112,114,111,116,111]))),(1,1,(cI 8)),(2,1,(cI 1)),(3,1,cF),(4,1,(cI 5)),(5,1,13)]),
oD 15 (.sliceAll (.int .u64) 1 [(0,1,(.c (.int .u64 2048)))]),
oD 16 (.buildAll 6 [(0,1,(.c (.str [105,112,118,52,95,115,114,99]))),(1,1,(cI 32)),(2,1,(cI 4)),(3,1,cT),(4,1,(cI 5)),(5,1,15)]),
oD 17 (.sliceAll (.int .u64) 1 [(0,1,(.c (.int .u64 2048)))]),
oD 18 (.buildAll 6 [(0,1,(.c (.str [105,112,118,52,95,100,115,116]))),(1,1,(cI 32)),(2,1,(cI 4)),(3,1,cT),(4,1,(cI 5)),(5,1,17)]),
oD 19 (.sliceAll (.int .u64) 1 [(0,1,(.c (.int .u64 6)))]),
oD 20 (.buildAll 6 [(0,1,(.c (.str [116,99,112,95,115,114,99]))),(1,1,(cI 16)),(2,1,(cI 2)),(3,1,cF),(4,1,(cI 10)),(5,1,19)]),
oD 21 (.sliceAll (.int .u64) 1 [(0,1,(.c (.int .u64 6)))]),
oD 22 (.buildAll 6 [(0,1,(.c (.str [116,99,112,95,100,115,116]))),(1,1,(cI 16)),(2,1,(cI 2)),(3,1,cF),(4,1,(cI 10)),(5,1,21)]),
oD 23 (.sliceAll (.int .u64) 1 [(0,1,(.c (.int .u64 17)))]),
oD 24 (.buildAll 6 [(0,1,(.c (.str [117,100,112,95,115,114,99]))),(1,1,(cI 16)),(2,1,(cI 2)),(3,1,cF),(4,1,(cI 10)),(5,1,23)]),
oD 25 (.sliceAll (.int .u64) 1 [(0,1,(.c (.int .u64 17)))]),
oD 26 (.buildAll 6 [(0,1,(.c (.str [117,100,112,95,100,115,116]))),(1,1,(cI 16)),(2,1,(cI 2)),(3,1,cF),(4,1,(cI 10)),(5,1,25)]),
oD 27 (.sliceAll (.int .u64) 1 [(0,1,(.c (.int .u64 132)))]),
oD 28 (.buildAll 6 [(0,1,(.c (.str [115,99,116,112,95,115,114,99]))),(1,1,(cI 16)),(2,1,(cI 2)),(3,1,cF),(4,1,(cI 10)),(5,1,27)]),
oD 29 (.sliceAll (.int .u64) 1 [(0,1,(.c (.int .u64 132)))]),
oD 30 (.buildAll 6 [(0,1,(.c (.str [115,99,116,112,95,100,115,116]))),(1,1,(cI 16)),(2,1,(cI 2)),(3,1,cF),(4,1,(cI 10)),(5,1,29)]),
oD 31 (.sliceAll (.int .u64) 1 [(0,1,(.c (.int .u64 1)))]),
oD 32 (.buildAll 6 [(0,1,(.c (.str [105,99,109,112,118,52,95,116,121,112,101]))),(1,1,(cI 8)),(2,1,(cI 1)),(3,1,cF),(4,1,(cI 10)),(5,1,31)]),
oD 33 (.sliceAll (.int .u64) 1 [(0,1,(.c (.int .u64 1)))]),
oD 34 (.buildAll 6 [(0,1,(.c (.str [105,99,109,112,118,52,95,99,111,100,101]))),(1,1,(cI 8)),(2,1,(cI 1)),(3,1,cF),(4,1,(cI 10)),(5,1,33)]),
oD 35 (.sliceAll (.int .u64) 1 [(0,1,(.c (.int .u64 2054)))]),
oD 36 (.buildAll 6 [(0,1,(.c (.str [97,114,112,95,111,112]))),(1,1,(cI 16)),(2,1,(cI 2)),(3,1,cF),(4,1,(cI 5)),(5,1,35)]),
oD 37 (.sliceAll (.int .u64) 1 [(0,1,(.c (.int .u64 2054)))]),
oD 38 (.buildAll 6 [(0,1,(.c (.str [97,114,112,95,115,112,97]))),(1,1,(cI 32)),(2,1,(cI 4)),(3,1,cT),(4,1,(cI 5)),(5,1,37)]),
oD 39 (.sliceAll (.int .u64) 1 [(0,1,(.c (.int .u64 2054)))]),
oD 40 (.buildAll 6 [(0,1,(.c (.str [97,114,112,95,116,112,97]))),(1,1,(cI 32)),(2,1,(cI 4)),(3,1,cT),(4,1,(cI 5)),(5,1,39)]),
oD 41 (.sliceAll (.int .u64) 1 [(0,1,(.c (.int .u64 2054)))]),
oD 42 (.buildAll 6 [(0,1,(.c (.str [97,114,112,95,115,104,97]))),(1,1,(cI 48)),(2,1,(cI 6)),(3,1,cT),(4,1,(cI 5)),(5,1,41)]),
oD 43 (.sliceAll (.int .u64) 1 [(0,1,(.c (.int .u64 2054)))]),
oD 44 (.buildAll 6 [(0,1,(.c (.str [97,114,112,95,116,104,97]))),(1,1,(cI 48)),(2,1,(cI 6)),(3,1,cT),(4,1,(cI 5)),(5,1,43)]),
oD 45 (.sliceAll (.int .u64) 1 [(0,1,(.c (.int .u64 34525)))]),
oD 46 (.buildAll 6 [(0,1,(.c (.str [105,112,118,54,95,115,114,99]))),(1,1,(cI 128)),(2,1,(cI 16)),(3,1,cT),(4,1,(cI 5)),(5,1,45)]),
oD 47 (.sliceAll (.int .u64) 1 [(0,1,(.c (.int .u64 34525)))]),
oD 48 (.buildAll 6 [(0,1,(.c (.str [105,112,118,54,95,100,115,116]))),(1,1,(cI 128)),(2,1,(cI 16)),(3,1,cT),(4,1,(cI 5)),(5,1,47)]),
oD 49 (.sliceAll (.int .u64) 1 [(0,1,(.c (.int .u64 34525)))]),
oD 50 (.buildAll 6 [(0,1,(.c (.str [105,112,118,54,95,102,108,97,98,101,108]))),(1,1,(cI 20)),(2,1,(cI 4)),(3,1,cT),(4,1,(cI 5)),(5,1,49)]),
oD 51 (.sliceAll (.int .u64) 1 [(0,1,(.c (.int .u64 58)))]),
oD 52 (.buildAll 6 [(0,1,(.c (.str [105,99,109,112,118,54,95,116,121,112,101]))),(1,1,(cI 8)),(2,1,(cI 1)),(3,1,cF),(4,1,(cI 10)),(5,1,51)]),
oD 53 (.sliceAll (.int .u64) 1 [(0,1,(.c (.int .u64 58)))]),
oD 54 (.buildAll 6 [(0,1,(.c (.str [105,99,109,112,118,54,95,99,111,100,101]))),(1,1,(cI 8)),(2,1,(cI 1)),(3,1,cF),(4,1,(cI 10)),(5,1,53)]),
oD 55 (.sliceAll (.int .u64) 2 [(0,1,(.c (.int .u64 135))),(1,1,(.c (.int .u64 136)))]),
oD 56 (.buildAll 6 [(0,1,(.c (.str [105,112,118,54,95,110,100,95,116,97,114,103,101,116]))),(1,1,(cI 128)),(2,1,(cI 16)),(3,1,cF),(4,1,(cI 29)),(5,1,55)]),
oD 57 (.sliceAll (.int .u64) 1 [(0,1,(.c (.int .u64 135)))]),
oD 58 (.buildAll 6 [(0,1,(.c (.str [105,112,118,54,95,110,100,95,115,108,108]))),(1,1,(cI 48)),(2,1,(cI 6)),(3,1,cF),(4,1,(cI 29)),(5,1,57)]),
oD 59 (.sliceAll (.int .u64) 1 [(0,1,(.c (.int .u64 136)))]),
oD 60 (.buildAll 6 [(0,1,(.c (.str [105,112,118,54,95,110,100,95,116,108,108]))),(1,1,(cI 48)),(2,1,(cI 6)),(3,1,cF),(4,1,(cI 29)),(5,1,59)]),
oD 61 (.sliceAll (.int .u64) 2 [(0,1,(.c (.int .u64 34887))),(1,1,(.c (.int .u64 34888)))]),
oD 62 (.buildAll 6 [(0,1,(.c (.str [109,112,108,115,95,108,97,98,101,108]))),(1,1,(cI 20)),(2,1,(cI 4)),(3,1,cF),(4,1,(cI 5)),(5,1,61)]),
oD 63 (.sliceAll (.int .u64) 2 [(0,1,(.c (.int .u64 34887))),(1,1,(.c (.int .u64 34888)))]),
oD 64 (.buildAll 6 [(0,1,(.c (.str [109,112,108,115,95,116,99]))),(1,1,(cI 3)),(2,1,(cI 1)),(3,1,cF),(4,1,(cI 5)),(5,1,63)]),
oD 65 (.sliceAll (.int .u64) 2 [(0,1,(.c (.int .u64 34887))),(1,1,(.c (.int .u64 34888)))]),
oD 66 (.buildAll 6 [(0,1,(.c (.str [109,112,108,115,95,98,111,115]))),(1,1,(cI 1)),(2,1,(cI 1)),(3,1,cF),(4,1,(cI 5)),(5,1,65)]),
oD 67 (.sliceAll (.int .u64) 1 [(0,1,(.c (.int .u64 35047)))]),
oD 68 (.buildAll 6 [(0,1,(.c (.str [112,98,98,95,105,115,105,100]))),(1,1,(cI 24)),(2,1,(cI 3)),(3,1,cT),(4,1,(cI 5)),(5,1,67)]),
oD 69 (.buildAll 6 [(0,1,(.c (.str [116,117,110,110,101,108,95,105,100]))),(1,1,(cI 64)),(2,1,(cI 8)),(3,1,cT),(4,1,(cI (-1))),(5,1,(.c (.imm (.int .u64) [])))]),
oD 70 (.sliceAll (.int .u64) 1 [(0,1,(.c (.int .u64 34525)))]),
oD 71 (.buildAll 6 [(0,1,(.c (.str [105,112,118,54,95,101,120,116,104,100,114]))),(1,1,(cI 9)),(2,1,(cI 2)),(3,1,cT),(4,1,(cI 5)),(5,1,70)]),
oD 72 (.sliceAll (.cons .str (.cons (.int .i64) (.cons (.int .i64) (.cons .bool (.cons (.int .i64) (.cons (.sl (.int .u64)) .nil)))))) 40 [(0,6,1),(6,6,2),(12,6,3),(18,6,4),(24,6,5),(30,6,6),(36,6,7),(42,6,8),(48,6,10),(54,6,12),(60,6,14),(66,6,16),(72,6,18),(78,6,20),(84,6,22),(90,6,24),(96,6,26),(102,6,28),(108,6,30),(114,6,32),(120,6,34),(126,6,36),(132,6,38),(138,6,40),(144,6,42),(150,6,44),(156,6,46),(162,6,48),(168,6,50),(174,6,52),(180,6,54),(186,6,56),(192,6,58),(198,6,60),(204,6,62),(210,6,64),(216,6,66),(222,6,68),(228,6,69),(234,6,71)]),
oM 0 72])
.ret))
def Ur_:List RD:=[.tmp 0 true (some (.cons .str (.cons (.int .i64) (.cons (.int .i64) (.cons .bool (.cons (.int .i64) (.cons (.sl (.int .u64)) .nil)))))))]
theorem UD_:zl_ Tryz.prog Tryz.f85 UV_ Ur_=true:=by kernel_rfl
def wE_:List AV->List Obj->Option (Prop × AV)
 | [],[]=>some (True,.imm vS_ tab)
 | _,_=>none
theorem Vl_:zf_ Tryz.prog 85 (RoF wE_).sum:=by
 refine zi_ Tryz.func85 UD_ (ze_ _) fun args objs p v e=>?_
 unfold wE_ at e
 split at e
 ·cases e
  refine ⟨rfl,fun hw _ hp=>?_⟩
  repeat'(intro t ht;first|(cases t<;>first|(cases ht;done)|(try simp only[zh_]at ht))|((first|refine za_ ht ?_|refine ht ?_ ?_|refine ht.1 ?_ ?_|refine ht ?_)<;>clear ht))
  exact ⟨rfl,rfl⟩
 ·cases e
def gY_ (n:Int):vS_.den:=tab.getD n.toNat vS_.dflt
def V5_ (n:Int):List Int:=if fIs n then (gY_ n).1 else []
def ZS_ (n:Int):Int:=if fIs n then (gY_ n).2.1 else 0
def Ze_ (n:Int):Int:=if fIs n then (gY_ n).2.2.1 else 0
def Kq_ (n:Int):Bool:=if fIs n then (gY_ n).2.2.2.1 else false
def V4_ (n:Int):Int:=if fIs n then (gY_ n).2.2.2.2.1 else 0
def Vd_ (n:Int):List Int:=if fIs n then (gY_ n).2.2.2.2.2.1 else []
abbrev ofR (n:Int):AV:=.tup [.agg [.str (V5_ n),.int .i64 (ZS_ n),.int .i64 (Ze_ n),.bool (Kq_ n),.int .i64 (V4_ n),.imm (.int .u64) (Vd_ n)],.bool (fIs n)]
theorem bt_:tab.length=40:=rfl
def Gm_:IR:=
(sq (kr [0] [oD 2 (.box [.str [],.int .i64 0,.int .i64 0,.kb false,.int .i64 0,.imm (.int .u64) []]),
oD 3 (.mov cF)])
(sq (.reg [oC 5 85 [],
oM 4 5])
(sq (sq (kr [0,2,4] [oM 6 0,
oB 7 .lss 6 (cI 0),
oM 8 7,
oF 8 9 (.mov 0),
oF 8 10 (.mov 4),
oF 8 11 (.len 10),
oF 8 12 (.bin .geq 9 11),
oP 13 8 cT 12])
(.cond 13
(sq (kr [2] [oD 14 (.build [.str [],.int .i64 0,.int .i64 0,.kb false,.int .i64 0,.imm (.int .u64) []] []),
oS 6 2 14,
oD 3 (.mov cF)])
.ret)
.skip))
(sq (kr [0,2,4] [oM 15 4,
oM 16 0,
oI 17 6 15 16,
oK 18 6 17,
oS 6 2 18,
oD 3 (.mov cT)])
.ret))))
def g7_:List RD:=[.cell 2 (some 6) true [],.tmp 3 true none]
theorem Ga_:zl_ Tryz.prog Tryz.f75 Gm_ g7_=true:=by kernel_rfl
def kn_:List AV->List Obj->Option (Prop × AV)
 | [.int .i64 n],[]=>some ((True,ofR n))
 | _,_=>none
theorem kx_:zf_ Tryz.prog 75 (RoF kn_).sum:=by
 refine zi_ Tryz.func75 Ga_ (zc_ (s:=RoF wE_) Vl_ (ze_ _)) fun args objs p v e=>?_
 unfold kn_ at e
 split at e
 ·rename_i n
  cases e
  refine ⟨rfl,fun hw ho hp=>?_⟩
  repeat'(intro t ht;first|(cases t<;>first|(cases ht;done)|(try simp only[zh_]at ht))|((first|refine za_ ht ?_|refine ht ?_ ?_|refine ht.1 ?_ ?_|refine ht ?_)<;>clear ht))
  all_goals first
   | trivial
   | ((try simp only [zm_,zn_,zk_] at*);rw [bt_] at*;omega)
   | (refine ⟨?_,rfl⟩
      first
       | (have hn:fIs n=true:=ZR_.2 (by (try simp only [zm_,zn_,zk_] at*);rw [bt_] at*;omega)
          unfold ofR V5_ ZS_ Ze_ Kq_ V4_ Vd_;rw [hn];rfl)
       | (have hn:fIs n=false:=QR_.2 (by (try simp only [zm_,zn_,zk_] at*);rw [bt_] at*;omega)
          unfold ofR V5_ ZS_ Ze_ Kq_ V4_ Vd_;rw [hn];rfl)
       | (have hn:fIs n=false:=QR_.2 (by (try simp only [zm_,zn_,zk_] at*);omega)
          unfold ofR V5_ ZS_ Ze_ Kq_ V4_ Vd_;rw [hn];rfl))
 ·cases e
def zO_ (s:Int):List Int->Bool
 | []=>true
 | b :: r=>if b.fdiv (2 ^ (min (8 - (if 8 < s then 8 else s)).toNat 8))=0 then zO_ (s - (if 8 < s then 8 else s)) r else false
theorem wM_ {s:Int} {v:List Int} {i:Nat} (h:i < v.length):zO_ s (v.drop i)=if (v.getD i 0).fdiv (2 ^ (min (8 - (if 8 < s then 8 else s)).toNat 8))=0 then zO_ (s - (if 8 < s then 8 else s)) (v.drop (i+1)) else false:=by
 rw [List.drop_eq_getElem_cons h,List.getD_eq_getElem?_getD,List.getElem?_eq_getElem h]
 rfl
theorem Ua_ {s:Int} {v:List Int} {i:Nat} (h:v.length<=i):zO_ s (v.drop i)=true:=by
 rw [List.drop_of_length_le h];rfl
def k5_ (n:Int) (v:List Int):Bool:=if (0<=n/\n < 40)/\(v.length:Int)=Qq_ n then zO_ (8*Qq_ n - q7_.getD n.toNat 0) v else false
theorem Ys_:∀ k < 40,1<=Qq_ (k:Nat)/\Qq_ (k:Nat)<=16/\0<=8*Qq_ (k:Nat) - q7_.getD k 0/\8*Qq_ (k:Nat) - q7_.getD k 0<=12:=by decide
def X9_:IR:=
(sq (kr [0,1] [oD 4 (.mov cF)])
(sq (sq (kr [0,1] [oM 9 0,
oC 10 70 [9],
oD 11 (.un .not 10),
oM 12 11,
oF 12 13 (.mov 1),
oF 12 14 (.len 13),
oF 12 15 (.mov 0),
oF 12 16 (.call false (.f 91) [15]),
oF 12 17 (.bin .neq 14 16),
oP 18 12 cT 17])
(.cond 18
(sq (kr [] [oD 4 (.mov cF)])
.ret)
.skip))
(sq (kr [0,1] [oM 19 0,
oC 20 91 [19],
oB 21 .mul (cI 8) 20,
oM 22 0,
oC 23 90 [22],
oB 24 .sub 21 23,
oM 5 24])
(sq (sq (kr [1,5] [oM 25 1,
oE 26 25,
oD 27 (.mov (cI 0))])
(.block 0
(.loop
(sq (kr [5,25,26,27] [oB 28 .lss 27 26])
(sq (.cond 28
.skip
(.exit 0))
(sq (.block 1
(sq (.reg [oI 29 1 25 27,
oL 30 29,
oM 7 30])
(sq (.reg [oM 31 5,
oD 32 (.minmax false 31 (cI 8)),
oM 8 32])
(sq (sq (kr [5,7,8,25,26,27] [oM 33 7,
oM 34 8,
oB 35 .sub (cI 8) 34,
oB 36 .shr 33 35,
oB 37 .neq 36 (.c (.int .u8 0))])
(.cond 37
(sq (.reg [oD 4 (.mov cF)])
.ret)
.skip))
(kr [5,8,25,26,27] [oM 38 5,
oM 39 8,
oB 40 .sub 38 39,
oM 5 40])))))
(kr [5,25,26,27] [oB 41 .add 27 (cI 1),
oM 27 41])))))))
(sq (kr [] [oD 4 (.mov cT)])
.ret)))))
def XL_:List RD:=[.tmp 4 true none]
theorem XX_:zl_ Tryz.prog Tryz.f81 X9_ XL_=true:=by kernel_rfl
def kZ_:List AV->List Obj->Option (Prop × AV)
 | [.int .i64 n,.imm (.int .u8) v],[]=>some (True,.bool (k5_ n v))
 | _,_=>none
theorem WY_:zf_ Tryz.prog 81 (RoF kZ_).sum:=by
 refine zi_ Tryz.func81 XX_ (zc_ (s:=RoF QC_) ky_ (zc_ (s:=RoF Qe_) Kk_ (zc_ (s:=RoF qr_) Qn_ (ze_ _)))) fun args objs p v e=>?_
 unfold kZ_ at e
 split at e
 ·rename_i n v
  cases e
  refine ⟨rfl,fun hw _ hp=>?_⟩
  have hl:v.length<=maxLen:=(hw (.imm (.int .u8) v) (by simp)).2
  unfold maxLen at hl
  repeat'(intro t ht;first|(cases t<;>first|(cases ht;done)|(try simp only[zh_]at ht))|((first|refine za_ ht ?_|refine ht ?_ ?_|refine ht.1 ?_ ?_|refine ht ?_)<;>clear ht))
  all_goals first
   | trivial
   | (intro r h1 h2;(try simp only [ZR_,QR_,zm_,zn_,zk_] at*)
      have hsz:=Ys_ n.toNat (by omega)
      rw [Int.toNat_of_nonneg (by omega)] at hsz
      refine h2 ⟨[25,26,27,5],Nat × Int,(fun p=>p.1<=v.length/\0<=p.2/\p.2<=12/\zO_ (8*Qq_ n - q7_.getD n.toNat 0) v=zO_ p.2 (v.drop p.1)),
       fun a=>[.imm (.int .u8) v,.int .i64 v.length,.int .i64 a.1,.int .i64 a.2],fun _=>[],fun a=>v.length - a.1,⟨(0,8*Qq_ n - q7_.getD n.toNat 0),⟨Nat.zero_le _,hsz.2.2.1,hsz.2.2.2,rfl⟩,rfl,rfl⟩,?_⟩
      clear h1 h2)
   | ((try simp only [ZR_,QR_,zm_,zn_,zk_] at*);omega)
   | ((try simp only [ZR_,QR_,zm_,zn_,zk_] at*);have hsz:=Ys_ n.toNat (by omega)
      rw [Int.toNat_of_nonneg (by omega)] at hsz
      have hb:=v3_ n.toNat (by omega)
      omega)
   | (refine ⟨?_,rfl⟩;(try simp only [ZR_,QR_,zm_,zn_,zk_] at*);unfold k5_;rw [if_neg (by omega)])
  rintro ⟨i,s⟩ ⟨hi,hs0,hs1,he⟩
  dsimp only at hi hs0 hs1 he
  repeat'(intro t ht;first|(cases t<;>first|(cases ht;done)|(try simp only[zh_]at ht))|((first|refine za_ ht ?_|refine ht ?_ ?_|refine ht.1 ?_ ?_|refine ht ?_)<;>clear ht))
  all_goals have hk:0<=(if (8:Int) < s then 8 else s)/\(if (8:Int) < s then 8 else s)<=8/\(if (8:Int) < s then 8 else s)<=s:=by split<;>omega
  all_goals have hv:(0<=n/\n < 40)/\(v.length:Int)=Qq_ n:=⟨by omega,by omega⟩
  all_goals first
   | (refine ⟨?_,rfl⟩;unfold k5_;rw [if_pos hv,he];(try simp only [ZR_,QR_,zm_,zn_,zk_] at*);rw [Ua_ (by omega)];done)
   | (refine ⟨?_,rfl⟩;unfold k5_;rw [if_pos hv,he];(try simp only [ZR_,QR_,zm_,zn_,zk_] at*);rw [wM_ (by omega),if_neg (by assumption)];done)
   | ((try simp only [ZR_,QR_,zm_,zn_,zk_] at*);omega)
   | ((try simp only [ZR_,QR_,zm_,zn_,zk_] at*);generalize (if (8:Int) < s then 8 else s)=k at*;omega)
   | (have hlt:i < v.length:=by ((try simp only [ZR_,QR_,zm_,zn_,zk_] at*);omega)
      refine ⟨(i+1,s - (if (8:Int) < s then 8 else s)),⟨hlt,by dsimp only;omega,by dsimp only;omega,by (try simp only [ZR_,QR_,zm_,zn_,zk_] at*);rw [he,wM_ hlt,if_pos (by assumption)]⟩,by dsimp only;omega,rfl,rfl⟩)
 ·cases e
def Q3_ (v:List Int) (z:Int):Nat->Int->Bool
 | 0,_=>true
 | f+1,i=>if Zc_ .and .u8 ((v.getD (z - 1 - i.tdiv 8).toNat 0).fdiv (2 ^ (min (i.tmod 8).toNat 8))) 1=1 then false else Q3_ v z f (i+1)
theorem Ui_ {v:List Int} {z i:Int} {f:Nat} (h:Zc_ .and .u8 ((v.getD (z - 1 - i.tdiv 8).toNat 0).fdiv (2 ^ (min (i.tmod 8).toNat 8))) 1=1):Q3_ v z (f+1) i=false:=if_pos h
theorem Uj_ {v:List Int} {z i:Int} {f:Nat} (h:¬ Zc_ .and .u8 ((v.getD (z - 1 - i.tdiv 8).toNat 0).fdiv (2 ^ (min (i.tmod 8).toNat 8))) 1=1):Q3_ v z (f+1) i=Q3_ v z f (i+1):=if_neg h
def Zf_ (n:Int) (v:List Int):Bool:=if fIs n=true/\(v.length:Int)=Ze_ n then Q3_ v (Ze_ n) (8*Ze_ n - ZS_ n).toNat (ZS_ n) else false
theorem GU_:∀ k < 40,1<=Ze_ (k:Nat)/\Ze_ (k:Nat)<=16/\1<=ZS_ (k:Nat)/\ZS_ (k:Nat)<=8*Ze_ (k:Nat):=by decide
def uo_:IR:=
(sq (kr [0,1] [oD 4 (.mov cF)])
(sq (kr [0,1] [oM 9 0,
oC 10 75 [9],
oM 8 10,
oX 11 8 0,
oX 12 8 1,
oD 5 (.box [.str [],.int .i64 0,.int .i64 0,.kb false,.int .i64 0,.imm (.int .u64) []]),
oS 6 5 11,
oM 6 12])
(sq (sq (kr [1,5,6] [oM 13 6,
oD 14 (.un .not 13),
oM 15 14,
oF 15 16 (.mov 1),
oF 15 17 (.len 16),
oF 15 18 (.fieldAddr 2 5),
oF 15 19 (.load none 18),
oF 15 20 (.bin .neq 17 19),
oP 21 15 cT 20])
(.cond 21
(sq (kr [] [oD 4 (.mov cF)])
.ret)
.skip))
(sq (sq (kr [1,5] [oA 22 1 5,
oL 23 22,
oM 7 23])
(.block 0
(.loop
(sq (sq (kr [1,5,7] [oM 24 7,
oA 25 2 5,
oL 26 25,
oB 27 .mul (cI 8) 26,
oB 28 .lss 24 27])
(.cond 28
.skip
(.exit 0)))
(sq (.block 1
(sq (kr [1,5,7] [oM 31 1,
oA 32 2 5,
oL 33 32,
oB 34 .sub 33 (cI 1),
oM 35 7,
oB 36 .quo 35 (cI 8),
oB 37 .sub 34 36,
oI 38 1 31 37,
oL 39 38,
oM 40 7,
oB 41 .rem 40 (cI 8),
oB 42 .shr 39 41,
oB 43 .and 42 (.c (.int .u8 1)),
oB 44 .eql 43 (.c (.int .u8 1))])
(.cond 44
(sq (kr [] [oD 4 (.mov cF)])
.ret)
.skip)))
(kr [1,5,7] [oM 29 7,
oB 30 .add 29 (cI 1),
oM 7 30]))))))
(sq (kr [] [oD 4 (.mov cT)])
.ret)))))
def VB_:List RD:=[.tmp 4 true none]
theorem VU_:zl_ Tryz.prog Tryz.f86 uo_ VB_=true:=by kernel_rfl
def jY_:List AV->List Obj->Option (Prop × AV)
 | [.int .i64 n,.imm (.int .u8) v],[]=>some ((True,.bool (Zf_ n v)))
 | _,_=>none
theorem Yj_:zf_ Tryz.prog 86 (RoF jY_).sum:=by
 refine zi_ Tryz.func86 VU_ (zc_ (s:=RoF kn_) kx_ (ze_ _)) fun args objs p v e=>?_
 unfold jY_ at e
 split at e
 ·rename_i n v
  cases e
  refine ⟨rfl,fun hw ho hp=>?_⟩
  change List Int at v
  have hl:v.length<=maxLen:=(hw (.imm (.int .u8) v) (by simp)).2
  unfold maxLen at hl
  repeat'(intro t ht;first|(cases t<;>first|(cases ht;done)|(try simp only[zh_]at ht))|((first|refine za_ ht ?_|refine ht ?_ ?_|refine ht.1 ?_ ?_|refine ht ?_)<;>clear ht))
  all_goals first
   | trivial
   | (refine ⟨?_,rfl⟩;unfold Zf_;rw [if_neg (fun h=>by (try simp only [zm_,zn_,zk_] at*);simp_all;done)])
   | (have hn:fIs n=true:=by assumption
      have hr:=ZR_.1 hn
      have hsz:=GU_ n.toNat (by omega)
      rw [Int.toNat_of_nonneg (by omega)] at hsz
      obtain ⟨F,hF⟩:∃ F,F=(8*(Ze_ n) - (ZS_ n)).toNat:=⟨_,rfl⟩
      intro r h1 h2
      refine h2 ⟨[1,5,7],Nat × Int,(fun p=>p.1<=F/\p.2=(ZS_ n)+p.1/\Q3_ v (Ze_ n) F (ZS_ n)=Q3_ v (Ze_ n) (F - p.1) p.2),
       fun a=>[.imm (.int .u8) v,.ptr 0 0,.int .i64 a.2],fun _=>[.box [.str (V5_ n),.int .i64 (ZS_ n),.int .i64 (Ze_ n),.bool (Kq_ n),.int .i64 (V4_ n),.imm (.int .u64) (Vd_ n)]],fun a=>F - a.1,⟨(0,(ZS_ n)),⟨Nat.zero_le _,by simp,rfl⟩,rfl,rfl⟩,?_⟩
      clear h1 h2)
  rintro ⟨i,s⟩ ⟨hi,hs,he⟩
  dsimp only at hi hs he
  repeat'(intro t ht;first|(cases t<;>first|(cases ht;done)|(try simp only[zh_]at ht))|((first|refine za_ ht ?_|refine ht ?_ ?_|refine ht.1 ?_ ?_|refine ht ?_)<;>clear ht))
  all_goals have htd:s.tdiv 8=s / 8:=kw_ (by omega)
  all_goals have htm:s.tmod 8=s % 8:=Ja_ (by omega)
  all_goals have hv:fIs n=true/\(v.length:Int)=(Ze_ n):=⟨hn,by (try simp only [zm_,zn_,zk_] at*);omega⟩
  all_goals first
   | exact (by decide)
   | (refine ⟨?_,rfl⟩;unfold Zf_;rw [if_pos hv,<- hF,he];(try simp only [zm_,zn_,zk_] at*);rw [show F - i=0 by omega];rfl)
   | (refine ⟨?_,rfl⟩;unfold Zf_;rw [if_pos hv,<- hF,he];(try simp only [zm_,zn_,zk_] at*);rw [show F - i=(F - i - 1)+1 by omega,Ui_ (by assumption)])
   | ((try simp only [zm_,zn_,zk_] at*);omega)
   | ((try simp only [zm_,zn_,zk_] at*);simp only [htd,htm];omega)
   | (have hlt:s < 8*(Ze_ n):=by ((try simp only [zm_,zn_,zk_] at*);omega)
      refine ⟨(i+1,s+1),⟨by dsimp only;omega,by dsimp only;omega,by (try simp only [zm_,zn_,zk_] at*);rw [he,show F - i=(F - (i+1))+1 by omega,Uj_ (by assumption)]⟩,by dsimp only;omega,rfl,rfl⟩)
 ·cases e
def bG_ (n:Int):List Int:=if 0<=n/\n < 40 then (if (Z1_ n).1=-1 then [] else if (Z1_ (Z1_ n).1).1=-1 then [(Z1_ n).1] else if (Z1_ (Z1_ (Z1_ n).1).1).1=-1 then [(Z1_ (Z1_ n).1).1,(Z1_ n).1] else [(Z1_ (Z1_ (Z1_ n).1).1).1,(Z1_ (Z1_ n).1).1,(Z1_ n).1]) else []
theorem c1:bG_ 31=[5,10,29]:=by decide
theorem c2:bl_ [105,112,118,54,95,110,100,95,116,108,108]=33/\bm_ [105,112,118,54,95,110,100,95,116,108,108]=true:=by
 have h:hy_ vn_ [105,112,118,54,95,110,100,95,116,108,108] 0=33:=by decide+kernel
 unfold bl_ bm_;rw [h];exact ⟨rfl,rfl⟩
theorem c3:fIs 33=true/\hI_ 33=29/\hH_ 33=[136]:=by decide
theorem c4:k5_ 7 [8]=false:=by decide
theorem WT_:∀ v:List Int,(∀ b ∈ v,0<=b/\b<=255)->zO_ 0 v=true
 | [],_=>rfl
 | b :: r,h=>by
   unfold zO_
   have hb:=h b (by simp)
   rw [if_pos (by show b.fdiv (2 ^ 8)=0;rw [Int.fdiv_eq_ediv_of_nonneg _ (by decide)];omega)]
   exact WT_ r fun x hx=>h x (by simp [hx])
theorem Vs_ (v:List Int) (z:Int):∀ (f g:Nat) (i:Int),Q3_ v z (f+g) i=(Q3_ v z f i && Q3_ v z g (i+f))
 | 0,g,i=>by simp [Q3_]
 | f+1,g,i=>by
   rw [show f+1+g=(f+g)+1 by omega]
   by_cases h:Zc_ .and .u8 ((v.getD (z - 1 - i.tdiv 8).toNat 0).fdiv (2 ^ (min (i.tmod 8).toNat 8))) 1=1
   ·rw [Ui_ h,Ui_ h];rfl
   ·rw [Uj_ h,Uj_ h,Vs_ v z f g (i+1),show i+1+(f:Int)=i+((f+1:Nat):Int) by omega]
theorem Hh_:∀ s ≤ 8,∀ b < 256,zO_ (s:Nat) [((b:Nat):Int)]=Q3_ [((b:Nat):Int)] 1 s ((8:Int) - (s:Nat)):=by decide+kernel
theorem Yc_ {s:Nat} {b:Int} (hs:s<=8) (h:0<=b/\b<=255):zO_ s [b]=Q3_ [b] 1 s (8 - s):=by
 have:=Hh_ s hs b.toNat (by omega)
 rw [Int.toNat_of_nonneg h.1] at this;exact this
theorem yp_ {s:Int} {b:Int} {r:List Int} (h:s<=8) (hr:∀ x ∈ r,0<=x/\x<=255):zO_ s (b :: r)=zO_ s [b]:=by
 unfold zO_
 rw [if_neg (by omega:¬ 8 < s),Int.sub_self,WT_ r hr]
 rfl
theorem two {b0 b1 b2 b3:Int} {v:List Int} (e:v=[b0,b1,b2,b3]) (hv:∀ b ∈ v,0<=b/\b<=255):zO_ 12 v=Q3_ v 4 12 20:=by
 subst e
 have h0:=Yc_ (s:=8) (Nat.le_refl _) (hv b0 (by simp))
 have h1:=Yc_ (s:=4) (by omega) (hv b1 (by simp))
 have hr:=Vs_ [b0,b1,b2,b3] 4 4 8 20
 have e1:Q3_ [b0,b1,b2,b3] 4 4 20=Q3_ [b1] 1 4 (8 - (4:Nat)):=rfl
 have e2:Q3_ [b0,b1,b2,b3] 4 8 (20+(4:Nat))=Q3_ [b0] 1 8 (8 - (8:Nat)):=rfl
 have hc:zO_ 4 (b1 :: [b2,b3])=zO_ 4 [b1]:=yp_ (by omega) fun x hx=>hv x (by simp at hx ⊢;omega)
 rw [show (12:Nat)=4+8 from rfl,hr,e1,e2,<- h0,<- h1]
 show (if b0.fdiv (2 ^ (min (8 - (8:Int)).toNat 8))=0 then zO_ 4 [b1,b2,b3] else false)=(zO_ 4 [b1] && (if b0.fdiv (2 ^ (min (8 - (8:Int)).toNat 8))=0 then true else false))
 rw [hc]
 split<;>simp
theorem hE_:∀ k < 40,fIs (k:Nat)=true/\Qq_ (k:Nat)=Ze_ (k:Nat)/\q7_.getD k 0=ZS_ (k:Nat)/\(8*Ze_ (k:Nat) - ZS_ (k:Nat)=0\/k=6\/k=7\/k=8\/k=9\/k=28\/k=34\/k=35\/k=36\/k=39):=by decide
theorem uF_ {n:Int} {v:List Int} (hv:∀ b ∈ v,0<=b/\b<=255):k5_ n v=Zf_ n v:=by
 by_cases hn:0<=n/\n < 40
 ·obtain ⟨k,rfl⟩:∃ k:Nat,n=k:=⟨n.toNat,by omega⟩
  obtain ⟨h0,h1,h2,h3⟩:=hE_ k (by omega)
  unfold k5_ Zf_
  rw [h1]
  by_cases hl:(v.length:Int)=Ze_ k
  ·rw [if_pos ⟨hn,hl⟩,if_pos ⟨h0,hl⟩,Int.toNat_natCast,h2]
   have one:∀ {s:Nat} {f:Nat} {i z:Int} {b:Int} {r:List Int},v=b :: r->s<=8->f=s->(Q3_ v z f i=Q3_ [b] 1 s (8 - s))->zO_ s v=Q3_ v z f i:=fun {s f i z b r} e hs _ hr=>by
    rw [hr,<- Yc_ hs (hv b (by rw [e];simp)),e]
    exact yp_ (by omega) fun x hx=>hv x (by rw [e];simp [hx])
   rcases h3 with h3 | rfl | rfl | rfl | rfl | rfl | rfl | rfl | rfl | rfl
   ·rw [h3,WT_ v hv];rfl
   ·match v,hl with
    | [b0,b1],_=>exact one (s:=3) rfl (by omega) rfl rfl
   ·match v,hl with
    | [b0],_=>exact one (s:=5) rfl (by omega) rfl rfl
   ·match v,hl with
    | [b0],_=>exact one (s:=2) rfl (by omega) rfl rfl
   ·match v,hl with
    | [b0],_=>exact one (s:=6) rfl (by omega) rfl rfl
   ·match v,hl with
    | [b0,b1,b2,b3],_=>exact two rfl hv
   ·match v,hl with
    | [b0,b1,b2,b3],_=>exact two rfl hv
   ·match v,hl with
    | [b0],_=>exact one (s:=5) rfl (by omega) rfl rfl
   ·match v,hl with
    | [b0],_=>exact one (s:=7) rfl (by omega) rfl rfl
   ·match v,hl with
    | [b0,b1],_=>exact one (s:=7) rfl (by omega) rfl rfl
  ·rw [if_neg (fun h=>hl h.2),if_neg (fun h=>hl h.2)]
 ·unfold k5_ Zf_
  rw [if_neg (fun h=>hn h.1),if_neg (fun h=>hn (ZR_.1 h.1))]
end Go.Eng
