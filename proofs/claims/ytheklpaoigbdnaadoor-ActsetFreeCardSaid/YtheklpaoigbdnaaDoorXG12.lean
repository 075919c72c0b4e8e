/- Parts of the proof: F2, F4, O2, O9, O5, O7, OA, OE, OI, M1, OG, R7, N1, M2. No condition. -/
import Derived.Test.YtheklpaoigbdnaaDoorProg
import Derived.Test.YtheklpaoigbdnaaDoorXG11
import Derived.KernelRfl
namespace Go.Eng
open Go.Proofs
set_option linter.unusedVariables false
set_option linter.unusedSimpArgs false
set_option maxRecDepth 100000
set_option maxHeartbeats 1000000
def fIs (n:Int):Bool:=decide (0<=n) && decide (n < 40)
theorem Qh_ {n:Int}:fIs n=true ↔ 0<=n/\n < 40:=by unfold fIs;simp
theorem k1_ {n:Int}:fIs n=false ↔ ¬ (0<=n/\n < 40):=by rw [<- Qh_];simp
def YO_:IR:=
(sq (kr [0] [oD 2 (.mov cF)])
(sq (kr [0] [oM 3 0,
oB 4 .geq 3 (cI 0),
oM 5 4,
oT 5 6 (.mov 0),
oT 5 7 (.bin .lss 6 (cI 40)),
oP 8 5 7 cF,
oM 2 8])
.ret))
def Yi_:List RD:=[.tmp 2 true none]
theorem Yu_:zs_ Tryd.prog Tryd.f54 YO_ Yi_=true:=by kernel_rfl
def Ql_:List AV->List Obj->Option (Prop × AV)
 | [.int .i64 n],[]=>some ((True,.bool (fIs n)))
 | _,_=>none
theorem ka_:zg_ Tryd.prog 54 (RoF Ql_).sum:=by
 refine zm_ Tryd.func54 Yu_ (ze_ _) fun args objs p v e=>?_
 unfold Ql_ at e
 split at e
 ·rename_i n
  cases e
  refine ⟨rfl,fun hw ho hp=>?_⟩
  repeat'(intro t ht;first|(cases t<;>first|(cases ht;done)|(try simp only[zh_]at ht))|((first|refine zb_ ht ?_|refine ht ?_ ?_|refine ht.1 ?_ ?_|refine ht ?_)<;>clear ht))
  all_goals refine ⟨?_,rfl⟩
  all_goals unfold fIs
  all_goals first | (congr 1;simp_all;done) | (congr 1;simp_all;omega)
 ·cases e
def kB_:List Int:=[32,32,64,48,48,16,13,3,6,2,8,32,32,16,16,16,16,16,16,8,8,16,32,32,48,48,128,128,20,8,8,128,48,48,20,3,1,24,64,9]
def xQ_:IR:=
(sq (kr [0] [oD 2 (.mov (cI 0))])
(sq (.reg [oD 4 (.buildAll 40 [(0,1,(cI 32)),(1,1,(cI 32)),(2,1,(cI 64)),(3,1,(cI 48)),(4,1,(cI 48)),(5,1,(cI 16)),(6,1,(cI 13)),(7,1,(cI 3)),(8,1,(cI 6)),(9,1,(cI 2)),(10,1,(cI 8)),(11,1,(cI 32)),(12,1,(cI 32)),(13,1,(cI 16)),(14,1,(cI 16)),(15,1,(cI 16)),(16,1,(cI 16)),(17,1,(cI 16)),(18,1,(cI 16)),(19,1,(cI 8)),(20,1,(cI 8)),(21,1,(cI 16)),(22,1,(cI 32)),(23,1,(cI 32)),(24,1,(cI 48)),(25,1,(cI 48)),(26,1,(cI 128)),(27,1,(cI 128)),(28,1,(cI 20)),(29,1,(cI 8)),(30,1,(cI 8)),(31,1,(cI 128)),(32,1,(cI 48)),(33,1,(cI 48)),(34,1,(cI 20)),(35,1,(cI 3)),(36,1,(cI 1)),(37,1,(cI 24)),(38,1,(cI 64)),(39,1,(cI 9))]),
oD 3 (.box [.int .i64 0,.int .i64 0,.int .i64 0,.int .i64 0,.int .i64 0,.int .i64 0,.int .i64 0,.int .i64 0,.int .i64 0,.int .i64 0,.int .i64 0,.int .i64 0,.int .i64 0,.int .i64 0,.int .i64 0,.int .i64 0,.int .i64 0,.int .i64 0,.int .i64 0,.int .i64 0,.int .i64 0,.int .i64 0,.int .i64 0,.int .i64 0,.int .i64 0,.int .i64 0,.int .i64 0,.int .i64 0,.int .i64 0,.int .i64 0,.int .i64 0,.int .i64 0,.int .i64 0,.int .i64 0,.int .i64 0,.int .i64 0,.int .i64 0,.int .i64 0,.int .i64 0,.int .i64 0]),
oS 40 3 4])
(sq (.reg [oM 5 0,
oD 6 (.indexArr 1 40 3 5),
oD 7 (.loadI .i64 6),
oM 2 7])
.ret)))
def xv_:List RD:=[.tmp 2 true none]
theorem xG_:zs_ Tryd.prog Tryd.f64 xQ_ xv_=true:=by kernel_rfl
def qh_:List AV->List Obj->Option (Prop × AV)
 | [.int .i64 n],[]=>some (0<=n/\n < 40,.int .i64 (kB_.getD n.toNat 0))
 | _,_=>none
theorem Qa_:zg_ Tryd.prog 64 (RoF qh_).sum:=by
 refine zm_ Tryd.func64 xG_ (ze_ _) fun args objs p v e=>?_
 unfold qh_ at e
 split at e
 ·rename_i n
  cases e
  refine ⟨rfl,fun hw _ hp=>?_⟩
  repeat'(intro t ht;first|(cases t<;>first|(cases ht;done)|(try simp only[zh_]at ht))|((first|refine zb_ ht ?_|refine ht ?_ ?_|refine ht.1 ?_ ?_|refine ht ?_)<;>clear ht))
  ·exact hp
  ·show 0+n.toNat*1 < 40;omega
  ·exact ⟨by simp [kB_],rfl⟩
 ·cases e
theorem VU_:∀ k < 40,1<=kB_.getD k 0/\kB_.getD k 0<=128:=by decide
def QQ_ (n:Int):Int:=if n=28\/n=34 then 4 else (kB_.getD n.toNat 0+7) / 8
def xN_:IR:=
(sq (kr [0] [oD 2 (.mov (cI 0))])
(sq (sq (.reg [oM 3 0])
(.block 0
(sq (sq (.reg [oB 5 .eql 3 (cI 28),
oM 4 5])
(.cond 4
.skip
(.reg [oB 6 .eql 3 (cI 34),
oM 4 6])))
(.cond 4
(sq (kr [] [oD 2 (.mov (cI 4))])
.ret)
.skip))))
(sq (kr [0] [oM 7 0,
oC 8 64 [7],
oB 9 .add 8 (cI 8),
oB 10 .sub 9 (cI 1),
oB 11 .quo 10 (cI 8),
oM 2 11])
.ret)))
def xs_:List RD:=[.tmp 2 true none]
theorem xD_:zs_ Tryd.prog Tryd.f65 xN_ xs_=true:=by kernel_rfl
def q3_:List AV->List Obj->Option (Prop × AV)
 | [.int .i64 n],[]=>some (0<=n/\n < 40,.int .i64 (QQ_ n))
 | _,_=>none
theorem kO_:zg_ Tryd.prog 65 (RoF q3_).sum:=by
 refine zm_ Tryd.func65 xD_ (zc_ (s:=RoF qh_) Qa_ (ze_ _)) fun args objs p v e=>?_
 unfold q3_ at e
 split at e
 ·rename_i n
  cases e
  refine ⟨rfl,fun hw _ hp=>?_⟩
  repeat'(intro t ht;first|(cases t<;>first|(cases ht;done)|(try simp only[zh_]at ht))|((first|refine zb_ ht ?_|refine ht ?_ ?_|refine ht.1 ?_ ?_|refine ht ?_)<;>clear ht))
  all_goals have hb:=VU_ n.toNat (by omega)
  all_goals generalize hB:kB_.getD n.toNat 0=B at*
  all_goals first
   | exact hp
   | exact (by decide)
   | (exfalso;(try simp only [zH_,zI_,zv_] at*);omega)
   | ((try simp only [zH_,zI_,zv_] at*);omega)
   | ((try simp only [zH_,zI_,zv_] at*);rw [Vw_ (by omega)];omega)
   | (refine ⟨?_,rfl⟩;unfold QQ_;rw [Vw_ (by omega),hB,if_neg (by (try simp only [zH_,zI_,zv_] at*);omega)];congr 2;omega)
   | (refine ⟨?_,rfl⟩;unfold QQ_;rw [if_pos (by (try simp only [zH_,zI_,zv_] at*);omega)])
 ·cases e
def yr_ (n:Int):Bool:=[2,3,4,6,11,12,37,38,39,22,23,24,25,26,27,28].contains n
def wr_:IR:=
(sq (kr [0] [oD 2 (.mov cF)])
(sq (sq (.reg [oM 3 0])
(.block 0
(sq (.block 2
(.block 1
(sq (sq (sq (sq (.reg [oB 5 .eql 3 (cI 2),
oM 4 5])
(.cond 4
.skip
(sq (.reg [oB 6 .eql 3 (cI 3),
oM 4 6])
(.cond 4
.skip
(sq (kr [3] [oB 7 .eql 3 (cI 4),
oM 4 7])
(.cond 4
.skip
(sq (.reg [oB 8 .eql 3 (cI 6),
oM 4 8])
(.cond 4
.skip
(sq (.reg [oB 9 .eql 3 (cI 11),
oM 4 9])
(.cond 4
.skip
(sq (kr [3] [oB 10 .eql 3 (cI 12),
oM 4 10])
(.cond 4
.skip
(sq (.reg [oB 11 .eql 3 (cI 37),
oM 4 11])
(.cond 4
.skip
(sq (.reg [oB 12 .eql 3 (cI 38),
oM 4 12])
(.cond 4
.skip
(kr [3] [oB 13 .eql 3 (cI 39),
oM 4 13])))))))))))))))))
(.cond 4
(.exit 1)
.skip))
(sq (sq (kr [3] [oB 15 .eql 3 (cI 22),
oM 14 15])
(.cond 14
.skip
(sq (.reg [oB 16 .eql 3 (cI 23),
oM 14 16])
(.cond 14
.skip
(sq (.reg [oB 17 .eql 3 (cI 24),
oM 14 17])
(.cond 14
.skip
(sq (kr [3] [oB 18 .eql 3 (cI 25),
oM 14 18])
(.cond 14
.skip
(sq (.reg [oB 19 .eql 3 (cI 26),
oM 14 19])
(.cond 14
.skip
(sq (.reg [oB 20 .eql 3 (cI 27),
oM 14 20])
(.cond 14
.skip
(kr [3] [oB 21 .eql 3 (cI 28),
oM 14 21])))))))))))))
(.cond 14
(.exit 2)
.skip)))
(.exit 0))))
(sq (sq (kr [] [oD 2 (.mov cT)])
.ret)
(.exit 0)))))
(sq (kr [] [oD 2 (.mov cF)])
.ret)))
def wc_:List RD:=[.tmp 2 true none]
theorem wk_:zs_ Tryd.prog Tryd.f66 wr_ wc_=true:=by kernel_rfl
def Qk_:List AV->List Obj->Option (Prop × AV)
 | [.int .i64 n],[]=>some (True,.bool (yr_ n))
 | _,_=>none
theorem Jd_:zg_ Tryd.prog 66 (RoF Qk_).sum:=by
 refine zm_ Tryd.func66 wk_ (ze_ _) fun args objs p v e=>?_
 unfold Qk_ at e
 split at e
 ·rename_i n
  cases e
  refine ⟨rfl,fun hw _ hp=>?_⟩
  repeat'(intro t ht;first|(cases t<;>first|(cases ht;done)|(try simp only[zh_]at ht))|((first|refine zb_ ht ?_|refine ht ?_ ?_|refine ht.1 ?_ ?_|refine ht ?_)<;>clear ht))
  all_goals refine ⟨?_,rfl⟩
  all_goals (congr 1;simp_all [yr_];done)
 ·cases e
def VQ_ (n:Int):Int × List Int:=
 if n=13\/n=14 then (10,[6]) else if n=15\/n=16 then (10,[17]) else if n=17\/n=18 then (10,[132]) else if n=19\/n=20 then (10,[1])
 else if n=29\/n=30 then (10,[58]) else if n=31 then (29,[135,136]) else if n=32 then (29,[135]) else if n=33 then (29,[136]) else (-1,[])
def xP_:IR:=
(sq (kr [0] [oD 2 (.mov (cI 0)),
oD 3 (.mov (.c (.imm (.int .u64) [])))])
(sq (sq (.reg [oM 4 0])
(.block 0
(sq (sq (.reg [oB 6 .eql 4 (cI 13),
oM 5 6])
(.cond 5
.skip
(.reg [oB 7 .eql 4 (cI 14),
oM 5 7])))
(.cond 5
(sq (kr [] [oD 8 (.sliceAll (.int .u64) 1 [(0,1,(.c (.int .u64 6)))]),
oD 2 (.mov (cI 10)),
oM 3 8])
.ret)
(sq (sq (kr [0,4] [oB 10 .eql 4 (cI 15),
oM 9 10])
(.cond 9
.skip
(.reg [oB 11 .eql 4 (cI 16),
oM 9 11])))
(.cond 9
(sq (.reg [oD 12 (.sliceAll (.int .u64) 1 [(0,1,(.c (.int .u64 17)))]),
oD 2 (.mov (cI 10)),
oM 3 12])
.ret)
(sq (sq (.reg [oB 14 .eql 4 (cI 17),
oM 13 14])
(.cond 13
.skip
(kr [0,4] [oB 15 .eql 4 (cI 18),
oM 13 15])))
(.cond 13
(sq (kr [] [oD 16 (.sliceAll (.int .u64) 1 [(0,1,(.c (.int .u64 132)))]),
oD 2 (.mov (cI 10)),
oM 3 16])
.ret)
(sq (sq (kr [0,4] [oB 18 .eql 4 (cI 19),
oM 17 18])
(.cond 17
.skip
(.reg [oB 19 .eql 4 (cI 20),
oM 17 19])))
(.cond 17
(sq (.reg [oD 20 (.sliceAll (.int .u64) 1 [(0,1,(.c (.int .u64 1)))]),
oD 2 (.mov (cI 10)),
oM 3 20])
.ret)
(sq (sq (.reg [oB 22 .eql 4 (cI 29),
oM 21 22])
(.cond 21
.skip
(kr [0,4] [oB 23 .eql 4 (cI 30),
oM 21 23])))
(.cond 21
(sq (kr [] [oD 24 (.sliceAll (.int .u64) 1 [(0,1,(.c (.int .u64 58)))]),
oD 2 (.mov (cI 10)),
oM 3 24])
.ret)
(sq (kr [0,4] [oB 26 .eql 4 (cI 31),
oM 25 26])
(.cond 25
(sq (.reg [oD 27 (.sliceAll (.int .u64) 2 [(0,1,(.c (.int .u64 135))),(1,1,(.c (.int .u64 136)))]),
oD 2 (.mov (cI 29)),
oM 3 27])
.ret)
(sq (sq (.reg [oB 29 .eql 4 (cI 32),
oM 28 29])
(.cond 28
.skip
(.reg [oB 30 .eql 4 (cI 33),
oM 28 30])))
(.cond 28
(sq (kr [0] [oM 31 0,
oD 32 (.conv .u64 31),
oB 33 .add 32 (.c (.int .u64 103)),
oD 34 (.sliceAll (.int .u64) 1 [(0,1,33)]),
oD 2 (.mov (cI 29)),
oM 3 34])
.ret)
.skip))))))))))))))))
(sq (kr [] [oD 2 (.mov (cI (-1))),
oD 3 (.mov (.c (.imm (.int .u64) [])))])
.ret)))
def xu_:List RD:=[.tmp 2 true none,.tmp 3 true (some (.int .u64))]
theorem xF_:zs_ Tryd.prog Tryd.f69 xP_ xu_=true:=by kernel_rfl
def ku_:List AV->List Obj->Option (Prop × AV)
 | [.int .i64 n],[]=>some (True,.tup [.int .i64 (VQ_ n).1,.imm (.int .u64) (VQ_ n).2])
 | _,_=>none
theorem wW_:zg_ Tryd.prog 69 (RoF ku_).sum:=by
 refine zm_ Tryd.func69 xF_ (ze_ _) fun args objs p v e=>?_
 unfold ku_ at e
 split at e
 ·rename_i n
  cases e
  refine ⟨rfl,fun hw _ hp=>?_⟩
  repeat'(intro t ht;first|(cases t<;>first|(cases ht;done)|(try simp only[zh_]at ht))|((first|refine zb_ ht ?_|refine ht ?_ ?_|refine ht.1 ?_ ?_|refine ht ?_)<;>clear ht))
  all_goals first
   | (exfalso;(try simp only [zH_,zI_,zv_] at*);omega)
   | (refine ⟨?_,rfl⟩;simp_all [VQ_];done)
   | ((try simp only [zH_,zI_,zv_] at*);omega)
   | ((try simp only [zH_,zI_,zv_] at*);subst_vars;exact ⟨rfl,rfl⟩)
   | ((try simp only [zH_,zI_,zv_] at*);have hn:n=32\/n=33:=by omega
      rcases hn with rfl | rfl<;>exact ⟨rfl,rfl⟩)
 ·cases e
def ZK_ (n:Int):Int × List Int:=
 if n=1 then (0,[]) else if n=7 then (6,[]) else if n=8\/n=9\/n=10 then (5,[2048,34525]) else if n=11\/n=12 then (5,[2048])
 else if n=21\/n=22\/n=23\/n=24\/n=25 then (5,[2054]) else if n=26\/n=27\/n=28\/n=39 then (5,[34525])
 else if n=34\/n=35\/n=36 then (5,[34887,34888]) else if n=37 then (5,[35047]) else VQ_ n
def xO_:IR:=
(sq (kr [0] [oD 2 (.mov (cI 0)),
oD 3 (.mov (.c (.imm (.int .u64) [])))])
(sq (sq (.reg [oM 4 0])
(.block 0
(sq (.reg [oB 6 .eql 4 (cI 1),
oM 5 6])
(.cond 5
(sq (.reg [oD 2 (.mov (cI 0)),
oD 3 (.mov (.c (.imm (.int .u64) [])))])
.ret)
(sq (.reg [oB 8 .eql 4 (cI 7),
oM 7 8])
(.cond 7
(sq (kr [] [oD 2 (.mov (cI 6)),
oD 3 (.mov (.c (.imm (.int .u64) [])))])
.ret)
(sq (sq (kr [0,4] [oB 10 .eql 4 (cI 8),
oM 9 10])
(.cond 9
.skip
(sq (.reg [oB 11 .eql 4 (cI 9),
oM 9 11])
(.cond 9
.skip
(.reg [oB 12 .eql 4 (cI 10),
oM 9 12])))))
(.cond 9
(sq (kr [] [oD 13 (.sliceAll (.int .u64) 2 [(0,1,(.c (.int .u64 2048))),(1,1,(.c (.int .u64 34525)))]),
oD 2 (.mov (cI 5)),
oM 3 13])
.ret)
(sq (sq (kr [0,4] [oB 15 .eql 4 (cI 11),
oM 14 15])
(.cond 14
.skip
(.reg [oB 16 .eql 4 (cI 12),
oM 14 16])))
(.cond 14
(sq (.reg [oD 17 (.sliceAll (.int .u64) 1 [(0,1,(.c (.int .u64 2048)))]),
oD 2 (.mov (cI 5)),
oM 3 17])
.ret)
(sq (sq (.reg [oB 19 .eql 4 (cI 21),
oM 18 19])
(.cond 18
.skip
(sq (kr [0,4] [oB 20 .eql 4 (cI 22),
oM 18 20])
(.cond 18
.skip
(sq (.reg [oB 21 .eql 4 (cI 23),
oM 18 21])
(.cond 18
.skip
(sq (.reg [oB 22 .eql 4 (cI 24),
oM 18 22])
(.cond 18
.skip
(kr [0,4] [oB 23 .eql 4 (cI 25),
oM 18 23])))))))))
(.cond 18
(sq (kr [] [oD 24 (.sliceAll (.int .u64) 1 [(0,1,(.c (.int .u64 2054)))]),
oD 2 (.mov (cI 5)),
oM 3 24])
.ret)
(sq (sq (kr [0,4] [oB 26 .eql 4 (cI 26),
oM 25 26])
(.cond 25
.skip
(sq (.reg [oB 27 .eql 4 (cI 27),
oM 25 27])
(.cond 25
.skip
(sq (.reg [oB 28 .eql 4 (cI 28),
oM 25 28])
(.cond 25
.skip
(kr [0,4] [oB 29 .eql 4 (cI 39),
oM 25 29])))))))
(.cond 25
(sq (kr [] [oD 30 (.sliceAll (.int .u64) 1 [(0,1,(.c (.int .u64 34525)))]),
oD 2 (.mov (cI 5)),
oM 3 30])
.ret)
(sq (sq (kr [0,4] [oB 32 .eql 4 (cI 34),
oM 31 32])
(.cond 31
.skip
(sq (.reg [oB 33 .eql 4 (cI 35),
oM 31 33])
(.cond 31
.skip
(.reg [oB 34 .eql 4 (cI 36),
oM 31 34])))))
(.cond 31
(sq (kr [] [oD 35 (.sliceAll (.int .u64) 2 [(0,1,(.c (.int .u64 34887))),(1,1,(.c (.int .u64 34888)))]),
oD 2 (.mov (cI 5)),
oM 3 35])
.ret)
(sq (kr [0,4] [oB 37 .eql 4 (cI 37),
oM 36 37])
(.cond 36
(sq (.reg [oD 38 (.sliceAll (.int .u64) 1 [(0,1,(.c (.int .u64 35047)))]),
oD 2 (.mov (cI 5)),
oM 3 38])
.ret)
.skip))))))))))))))))))
(sq (kr [0] [oM 39 0,
oC 40 69 [39],
oX 41 40 0,
oX 42 40 1,
oM 2 41,
oM 3 42])
.ret)))
def xt_:List RD:=[.tmp 2 true none,.tmp 3 true (some (.int .u64))]
theorem xE_:zs_ Tryd.prog Tryd.f67 xO_ xt_=true:=by kernel_rfl
def kt_:List AV->List Obj->Option (Prop × AV)
 | [.int .i64 n],[]=>some (True,.tup [.int .i64 (ZK_ n).1,.imm (.int .u64) (ZK_ n).2])
 | _,_=>none
theorem wV_:zg_ Tryd.prog 67 (RoF kt_).sum:=by
 refine zm_ Tryd.func67 xE_ (zc_ (s:=RoF ku_) wW_ (ze_ _)) fun args objs p v e=>?_
 unfold kt_ at e
 split at e
 ·rename_i n
  cases e
  refine ⟨rfl,fun hw _ hp=>?_⟩
  repeat'(intro t ht;first|(cases t<;>first|(cases ht;done)|(try simp only[zh_]at ht))|((first|refine zb_ ht ?_|refine ht ?_ ?_|refine ht.1 ?_ ?_|refine ht ?_)<;>clear ht))
  all_goals first
   | trivial
   | (exfalso;(try simp only [zH_,zI_,zv_] at*);omega)
   | (refine ⟨?_,rfl⟩;simp_all [ZK_];done)
   | ((try simp only [zH_,zI_,zv_] at*);subst_vars;exact ⟨rfl,rfl⟩)
 ·cases e
def yp_:List (List Int):=[[105,110,95,112,111,114,116],[105,110,95,112,104,121,95,112,111,114,116],[109,101,116,97,100,97,116,97],[101,116,104,95,100,115,116],[101,116,104,95,115,114,99],[101,116,104,95,116,121,112,101],[118,108,97,110,95,118,105,100],[118,108,97,110,95,112,99,112],[105,112,95,100,115,99,112],[105,112,95,101,99,110],[105,112,95,112,114,111,116,111],[105,112,118,52,95,115,114,99],[105,112,118,52,95,100,115,116],[116,99,112,95,115,114,99],[116,99,112,95,100,115,116],[117,100,112,95,115,114,99],[117,100,112,95,100,115,116],[115,99,116,112,95,115,114,99],[115,99,116,112,95,100,115,116],[105,99,109,112,118,52,95,116,121,112,101],[105,99,109,112,118,52,95,99,111,100,101],[97,114,112,95,111,112],[97,114,112,95,115,112,97],[97,114,112,95,116,112,97],[97,114,112,95,115,104,97],[97,114,112,95,116,104,97],[105,112,118,54,95,115,114,99],[105,112,118,54,95,100,115,116],[105,112,118,54,95,102,108,97,98,101,108],[105,99,109,112,118,54,95,116,121,112,101],[105,99,109,112,118,54,95,99,111,100,101],[105,112,118,54,95,110,100,95,116,97,114,103,101,116],[105,112,118,54,95,110,100,95,115,108,108],[105,112,118,54,95,110,100,95,116,108,108],[109,112,108,115,95,108,97,98,101,108],[109,112,108,115,95,116,99],[109,112,108,115,95,98,111,115],[112,98,98,95,105,115,105,100],[116,117,110,110,101,108,95,105,100],[105,112,118,54,95,101,120,116,104,100,114]]
def y4_ (n:Int):Bool:=decide (2 < n) && decide (n < 39)
def jO_:IR:=
(sq (kr [0] [oD 2 (.mov cF)])
(sq (kr [0] [oM 3 0,
oC 4 54 [3],
oM 5 4,
oT 5 6 (.mov 0),
oT 5 7 (.bin .gtr 6 (cI 2)),
oP 8 5 7 cF,
oM 9 8,
oT 9 10 (.mov 0),
oT 9 11 (.bin .neq 10 (cI 39)),
oP 12 9 11 cF,
oM 2 12])
.ret))
def ju_:List RD:=[.tmp 2 true none]
theorem jD_:zs_ Tryd.prog Tryd.f47 jO_ ju_=true:=by kernel_rfl
def qw_:List AV->List Obj->Option (Prop × AV)
 | [.int .i64 n],[]=>some ((True,.bool (y4_ n)))
 | _,_=>none
theorem KL_:zg_ Tryd.prog 47 (RoF qw_).sum:=by
 refine zm_ Tryd.func47 jD_ (zc_ (s:=RoF Ql_) ka_ (ze_ _)) fun args objs p v e=>?_
 unfold qw_ at e
 split at e
 ·rename_i n
  cases e
  refine ⟨rfl,fun hw ho hp=>?_⟩
  repeat'(intro t ht;first|(cases t<;>first|(cases ht;done)|(try simp only[zh_]at ht))|((first|refine zb_ ht ?_|refine ht ?_ ?_|refine ht.1 ?_ ?_|refine ht ?_)<;>clear ht))
  all_goals first
   | trivial
   | (refine ⟨?_,rfl⟩;unfold y4_;congr 1;rw [Bool.eq_iff_iff];first | (have h:=Qh_.1 (by assumption);simp at*;omega) | (have h:=k1_.1 (by assumption);simp at*;omega) | (simp at*;omega))
 ·cases e
def k2_ (n:Int):Int:=if fIs n then kB_.getD n.toNat 0 else 0
def k0_ (n:Int):Int:=if fIs n then QQ_ n else 0
def Xp_ (n:Int):Bool:=if fIs n then yr_ n else false
def UO_ (n:Int):Int:=if fIs n then (ZK_ n).1 else 0
def UN_ (n:Int):List Int:=if fIs n then (ZK_ n).2 else []
abbrev ofF (n:Int):AV:=.tup [.agg [.int .i64 (k2_ n),.int .i64 (k0_ n),.bool (Xp_ n),.int .i64 (UO_ n),.imm (.int .u64) (UN_ n)],.bool (fIs n)]
def YP_:IR:=
(sq (kr [0] [oD 2 (.box [.int .i64 0,.int .i64 0,.kb false,.int .i64 0,.imm (.int .u64) []]),
oD 3 (.mov cF)])
(sq (sq (.reg [oM 5 0,
oC 6 54 [5],
oD 7 (.un .not 6)])
(.cond 7
(sq (.reg [oD 8 (.build [.int .i64 0,.int .i64 0,.kb false,.int .i64 0,.imm (.int .u64) []] []),
oS 5 2 8,
oD 3 (.mov cF)])
.ret)
.skip))
(sq (kr [0,2] [oM 9 0,
oC 10 64 [9],
oM 11 0,
oC 12 65 [11],
oM 13 0,
oC 14 66 [13],
oD 15 (.build [.int .i64 0,.int .i64 0,.kb false,.int .i64 0,.imm (.int .u64) []] [(0,1,10),(1,1,12),(2,1,14)]),
oD 4 (.box [.int .i64 0,.int .i64 0,.kb false,.int .i64 0,.imm (.int .u64) []]),
oS 5 4 15])
(sq (kr [0,2,4] [oM 17 0,
oC 18 67 [17],
oM 16 18,
oX 19 16 0,
oX 20 16 1,
oA 21 3 4,
oS 1 21 19,
oA 22 4 4,
oS 1 22 20])
(sq (kr [2,4] [oK 23 5 4,
oS 5 2 23,
oD 3 (.mov cT)])
.ret)))))
def Yj_:List RD:=[.cell 2 (some 5) true [],.tmp 3 true none]
theorem Yv_:zs_ Tryd.prog Tryd.f59 YP_ Yj_=true:=by kernel_rfl
def ji_:List AV->List Obj->Option (Prop × AV)
 | [.int .i64 n],[]=>some ((True,ofF n))
 | _,_=>none
theorem XU_:zg_ Tryd.prog 59 (RoF ji_).sum:=by
 refine zm_ Tryd.func59 Yv_ (zc_ (s:=RoF Ql_) ka_ (zc_ (s:=RoF qh_) Qa_ (zc_ (s:=RoF q3_) kO_ (zc_ (s:=RoF Qk_) Jd_ (zc_ (s:=RoF kt_) wV_ (ze_ _)))))) fun args objs p v e=>?_
 unfold ji_ at e
 split at e
 ·rename_i n
  cases e
  refine ⟨rfl,fun hw ho hp=>?_⟩
  repeat'(intro t ht;first|(cases t<;>first|(cases ht;done)|(try simp only[zh_]at ht))|((first|refine zb_ ht ?_|refine ht ?_ ?_|refine ht.1 ?_ ?_|refine ht ?_)<;>clear ht))
  all_goals try (try simp only [zH_,zI_,zv_] at*)
  all_goals first
   | exact Qh_.1 (by assumption)
   | (simp_all [ofF,k2_,k0_,Xp_,UO_,UN_];done)
 ·cases e
def UF_:List (List Int)->List Int->Nat->Int
 | [],_,_=>-1
 | a :: r,s,k=>if s=a then k else UF_ r s (k+1)
def Gt_ (s:List Int):Int:=if 0 > UF_ yp_ s 0 then 0 else UF_ yp_ s 0
def Gu_ (s:List Int):Bool:=decide (0<=UF_ yp_ s 0)
abbrev v4_:Ty:=(.cons .str (.cons (.int .i64) (.cons (.int .i64) (.cons .bool (.cons (.int .i64) (.cons (.sl (.int .u64)) .nil))))))
def tab:List v4_.den:=[([105,110,95,112,111,114,116],32,4,false,-1,[],()),
 ([105,110,95,112,104,121,95,112,111,114,116],32,4,false,0,[],()),
 ([109,101,116,97,100,97,116,97],64,8,true,-1,[],()),
 ([101,116,104,95,100,115,116],48,6,true,-1,[],()),
 ([101,116,104,95,115,114,99],48,6,true,-1,[],()),
 ([101,116,104,95,116,121,112,101],16,2,false,-1,[],()),
 ([118,108,97,110,95,118,105,100],13,2,true,-1,[],()),
 ([118,108,97,110,95,112,99,112],3,1,false,6,[],()),
 ([105,112,95,100,115,99,112],6,1,false,5,[2048,34525],()),
 ([105,112,95,101,99,110],2,1,false,5,[2048,34525],()),
 ([105,112,95,112,114,111,116,111],8,1,false,5,[2048,34525],()),
 ([105,112,118,52,95,115,114,99],32,4,true,5,[2048],()),
 ([105,112,118,52,95,100,115,116],32,4,true,5,[2048],()),
 ([116,99,112,95,115,114,99],16,2,false,10,[6],()),
 ([116,99,112,95,100,115,116],16,2,false,10,[6],()),
 ([117,100,112,95,115,114,99],16,2,false,10,[17],()),
 ([117,100,112,95,100,115,116],16,2,false,10,[17],()),
 ([115,99,116,112,95,115,114,99],16,2,false,10,[132],()),
 ([115,99,116,112,95,100,115,116],16,2,false,10,[132],()),
 ([105,99,109,112,118,52,95,116,121,112,101],8,1,false,10,[1],()),
 ([105,99,109,112,118,52,95,99,111,100,101],8,1,false,10,[1],()),
 ([97,114,112,95,111,112],16,2,false,5,[2054],()),
 ([97,114,112,95,115,112,97],32,4,true,5,[2054],()),
 ([97,114,112,95,116,112,97],32,4,true,5,[2054],()),
 ([97,114,112,95,115,104,97],48,6,true,5,[2054],()),
 ([97,114,112,95,116,104,97],48,6,true,5,[2054],()),
 ([105,112,118,54,95,115,114,99],128,16,true,5,[34525],()),
 ([105,112,118,54,95,100,115,116],128,16,true,5,[34525],()),
 ([105,112,118,54,95,102,108,97,98,101,108],20,4,true,5,[34525],()),
 ([105,99,109,112,118,54,95,116,121,112,101],8,1,false,10,[58],()),
 ([105,99,109,112,118,54,95,99,111,100,101],8,1,false,10,[58],()),
 ([105,112,118,54,95,110,100,95,116,97,114,103,101,116],128,16,false,29,[135,136],()),
 ([105,112,118,54,95,110,100,95,115,108,108],48,6,false,29,[135],()),
 ([105,112,118,54,95,110,100,95,116,108,108],48,6,false,29,[136],()),
 ([109,112,108,115,95,108,97,98,101,108],20,4,false,5,[34887,34888],()),
 ([109,112,108,115,95,116,99],3,1,false,5,[34887,34888],()),
 ([109,112,108,115,95,98,111,115],1,1,false,5,[34887,34888],()),
 ([112,98,98,95,105,115,105,100],24,3,true,5,[35047],()),
 ([116,117,110,110,101,108,95,105,100],64,8,true,-1,[],()),
 ([105,112,118,54,95,101,120,116,104,100,114],9,2,true,5,[34525],())]
def GB_ (n:Int):v4_.den:=tab.getD n.toNat v4_.dflt
def U8_ (n:Int):Int:=if fIs n then (GB_ n).2.1 else 0
def Xa_ (n:Int):Int:=if fIs n then (GB_ n).2.2.1 else 0
def VI_ (n:Int):Bool:=if fIs n then (GB_ n).2.2.2.1 else false
def Zb_ (s:Int):List Int->Bool
 | []=>true
 | b :: r=>if b.fdiv (2 ^ (min (8 - (if 8 < s then 8 else s)).toNat 8))=0 then Zb_ (s - (if 8 < s then 8 else s)) r else false
theorem JT_ {s:Int} {v:List Int} {i:Nat} (h:i < v.length):Zb_ s (v.drop i)=if (v.getD i 0).fdiv (2 ^ (min (8 - (if 8 < s then 8 else s)).toNat 8))=0 then Zb_ (s - (if 8 < s then 8 else s)) (v.drop (i+1)) else false:=by
 rw [List.drop_eq_getElem_cons h,List.getD_eq_getElem?_getD,List.getElem?_eq_getElem h]
 rfl
theorem vq_ {s:Int} {v:List Int} {i:Nat} (h:v.length<=i):Zb_ s (v.drop i)=true:=by
 rw [List.drop_of_length_le h];rfl
def WQ_ (n:Int) (v:List Int):Bool:=if (0<=n/\n < 40)/\(v.length:Int)=QQ_ n then Zb_ (8*QQ_ n - kB_.getD n.toNat 0) v else false
theorem Vy_:∀ k < 40,1<=QQ_ (k:Nat)/\QQ_ (k:Nat)<=16/\0<=8*QQ_ (k:Nat) - kB_.getD k 0/\8*QQ_ (k:Nat) - kB_.getD k 0<=12:=by decide
def xR_:IR:=
(sq (kr [0,1] [oD 4 (.mov cF)])
(sq (sq (kr [0,1] [oM 9 0,
oC 10 54 [9],
oD 11 (.un .not 10),
oM 12 11,
oF 12 13 (.mov 1),
oF 12 14 (.len 13),
oF 12 15 (.mov 0),
oF 12 16 (.call false (.f 65) [15]),
oF 12 17 (.bin .neq 14 16),
oP 18 12 cT 17])
(.cond 18
(sq (kr [] [oD 4 (.mov cF)])
.ret)
.skip))
(sq (kr [0,1] [oM 19 0,
oC 20 65 [19],
oB 21 .mul (cI 8) 20,
oM 22 0,
oC 23 64 [22],
oB 24 .sub 21 23,
oM 5 24])
(sq (sq (kr [1,5] [oM 25 1,
oE 26 25,
oD 27 (.mov (cI 0))])
(.block 0
(.loop
(sq (kr [5,25,26,27] [oB 28 .lss 27 26])
(sq (.cond 28
.skip
(.exit 0))
(sq (.block 1
(sq (.reg [oI 29 1 25 27,
oL 30 29,
oM 7 30])
(sq (.reg [oM 31 5,
oD 32 (.minmax false 31 (cI 8)),
oM 8 32])
(sq (sq (kr [5,7,8,25,26,27] [oM 33 7,
oM 34 8,
oB 35 .sub (cI 8) 34,
oB 36 .shr 33 35,
oB 37 .neq 36 (.c (.int .u8 0))])
(.cond 37
(sq (.reg [oD 4 (.mov cF)])
.ret)
.skip))
(kr [5,8,25,26,27] [oM 38 5,
oM 39 8,
oB 40 .sub 38 39,
oM 5 40])))))
(kr [5,25,26,27] [oB 41 .add 27 (cI 1),
oM 27 41])))))))
(sq (kr [] [oD 4 (.mov cT)])
.ret)))))
def xw_:List RD:=[.tmp 4 true none]
theorem xH_:zs_ Tryd.prog Tryd.f60 xR_ xw_=true:=by kernel_rfl
def kv_:List AV->List Obj->Option (Prop × AV)
 | [.int .i64 n,.imm (.int .u8) v],[]=>some (True,.bool (WQ_ n v))
 | _,_=>none
theorem wX_:zg_ Tryd.prog 60 (RoF kv_).sum:=by
 refine zm_ Tryd.func60 xH_ (zc_ (s:=RoF Ql_) ka_ (zc_ (s:=RoF q3_) kO_ (zc_ (s:=RoF qh_) Qa_ (ze_ _)))) fun args objs p v e=>?_
 unfold kv_ at e
 split at e
 ·rename_i n v
  cases e
  refine ⟨rfl,fun hw _ hp=>?_⟩
  have hl:v.length<=maxLen:=(hw (.imm (.int .u8) v) (by simp)).2
  unfold maxLen at hl
  repeat'(intro t ht;first|(cases t<;>first|(cases ht;done)|(try simp only[zh_]at ht))|((first|refine zb_ ht ?_|refine ht ?_ ?_|refine ht.1 ?_ ?_|refine ht ?_)<;>clear ht))
  all_goals first
   | trivial
   | (intro r h1 h2;(try simp only [Qh_,k1_,zH_,zI_,zv_] at*)
      have hsz:=Vy_ n.toNat (by omega)
      rw [Int.toNat_of_nonneg (by omega)] at hsz
      refine h2 ⟨[25,26,27,5],Nat × Int,(fun p=>p.1<=v.length/\0<=p.2/\p.2<=12/\Zb_ (8*QQ_ n - kB_.getD n.toNat 0) v=Zb_ p.2 (v.drop p.1)),
       fun a=>[.imm (.int .u8) v,.int .i64 v.length,.int .i64 a.1,.int .i64 a.2],fun _=>[],fun a=>v.length - a.1,⟨(0,8*QQ_ n - kB_.getD n.toNat 0),⟨Nat.zero_le _,hsz.2.2.1,hsz.2.2.2,rfl⟩,rfl,rfl⟩,?_⟩
      clear h1 h2)
   | ((try simp only [Qh_,k1_,zH_,zI_,zv_] at*);omega)
   | ((try simp only [Qh_,k1_,zH_,zI_,zv_] at*);have hsz:=Vy_ n.toNat (by omega)
      rw [Int.toNat_of_nonneg (by omega)] at hsz
      have hb:=VU_ n.toNat (by omega)
      omega)
   | (refine ⟨?_,rfl⟩;(try simp only [Qh_,k1_,zH_,zI_,zv_] at*);unfold WQ_;rw [if_neg (by omega)])
  rintro ⟨i,s⟩ ⟨hi,hs0,hs1,he⟩
  dsimp only at hi hs0 hs1 he
  repeat'(intro t ht;first|(cases t<;>first|(cases ht;done)|(try simp only[zh_]at ht))|((first|refine zb_ ht ?_|refine ht ?_ ?_|refine ht.1 ?_ ?_|refine ht ?_)<;>clear ht))
  all_goals have hk:0<=(if (8:Int) < s then 8 else s)/\(if (8:Int) < s then 8 else s)<=8/\(if (8:Int) < s then 8 else s)<=s:=by split<;>omega
  all_goals have hv:(0<=n/\n < 40)/\(v.length:Int)=QQ_ n:=⟨by omega,by omega⟩
  all_goals first
   | (refine ⟨?_,rfl⟩;unfold WQ_;rw [if_pos hv,he];(try simp only [Qh_,k1_,zH_,zI_,zv_] at*);rw [vq_ (by omega)];done)
   | (refine ⟨?_,rfl⟩;unfold WQ_;rw [if_pos hv,he];(try simp only [Qh_,k1_,zH_,zI_,zv_] at*);rw [JT_ (by omega),if_neg (by assumption)];done)
   | ((try simp only [Qh_,k1_,zH_,zI_,zv_] at*);omega)
   | ((try simp only [Qh_,k1_,zH_,zI_,zv_] at*);generalize (if (8:Int) < s then 8 else s)=k at*;omega)
   | (have hlt:i < v.length:=by ((try simp only [Qh_,k1_,zH_,zI_,zv_] at*);omega)
      refine ⟨(i+1,s - (if (8:Int) < s then 8 else s)),⟨hlt,by dsimp only;omega,by dsimp only;omega,by (try simp only [Qh_,k1_,zH_,zI_,zv_] at*);rw [he,JT_ hlt,if_pos (by assumption)]⟩,by dsimp only;omega,rfl,rfl⟩)
 ·cases e
def KO_ (v:List Int) (z:Int):Nat->Int->Bool
 | 0,_=>true
 | f+1,i=>if qJ_ .and .u8 ((v.getD (z - 1 - i.tdiv 8).toNat 0).fdiv (2 ^ (min (i.tmod 8).toNat 8))) 1=1 then false else KO_ v z f (i+1)
theorem u8_ {v:List Int} {z i:Int} {f:Nat} (h:qJ_ .and .u8 ((v.getD (z - 1 - i.tdiv 8).toNat 0).fdiv (2 ^ (min (i.tmod 8).toNat 8))) 1=1):KO_ v z (f+1) i=false:=if_pos h
theorem u9_ {v:List Int} {z i:Int} {f:Nat} (h:¬ qJ_ .and .u8 ((v.getD (z - 1 - i.tdiv 8).toNat 0).fdiv (2 ^ (min (i.tmod 8).toNat 8))) 1=1):KO_ v z (f+1) i=KO_ v z f (i+1):=if_neg h
def GN_ (n:Int):List Int:=if 0<=n/\n < 40 then (if (ZK_ n).1=-1 then [] else if (ZK_ (ZK_ n).1).1=-1 then [(ZK_ n).1] else if (ZK_ (ZK_ (ZK_ n).1).1).1=-1 then [(ZK_ (ZK_ n).1).1,(ZK_ n).1] else [(ZK_ (ZK_ (ZK_ n).1).1).1,(ZK_ (ZK_ n).1).1,(ZK_ n).1]) else []
theorem c1:GN_ 31=[5,10,29]:=by decide
theorem c2:Gt_ [105,112,118,54,95,110,100,95,116,108,108]=33/\Gu_ [105,112,118,54,95,110,100,95,116,108,108]=true:=by
 have h:UF_ yp_ [105,112,118,54,95,110,100,95,116,108,108] 0=33:=by decide+kernel
 unfold Gt_ Gu_;rw [h];exact ⟨rfl,rfl⟩
theorem c3:fIs 33=true/\UO_ 33=29/\UN_ 33=[136]:=by decide
theorem c4:WQ_ 7 [8]=false:=by decide
theorem u1_:∀ v:List Int,(∀ b ∈ v,0<=b/\b<=255)->Zb_ 0 v=true
 | [],_=>rfl
 | b :: r,h=>by
   unfold Zb_
   have hb:=h b (by simp)
   rw [if_pos (by show b.fdiv (2 ^ 8)=0;rw [Int.fdiv_eq_ediv_of_nonneg _ (by decide)];omega)]
   exact u1_ r fun x hx=>h x (by simp [hx])
theorem y9_ (v:List Int) (z:Int):∀ (f g:Nat) (i:Int),KO_ v z (f+g) i=(KO_ v z f i && KO_ v z g (i+f))
 | 0,g,i=>by simp [KO_]
 | f+1,g,i=>by
   rw [show f+1+g=(f+g)+1 by omega]
   by_cases h:qJ_ .and .u8 ((v.getD (z - 1 - i.tdiv 8).toNat 0).fdiv (2 ^ (min (i.tmod 8).toNat 8))) 1=1
   ·rw [u8_ h,u8_ h];rfl
   ·rw [u9_ h,u9_ h,y9_ v z f g (i+1),show i+1+(f:Int)=i+((f+1:Nat):Int) by omega]
theorem gr_:∀ s ≤ 8,∀ b < 256,Zb_ (s:Nat) [((b:Nat):Int)]=KO_ [((b:Nat):Int)] 1 s ((8:Int) - (s:Nat)):=by decide+kernel
theorem Vv_ {s:Nat} {b:Int} (hs:s<=8) (h:0<=b/\b<=255):Zb_ s [b]=KO_ [b] 1 s (8 - s):=by
 have:=gr_ s hs b.toNat (by omega)
 rw [Int.toNat_of_nonneg h.1] at this;exact this
theorem V8_ {s:Int} {b:Int} {r:List Int} (h:s<=8) (hr:∀ x ∈ r,0<=x/\x<=255):Zb_ s (b :: r)=Zb_ s [b]:=by
 unfold Zb_
 rw [if_neg (by omega:¬ 8 < s),Int.sub_self,u1_ r hr]
 rfl
theorem two {b0 b1 b2 b3:Int} {v:List Int} (e:v=[b0,b1,b2,b3]) (hv:∀ b ∈ v,0<=b/\b<=255):Zb_ 12 v=KO_ v 4 12 20:=by
 subst e
 have h0:=Vv_ (s:=8) (Nat.le_refl _) (hv b0 (by simp))
 have h1:=Vv_ (s:=4) (by omega) (hv b1 (by simp))
 have hr:=y9_ [b0,b1,b2,b3] 4 4 8 20
 have e1:KO_ [b0,b1,b2,b3] 4 4 20=KO_ [b1] 1 4 (8 - (4:Nat)):=rfl
 have e2:KO_ [b0,b1,b2,b3] 4 8 (20+(4:Nat))=KO_ [b0] 1 8 (8 - (8:Nat)):=rfl
 have hc:Zb_ 4 (b1 :: [b2,b3])=Zb_ 4 [b1]:=V8_ (by omega) fun x hx=>hv x (by simp at hx ⊢;omega)
 rw [show (12:Nat)=4+8 from rfl,hr,e1,e2,<- h0,<- h1]
 show (if b0.fdiv (2 ^ (min (8 - (8:Int)).toNat 8))=0 then Zb_ 4 [b1,b2,b3] else false)=(Zb_ 4 [b1] && (if b0.fdiv (2 ^ (min (8 - (8:Int)).toNat 8))=0 then true else false))
 rw [hc]
 split<;>simp
structure Ox where
 c:Int
 f:Int
 has:Bool
 x:Int
 v:List Int
 m:List Int
def yA_:IR:=
(sq (kr [0] [oD 2 (.mov cF)])
(sq (kr [0] [oM 3 0,
oC 4 68 [3,(.c (.str [0]))],
oE 5 4,
oB 6 .eql 5 (cI 0),
oM 2 6])
.ret))
def X5_:List RD:=[.tmp 2 true none]
theorem yj_:zs_ Tryd.prog Tryd.f61 yA_ X5_=true:=by kernel_rfl
def Kb_:List AV->List Obj->Option (Prop × AV)
 | [.imm (.int .u8) b],[]=>some ((b.length<=140737488355328,.bool (Vo_ b)))
 | _,_=>none
theorem xo_:zg_ Tryd.prog 61 (RoF Kb_).sum:=by
 refine zm_ Tryd.func61 yj_ (zc_ (s:=RoF kx_) wZ_ (ze_ _)) fun args objs p v e=>?_
 unfold Kb_ at e
 split at e
 ·rename_i b
  cases e
  refine ⟨rfl,fun hw ho hp=>?_⟩
  change List Int at b
  have h:=V5_ b
  repeat'(intro t ht;first|(cases t<;>first|(cases ht;done)|(try simp only[zh_]at ht))|((first|refine zb_ ht ?_|refine ht ?_ ?_|refine ht.1 ?_ ?_|refine ht ?_)<;>clear ht))
  all_goals first
   | exact hp
   | (refine ⟨?_,rfl⟩;rw [<- h];congr 1;rw [Bool.eq_iff_iff];simp only [decide_eq_true_eq];omega)
 ·cases e
def GJ_ (s:Int):Int:=if 0 < s then (255:Int).fdiv (2 ^ (min (if 8 < s then 8 else s).toNat 8)) else 255
def jB_:List Int->Int->Bool
 | [],_=>true
 | x :: r,s=>if x=GJ_ s then jB_ r (s - 8) else false
def VE_ (b:List Int) (bits:Int):Bool:=jB_ b (b.length*8 - bits)
def YK_:IR:=
(sq (kr [0,1] [oD 4 (.mov cF)])
(sq (.reg [oM 10 0,
oE 11 10,
oB 12 .mul 11 (cI 8),
oM 5 12])
(sq (sq (.reg [oM 13 0,
oE 14 13,
oD 15 (.mov (cI 0))])
(.block 0
(.loop
(sq (kr [1,5,13,14,15] [oB 16 .lss 15 14])
(sq (.cond 16
.skip
(.exit 0))
(sq (.block 1
(sq (kr [1,5,13,14,15] [oM 17 15,
oI 18 1 13 15,
oL 19 18,
oM 6 17,
oM 7 19])
(sq (.reg [oD 8 (.mov (.c (.int .u8 255)))])
(sq (sq (kr [1,5,6,7,8,13,14,15] [oM 20 5,
oM 21 6,
oB 22 .mul 21 (cI 8),
oB 23 .sub 20 22,
oM 24 1,
oB 25 .sub 23 24,
oM 9 25])
(sq (kr [1,5,7,8,9,13,14,15] [oM 26 9,
oB 27 .gtr 26 (cI 0)])
(.cond 27
(kr [1,5,7,8,9,13,14,15] [oM 28 8,
oM 29 9,
oD 30 (.minmax false 29 (cI 8)),
oB 31 .shr 28 30,
oM 8 31])
.skip)))
(sq (.reg [oM 32 7,
oM 33 8,
oB 34 .neq 32 33])
(.cond 34
(sq (kr [] [oD 4 (.mov cF)])
.ret)
.skip))))))
(kr [1,5,13,14,15] [oB 35 .add 15 (cI 1),
oM 15 35])))))))
(sq (kr [] [oD 4 (.mov cT)])
.ret))))
def Ye_:List RD:=[.tmp 4 true none]
theorem Yq_:zs_ Tryd.prog Tryd.f62 YK_ Ye_=true:=by kernel_rfl
def jf_:List AV->List Obj->Option (Prop × AV)
 | [.imm (.int .u8) b,.int .i64 n],[]=>some ((0<=n/\n<=1000000/\b.length<=1000000,.bool (VE_ b n)))
 | _,_=>none
theorem XR_:zg_ Tryd.prog 62 (RoF jf_).sum:=by
 refine zm_ Tryd.func62 Yq_ (ze_ _) fun args objs p v e=>?_
 unfold jf_ at e
 split at e
 ·rename_i b n
  cases e
  refine ⟨rfl,fun hw ho hp=>?_⟩
  change List Int at b
  repeat'(intro t ht;first|(cases t<;>first|(cases ht;done)|(try simp only[zh_]at ht))|((first|refine zb_ ht ?_|refine ht ?_ ?_|refine ht.1 ?_ ?_|refine ht ?_)<;>clear ht))
  all_goals first
   | ((try simp only [zH_,zI_,zv_] at*);omega)
   | (intro r h1 h2;clear h1;refine h2 ⟨[1,5,13,14,15],Nat,(fun i=>i<=b.length/\VE_ b n=jB_ (b.drop i) (b.length*8 - i*8 - n)),fun i=>[.int .i64 n,.int .i64 (b.length*8),.imm (.int .u8) b,.int .i64 b.length,.int .i64 i],fun _=>[],fun i=>b.length - i,⟨0,⟨Nat.zero_le _,by unfold VE_;simp⟩,rfl,rfl⟩,?_⟩;clear h2)
  rintro i ⟨hi,he⟩
  repeat'(intro t ht;first|(cases t<;>first|(cases ht;done)|(try simp only[zh_]at ht))|((first|refine zb_ ht ?_|refine ht ?_ ?_|refine ht.1 ?_ ?_|refine ht ?_)<;>clear ht))
  all_goals first
   | ((try simp only [zH_,zI_,zv_] at*);omega)
   | (have h0:b.drop i=[]:=List.drop_of_length_le (by omega)
      refine ⟨?_,rfl⟩;rw [he,h0];rfl)
   | ((try simp only [zH_,zI_,zv_] at*);split<;>omega)
   | (have hlt:i < b.length:=by omega
      rw [zK_ hlt 0] at he
      first
       | (have hn:¬ 0 < (b.length:Int)*8 - i*8 - n:=by assumption
          have ho:GJ_ ((b.length:Int)*8 - i*8 - n)=255:=if_neg hn
          first
           | (have hx:b.getD i 0=255:=by assumption
              have h1:jB_ (b.getD i 0 :: b.drop (i+1)) ((b.length:Int)*8 - i*8 - n)=jB_ (b.drop (i+1)) ((b.length:Int)*8 - i*8 - n - 8):=if_pos (hx.trans ho.symm)
              refine ⟨i+1,⟨hlt,?_⟩,by dsimp only;omega,rfl,rfl⟩
              rw [he,h1];congr 1;omega)
           | (have hx:¬ b.getD i 0=255:=by assumption
              have h1:jB_ (b.getD i 0 :: b.drop (i+1)) ((b.length:Int)*8 - i*8 - n)=false:=if_neg (fun e=>hx (e.trans ho))
              refine ⟨?_,rfl⟩;rw [he,h1]))
       | (have hn:0 < (b.length:Int)*8 - i*8 - n:=by assumption
          have ho:GJ_ ((b.length:Int)*8 - i*8 - n)=(255:Int).fdiv (2 ^ (min (if 8 < (b.length:Int)*8 - i*8 - n then 8 else (b.length:Int)*8 - i*8 - n).toNat 8)):=if_pos hn
          first
           | (have hx:b.getD i 0=(255:Int).fdiv (2 ^ (min (if 8 < (b.length:Int)*8 - i*8 - n then 8 else (b.length:Int)*8 - i*8 - n).toNat 8)):=by assumption
              have h1:jB_ (b.getD i 0 :: b.drop (i+1)) ((b.length:Int)*8 - i*8 - n)=jB_ (b.drop (i+1)) ((b.length:Int)*8 - i*8 - n - 8):=if_pos (hx.trans ho.symm)
              refine ⟨i+1,⟨hlt,?_⟩,by dsimp only;omega,rfl,rfl⟩
              rw [he,h1];congr 1;omega)
           | (have hx:¬ b.getD i 0=(255:Int).fdiv (2 ^ (min (if 8 < (b.length:Int)*8 - i*8 - n then 8 else (b.length:Int)*8 - i*8 - n).toNat 8)):=by assumption
              have h1:jB_ (b.getD i 0 :: b.drop (i+1)) ((b.length:Int)*8 - i*8 - n)=false:=if_neg (fun e=>hx (e.trans ho))
              refine ⟨?_,rfl⟩;rw [he,h1])))
 ·cases e
def Yk_:List Int->List Int->Bool
 | x :: r,y :: l=>if qJ_ .andNot .u8 x y=0 then Yk_ r l else true
 | _,_=>false
def Wy_:IR:=
(sq (kr [0,1] [oD 4 (.mov cF)])
(sq (sq (.reg [oM 7 0,
oE 8 7,
oD 9 (.mov (cI 0))])
(.block 0
(.loop
(sq (kr [1,7,8,9] [oB 10 .lss 9 8])
(sq (.cond 10
.skip
(.exit 0))
(sq (.block 1
(sq (kr [1,7,8,9] [oM 11 9,
oI 12 1 7 9,
oL 13 12,
oM 5 11,
oM 6 13])
(sq (kr [1,5,6,7,8,9] [oM 14 6,
oM 15 1,
oM 16 5,
oI 17 1 15 16,
oL 18 17,
oB 19 .andNot 14 18,
oB 20 .neq 19 (.c (.int .u8 0))])
(.cond 20
(sq (kr [] [oD 4 (.mov cT)])
.ret)
.skip))))
(kr [1,7,8,9] [oB 21 .add 9 (cI 1),
oM 9 21])))))))
(sq (kr [] [oD 4 (.mov cF)])
.ret)))
def w2_:List RD:=[.tmp 4 true none]
theorem Wg_:zs_ Tryd.prog Tryd.f63 Wy_ w2_=true:=by kernel_rfl
def QI_:List AV->List Obj->Option (Prop × AV)
 | [.imm (.int .u8) v,.imm (.int .u8) m],[]=>some ((v.length<=m.length,.bool (Yk_ v m)))
 | _,_=>none
theorem J8_:zg_ Tryd.prog 63 (RoF QI_).sum:=by
 refine zm_ Tryd.func63 Wg_ (ze_ _) fun args objs p v e=>?_
 unfold QI_ at e
 split at e
 ·rename_i v m
  cases e
  refine ⟨rfl,fun hw ho hp=>?_⟩
  change List Int at v
  change List Int at m
  have hl:m.length<=maxLen:=(hw (.imm (.int .u8) m) (by simp)).2
  unfold maxLen at hl
  repeat'(intro t ht;first|(cases t<;>first|(cases ht;done)|(try simp only[zh_]at ht))|((first|refine zb_ ht ?_|refine ht ?_ ?_|refine ht.1 ?_ ?_|refine ht ?_)<;>clear ht))
  all_goals first
   | (intro r h1 h2;clear h1;refine h2 ⟨[1,7,8,9],Nat,(fun i=>i<=v.length/\Yk_ v m=Yk_ (v.drop i) (m.drop i)),fun i=>[.imm (.int .u8) m,.imm (.int .u8) v,.int .i64 v.length,.int .i64 i],fun _=>[],fun i=>v.length - i,⟨0,⟨Nat.zero_le _,rfl⟩,rfl,rfl⟩,?_⟩;clear h2)
  rintro i ⟨hi,he⟩
  repeat'(intro t ht;first|(cases t<;>first|(cases ht;done)|(try simp only[zh_]at ht))|((first|refine zb_ ht ?_|refine ht ?_ ?_|refine ht.1 ?_ ?_|refine ht ?_)<;>clear ht))
  all_goals first
   | ((try simp only [zH_,zI_,zv_] at*);omega)
   | (have h0:v.drop i=[]:=List.drop_of_length_le (by omega)
      refine ⟨?_,rfl⟩;rw [he,h0];rfl)
   | (have hlt:i < v.length:=by omega
      have hlm:i < m.length:=by omega
      rw [zK_ hlt 0,zK_ hlm 0] at he
      first
       | (have hx:qJ_ .andNot .u8 (v.getD i 0) (m.getD i 0)=0:=by assumption
          have h1:Yk_ (v.getD i 0 :: v.drop (i+1)) (m.getD i 0 :: m.drop (i+1))=Yk_ (v.drop (i+1)) (m.drop (i+1)):=if_pos hx
          exact ⟨i+1,⟨hlt,by rw [he,h1]⟩,by dsimp only;omega,rfl,rfl⟩)
       | (have hx:¬ qJ_ .andNot .u8 (v.getD i 0) (m.getD i 0)=0:=by assumption
          have h1:Yk_ (v.getD i 0 :: v.drop (i+1)) (m.getD i 0 :: m.drop (i+1))=true:=if_neg hx
          refine ⟨?_,rfl⟩;rw [he,h1]))
 ·cases e
def vM_ (c f:Int):Bool:=if c=65535 then decide (0<=f) && decide (f<=127) else fIs f && decide (c=32768)
def Qe_ (c f:Int):Int:=if c=65535 then 100 else k0_ f
def kU_ (c f:Int):Int:=if c=65535 then 0 else k2_ f
def KX_ (c f:Int):Bool:=if c=65535 then true else Xp_ f
def qZ_ (c:Int):Bool:=decide (c=65535)
theorem fK:∀ k < 40,0<=k0_ (k:Nat)/\k0_ (k:Nat)<=16/\0<=k2_ (k:Nat)/\k2_ (k:Nat)<=128:=by decide+kernel
theorem hQ_ (f:Int):0<=k0_ f/\k0_ f<=16/\0<=k2_ f/\k2_ f<=128:=by
 cases h:fIs f with
 | true=>
   have hn:=Qh_.1 h
   have:=fK f.toNat (by omega)
   rwa [Int.toNat_of_nonneg hn.1] at this
 | false=>unfold k0_ k2_;rw [h];simp
theorem hl_ (c f:Int):0<=Qe_ c f/\Qe_ c f<=100/\0<=kU_ c f/\kU_ c f<=128:=by
 have:=hQ_ f
 unfold Qe_ kU_;split<;>omega
def uu_:IR:=
(sq (kr [0] [oD 1 (.boxv 0),
oD 2 (.box [.int .i64 0,.int .i64 0,.kb false,.kb false]),
oD 3 (.mov cF)])
(sq (sq (.reg [oA 6 0 1,
oL 7 6,
oB 8 .eql 7 (cI 65535)])
(.cond 8
(sq (kd [1,2] [(oD 9 (.build [.int .i64 0,.int .i64 0,.kb false,.kb false] [(0,1,(cI 100)),(2,1,cT),(3,1,cT)]),[]),
(oA 10 1 1,[0]),
(oL 11 10,[1]),
(oB 12 .geq 11 (cI 0),[2]),
(oM 13 12,[3]),
(oT 13 14 (.fieldAddr 1 1),[4]),
(oT 13 15 (.load none 14),[5]),
(oT 13 16 (.bin .leq 15 (cI 127)),[6]),
(oP 17 13 16 cF,[7]),
(oS 4 2 9,[0,0,0,0]),
(oM 3 17,[])])
.ret)
.skip))
(sq (kr [1,2] [oA 19 1 1,
oL 20 19,
oC 21 59 [20],
oM 18 21,
oX 22 18 0,
oX 23 18 1,
oD 4 (.box [.int .i64 0,.int .i64 0,.kb false,.int .i64 0,.imm (.int .u64) []]),
oS 5 4 22,
oM 5 23])
(sq (kd [1,2,4,5] [(oA 24 1 4,[]),
(oL 25 24,[]),
(oA 26 0 4,[0,0]),
(oL 27 26,[1,0]),
(oA 28 2 4,[0,0,0,0]),
(oL 29 28,[1,0,0,0]),
(oD 30 (.build [.int .i64 0,.int .i64 0,.kb false,.kb false] [(0,1,25),(1,1,27),(2,1,29)]),[]),
(oM 31 5,[0,0,0,0,0,0,0]),
(oM 32 31,[1,0,0,0,0,0,0]),
(oT 32 33 (.fieldAddr 0 1),[2,0,0,0,0,0,0]),
(oT 32 34 (.load none 33),[3,0,0,0,0,0,0]),
(oT 32 35 (.bin .eql 34 (cI 32768)),[4,0,0,0,0,0,0]),
(oP 36 32 35 cF,[5,0,0,0,0,0,0]),
(oS 4 2 30,[0,0,0,0]),
(oM 3 36,[])])
.ret))))
def uc_:List RD:=[.cell 2 (some 4) true [],.tmp 3 true none]
theorem ui_:zs_ Tryd.prog Tryd.f55 uu_ uc_=true:=by kernel_rfl
def xa_:List AV->List Obj->Option (Prop × AV)
 | [.agg [.int .i64 c,.int .i64 f,.bool h,.int .u64 x,.imm (.int .u8) v,.imm (.int .u8) m]],[]=>some ((True,.tup [.agg [.int .i64 (Qe_ c f),.int .i64 (kU_ c f),.bool (KX_ c f),.bool (qZ_ c)],.bool (vM_ c f)]))
 | _,_=>none
theorem vr_:zg_ Tryd.prog 55 (RoF xa_).sum:=by
 refine zm_ Tryd.func55 ui_ (zc_ (s:=RoF ji_) XU_ (ze_ _)) fun args objs p v e=>?_
 unfold xa_ at e
 split at e
 ·rename_i c f h x v m
  cases e
  refine ⟨rfl,fun hw ho hp=>?_⟩
  change List Int at v
  change List Int at m
  repeat'(intro t ht;first|(cases t<;>first|(cases ht;done)|(try simp only[zh_]at ht))|((first|refine zb_ ht ?_|refine ht ?_ ?_|refine ht.1 ?_ ?_|refine ht ?_)<;>clear ht))
  all_goals first
   | exact True.intro
   | (simp_all [vM_,Qe_,kU_,KX_,qZ_];done)
   | (simp_all [vM_,Qe_,kU_,KX_,qZ_];omega)
 ·cases e
def XK_ (f:Int) (h:Bool) (v m:List Int) (bits:Int) (ex:Bool):Int:=
 if ex=false/\WQ_ f v=false then 1032 else if h=true/\ex=false/\WQ_ f m=false then 1033
 else if h=true/\(Vo_ m=true\/VE_ m (if ex=true then m.length*8 else bits)=true) then 1033 else if h=true/\Yk_ v m=true then 1030 else 0
def yz_:IR:=
(sq (kr [0,1] [oD 2 (.boxv 0),
oD 3 (.boxv 1),
oD 4 (.mov (cI 0))])
(sq (sq (.reg [oA 5 3 3,
oL 6 5])
(.cond 6
(kr [2,3] [oA 7 5 2,
oL 8 7,
oE 9 8,
oB 10 .mul 9 (cI 8),
oA 11 1 3,
oS 1 11 10])
.skip))
(sq (.block 0
(sq (.block 3
(.block 2
(sq (.block 1
(sq (sq (sq (kr [2,3] [oA 13 3 3,
oL 14 13,
oD 15 (.un .not 14),
oM 16 15,
oT 16 17 (.fieldAddr 1 2),
oT 16 18 (.load none 17),
oT 16 19 (.fieldAddr 4 2),
oT 16 20 (.load none 19),
oT 16 21 (.call false (.f 60) [18,20]),
oT 16 22 (.un .not 21),
oP 23 16 22 cF,
oM 12 23])
(.cond 12
(.exit 1)
.skip))
(sq (sq (kr [2,3] [oA 25 2 2,
oL 26 25,
oM 27 26,
oT 27 28 (.fieldAddr 3 3),
oT 27 29 (.load none 28),
oT 27 30 (.un .not 29),
oP 31 27 30 cF,
oM 32 31,
oT 32 33 (.fieldAddr 1 2),
oT 32 34 (.load none 33),
oT 32 35 (.fieldAddr 5 2),
oT 32 36 (.load none 35),
oT 32 37 (.call false (.f 60) [34,36]),
oT 32 38 (.un .not 37),
oP 39 32 38 cF,
oM 24 39])
(.cond 24
(.exit 2)
.skip))
(sq (kr [2,3] [oA 41 2 2,
oL 42 41,
oM 43 42,
oT 43 44 (.fieldAddr 5 2),
oT 43 45 (.load none 44),
oT 43 46 (.call false (.f 61) [45]),
oT 43 47 (.mov 46),
oF 47 48 (.fieldAddr 5 2),
oF 47 49 (.load none 48),
oF 47 50 (.fieldAddr 1 3),
oF 47 51 (.load none 50),
oF 47 52 (.call false (.f 62) [49,51]),
oT 43 53 (.pick 47 cT 52),
oP 54 43 53 cF,
oM 40 54])
(.cond 40
(.exit 3)
.skip))))
(.exit 0)))
(sq (sq (kr [] [oD 4 (.mov (cI 1032))])
.ret)
(.exit 0)))))
(sq (sq (kr [] [oD 4 (.mov (cI 1033))])
.ret)
(.exit 0))))
(sq (sq (kr [2] [oA 55 2 2,
oL 56 55,
oM 57 56,
oT 57 58 (.fieldAddr 4 2),
oT 57 59 (.load none 58),
oT 57 60 (.fieldAddr 5 2),
oT 57 61 (.load none 60),
oT 57 62 (.call false (.f 63) [59,61]),
oP 63 57 62 cF])
(.cond 63
(sq (kr [] [oD 4 (.mov (cI 1030))])
.ret)
.skip))
(sq (kr [] [oD 4 (.mov (cI 0))])
.ret)))))
def X4_:List RD:=[.tmp 4 true none]
theorem yi_:zs_ Tryd.prog Tryd.f56 yz_ X4_=true:=by kernel_rfl
def Ka_:List AV->List Obj->Option (Prop × AV)
 | [.agg [.int .i64 c,.int .i64 f,.bool h,.int .u64 x,.imm (.int .u8) v,.imm (.int .u8) m],.agg [.int .i64 sz,.int .i64 bits,.bool mk,.bool ex]],[]=>some (((h=true->v.length<=m.length)/\m.length<=100000/\0<=bits/\bits<=1000000,.int .i64 (XK_ f h v m bits ex)))
 | _,_=>none
theorem xn_:zg_ Tryd.prog 56 (RoF Ka_).sum:=by
 refine zm_ Tryd.func56 yi_ (zc_ (s:=RoF kv_) wX_ (zc_ (s:=RoF Kb_) xo_ (zc_ (s:=RoF jf_) XR_ (zc_ (s:=RoF QI_) J8_ (ze_ _))))) fun args objs p v e=>?_
 unfold Ka_ at e
 split at e
 ·rename_i c f h x v m sz bits mk ex
  cases e
  refine ⟨rfl,fun hw ho hp=>?_⟩
  change List Int at v
  change List Int at m
  cases h<;>cases ex
  all_goals repeat'(intro t ht;first|(cases t<;>first|(cases ht;done)|(try simp only[zh_]at ht))|((first|refine zb_ ht ?_|refine ht ?_ ?_|refine ht.1 ?_ ?_|refine ht ?_)<;>clear ht))
  all_goals first
   | exact True.intro
   | exact hp.1 rfl
   | ((try simp only [zH_,zI_,zv_] at*);omega)
   | (unfold XK_;simp_all;done)
 ·cases e
def hi_ (c:Int) (v m:List Int):Int:=if c=65535 then (v.length:Int)+m.length+4 else (v.length:Int)+m.length
def kR_ (c f:Int) (h:Bool) (x:Int) (v m:List Int):Bool:=
 vM_ c f && (!h || KX_ c f) && (qZ_ c || decide (x=0)) && decide (x.fdiv (2 ^ (min (Int.toNat 32) IntKind.u64.bits))=0) &&
  (match h with | true=>decide ((m.length:Int)=v.length) | false=>decide (m.length=0)) && decide ((v.length:Int)<=Qe_ c f) && decide (XK_ f h v m (kU_ c f) (qZ_ c)=0)
def yB_:IR:=
(sq (kr [0] [oD 1 (.boxv 0),
oD 2 (.mov cF)])
(sq (kr [1] [oK 6 6 1,
oC 7 55 [6],
oM 5 7,
oX 8 5 0,
oX 9 5 1,
oD 3 (.box [.int .i64 0,.int .i64 0,.kb false,.kb false]),
oS 4 3 8,
oM 4 9])
(sq (.block 0
(sq (.block 4
(sq (.block 3
(.block 2
(sq (.block 1
(sq (sq (sq (kr [1,3,4] [oM 11 4,
oD 12 (.un .not 11),
oM 13 12,
oF 13 14 (.fieldAddr 2 1),
oF 13 15 (.load none 14),
oF 13 16 (.mov 15),
oT 16 17 (.fieldAddr 2 3),
oT 16 18 (.load none 17),
oT 16 19 (.un .not 18),
oF 13 20 (.pick 16 19 cF),
oP 21 13 cT 20,
oM 10 21])
(.cond 10
(.exit 1)
.skip))
(sq (sq (kr [1,3] [oA 23 3 3,
oL 24 23,
oD 25 (.un .not 24),
oM 26 25,
oT 26 27 (.fieldAddr 3 1),
oT 26 28 (.load none 27),
oT 26 29 (.bin .neq 28 (.c (.int .u64 0))),
oP 30 26 29 cF,
oM 22 30])
(.cond 22
(.exit 2)
.skip))
(sq (sq (kr [1,3] [oA 32 3 1,
oL 33 32,
oB 34 .shr 33 (.c (.int .u64 32)),
oB 35 .neq 34 (.c (.int .u64 0)),
oM 31 35])
(.cond 31
(.exit 3)
.skip))
(sq (kr [1,3] [oA 37 2 1,
oL 38 37,
oM 39 38,
oT 39 40 (.fieldAddr 5 1),
oT 39 41 (.load none 40),
oT 39 42 (.len 41),
oT 39 43 (.fieldAddr 4 1),
oT 39 44 (.load none 43),
oT 39 45 (.len 44),
oT 39 46 (.bin .neq 42 45),
oP 47 39 46 cF,
oM 48 47,
oF 48 49 (.fieldAddr 2 1),
oF 48 50 (.load none 49),
oF 48 51 (.un .not 50),
oF 48 52 (.mov 51),
oT 52 53 (.fieldAddr 5 1),
oT 52 54 (.load none 53),
oT 52 55 (.len 54),
oT 52 56 (.bin .gtr 55 (cI 0)),
oF 48 57 (.pick 52 56 cF),
oP 58 48 cT 57,
oM 59 58,
oF 59 60 (.fieldAddr 4 1),
oF 59 61 (.load none 60),
oF 59 62 (.len 61),
oF 59 63 (.fieldAddr 0 3),
oF 59 64 (.load none 63),
oF 59 65 (.bin .gtr 62 64),
oP 66 59 cT 65,
oM 36 66])
(.cond 36
(.exit 4)
.skip)))))
(.exit 0)))
(sq (sq (kr [] [oD 2 (.mov cF)])
.ret)
(.exit 0)))))
(sq (sq (kr [] [oD 2 (.mov cF)])
.ret)
(.exit 0))))
(sq (sq (kr [] [oD 2 (.mov cF)])
.ret)
(.exit 0))))
(sq (kr [1,3] [oK 67 6 1,
oK 68 4 3,
oC 69 56 [67,68],
oB 70 .eql 69 (cI 0),
oM 2 70])
.ret))))
def X6_:List RD:=[.tmp 2 true none]
theorem yk_:zs_ Tryd.prog Tryd.f48 yB_ X6_=true:=by kernel_rfl
def Kc_:List AV->List Obj->Option (Prop × AV)
 | [.agg [.int .i64 c,.int .i64 f,.bool h,.int .u64 x,.imm (.int .u8) v,.imm (.int .u8) m]],[]=>some ((v.length<=1000000/\m.length<=1000000,.bool (kR_ c f h x v m)))
 | _,_=>none
theorem xp_:zg_ Tryd.prog 48 (RoF Kc_).sum:=by
 refine zm_ Tryd.func48 yk_ (zc_ (s:=RoF xa_) vr_ (zc_ (s:=RoF Ka_) xn_ (ze_ _))) fun args objs p v e=>?_
 unfold Kc_ at e
 split at e
 ·rename_i c f h x v m
  cases e
  refine ⟨rfl,fun hw ho hp=>?_⟩
  change List Int at v
  change List Int at m
  have hof:=hl_ c f
  cases h
  all_goals repeat'(intro t ht;first|(cases t<;>first|(cases ht;done)|(try simp only[zh_]at ht))|((first|refine zb_ ht ?_|refine ht ?_ ?_|refine ht.1 ?_ ?_|refine ht ?_)<;>clear ht))
  all_goals first
   | exact True.intro
   | exact (by decide)
   | (refine ⟨fun h=>?_,?_,?_,?_⟩<;>first | omega | (cases h;done))
   | (unfold kR_;simp_all;done)
   | (have h0:¬ m.length=0:=by omega
      unfold kR_;simp_all;done)
   | (unfold kR_;simp_all;omega)
 ·cases e
def hu_ (c f:Int) (h:Bool) (v m:List Int):List Int:=qf_ c 2++qf_ (2*f+if h=true then 1 else 0) 1++qf_ (hi_ c v m) 1
def hR_ (c f:Int) (h:Bool) (x:Int) (v m:List Int):List Int:=hu_ c f h v m++(if c=65535 then qf_ x 4 else [])++v++m
def Go_ (h ex:Bool) (sz n:Int):Int:=if ex=true then (n - 4).tdiv (if h=true then 2 else 1) else sz
def Gp_ (h ex:Bool) (sz n:Int):Bool:=if ex=true then decide (0<=n - 4) && decide ((n - 4).tmod (if h=true then 2 else 1)=0) && decide ((n - 4).tdiv (if h=true then 2 else 1)<=sz) else decide (n=(if h=true then 2 else 1)*sz)
def KE_ (b:List Int):Int:=hm_ (b.take 2)
def KD_ (b:List Int):Int:=(b.getD 2 0).tdiv 2
def Y4_ (b:List Int):Bool:=decide ((b.getD 2 0).tmod 2=1)
def hx_ (b:List Int):Int:=if KE_ b=65535 then hm_ ((b.drop 4).take 4) else 0
def uD_ (b:List Int):Int:=if KE_ b=65535 then 8 else 4
def Y3_ (b:List Int):Int:=Go_ (Y4_ b) (qZ_ (KE_ b)) (Qe_ (KE_ b) (KD_ b)) (b.getD 3 0)
def G0_ (b:List Int):Bool:=Gp_ (Y4_ b) (qZ_ (KE_ b)) (Qe_ (KE_ b) (KD_ b)) (b.getD 3 0)
def hy_ (b:List Int):List Int:=(b.take (uD_ b+Y3_ b).toNat).drop (uD_ b).toNat
def hA_ (b:List Int):List Int:=if Y4_ b=true then (b.take (uD_ b+Y3_ b+Y3_ b).toNat).drop (uD_ b+Y3_ b).toNat else []
def hT_ (b:List Int):Int:=uD_ b+Y3_ b+if Y4_ b=true then Y3_ b else 0
def g4_ (b:List Int):Int:=if b.length < 4 then 1026 else if vM_ (KE_ b) (KD_ b)=false then 1031 else if Y4_ b=true/\KX_ (KE_ b) (KD_ b)=false then 1033 else if G0_ b=false\/(b.length:Int) - 4 < b.getD 3 0 then 1026 else XK_ (KD_ b) (Y4_ b) (hy_ b) (hA_ b) (kU_ (KE_ b) (KD_ b)) (qZ_ (KE_ b))
def g3_ (b:List Int) (x:Int):Int:=if g4_ b=0 then x else 0
def hz_ (b:List Int) (l:List Int):List Int:=if g4_ b=0 then l else []
def yx_:IR:=
(sq (kr [0,1] [oD 2 (.boxv 0),
oD 3 (.boxv 1),
oD 4 (.mov cF)])
(sq (kr [2,3] [oA 5 0 2,
oL 6 5,
oA 7 0 3,
oL 8 7,
oB 9 .eql 6 8,
oM 10 9,
oT 10 11 (.fieldAddr 1 2),
oT 10 12 (.load none 11),
oT 10 13 (.fieldAddr 1 3),
oT 10 14 (.load none 13),
oT 10 15 (.bin .eql 12 14),
oP 16 10 15 cF,
oM 17 16,
oT 17 18 (.fieldAddr 3 2),
oT 17 19 (.load none 18),
oT 17 20 (.fieldAddr 3 3),
oT 17 21 (.load none 20),
oT 17 22 (.bin .eql 19 21),
oP 23 17 22 cF,
oM 4 23])
.ret))
def X2_:List RD:=[.tmp 4 true none]
theorem yg_:zs_ Tryd.prog Tryd.f46 yx_ X2_=true:=by kernel_rfl
def k9_:List AV->List Obj->Option (Prop × AV)
 | [.agg [.int .i64 c,.int .i64 f,.bool h,.int .u64 x,.imm (.int .u8) v,.imm (.int .u8) m],.agg [.int .i64 c',.int .i64 f',.bool h',.int .u64 x',.imm (.int .u8) v',.imm (.int .u8) m']],[]=>some ((True,.bool (decide (c=c') && decide (f=f') && decide (x=x'))))
 | _,_=>none
theorem xm_:zg_ Tryd.prog 46 (RoF k9_).sum:=by
 refine zm_ Tryd.func46 yg_ (ze_ _) fun args objs p v e=>?_
 unfold k9_ at e
 split at e
 ·rename_i c f h x v m c' f' h' x' v' m'
  cases e
  refine ⟨rfl,fun hw ho hp=>?_⟩
  change List Int at v
  change List Int at m
  change List Int at v'
  change List Int at m'
  repeat'(intro t ht;first|(cases t<;>first|(cases ht;done)|(try simp only[zh_]at ht))|((first|refine zb_ ht ?_|refine ht ?_ ?_|refine ht.1 ?_ ?_|refine ht ?_)<;>clear ht))
  all_goals first
   | exact True.intro
   | (simp_all;done)
 ·cases e
def Qt_ (c f:Int) (h:Bool) (x:Int) (v m:List Int) (c' f':Int) (h':Bool) (x':Int) (v' m':List Int):Bool:=decide (c=c') && decide (f=f') && decide (x=x') && (h == h') && decide (v=v') && decide (m=m')
theorem ua_ (c f:Int) (h:Bool) (x:Int) (v m:List Int):Qt_ c f h x v m c f h x v m=true:=by unfold Qt_;simp
def YJ_:IR:=
(sq (kr [0,1] [oD 2 (.boxv 0),
oD 3 (.boxv 1),
oD 4 (.mov cF)])
(sq (kr [2,3] [oK 5 6 2,
oK 6 6 3,
oC 7 46 [5,6],
oM 8 7,
oT 8 9 (.fieldAddr 2 2),
oT 8 10 (.load none 9),
oT 8 11 (.fieldAddr 2 3),
oT 8 12 (.load none 11),
oT 8 13 (.eqb false 10 12),
oP 14 8 13 cF,
oM 15 14,
oT 15 16 (.fieldAddr 4 2),
oT 15 17 (.load none 16),
oT 15 18 (.fieldAddr 4 3),
oT 15 19 (.load none 18),
oT 15 20 (.call false (.f 36) [17,19]),
oP 21 15 20 cF,
oM 22 21,
oT 22 23 (.fieldAddr 5 2),
oT 22 24 (.load none 23),
oT 22 25 (.fieldAddr 5 3),
oT 22 26 (.load none 25),
oT 22 27 (.call false (.f 36) [24,26]),
oP 28 22 27 cF,
oM 4 28])
.ret))
def Yd_:List RD:=[.tmp 4 true none]
theorem Yp_:zs_ Tryd.prog Tryd.f35 YJ_ Yd_=true:=by kernel_rfl
def je_:List AV->List Obj->Option (Prop × AV)
 | [.agg [.int .i64 c,.int .i64 f,.bool h,.int .u64 x,.imm (.int .u8) v,.imm (.int .u8) m],.agg [.int .i64 c',.int .i64 f',.bool h',.int .u64 x',.imm (.int .u8) v',.imm (.int .u8) m']],[]=>some ((True,.bool (Qt_ c f h x v m c' f' h' x' v' m')))
 | _,_=>none
theorem XQ_:zg_ Tryd.prog 35 (RoF je_).sum:=by
 refine zm_ Tryd.func35 Yp_ (zc_ (s:=RoF k9_) xm_ (zc_ (s:=RoF QB_) KG_ (ze_ _))) fun args objs p v e=>?_
 unfold je_ at e
 split at e
 ·rename_i c f h x v m c' f' h' x' v' m'
  cases e
  refine ⟨rfl,fun hw ho hp=>?_⟩
  change List Int at v
  change List Int at m
  change List Int at v'
  change List Int at m'
  repeat'(intro t ht;first|(cases t<;>first|(cases ht;done)|(try simp only[zh_]at ht))|((first|refine zb_ ht ?_|refine ht ?_ ?_|refine ht.1 ?_ ?_|refine ht ?_)<;>clear ht))
  all_goals first
   | exact True.intro
   | (refine ⟨?_,rfl⟩;unfold Qt_;simp_all;done)
   | (refine ⟨?_,rfl⟩;unfold Qt_;cases h<;>cases h'<;>simp_all;done)
   | (refine ⟨?_,rfl⟩;unfold Qt_;rcases ‹(¬c=c'\/¬f=f')\/¬x=x'› with (h1 | h1) | h1<;>rw [decide_eq_false h1]<;>simp)
 ·cases e
def vZ_:IR:=
(sq (kr [0] [oD 1 (.boxv 0),
oD 2 (.mov cF)])
(sq (kr [1] [oA 3 4 1,
oL 4 3,
oE 5 4,
oB 6 .leq 5 (cI 300),
oM 7 6,
oT 7 8 (.fieldAddr 5 1),
oT 7 9 (.load none 8),
oT 7 10 (.len 9),
oT 7 11 (.bin .leq 10 (cI 300)),
oP 12 7 11 cF,
oM 2 12])
.ret))
def vD_:List RD:=[.tmp 2 true none]
theorem vL_:zs_ Tryd.prog Tryd.f28 vZ_ vD_=true:=by kernel_rfl
def JL_:List AV->List Obj->Option (Prop × AV)
 | [.agg [.int .i64 c,.int .i64 f,.bool h,.int .u64 x,.imm (.int .u8) v,.imm (.int .u8) m]],[]=>some ((True,.bool (decide (v.length<=300) && decide (m.length<=300))))
 | _,_=>none
theorem y3_:zg_ Tryd.prog 28 (RoF JL_).sum:=by
 refine zm_ Tryd.func28 vL_ (ze_ _) fun args objs p v e=>?_
 unfold JL_ at e
 split at e
 ·rename_i c f h x v m
  cases e
  refine ⟨rfl,fun hw ho hp=>?_⟩
  change List Int at v
  change List Int at m
  repeat'(intro t ht;first|(cases t<;>first|(cases ht;done)|(try simp only[zh_]at ht))|((first|refine zb_ ht ?_|refine ht ?_ ?_|refine ht.1 ?_ ?_|refine ht ?_)<;>clear ht))
  all_goals first
   | exact True.intro
   | (simp_all;done)
   | (have e:decide (v.length<=300)=false:=decide_eq_false (by omega)
      rw [e];exact ⟨rfl,rfl⟩)
   | (have e:decide (v.length<=300)=true:=decide_eq_true (by omega)
      rw [e];refine ⟨?_,rfl⟩;rw [Bool.true_and];congr 1;rw [Bool.eq_iff_iff];simp only [decide_eq_true_eq];omega)
 ·cases e
theorem hr_:∀ k < 40,k2_ (k:Nat)=U8_ (k:Nat)/\k0_ (k:Nat)=Xa_ (k:Nat)/\Xp_ (k:Nat)=VI_ (k:Nat):=by decide+kernel
theorem hO_ (f:Int):k2_ f=U8_ f/\k0_ f=Xa_ f/\Xp_ f=VI_ f:=by
 cases h:fIs f with
 | true=>
   have hn:=Qh_.1 h
   have:=hr_ f.toNat (by omega)
   rwa [Int.toNat_of_nonneg hn.1] at this
 | false=>
   unfold k2_ U8_ k0_ Xa_ Xp_ VI_;rw [h];exact ⟨rfl,rfl,rfl⟩
theorem kB {b:List Int} (hc:KE_ b=32768):vM_ (KE_ b) (KD_ b)=fIs (KD_ b)/\KX_ (KE_ b) (KD_ b)=VI_ (KD_ b)/\uD_ b=4/\hx_ b=0/\Y3_ b=Xa_ (KD_ b)/\G0_ b=decide (b.getD 3 0=(if Y4_ b=true then 2 else 1)*Xa_ (KD_ b)):=by
 have hl:=hO_ (KD_ b)
 have hz:Qe_ (KE_ b) (KD_ b)=Xa_ (KD_ b):=by unfold Qe_;rw [if_neg (by omega)];exact hl.2.1
 have he:qZ_ (KE_ b)=false:=decide_eq_false (by omega)
 refine ⟨?_,?_,if_neg (by omega),if_neg (by omega),?_,?_⟩
 ·unfold vM_;rw [if_neg (by omega),decide_eq_true hc,Bool.and_true]
 ·unfold KX_;rw [if_neg (by omega)];exact hl.2.2
 ·unfold Y3_ Go_;rw [he,hz];rfl
 ·unfold G0_ Gp_;rw [he,hz];rfl
def L1:List Int:=[128,0,10,2,8,0,7]
def L2:List Int:=[128,0,11,4,8,0,8,0]
theorem s1:g4_ L1=0/\g3_ L1 (KE_ L1)=32768/\g3_ L1 (KD_ L1)=5/\Y4_ L1=false/\g3_ L1 (hx_ L1)=0/\hz_ L1 (hy_ L1)=[8,0]/\hz_ L1 (hA_ L1)=[]/\g3_ L1 (hT_ L1)=6/\g4_ L2=1033:=by decide+kernel
theorem s2:kR_ 32768 5 false 0 [8,0] []=true/\hR_ 32768 5 false 0 [8,0] []=[128,0,10,2,8,0]:=by decide+kernel
def Wz_:IR:=
(sq (kr [0,1] [oD 4 (.mov cF)])
(sq (kr [0,1] [oM 5 0,
oD 6 (.b2s 5),
oM 7 1,
oD 8 (.b2s 7),
oB 9 .eql 6 8,
oM 4 9])
.ret))
def w3_:List RD:=[.tmp 4 true none]
theorem Wh_:zs_ Tryd.prog Tryd.f58 Wz_ w3_=true:=by kernel_rfl
def QJ_:List AV->List Obj->Option (Prop × AV)
 | [.imm (.int .u8) a,.imm (.int .u8) b],[]=>some ((True,.bool (decide (a=b))))
 | _,_=>none
theorem J9_:zg_ Tryd.prog 58 (RoF QJ_).sum:=by
 refine zm_ Tryd.func58 Wh_ (ze_ _) fun args objs p v e=>?_
 unfold QJ_ at e
 split at e
 ·rename_i a b
  cases e
  refine ⟨rfl,fun hw ho hp=>?_⟩
  change List Int at a
  change List Int at b
  repeat'(intro t ht;first|(cases t<;>first|(cases ht;done)|(try simp only[zh_]at ht))|((first|refine zb_ ht ?_|refine ht ?_ ?_|refine ht.1 ?_ ?_|refine ht ?_)<;>clear ht))
  all_goals first
   | exact True.intro
   | exact ⟨rfl,rfl⟩
 ·cases e
def yC_:IR:=
(sq (kr [0,1] [oD 2 (.boxv 0),
oD 3 (.boxv 1),
oD 4 (.mov cF)])
(sq (kr [2,3] [oA 5 0 2,
oL 6 5,
oA 7 0 3,
oL 8 7,
oB 9 .eql 6 8,
oM 10 9,
oT 10 11 (.fieldAddr 1 2),
oT 10 12 (.load none 11),
oT 10 13 (.fieldAddr 1 3),
oT 10 14 (.load none 13),
oT 10 15 (.bin .eql 12 14),
oP 16 10 15 cF,
oM 17 16,
oT 17 18 (.fieldAddr 3 2),
oT 17 19 (.load none 18),
oT 17 20 (.fieldAddr 3 3),
oT 17 21 (.load none 20),
oT 17 22 (.bin .eql 19 21),
oP 23 17 22 cF,
oM 4 23])
.ret))
def X7_:List RD:=[.tmp 4 true none]
theorem yl_:zs_ Tryd.prog Tryd.f57 yC_ X7_=true:=by kernel_rfl
def Kd_:List AV->List Obj->Option (Prop × AV)
 | [.agg [.int .i64 c,.int .i64 f,.bool h,.int .u64 x,.imm (.int .u8) v,.imm (.int .u8) m],.agg [.int .i64 c',.int .i64 f',.bool h',.int .u64 x',.imm (.int .u8) v',.imm (.int .u8) m']],[]=>some ((True,.bool (decide (c=c') && decide (f=f') && decide (x=x'))))
 | _,_=>none
theorem xq_:zg_ Tryd.prog 57 (RoF Kd_).sum:=by
 refine zm_ Tryd.func57 yl_ (ze_ _) fun args objs p v e=>?_
 unfold Kd_ at e
 split at e
 ·rename_i c f h x v m c' f' h' x' v' m'
  cases e
  refine ⟨rfl,fun hw ho hp=>?_⟩
  change List Int at v
  change List Int at m
  change List Int at v'
  change List Int at m'
  repeat'(intro t ht;first|(cases t<;>first|(cases ht;done)|(try simp only[zh_]at ht))|((first|refine zb_ ht ?_|refine ht ?_ ?_|refine ht.1 ?_ ?_|refine ht ?_)<;>clear ht))
  all_goals first
   | exact True.intro
   | (simp_all;done)
 ·cases e
def YL_:IR:=
(sq (kr [0,1] [oD 2 (.boxv 0),
oD 3 (.boxv 1),
oD 4 (.mov cF)])
(sq (kr [2,3] [oK 5 6 2,
oK 6 6 3,
oC 7 57 [5,6],
oM 8 7,
oT 8 9 (.fieldAddr 2 2),
oT 8 10 (.load none 9),
oT 8 11 (.fieldAddr 2 3),
oT 8 12 (.load none 11),
oT 8 13 (.eqb false 10 12),
oP 14 8 13 cF,
oM 15 14,
oT 15 16 (.fieldAddr 4 2),
oT 15 17 (.load none 16),
oT 15 18 (.fieldAddr 4 3),
oT 15 19 (.load none 18),
oT 15 20 (.call false (.f 58) [17,19]),
oP 21 15 20 cF,
oM 22 21,
oT 22 23 (.fieldAddr 5 2),
oT 22 24 (.load none 23),
oT 22 25 (.fieldAddr 5 3),
oT 22 26 (.load none 25),
oT 22 27 (.call false (.f 58) [24,26]),
oP 28 22 27 cF,
oM 4 28])
.ret))
def Yf_:List RD:=[.tmp 4 true none]
theorem Yr_:zs_ Tryd.prog Tryd.f49 YL_ Yf_=true:=by kernel_rfl
def jg_:List AV->List Obj->Option (Prop × AV)
 | [.agg [.int .i64 c,.int .i64 f,.bool h,.int .u64 x,.imm (.int .u8) v,.imm (.int .u8) m],.agg [.int .i64 c',.int .i64 f',.bool h',.int .u64 x',.imm (.int .u8) v',.imm (.int .u8) m']],[]=>some ((True,.bool (Qt_ c f h x v m c' f' h' x' v' m')))
 | _,_=>none
theorem XS_:zg_ Tryd.prog 49 (RoF jg_).sum:=by
 refine zm_ Tryd.func49 Yr_ (zc_ (s:=RoF Kd_) xq_ (zc_ (s:=RoF QJ_) J9_ (ze_ _))) fun args objs p v e=>?_
 unfold jg_ at e
 split at e
 ·rename_i c f h x v m c' f' h' x' v' m'
  cases e
  refine ⟨rfl,fun hw ho hp=>?_⟩
  change List Int at v
  change List Int at m
  change List Int at v'
  change List Int at m'
  repeat'(intro t ht;first|(cases t<;>first|(cases ht;done)|(try simp only[zh_]at ht))|((first|refine zb_ ht ?_|refine ht ?_ ?_|refine ht.1 ?_ ?_|refine ht ?_)<;>clear ht))
  all_goals first
   | exact True.intro
   | (refine ⟨?_,rfl⟩;unfold Qt_;simp_all;done)
   | (refine ⟨?_,rfl⟩;unfold Qt_;cases h<;>cases h'<;>simp_all;done)
   | (refine ⟨?_,rfl⟩;unfold Qt_;rcases ‹(¬c=c'\/¬f=f')\/¬x=x'› with (h1 | h1) | h1<;>rw [decide_eq_false h1]<;>simp)
 ·cases e
def YM_:IR:=
(sq (kr [0] [oD 1 (.boxv 0),
oD 2 (.box [.int .i64 0,.int .i64 0,.kb false,.int .u64 0,.imm (.int .u8) [],.imm (.int .u8) []])])
(sq (kr [1,2] [oA 5 4 1,
oL 6 5,
oE 7 6,
oA 8 5 1,
oL 9 8,
oE 10 9,
oB 11 .add 7 10,
oD 12 (.mkrow (.int .u8) 1 (0:Int) 11 11),
oM 3 12])
(sq (kr [1,2,3] [oM 13 3,
oA 14 4 1,
oL 15 14,
oD 16 (.copy (.int .u8) 13 15),
oM 4 16])
(sq (kd [1,2,3,4] [(oM 17 3,[]),
(oM 18 4,[0]),
(oD 19 (.slice 1 17 (some 18) none none),[]),
(oA 20 5 1,[0,0,0]),
(oL 21 20,[1,0,0]),
(oD 22 (.copy (.int .u8) 19 21),[])])
(sq (kd [1,2,3,4] [(oM 23 3,[]),
(oM 24 4,[0]),
(oM 25 4,[0,0]),
(oD 26 (.slice 1 23 none (some 24) (some 25)),[]),
(oM 27 3,[0,0,0,0]),
(oM 28 4,[0,0,0,0,0]),
(oD 29 (.slice 1 27 (some 28) none none),[2,0,0,0]),
(oA 30 4 1,[0,0,0]),
(oS 1 30 26,[1,0,0]),
(oA 31 5 1,[]),
(oS 1 31 29,[])])
(sq (kr [1,2] [oK 32 6 1,
oS 6 2 32])
.ret))))))
def Yg_:List RD:=[.cell 2 (some 6) false []]
theorem Ys_:zs_ Tryd.prog Tryd.f32 YM_ Yg_=true:=by kernel_rfl
def jh_:List AV->List Obj->Option (Prop × AV × List Obj)
 | [.agg [.int .i64 c,.int .i64 f,.bool h,.int .u64 x,.imm (.int .u8) v,.imm (.int .u8) m]],[]=>some ((v.length<=100000/\m.length<=100000,.agg [.int .i64 c,.int .i64 f,.bool h,.int .u64 x,.view 0 0 v.length,.view 0 v.length m.length],[.row false (.int .u8) (v++m)]))
 | _,_=>none
theorem XT_:zg_ Tryd.prog 32 (RwF jh_).sum:=by
 refine y5_ Tryd.func32 Ys_ (ze_ _) fun args objs p v o e=>?_
 unfold jh_ at e
 split at e
 ·rename_i c f h x v m
  cases e
  refine ⟨rfl,fun hw ho hp=>?_⟩
  change List Int at v
  change List Int at m
  have k1:((v.length:Int)+m.length).toNat=v.length+m.length:=by omega
  have k2:(List.replicate (v.length+m.length) (0:Int)).length=v.length+m.length:=List.length_replicate
  have k3:v.take (v.length+m.length)=v:=List.take_of_length_le (by omega)
  have k4:(List.replicate (v.length+m.length) (0:Int)).drop v.length=List.replicate m.length 0:=by rw [List.drop_replicate];congr 1;omega
  have k5:min v.length (v.length+m.length)=v.length:=Nat.min_eq_left (by omega)
  have k6:(v++List.replicate m.length (0:Int)).length=v.length+m.length:=by simp
  have k7:(((v.length+m.length:Nat):Int) - (v.length:Int)).toNat=m.length:=by omega
  have k8:(v++List.replicate m.length (0:Int)).take v.length=v:=List.take_left
  have k9:m.take m.length=m:=List.take_length
  have k10:min m.length m.length=m.length:=Nat.min_self _
  have k11:(v++List.replicate m.length (0:Int)).drop (v.length+m.length)=[]:=List.drop_of_length_le (by simp)
  have k12:(v++m).length=v.length+m.length:=List.length_append
  have k13:((v.length:Int) - 0).toNat=v.length:=by omega
  repeat'(intro t ht;first|(cases t<;>first|(cases ht;done)|(try simp only[zh_]at ht))|((first|refine zb_ ht ?_|refine ht ?_ ?_|refine ht.1 ?_ ?_|refine ht ?_)<;>clear ht))
  all_goals first
   | exact True.intro
   | (simp only [Qi_,k1,k2,k3,k4,k5,k6,k7,k8,k9,k10,k11,k12,k13,List.append_nil,Int.toNat_natCast];first | omega | exact ⟨rfl,by first | rfl | exact True.intro⟩ | (refine ⟨?_,?_,?_,?_⟩<;>first | exact True.intro | omega))
   | omega
   | ((try simp only [zH_,zI_,zv_] at*);omega)
   | exact ⟨rfl,by first | rfl | exact True.intro⟩
 ·cases e
def ZG_ {α:Type} (p:α->Bool):List α->Int->Int
 | [],_=>-1
 | o :: r,i=>if p o=true then i else ZG_ p r (i+1)
theorem jS_ {α:Type} {p:α->Bool} {l:List α} {i:Nat} (h:l.length<=i):ZG_ p (l.drop i) i=-1:=by
 rw [List.drop_of_length_le h];rfl
theorem wG_ {α:Type} {p:α->Bool} {l:List α} {i:Nat} {d:α} (h:i < l.length) (hk:p (l.getD i d)=true):ZG_ p (l.drop i) i=i:=by
 rw [zK_ h d];exact if_pos hk
theorem wF_ {α:Type} {p:α->Bool} {l:List α} {i:Nat} {d:α} (h:i < l.length) (hk:p (l.getD i d)=false):ZG_ p (l.drop i) i=ZG_ p (l.drop (i+1)) ((i+1:Nat):Int):=by
 rw [zK_ h d];exact if_neg (by rw [hk];decide)
theorem WG_ {α:Type} {p:α->Bool}:∀ (l:List α) (i:Int),0<=i->decide (0<=ZG_ p l i)=l.any p
 | [],i,h=>rfl
 | o :: r,i,h=>by
   unfold ZG_
   rw [List.any_cons]
   cases hk:p o with
   | true=>rw [if_pos rfl,decide_eq_true h];rfl
   | false=>rw [if_neg (by decide),WG_ r (i+1) (by omega)];rfl
abbrev OV:=Int × Int × Bool × Int × List Int × List Int × Unit
instance:DecidableEq (Int × List Int × List Int × Unit):=inferInstance
instance:DecidableEq OV:=inferInstance
def hL_ (o:OV):Prop:=o.2.2.2.2.1.length<=100000/\o.2.2.2.2.2.1.length<=100000
structure allLen (l:List OV):Prop where
 h:∀ o ∈ l,hL_ o
def hI (h:Bool):Int:=if h=true then 1 else 0
theorem uP_ {α:Type} {f:α->Bool} {l:List α} {i:Nat} {d:α} (h:i < l.length) (ht:(l.take i).all f=true) (hd:f (l.getD i d)=true):(l.take (i+1)).all f=true:=by
 rw [List.take_succ_eq_append_getElem h,List.all_append,ht,Bool.true_and,List.all_cons,List.all_nil,Bool.and_true]
 rwa [List.getD_eq_getElem?_getD,List.getElem?_eq_getElem h] at hd
theorem gf_ {α:Type} {f:α->Bool} {l:List α} {i:Nat} (h:l.length<=i) (ht:(l.take i).all f=true):l.all f=true:=by
 rwa [List.take_of_length_le h] at ht
theorem ge_ {α:Type} {f:α->Bool} {l:List α} {i:Nat} {d:α} (h:i < l.length) (hd:f (l.getD i d)=false):l.all f=false:=by
 rw [List.all_eq_false]
 exact ⟨l.getD i d,zJ_ h d,by rw [hd];decide⟩
theorem yX_ {α:Type} {l:List α} {i:Nat} (h:i<=l.length):(l.take i).length=i:=by rw [List.length_take];omega
end Go.Eng
