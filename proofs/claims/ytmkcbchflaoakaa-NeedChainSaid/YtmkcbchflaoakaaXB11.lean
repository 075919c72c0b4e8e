/- Parts of the proof: F2, F4, O2, O9, O5, O7, OA, OE, OI. No condition. -/
import Derived.Test.YtmkcbchflaoakaaProg
import Derived.Test.YtmkcbchflaoakaaXB10
import Derived.KernelRfl
namespace Go.Eng
open Go.Proofs
set_option linter.unusedVariables false
set_option linter.unusedSimpArgs false
set_option maxRecDepth 100000
set_option maxHeartbeats 1000000
def fIs (n:Int):Bool:=decide (0<=n) && decide (n < 40)
theorem Qj_ {n:Int}:fIs n=true ↔ 0<=n/\n < 40:=by unfold fIs;simp
theorem Ya_ {n:Int}:fIs n=false ↔ ¬ (0<=n/\n < 40):=by rw [<- Qj_];simp
def Vq_:IR:=
(sq (kr [0] [oD 2 (.mov cF)])
(sq (kr [0] [oM 3 0,
oB 4 .geq 3 (cI 0),
oM 5 4,
oT 5 6 (.mov 0),
oT 5 7 (.bin .lss 6 (cI 40)),
oP 8 5 7 cF,
oM 2 8])
.ret))
def vP_:List RD:=[.tmp 2 true none]
theorem v2_:zl_ Try.prog Try.f40 Vq_ vP_=true:=by kernel_rfl
def Kf_:List AV->List Obj->Option (Prop × AV)
 | [.int .i64 n],[]=>some ((True,.bool (fIs n)))
 | _,_=>none
theorem K8_:zf_ Try.prog 40 (RoF Kf_).sum:=by
 refine zo_ Try.func40 v2_ (ze_ _) fun args objs p v e=>?_
 unfold Kf_ at e
 split at e
 ·rename_i n
  cases e
  refine ⟨rfl,fun hw ho hp=>?_⟩
  repeat'(intro t ht;first|(cases t<;>first|(cases ht;done)|(try simp only[zh_]at ht))|((first|refine za_ ht ?_|refine ht ?_ ?_|refine ht.1 ?_ ?_|refine ht ?_)<;>clear ht))
  all_goals refine ⟨?_,rfl⟩
  all_goals unfold fIs
  all_goals first | (congr 1;simp_all;done) | (congr 1;simp_all;omega)
 ·cases e
def W1_:List Int:=[32,32,64,48,48,16,13,3,6,2,8,32,32,16,16,16,16,16,16,8,8,16,32,32,48,48,128,128,20,8,8,128,48,48,20,3,1,24,64,9]
def yB_:IR:=
(sq (kr [0] [oD 2 (.mov (cI 0))])
(sq (.reg [oD 4 (.buildAll 40 [(0,1,(cI 32)),(1,1,(cI 32)),(2,1,(cI 64)),(3,1,(cI 48)),(4,1,(cI 48)),(5,1,(cI 16)),(6,1,(cI 13)),(7,1,(cI 3)),(8,1,(cI 6)),(9,1,(cI 2)),(10,1,(cI 8)),(11,1,(cI 32)),(12,1,(cI 32)),(13,1,(cI 16)),(14,1,(cI 16)),(15,1,(cI 16)),(16,1,(cI 16)),(17,1,(cI 16)),(18,1,(cI 16)),(19,1,(cI 8)),(20,1,(cI 8)),(21,1,(cI 16)),(22,1,(cI 32)),(23,1,(cI 32)),(24,1,(cI 48)),(25,1,(cI 48)),(26,1,(cI 128)),(27,1,(cI 128)),(28,1,(cI 20)),(29,1,(cI 8)),(30,1,(cI 8)),(31,1,(cI 128)),(32,1,(cI 48)),(33,1,(cI 48)),(34,1,(cI 20)),(35,1,(cI 3)),(36,1,(cI 1)),(37,1,(cI 24)),(38,1,(cI 64)),(39,1,(cI 9))]),
oD 3 (.box [.int .i64 0,.int .i64 0,.int .i64 0,.int .i64 0,.int .i64 0,.int .i64 0,.int .i64 0,.int .i64 0,.int .i64 0,.int .i64 0,.int .i64 0,.int .i64 0,.int .i64 0,.int .i64 0,.int .i64 0,.int .i64 0,.int .i64 0,.int .i64 0,.int .i64 0,.int .i64 0,.int .i64 0,.int .i64 0,.int .i64 0,.int .i64 0,.int .i64 0,.int .i64 0,.int .i64 0,.int .i64 0,.int .i64 0,.int .i64 0,.int .i64 0,.int .i64 0,.int .i64 0,.int .i64 0,.int .i64 0,.int .i64 0,.int .i64 0,.int .i64 0,.int .i64 0,.int .i64 0]),
oS 40 3 4])
(sq (.reg [oM 5 0,
oD 6 (.indexArr 1 40 3 5),
oD 7 (.loadI .i64 6),
oM 2 7])
.ret)))
def yi_:List RD:=[.tmp 2 true none]
theorem yr_:zl_ Try.prog Try.f41 yB_ yi_=true:=by kernel_rfl
def kW_:List AV->List Obj->Option (Prop × AV)
 | [.int .i64 n],[]=>some (0<=n/\n < 40,.int .i64 (W1_.getD n.toNat 0))
 | _,_=>none
theorem jK_:zf_ Try.prog 41 (RoF kW_).sum:=by
 refine zo_ Try.func41 yr_ (ze_ _) fun args objs p v e=>?_
 unfold kW_ at e
 split at e
 ·rename_i n
  cases e
  refine ⟨rfl,fun hw _ hp=>?_⟩
  repeat'(intro t ht;first|(cases t<;>first|(cases ht;done)|(try simp only[zh_]at ht))|((first|refine za_ ht ?_|refine ht ?_ ?_|refine ht.1 ?_ ?_|refine ht ?_)<;>clear ht))
  ·exact hp
  ·show 0+n.toNat*1 < 40;omega
  ·exact ⟨by simp [W1_],rfl⟩
 ·cases e
theorem be_:∀ k < 40,1<=W1_.getD k 0/\W1_.getD k 0<=128:=by decide
def yN_ (n:Int):Int:=if n=28\/n=34 then 4 else (W1_.getD n.toNat 0+7) / 8
def yy_:IR:=
(sq (kr [0] [oD 2 (.mov (cI 0))])
(sq (sq (.reg [oM 3 0])
(.block 0
(sq (sq (.reg [oB 5 .eql 3 (cI 28),
oM 4 5])
(.cond 4
.skip
(.reg [oB 6 .eql 3 (cI 34),
oM 4 6])))
(.cond 4
(sq (kr [] [oD 2 (.mov (cI 4))])
.ret)
.skip))))
(sq (kr [0] [oM 7 0,
oC 8 41 [7],
oB 9 .add 8 (cI 8),
oB 10 .sub 9 (cI 1),
oB 11 .quo 10 (cI 8),
oM 2 11])
.ret)))
def yf_:List RD:=[.tmp 2 true none]
theorem yo_:zl_ Try.prog Try.f42 yy_ yf_=true:=by kernel_rfl
def jz_:List AV->List Obj->Option (Prop × AV)
 | [.int .i64 n],[]=>some (0<=n/\n < 40,.int .i64 (yN_ n))
 | _,_=>none
theorem xP_:zf_ Try.prog 42 (RoF jz_).sum:=by
 refine zo_ Try.func42 yo_ (zc_ (s:=RoF kW_) jK_ (ze_ _)) fun args objs p v e=>?_
 unfold jz_ at e
 split at e
 ·rename_i n
  cases e
  refine ⟨rfl,fun hw _ hp=>?_⟩
  repeat'(intro t ht;first|(cases t<;>first|(cases ht;done)|(try simp only[zh_]at ht))|((first|refine za_ ht ?_|refine ht ?_ ?_|refine ht.1 ?_ ?_|refine ht ?_)<;>clear ht))
  all_goals have hb:=be_ n.toNat (by omega)
  all_goals generalize hB:W1_.getD n.toNat 0=B at*
  all_goals first
   | exact hp
   | exact (by decide)
   | (exfalso;(try simp only [z0_,z1_,zi_] at*);omega)
   | ((try simp only [z0_,z1_,zi_] at*);omega)
   | ((try simp only [z0_,z1_,zi_] at*);rw [Uf_ (by omega)];omega)
   | (refine ⟨?_,rfl⟩;unfold yN_;rw [Uf_ (by omega),hB,if_neg (by (try simp only [z0_,z1_,zi_] at*);omega)];congr 2;omega)
   | (refine ⟨?_,rfl⟩;unfold yN_;rw [if_pos (by (try simp only [z0_,z1_,zi_] at*);omega)])
 ·cases e
def Y5_ (n:Int):Bool:=[2,3,4,6,11,12,37,38,39,22,23,24,25,26,27,28].contains n
def xn_:IR:=
(sq (kr [0] [oD 2 (.mov cF)])
(sq (sq (.reg [oM 3 0])
(.block 0
(sq (.block 2
(.block 1
(sq (sq (sq (sq (.reg [oB 5 .eql 3 (cI 2),
oM 4 5])
(.cond 4
.skip
(sq (.reg [oB 6 .eql 3 (cI 3),
oM 4 6])
(.cond 4
.skip
(sq (kr [3] [oB 7 .eql 3 (cI 4),
oM 4 7])
(.cond 4
.skip
(sq (.reg [oB 8 .eql 3 (cI 6),
oM 4 8])
(.cond 4
.skip
(sq (.reg [oB 9 .eql 3 (cI 11),
oM 4 9])
(.cond 4
.skip
(sq (kr [3] [oB 10 .eql 3 (cI 12),
oM 4 10])
(.cond 4
.skip
(sq (.reg [oB 11 .eql 3 (cI 37),
oM 4 11])
(.cond 4
.skip
(sq (.reg [oB 12 .eql 3 (cI 38),
oM 4 12])
(.cond 4
.skip
(kr [3] [oB 13 .eql 3 (cI 39),
oM 4 13])))))))))))))))))
(.cond 4
(.exit 1)
.skip))
(sq (sq (kr [3] [oB 15 .eql 3 (cI 22),
oM 14 15])
(.cond 14
.skip
(sq (.reg [oB 16 .eql 3 (cI 23),
oM 14 16])
(.cond 14
.skip
(sq (.reg [oB 17 .eql 3 (cI 24),
oM 14 17])
(.cond 14
.skip
(sq (kr [3] [oB 18 .eql 3 (cI 25),
oM 14 18])
(.cond 14
.skip
(sq (.reg [oB 19 .eql 3 (cI 26),
oM 14 19])
(.cond 14
.skip
(sq (.reg [oB 20 .eql 3 (cI 27),
oM 14 20])
(.cond 14
.skip
(kr [3] [oB 21 .eql 3 (cI 28),
oM 14 21])))))))))))))
(.cond 14
(.exit 2)
.skip)))
(.exit 0))))
(sq (sq (kr [] [oD 2 (.mov cT)])
.ret)
(.exit 0)))))
(sq (kr [] [oD 2 (.mov cF)])
.ret)))
def xb_:List RD:=[.tmp 2 true none]
theorem xg_:zl_ Try.prog Try.f43 xn_ xb_=true:=by kernel_rfl
def Ke_:List AV->List Obj->Option (Prop × AV)
 | [.int .i64 n],[]=>some (True,.bool (Y5_ n))
 | _,_=>none
theorem wZ_:zf_ Try.prog 43 (RoF Ke_).sum:=by
 refine zo_ Try.func43 xg_ (ze_ _) fun args objs p v e=>?_
 unfold Ke_ at e
 split at e
 ·rename_i n
  cases e
  refine ⟨rfl,fun hw _ hp=>?_⟩
  repeat'(intro t ht;first|(cases t<;>first|(cases ht;done)|(try simp only[zh_]at ht))|((first|refine za_ ht ?_|refine ht ?_ ?_|refine ht.1 ?_ ?_|refine ht ?_)<;>clear ht))
  all_goals refine ⟨?_,rfl⟩
  all_goals (congr 1;simp_all [Y5_];done)
 ·cases e
def UI_ (n:Int):Int × List Int:=
 if n=13\/n=14 then (10,[6]) else if n=15\/n=16 then (10,[17]) else if n=17\/n=18 then (10,[132]) else if n=19\/n=20 then (10,[1])
 else if n=29\/n=30 then (10,[58]) else if n=31 then (29,[135,136]) else if n=32 then (29,[135]) else if n=33 then (29,[136]) else (-1,[])
def yA_:IR:=
(sq (kr [0] [oD 2 (.mov (cI 0)),
oD 3 (.mov (.c (.imm (.int .u64) [])))])
(sq (sq (.reg [oM 4 0])
(.block 0
(sq (sq (.reg [oB 6 .eql 4 (cI 13),
oM 5 6])
(.cond 5
.skip
(.reg [oB 7 .eql 4 (cI 14),
oM 5 7])))
(.cond 5
(sq (kr [] [oD 8 (.sliceAll (.int .u64) 1 [(0,1,(.c (.int .u64 6)))]),
oD 2 (.mov (cI 10)),
oM 3 8])
.ret)
(sq (sq (kr [0,4] [oB 10 .eql 4 (cI 15),
oM 9 10])
(.cond 9
.skip
(.reg [oB 11 .eql 4 (cI 16),
oM 9 11])))
(.cond 9
(sq (.reg [oD 12 (.sliceAll (.int .u64) 1 [(0,1,(.c (.int .u64 17)))]),
oD 2 (.mov (cI 10)),
oM 3 12])
.ret)
(sq (sq (.reg [oB 14 .eql 4 (cI 17),
oM 13 14])
(.cond 13
.skip
(kr [0,4] [oB 15 .eql 4 (cI 18),
oM 13 15])))
(.cond 13
(sq (kr [] [oD 16 (.sliceAll (.int .u64) 1 [(0,1,(.c (.int .u64 132)))]),
oD 2 (.mov (cI 10)),
oM 3 16])
.ret)
(sq (sq (kr [0,4] [oB 18 .eql 4 (cI 19),
oM 17 18])
(.cond 17
.skip
(.reg [oB 19 .eql 4 (cI 20),
oM 17 19])))
(.cond 17
(sq (.reg [oD 20 (.sliceAll (.int .u64) 1 [(0,1,(.c (.int .u64 1)))]),
oD 2 (.mov (cI 10)),
oM 3 20])
.ret)
(sq (sq (.reg [oB 22 .eql 4 (cI 29),
oM 21 22])
(.cond 21
.skip
(kr [0,4] [oB 23 .eql 4 (cI 30),
oM 21 23])))
(.cond 21
(sq (kr [] [oD 24 (.sliceAll (.int .u64) 1 [(0,1,(.c (.int .u64 58)))]),
oD 2 (.mov (cI 10)),
oM 3 24])
.ret)
(sq (kr [0,4] [oB 26 .eql 4 (cI 31),
oM 25 26])
(.cond 25
(sq (.reg [oD 27 (.sliceAll (.int .u64) 2 [(0,1,(.c (.int .u64 135))),(1,1,(.c (.int .u64 136)))]),
oD 2 (.mov (cI 29)),
oM 3 27])
.ret)
(sq (sq (.reg [oB 29 .eql 4 (cI 32),
oM 28 29])
(.cond 28
.skip
(.reg [oB 30 .eql 4 (cI 33),
oM 28 30])))
(.cond 28
(sq (kr [0] [oM 31 0,
oD 32 (.conv .u64 31),
oB 33 .add 32 (.c (.int .u64 103)),
oD 34 (.sliceAll (.int .u64) 1 [(0,1,33)]),
oD 2 (.mov (cI 29)),
oM 3 34])
.ret)
.skip))))))))))))))))
(sq (kr [] [oD 2 (.mov (cI (-1))),
oD 3 (.mov (.c (.imm (.int .u64) [])))])
.ret)))
def yh_:List RD:=[.tmp 2 true none,.tmp 3 true (some (.int .u64))]
theorem yq_:zl_ Try.prog Try.f57 yA_ yh_=true:=by kernel_rfl
def jA_:List AV->List Obj->Option (Prop × AV)
 | [.int .i64 n],[]=>some (True,.tup [.int .i64 (UI_ n).1,.imm (.int .u64) (UI_ n).2])
 | _,_=>none
theorem xQ_:zf_ Try.prog 57 (RoF jA_).sum:=by
 refine zo_ Try.func57 yq_ (ze_ _) fun args objs p v e=>?_
 unfold jA_ at e
 split at e
 ·rename_i n
  cases e
  refine ⟨rfl,fun hw _ hp=>?_⟩
  repeat'(intro t ht;first|(cases t<;>first|(cases ht;done)|(try simp only[zh_]at ht))|((first|refine za_ ht ?_|refine ht ?_ ?_|refine ht.1 ?_ ?_|refine ht ?_)<;>clear ht))
  all_goals first
   | (exfalso;(try simp only [z0_,z1_,zi_] at*);omega)
   | (refine ⟨?_,rfl⟩;simp_all [UI_];done)
   | ((try simp only [z0_,z1_,zi_] at*);omega)
   | ((try simp only [z0_,z1_,zi_] at*);subst_vars;exact ⟨rfl,rfl⟩)
   | ((try simp only [z0_,z1_,zi_] at*);have hn:n=32\/n=33:=by omega
      rcases hn with rfl | rfl<;>exact ⟨rfl,rfl⟩)
 ·cases e
def Zi_ (n:Int):Int × List Int:=
 if n=1 then (0,[]) else if n=7 then (6,[]) else if n=8\/n=9\/n=10 then (5,[2048,34525]) else if n=11\/n=12 then (5,[2048])
 else if n=21\/n=22\/n=23\/n=24\/n=25 then (5,[2054]) else if n=26\/n=27\/n=28\/n=39 then (5,[34525])
 else if n=34\/n=35\/n=36 then (5,[34887,34888]) else if n=37 then (5,[35047]) else UI_ n
def yz_:IR:=
(sq (kr [0] [oD 2 (.mov (cI 0)),
oD 3 (.mov (.c (.imm (.int .u64) [])))])
(sq (sq (.reg [oM 4 0])
(.block 0
(sq (.reg [oB 6 .eql 4 (cI 1),
oM 5 6])
(.cond 5
(sq (.reg [oD 2 (.mov (cI 0)),
oD 3 (.mov (.c (.imm (.int .u64) [])))])
.ret)
(sq (.reg [oB 8 .eql 4 (cI 7),
oM 7 8])
(.cond 7
(sq (kr [] [oD 2 (.mov (cI 6)),
oD 3 (.mov (.c (.imm (.int .u64) [])))])
.ret)
(sq (sq (kr [0,4] [oB 10 .eql 4 (cI 8),
oM 9 10])
(.cond 9
.skip
(sq (.reg [oB 11 .eql 4 (cI 9),
oM 9 11])
(.cond 9
.skip
(.reg [oB 12 .eql 4 (cI 10),
oM 9 12])))))
(.cond 9
(sq (kr [] [oD 13 (.sliceAll (.int .u64) 2 [(0,1,(.c (.int .u64 2048))),(1,1,(.c (.int .u64 34525)))]),
oD 2 (.mov (cI 5)),
oM 3 13])
.ret)
(sq (sq (kr [0,4] [oB 15 .eql 4 (cI 11),
oM 14 15])
(.cond 14
.skip
(.reg [oB 16 .eql 4 (cI 12),
oM 14 16])))
(.cond 14
(sq (.reg [oD 17 (.sliceAll (.int .u64) 1 [(0,1,(.c (.int .u64 2048)))]),
oD 2 (.mov (cI 5)),
oM 3 17])
.ret)
(sq (sq (.reg [oB 19 .eql 4 (cI 21),
oM 18 19])
(.cond 18
.skip
(sq (kr [0,4] [oB 20 .eql 4 (cI 22),
oM 18 20])
(.cond 18
.skip
(sq (.reg [oB 21 .eql 4 (cI 23),
oM 18 21])
(.cond 18
.skip
(sq (.reg [oB 22 .eql 4 (cI 24),
oM 18 22])
(.cond 18
.skip
(kr [0,4] [oB 23 .eql 4 (cI 25),
oM 18 23])))))))))
(.cond 18
(sq (kr [] [oD 24 (.sliceAll (.int .u64) 1 [(0,1,(.c (.int .u64 2054)))]),
oD 2 (.mov (cI 5)),
oM 3 24])
.ret)
(sq (sq (kr [0,4] [oB 26 .eql 4 (cI 26),
oM 25 26])
(.cond 25
.skip
(sq (.reg [oB 27 .eql 4 (cI 27),
oM 25 27])
(.cond 25
.skip
(sq (.reg [oB 28 .eql 4 (cI 28),
oM 25 28])
(.cond 25
.skip
(kr [0,4] [oB 29 .eql 4 (cI 39),
oM 25 29])))))))
(.cond 25
(sq (kr [] [oD 30 (.sliceAll (.int .u64) 1 [(0,1,(.c (.int .u64 34525)))]),
oD 2 (.mov (cI 5)),
oM 3 30])
.ret)
(sq (sq (kr [0,4] [oB 32 .eql 4 (cI 34),
oM 31 32])
(.cond 31
.skip
(sq (.reg [oB 33 .eql 4 (cI 35),
oM 31 33])
(.cond 31
.skip
(.reg [oB 34 .eql 4 (cI 36),
oM 31 34])))))
(.cond 31
(sq (kr [] [oD 35 (.sliceAll (.int .u64) 2 [(0,1,(.c (.int .u64 34887))),(1,1,(.c (.int .u64 34888)))]),
oD 2 (.mov (cI 5)),
oM 3 35])
.ret)
(sq (kr [0,4] [oB 37 .eql 4 (cI 37),
oM 36 37])
(.cond 36
(sq (.reg [oD 38 (.sliceAll (.int .u64) 1 [(0,1,(.c (.int .u64 35047)))]),
oD 2 (.mov (cI 5)),
oM 3 38])
.ret)
.skip))))))))))))))))))
(sq (kr [0] [oM 39 0,
oC 40 57 [39],
oX 41 40 0,
oX 42 40 1,
oM 2 41,
oM 3 42])
.ret)))
def yg_:List RD:=[.tmp 2 true none,.tmp 3 true (some (.int .u64))]
theorem yp_:zl_ Try.prog Try.f44 yz_ yg_=true:=by kernel_rfl
def Qq_:List AV->List Obj->Option (Prop × AV)
 | [.int .i64 n],[]=>some (True,.tup [.int .i64 (Zi_ n).1,.imm (.int .u64) (Zi_ n).2])
 | _,_=>none
theorem k5_:zf_ Try.prog 44 (RoF Qq_).sum:=by
 refine zo_ Try.func44 yp_ (zc_ (s:=RoF jA_) xQ_ (ze_ _)) fun args objs p v e=>?_
 unfold Qq_ at e
 split at e
 ·rename_i n
  cases e
  refine ⟨rfl,fun hw _ hp=>?_⟩
  repeat'(intro t ht;first|(cases t<;>first|(cases ht;done)|(try simp only[zh_]at ht))|((first|refine za_ ht ?_|refine ht ?_ ?_|refine ht.1 ?_ ?_|refine ht ?_)<;>clear ht))
  all_goals first
   | trivial
   | (exfalso;(try simp only [z0_,z1_,zi_] at*);omega)
   | (refine ⟨?_,rfl⟩;simp_all [Zi_];done)
   | ((try simp only [z0_,z1_,zi_] at*);subst_vars;exact ⟨rfl,rfl⟩)
 ·cases e
def Xg_:List (List Int):=[[105,110,95,112,111,114,116],[105,110,95,112,104,121,95,112,111,114,116],[109,101,116,97,100,97,116,97],[101,116,104,95,100,115,116],[101,116,104,95,115,114,99],[101,116,104,95,116,121,112,101],[118,108,97,110,95,118,105,100],[118,108,97,110,95,112,99,112],[105,112,95,100,115,99,112],[105,112,95,101,99,110],[105,112,95,112,114,111,116,111],[105,112,118,52,95,115,114,99],[105,112,118,52,95,100,115,116],[116,99,112,95,115,114,99],[116,99,112,95,100,115,116],[117,100,112,95,115,114,99],[117,100,112,95,100,115,116],[115,99,116,112,95,115,114,99],[115,99,116,112,95,100,115,116],[105,99,109,112,118,52,95,116,121,112,101],[105,99,109,112,118,52,95,99,111,100,101],[97,114,112,95,111,112],[97,114,112,95,115,112,97],[97,114,112,95,116,112,97],[97,114,112,95,115,104,97],[97,114,112,95,116,104,97],[105,112,118,54,95,115,114,99],[105,112,118,54,95,100,115,116],[105,112,118,54,95,102,108,97,98,101,108],[105,99,109,112,118,54,95,116,121,112,101],[105,99,109,112,118,54,95,99,111,100,101],[105,112,118,54,95,110,100,95,116,97,114,103,101,116],[105,112,118,54,95,110,100,95,115,108,108],[105,112,118,54,95,110,100,95,116,108,108],[109,112,108,115,95,108,97,98,101,108],[109,112,108,115,95,116,99],[109,112,108,115,95,98,111,115],[112,98,98,95,105,115,105,100],[116,117,110,110,101,108,95,105,100],[105,112,118,54,95,101,120,116,104,100,114]]
def GY_ (n:Int):List Int:=if fIs n then Xg_.getD n.toNat [] else []
def JB_ (n:Int):Int:=if fIs n then W1_.getD n.toNat 0 else 0
def ZV_ (n:Int):Int:=if fIs n then yN_ n else 0
def JA_ (n:Int):Bool:=if fIs n then Y5_ n else false
def zz_ (n:Int):Int:=if fIs n then (Zi_ n).1 else 0
def zY_ (n:Int):List Int:=if fIs n then (Zi_ n).2 else []
abbrev ofF (n:Int):AV:=.tup [.agg [.int .i64 (JB_ n),.int .i64 (ZV_ n),.bool (JA_ n),.int .i64 (zz_ n),.imm (.int .u64) (zY_ n)],.bool (fIs n)]
def Vr_:IR:=
(sq (kr [0] [oD 2 (.box [.int .i64 0,.int .i64 0,.kb false,.int .i64 0,.imm (.int .u64) []]),
oD 3 (.mov cF)])
(sq (sq (.reg [oM 5 0,
oC 6 40 [5],
oD 7 (.un .not 6)])
(.cond 7
(sq (.reg [oD 8 (.build [.int .i64 0,.int .i64 0,.kb false,.int .i64 0,.imm (.int .u64) []] []),
oS 5 2 8,
oD 3 (.mov cF)])
.ret)
.skip))
(sq (kr [0,2] [oM 9 0,
oC 10 41 [9],
oM 11 0,
oC 12 42 [11],
oM 13 0,
oC 14 43 [13],
oD 15 (.build [.int .i64 0,.int .i64 0,.kb false,.int .i64 0,.imm (.int .u64) []] [(0,1,10),(1,1,12),(2,1,14)]),
oD 4 (.box [.int .i64 0,.int .i64 0,.kb false,.int .i64 0,.imm (.int .u64) []]),
oS 5 4 15])
(sq (kr [0,2,4] [oM 17 0,
oC 18 44 [17],
oM 16 18,
oX 19 16 0,
oX 20 16 1,
oA 21 3 4,
oS 1 21 19,
oA 22 4 4,
oS 1 22 20])
(sq (kr [2,4] [oK 23 5 4,
oS 5 2 23,
oD 3 (.mov cT)])
.ret)))))
def vQ_:List RD:=[.cell 2 (some 5) true [],.tmp 3 true none]
theorem v3_:zl_ Try.prog Try.f18 Vr_ vQ_=true:=by kernel_rfl
def Kg_:List AV->List Obj->Option (Prop × AV)
 | [.int .i64 n],[]=>some ((True,ofF n))
 | _,_=>none
theorem K9_:zf_ Try.prog 18 (RoF Kg_).sum:=by
 refine zo_ Try.func18 v3_ (zc_ (s:=RoF Kf_) K8_ (zc_ (s:=RoF kW_) jK_ (zc_ (s:=RoF jz_) xP_ (zc_ (s:=RoF Ke_) wZ_ (zc_ (s:=RoF Qq_) k5_ (ze_ _)))))) fun args objs p v e=>?_
 unfold Kg_ at e
 split at e
 ·rename_i n
  cases e
  refine ⟨rfl,fun hw ho hp=>?_⟩
  repeat'(intro t ht;first|(cases t<;>first|(cases ht;done)|(try simp only[zh_]at ht))|((first|refine za_ ht ?_|refine ht ?_ ?_|refine ht.1 ?_ ?_|refine ht ?_)<;>clear ht))
  all_goals try (try simp only [z0_,z1_,zi_] at*)
  all_goals first
   | exact Qj_.1 (by assumption)
   | (simp_all [ofF,JB_,ZV_,JA_,zz_,zY_];done)
 ·cases e
def hr_:List (List Int)->List Int->Nat->Int
 | [],_,_=>-1
 | a :: r,s,k=>if s=a then k else hr_ r s (k+1)
def bG_ (s:List Int):Int:=if 0 > hr_ Xg_ s 0 then 0 else hr_ Xg_ s 0
def bH_ (s:List Int):Bool:=decide (0<=hr_ Xg_ s 0)
abbrev vi_:Ty:=(.cons .str (.cons (.int .i64) (.cons (.int .i64) (.cons .bool (.cons (.int .i64) (.cons (.sl (.int .u64)) .nil))))))
def tab:List vi_.den:=[([105,110,95,112,111,114,116],32,4,false,-1,[],()),
 ([105,110,95,112,104,121,95,112,111,114,116],32,4,false,0,[],()),
 ([109,101,116,97,100,97,116,97],64,8,true,-1,[],()),
 ([101,116,104,95,100,115,116],48,6,true,-1,[],()),
 ([101,116,104,95,115,114,99],48,6,true,-1,[],()),
 ([101,116,104,95,116,121,112,101],16,2,false,-1,[],()),
 ([118,108,97,110,95,118,105,100],13,2,true,-1,[],()),
 ([118,108,97,110,95,112,99,112],3,1,false,6,[],()),
 ([105,112,95,100,115,99,112],6,1,false,5,[2048,34525],()),
 ([105,112,95,101,99,110],2,1,false,5,[2048,34525],()),
 ([105,112,95,112,114,111,116,111],8,1,false,5,[2048,34525],()),
 ([105,112,118,52,95,115,114,99],32,4,true,5,[2048],()),
 ([105,112,118,52,95,100,115,116],32,4,true,5,[2048],()),
 ([116,99,112,95,115,114,99],16,2,false,10,[6],()),
 ([116,99,112,95,100,115,116],16,2,false,10,[6],()),
 ([117,100,112,95,115,114,99],16,2,false,10,[17],()),
 ([117,100,112,95,100,115,116],16,2,false,10,[17],()),
 ([115,99,116,112,95,115,114,99],16,2,false,10,[132],()),
 ([115,99,116,112,95,100,115,116],16,2,false,10,[132],()),
 ([105,99,109,112,118,52,95,116,121,112,101],8,1,false,10,[1],()),
 ([105,99,109,112,118,52,95,99,111,100,101],8,1,false,10,[1],()),
 ([97,114,112,95,111,112],16,2,false,5,[2054],()),
 ([97,114,112,95,115,112,97],32,4,true,5,[2054],()),
 ([97,114,112,95,116,112,97],32,4,true,5,[2054],()),
 ([97,114,112,95,115,104,97],48,6,true,5,[2054],()),
 ([97,114,112,95,116,104,97],48,6,true,5,[2054],()),
 ([105,112,118,54,95,115,114,99],128,16,true,5,[34525],()),
 ([105,112,118,54,95,100,115,116],128,16,true,5,[34525],()),
 ([105,112,118,54,95,102,108,97,98,101,108],20,4,true,5,[34525],()),
 ([105,99,109,112,118,54,95,116,121,112,101],8,1,false,10,[58],()),
 ([105,99,109,112,118,54,95,99,111,100,101],8,1,false,10,[58],()),
 ([105,112,118,54,95,110,100,95,116,97,114,103,101,116],128,16,false,29,[135,136],()),
 ([105,112,118,54,95,110,100,95,115,108,108],48,6,false,29,[135],()),
 ([105,112,118,54,95,110,100,95,116,108,108],48,6,false,29,[136],()),
 ([109,112,108,115,95,108,97,98,101,108],20,4,false,5,[34887,34888],()),
 ([109,112,108,115,95,116,99],3,1,false,5,[34887,34888],()),
 ([109,112,108,115,95,98,111,115],1,1,false,5,[34887,34888],()),
 ([112,98,98,95,105,115,105,100],24,3,true,5,[35047],()),
 ([116,117,110,110,101,108,95,105,100],64,8,true,-1,[],()),
 ([105,112,118,54,95,101,120,116,104,100,114],9,2,true,5,[34525],())]
def uF_:IR:=
(sq (kr [] [oD 0 (.mov (.c (.imm (.cons .str (.cons (.int .i64) (.cons (.int .i64) (.cons .bool (.cons (.int .i64) (.cons (.sl (.int .u64)) .nil)))))) [])))])
(sq (kr [] [oD 1 (.buildAll 6 [(0,1,(.c (.str [105,110,95,112,111,114,116]))),(1,1,(cI 32)),(2,1,(cI 4)),(3,1,cF),(4,1,(cI (-1))),(5,1,(.c (.imm (.int .u64) [])))]),
oD 2 (.buildAll 6 [(0,1,(.c (.str [105,110,95,112,104,121,95,112,111,114,116]))),(1,1,(cI 32)),(2,1,(cI 4)),(3,1,cF),(4,1,(cI 0)),(5,1,(.c (.imm (.int .u64) [])))]),
oD 3 (.buildAll 6 [(0,1,(.c (.str [109,101,116,97,100,97,116,97]))),(1,1,(cI 64)),(2,1,(cI 8)),(3,1,cT),(4,1,(cI (-1))),(5,1,(.c (.imm (.int .u64) [])))]),
oD 4 (.buildAll 6 [(0,1,(.c (.str [101,116,104,95,100,115,116]))),(1,1,(cI 48)),(2,1,(cI 6)),(3,1,cT),(4,1,(cI (-1))),(5,1,(.c (.imm (.int .u64) [])))]),
oD 5 (.buildAll 6 [(0,1,(.c (.str [101,116,104,95,115,114,99]))),(1,1,(cI 48)),(2,1,(cI 6)),(3,1,cT),(4,1,(cI (-1))),(5,1,(.c (.imm (.int .u64) [])))]),
oD 6 (.buildAll 6 [(0,1,(.c (.str [101,116,104,95,116,121,112,101]))),(1,1,(cI 16)),(2,1,(cI 2)),(3,1,cF),(4,1,(cI (-1))),(5,1,(.c (.imm (.int .u64) [])))]),
oD 7 (.buildAll 6 [(0,1,(.c (.str [118,108,97,110,95,118,105,100]))),(1,1,(cI 13)),(2,1,(cI 2)),(3,1,cT),(4,1,(cI (-1))),(5,1,(.c (.imm (.int .u64) [])))]),
oD 8 (.buildAll 6 [(0,1,(.c (.str [118,108,97,110,95,112,99,112]))),(1,1,(cI 3)),(2,1,(cI 1)),(3,1,cF),(4,1,(cI 6)),(5,1,(.c (.imm (.int .u64) [])))]),
oD 9 (.sliceAll (.int .u64) 2 [(0,1,(.c (.int .u64 2048))),(1,1,(.c (.int .u64 34525)))]),
oD 10 (.buildAll 6 [(0,1,(.c (.str [105,112,95,100,115,99,112]))),(1,1,(cI 6)),(2,1,(cI 1)),(3,1,cF),(4,1,(cI 5)),(5,1,9)]),
oD 11 (.sliceAll (.int .u64) 2 [(0,1,(.c (.int .u64 2048))),(1,1,(.c (.int .u64 34525)))]),
oD 12 (.buildAll 6 [(0,1,(.c (.str [105,112,95,101,99,110]))),(1,1,(cI 2)),(2,1,(cI 1)),(3,1,cF),(4,1,(cI 5)),(5,1,11)]),
oD 13 (.sliceAll (.int .u64) 2 [(0,1,(.c (.int .u64 2048))),(1,1,(.c (.int .u64 34525)))]),
oD 14 (.buildAll 6 [(0,1,(.c (.str [105,112,95,112,114,111,116,111]))),(1,1,(cI 8)),(2,1,(cI 1)),(3,1,cF),(4,1,(cI 5)),(5,1,13)]),
oD 15 (.sliceAll (.int .u64) 1 [(0,1,(.c (.int .u64 2048)))]),
oD 16 (.buildAll 6 [(0,1,(.c (.str [105,112,118,52,95,115,114,99]))),(1,1,(cI 32)),(2,1,(cI 4)),(3,1,cT),(4,1,(cI 5)),(5,1,15)]),
oD 17 (.sliceAll (.int .u64) 1 [(0,1,(.c (.int .u64 2048)))]),
oD 18 (.buildAll 6 [(0,1,(.c (.str [105,112,118,52,95,100,115,116]))),(1,1,(cI 32)),(2,1,(cI 4)),(3,1,cT),(4,1,(cI 5)),(5,1,17)]),
oD 19 (.sliceAll (.int .u64) 1 [(0,1,(.c (.int .u64 6)))]),
oD 20 (.buildAll 6 [(0,1,(.c (.str [116,99,112,95,115,114,99]))),(1,1,(cI 16)),(2,1,(cI 2)),(3,1,cF),(4,1,(cI 10)),(5,1,19)]),
oD 21 (.sliceAll (.int .u64) 1 [(0,1,(.c (.int .u64 6)))]),
oD 22 (.buildAll 6 [(0,1,(.c (.str [116,99,112,95,100,115,116]))),(1,1,(cI 16)),(2,1,(cI 2)),(3,1,cF),(4,1,(cI 10)),(5,1,21)]),
oD 23 (.sliceAll (.int .u64) 1 [(0,1,(.c (.int .u64 17)))]),
oD 24 (.buildAll 6 [(0,1,(.c (.str [117,100,112,95,115,114,99]))),(1,1,(cI 16)),(2,1,(cI 2)),(3,1,cF),(4,1,(cI 10)),(5,1,23)]),
oD 25 (.sliceAll (.int .u64) 1 [(0,1,(.c (.int .u64 17)))]),
oD 26 (.buildAll 6 [(0,1,(.c (.str [117,100,112,95,100,115,116]))),(1,1,(cI 16)),(2,1,(cI 2)),(3,1,cF),(4,1,(cI 10)),(5,1,25)]),
oD 27 (.sliceAll (.int .u64) 1 [(0,1,(.c (.int .u64 132)))]),
oD 28 (.buildAll 6 [(0,1,(.c (.str [115,99,116,112,95,115,114,99]))),(1,1,(cI 16)),(2,1,(cI 2)),(3,1,cF),(4,1,(cI 10)),(5,1,27)]),
oD 29 (.sliceAll (.int .u64) 1 [(0,1,(.c (.int .u64 132)))]),
oD 30 (.buildAll 6 [(0,1,(.c (.str [115,99,116,112,95,100,115,116]))),(1,1,(cI 16)),(2,1,(cI 2)),(3,1,cF),(4,1,(cI 10)),(5,1,29)]),
oD 31 (.sliceAll (.int .u64) 1 [(0,1,(.c (.int .u64 1)))]),
oD 32 (.buildAll 6 [(0,1,(.c (.str [105,99,109,112,118,52,95,116,121,112,101]))),(1,1,(cI 8)),(2,1,(cI 1)),(3,1,cF),(4,1,(cI 10)),(5,1,31)]),
oD 33 (.sliceAll (.int .u64) 1 [(0,1,(.c (.int .u64 1)))]),
oD 34 (.buildAll 6 [(0,1,(.c (.str [105,99,109,112,118,52,95,99,111,100,101]))),(1,1,(cI 8)),(2,1,(cI 1)),(3,1,cF),(4,1,(cI 10)),(5,1,33)]),
oD 35 (.sliceAll (.int .u64) 1 [(0,1,(.c (.int .u64 2054)))]),
oD 36 (.buildAll 6 [(0,1,(.c (.str [97,114,112,95,111,112]))),(1,1,(cI 16)),(2,1,(cI 2)),(3,1,cF),(4,1,(cI 5)),(5,1,35)]),
oD 37 (.sliceAll (.int .u64) 1 [(0,1,(.c (.int .u64 2054)))]),
oD 38 (.buildAll 6 [(0,1,(.c (.str [97,114,112,95,115,112,97]))),(1,1,(cI 32)),(2,1,(cI 4)),(3,1,cT),(4,1,(cI 5)),(5,1,37)]),
oD 39 (.sliceAll (.int .u64) 1 [(0,1,(.c (.int .u64 2054)))]),
oD 40 (.buildAll 6 [(0,1,(.c (.str [97,114,112,95,116,112,97]))),(1,1,(cI 32)),(2,1,(cI 4)),(3,1,cT),(4,1,(cI 5)),(5,1,39)]),
oD 41 (.sliceAll (.int .u64) 1 [(0,1,(.c (.int .u64 2054)))]),
oD 42 (.buildAll 6 [(0,1,(.c (.str [97,114,112,95,115,104,97]))),(1,1,(cI 48)),(2,1,(cI 6)),(3,1,cT),(4,1,(cI 5)),(5,1,41)]),
oD 43 (.sliceAll (.int .u64) 1 [(0,1,(.c (.int .u64 2054)))]),
oD 44 (.buildAll 6 [(0,1,(.c (.str [97,114,112,95,116,104,97]))),(1,1,(cI 48)),(2,1,(cI 6)),(3,1,cT),(4,1,(cI 5)),(5,1,43)]),
oD 45 (.sliceAll (.int .u64) 1 [(0,1,(.c (.int .u64 34525)))]),
oD 46 (.buildAll 6 [(0,1,(.c (.str [105,112,118,54,95,115,114,99]))),(1,1,(cI 128)),(2,1,(cI 16)),(3,1,cT),(4,1,(cI 5)),(5,1,45)]),
oD 47 (.sliceAll (.int .u64) 1 [(0,1,(.c (.int .u64 34525)))]),
oD 48 (.buildAll 6 [(0,1,(.c (.str [105,112,118,54,95,100,115,116]))),(1,1,(cI 128)),(2,1,(cI 16)),(3,1,cT),(4,1,(cI 5)),(5,1,47)]),
oD 49 (.sliceAll (.int .u64) 1 [(0,1,(.c (.int .u64 34525)))]),
oD 50 (.buildAll 6 [(0,1,(.c (.str [105,112,118,54,95,102,108,97,98,101,108]))),(1,1,(cI 20)),(2,1,(cI 4)),(3,1,cT),(4,1,(cI 5)),(5,1,49)]),
oD 51 (.sliceAll (.int .u64) 1 [(0,1,(.c (.int .u64 58)))]),
oD 52 (.buildAll 6 [(0,1,(.c (.str [105,99,109,112,118,54,95,116,121,112,101]))),(1,1,(cI 8)),(2,1,(cI 1)),(3,1,cF),(4,1,(cI 10)),(5,1,51)]),
oD 53 (.sliceAll (.int .u64) 1 [(0,1,(.c (.int .u64 58)))]),
oD 54 (.buildAll 6 [(0,1,(.c (.str [105,99,109,112,118,54,95,99,111,100,101]))),(1,1,(cI 8)),(2,1,(cI 1)),(3,1,cF),(4,1,(cI 10)),(5,1,53)]),
oD 55 (.sliceAll (.int .u64) 2 [(0,1,(.c (.int .u64 135))),(1,1,(.c (.int .u64 136)))]),
oD 56 (.buildAll 6 [(0,1,(.c (.str [105,112,118,54,95,110,100,95,116,97,114,103,101,116]))),(1,1,(cI 128)),(2,1,(cI 16)),(3,1,cF),(4,1,(cI 29)),(5,1,55)]),
oD 57 (.sliceAll (.int .u64) 1 [(0,1,(.c (.int .u64 135)))]),
oD 58 (.buildAll 6 [(0,1,(.c (.str [105,112,118,54,95,110,100,95,115,108,108]))),(1,1,(cI 48)),(2,1,(cI 6)),(3,1,cF),(4,1,(cI 29)),(5,1,57)]),
oD 59 (.sliceAll (.int .u64) 1 [(0,1,(.c (.int .u64 136)))]),
oD 60 (.buildAll 6 [(0,1,(.c (.str [105,112,118,54,95,110,100,95,116,108,108]))),(1,1,(cI 48)),(2,1,(cI 6)),(3,1,cF),(4,1,(cI 29)),(5,1,59)]),
oD 61 (.sliceAll (.int .u64) 2 [(0,1,(.c (.int .u64 34887))),(1,1,(.c (.int .u64 34888)))]),
oD 62 (.buildAll 6 [(0,1,(.c (.str [109,112,108,115,95,108,97,98,101,108]))),(1,1,(cI 20)),(2,1,(cI 4)),(3,1,cF),(4,1,(cI 5)),(5,1,61)]),
oD 63 (.sliceAll (.int .u64) 2 [(0,1,(.c (.int .u64 34887))),(1,1,(.c (.int .u64 34888)))]),
oD 64 (.buildAll 6 [(0,1,(.c (.str [109,112,108,115,95,116,99]))),(1,1,(cI 3)),(2,1,(cI 1)),(3,1,cF),(4,1,(cI 5)),(5,1,63)]),
oD 65 (.sliceAll (.int .u64) 2 [(0,1,(.c (.int .u64 34887))),(1,1,(.c (.int .u64 34888)))]),
oD 66 (.buildAll 6 [(0,1,(.c (.str [109,112,108,115,95,98,111,115]))),(1,1,(cI 1)),(2,1,(cI 1)),(3,1,cF),(4,1,(cI 5)),(5,1,65)]),
oD 67 (.sliceAll (.int .u64) 1 [(0,1,(.c (.int .u64 35047)))]),
oD 68 (.buildAll 6 [(0,1,(.c (.str [112,98,98,95,105,115,105,100]))),(1,1,(cI 24)),(2,1,(cI 3)),(3,1,cT),(4,1,(cI 5)),(5,1,67)]),
oD 69 (.buildAll 6 [(0,1,(.c (.str [116,117,110,110,101,108,95,105,100]))),(1,1,(cI 64)),(2,1,(cI 8)),(3,1,cT),(4,1,(cI (-1))),(5,1,(.c (.imm (.int .u64) [])))]),
oD 70 (.sliceAll (.int .u64) 1 [(0,1,(.c (.int .u64 34525)))]),
oD 71 (.buildAll 6 [(0,1,(.c (.str [105,112,118,54,95,101,120,116,104,100,114]))),(1,1,(cI 9)),(2,1,(cI 2)),(3,1,cT),(4,1,(cI 5)),(5,1,70)]),
oD 72 (.sliceAll (.cons .str (.cons (.int .i64) (.cons (.int .i64) (.cons .bool (.cons (.int .i64) (.cons (.sl (.int .u64)) .nil)))))) 40 [(0,6,1),(6,6,2),(12,6,3),(18,6,4),(24,6,5),(30,6,6),(36,6,7),(42,6,8),(48,6,10),(54,6,12),(60,6,14),(66,6,16),(72,6,18),(78,6,20),(84,6,22),(90,6,24),(96,6,26),(102,6,28),(108,6,30),(114,6,32),(120,6,34),(126,6,36),(132,6,38),(138,6,40),(144,6,42),(150,6,44),(156,6,46),(162,6,48),(168,6,50),(174,6,52),(180,6,54),(186,6,56),(192,6,58),(198,6,60),(204,6,62),(210,6,64),(216,6,66),(222,6,68),(228,6,69),(234,6,71)]),
oM 0 72])
.ret))
def uh_:List RD:=[.tmp 0 true (some (.cons .str (.cons (.int .i64) (.cons (.int .i64) (.cons .bool (.cons (.int .i64) (.cons (.sl (.int .u64)) .nil)))))))]
theorem up_:zl_ Try.prog Try.f51 uF_ uh_=true:=by kernel_rfl
def WD_:List AV->List Obj->Option (Prop × AV)
 | [],[]=>some (True,.imm vi_ tab)
 | _,_=>none
theorem vD_:zf_ Try.prog 51 (RoF WD_).sum:=by
 refine zo_ Try.func51 up_ (ze_ _) fun args objs p v e=>?_
 unfold WD_ at e
 split at e
 ·cases e
  refine ⟨rfl,fun hw _ hp=>?_⟩
  repeat'(intro t ht;first|(cases t<;>first|(cases ht;done)|(try simp only[zh_]at ht))|((first|refine za_ ht ?_|refine ht ?_ ?_|refine ht.1 ?_ ?_|refine ht ?_)<;>clear ht))
  exact ⟨rfl,rfl⟩
 ·cases e
def U3_ (n:Int):vi_.den:=tab.getD n.toNat vi_.dflt
def KN_ (n:Int):List Int:=if fIs n then (U3_ n).1 else []
def QD_ (n:Int):Int:=if fIs n then (U3_ n).2.1 else 0
def Zf_ (n:Int):Int:=if fIs n then (U3_ n).2.2.1 else 0
def kG_ (n:Int):Bool:=if fIs n then (U3_ n).2.2.2.1 else false
def z9_ (n:Int):Int:=if fIs n then (U3_ n).2.2.2.2.1 else 0
def qP_ (n:Int):List Int:=if fIs n then (U3_ n).2.2.2.2.2.1 else []
abbrev ofR (n:Int):AV:=.tup [.agg [.str (KN_ n),.int .i64 (QD_ n),.int .i64 (Zf_ n),.bool (kG_ n),.int .i64 (z9_ n),.imm (.int .u64) (qP_ n)],.bool (fIs n)]
theorem bV_:tab.length=40:=rfl
def gD_:IR:=
(sq (kr [0] [oD 2 (.box [.str [],.int .i64 0,.int .i64 0,.kb false,.int .i64 0,.imm (.int .u64) []]),
oD 3 (.mov cF)])
(sq (.reg [oC 5 51 [],
oM 4 5])
(sq (sq (kr [0,2,4] [oM 6 0,
oB 7 .lss 6 (cI 0),
oM 8 7,
oF 8 9 (.mov 0),
oF 8 10 (.mov 4),
oF 8 11 (.len 10),
oF 8 12 (.bin .geq 9 11),
oP 13 8 cT 12])
(.cond 13
(sq (kr [2] [oD 14 (.build [.str [],.int .i64 0,.int .i64 0,.kb false,.int .i64 0,.imm (.int .u64) []] []),
oS 6 2 14,
oD 3 (.mov cF)])
.ret)
.skip))
(sq (kr [0,2,4] [oM 15 4,
oM 16 0,
oI 17 6 15 16,
oK 18 6 17,
oS 6 2 18,
oD 3 (.mov cT)])
.ret))))
def gg_:List RD:=[.cell 2 (some 6) true [],.tmp 3 true none]
theorem gp_:zl_ Try.prog Try.f28 gD_ gg_=true:=by kernel_rfl
def wP_:List AV->List Obj->Option (Prop × AV)
 | [.int .i64 n],[]=>some ((True,ofR n))
 | _,_=>none
theorem xN_:zf_ Try.prog 28 (RoF wP_).sum:=by
 refine zo_ Try.func28 gp_ (zc_ (s:=RoF WD_) vD_ (ze_ _)) fun args objs p v e=>?_
 unfold wP_ at e
 split at e
 ·rename_i n
  cases e
  refine ⟨rfl,fun hw ho hp=>?_⟩
  repeat'(intro t ht;first|(cases t<;>first|(cases ht;done)|(try simp only[zh_]at ht))|((first|refine za_ ht ?_|refine ht ?_ ?_|refine ht.1 ?_ ?_|refine ht ?_)<;>clear ht))
  all_goals first
   | trivial
   | ((try simp only [z0_,z1_,zi_] at*);rw [bV_] at*;omega)
   | (refine ⟨?_,rfl⟩
      first
       | (have hn:fIs n=true:=Qj_.2 (by (try simp only [z0_,z1_,zi_] at*);rw [bV_] at*;omega)
          unfold ofR KN_ QD_ Zf_ kG_ z9_ qP_;rw [hn];rfl)
       | (have hn:fIs n=false:=Ya_.2 (by (try simp only [z0_,z1_,zi_] at*);rw [bV_] at*;omega)
          unfold ofR KN_ QD_ Zf_ kG_ z9_ qP_;rw [hn];rfl)
       | (have hn:fIs n=false:=Ya_.2 (by (try simp only [z0_,z1_,zi_] at*);omega)
          unfold ofR KN_ QD_ Zf_ kG_ z9_ qP_;rw [hn];rfl))
 ·cases e
def q2_ (s:Int):List Int->Bool
 | []=>true
 | b :: r=>if b.fdiv (2 ^ (min (8 - (if 8 < s then 8 else s)).toNat 8))=0 then q2_ (s - (if 8 < s then 8 else s)) r else false
def hB_ (n:Int) (v:List Int):Bool:=if (0<=n/\n < 40)/\(v.length:Int)=yN_ n then q2_ (8*yN_ n - W1_.getD n.toNat 0) v else false
def JK_ (v:List Int) (z:Int):Nat->Int->Bool
 | 0,_=>true
 | f+1,i=>if ZW_ .and .u8 ((v.getD (z - 1 - i.tdiv 8).toNat 0).fdiv (2 ^ (min (i.tmod 8).toNat 8))) 1=1 then false else JK_ v z f (i+1)
theorem Gy_ {v:List Int} {z i:Int} {f:Nat} (h:ZW_ .and .u8 ((v.getD (z - 1 - i.tdiv 8).toNat 0).fdiv (2 ^ (min (i.tmod 8).toNat 8))) 1=1):JK_ v z (f+1) i=false:=if_pos h
theorem Gz_ {v:List Int} {z i:Int} {f:Nat} (h:¬ ZW_ .and .u8 ((v.getD (z - 1 - i.tdiv 8).toNat 0).fdiv (2 ^ (min (i.tmod 8).toNat 8))) 1=1):JK_ v z (f+1) i=JK_ v z f (i+1):=if_neg h
theorem bU_:∀ k < 40,1<=Zf_ (k:Nat)/\Zf_ (k:Nat)<=16/\1<=QD_ (k:Nat)/\QD_ (k:Nat)<=8*Zf_ (k:Nat):=by decide
theorem Gv_ {l x:List Int} {i:Nat} (hi:2*i<=l.length) (hj:l.length<=2*i+1) (hx:x.length=l.length) (hk:∀ k,k < l.length->x.getD k 0=if k < i\/l.length<=k+i then l.getD (l.length - 1 - k) 0 else l.getD k 0):x=l.reverse:=by
 apply List.ext_getElem (by simp [hx])
 intro k h1 h2
 have h:=hk k (by omega)
 rw [List.getElem_reverse]
 have e1:x.getD k 0=x[k]:=by rw [List.getD_eq_getElem?_getD,List.getElem?_eq_getElem h1];rfl
 have e2:l.getD (l.length - 1 - k) 0=l[l.length - 1 - k]'(by omega):=by rw [List.getD_eq_getElem?_getD,List.getElem?_eq_getElem (by omega)];rfl
 rw [<- e1,h,<- e2]
 split
 ·rfl
 ·rw [show l.length - 1 - k=k by omega]
theorem Gu_ {l x:List Int} {i:Nat} (hlt:2*i+1 < l.length) (hx:x.length=l.length) (hk:∀ k,k < l.length->x.getD k 0=if k < i\/l.length<=k+i then l.getD (l.length - 1 - k) 0 else l.getD k 0):
 ∀ k,k < l.length->((x.set i (x.getD (l.length - 1 - i) 0)).set (l.length - 1 - i) (x.getD i 0)).getD k 0=if k < i+1\/l.length<=k+(i+1) then l.getD (l.length - 1 - k) 0 else l.getD k 0:=fun k h=>by
 have h1:=hk k h
 have h2:=hk i (by omega)
 have h3:=hk (l.length - 1 - i) (by omega)
 rw [if_neg (by omega)] at h2 h3
 rw [List.getD_eq_getElem?_getD,List.getElem?_set,List.getElem?_set]
 by_cases e1:l.length - 1 - i=k
 ·rw [if_pos e1,if_pos (by simp;omega),if_pos (by omega)]
  simp only [Option.getD_some]
  rw [h2,show l.length - 1 - k=i by omega]
 ·rw [if_neg e1]
  by_cases e2:i=k
  ·rw [if_pos e2,if_pos (by omega),if_pos (by omega)]
   simp only [Option.getD_some]
   rw [h3,e2]
  ·rw [if_neg e2,<- List.getD_eq_getElem?_getD,h1]
   by_cases e3:k < i\/l.length<=k+i
   ·rw [if_pos e3,if_pos (by omega)]
   ·rw [if_neg e3,if_neg (by omega)]
def Kl_:IR:=
(sq (kr [0] [oM 4 0,
oE 5 4,
oB 6 .sub 5 (cI 1),
oD 2 (.mov (cI 0)),
oM 3 6])
(.block 0
(.loop
(sq (sq (kr [0,2,3] [oM 7 2,
oM 8 3,
oB 9 .lss 7 8])
(.cond 9
.skip
(.exit 0)))
(sq (.block 1
(kd [0,2,3] [(oM 14 0,[]),
(oM 15 2,[0]),
(oM 16 0,[0,0]),
(oM 17 3,[0,0,0]),
(oM 18 0,[0,0,0,0]),
(oM 19 3,[0,0,0,0,0]),
(oI 20 1 18 19,[2,0,0,0]),
(oL 21 20,[3,0,0,0]),
(oM 22 0,[0,0,0,0,0,0,0,0]),
(oM 23 2,[0,0,0,0,0,0,0,0,0]),
(oI 24 1 22 23,[2,0,0,0,0,0,0,0]),
(oL 25 24,[3,0,0,0,0,0,0,0]),
(oI 26 1 14 15,[8,0]),
(oS 1 26 21,[9,0]),
(oI 27 1 16 17,[]),
(oS 1 27 25,[])]))
(kr [0,2,3] [oM 10 2,
oB 11 .add 10 (cI 1),
oM 12 3,
oB 13 .sub 12 (cI 1),
oM 2 11,
oM 3 13]))))))
def Kj_:List RD:=[]
theorem Kk_:zl_ Try.prog Try.f45 Kl_ Kj_=true:=by kernel_rfl
def z6_:List AV->List Obj->Option (Prop × AV × List Obj)
 | [.own 0],[.row false (.int .i64) l]=>some (True,.tup [],[.row false (.int .i64) l.reverse])
 | [.nils],[]=>some (True,.tup [],[])
 | _,_=>none
theorem ZZ_:zf_ Try.prog 45 (RwF z6_).sum:=by
 refine kF_ Try.func45 Kk_ (ze_ _) fun args objs p v o e=>?_
 unfold z6_ at e
 split at e
 ·rename_i l
  cases e
  refine ⟨rfl,fun hw ho hp=>?_⟩
  have hl:l.length<=maxLen:=(ho (.row false (.int .i64) l) (by simp)).2
  unfold maxLen at hl
  repeat'(intro t ht;first|(cases t<;>first|(cases ht;done)|(try simp only[zh_]at ht))|((first|refine za_ ht ?_|refine ht ?_ ?_|refine ht.1 ?_ ?_|refine ht ?_)<;>clear ht))
  all_goals first
   | ((try simp only [z0_,z1_,zi_] at*);omega)
   | (intro r h1 h2
      refine h2 ⟨[0,2,3],Nat × Int × List Int,(fun p=>2*p.1<=l.length/\p.2.1=l.length - 1 - p.1/\p.2.2.length=l.length/\∀ k,k < l.length->p.2.2.getD k 0=if k < p.1\/l.length<=k+p.1 then l.getD (l.length - 1 - k) 0 else l.getD k 0),
       fun a=>[.own 0,.int .i64 a.1,.int .i64 a.2.1],fun a=>[.row false (.int .i64) a.2.2],fun a=>l.length - a.1,⟨(0,l.length - 1,l),⟨Nat.zero_le _,by simp,rfl,fun k hk=>by rw [if_neg (by simp;omega)]⟩,rfl,rfl⟩,?_⟩
      clear h1 h2)
  rintro ⟨i,j,x⟩ ⟨hi,hj,hx,hk⟩
  dsimp only at hi hj hx hk
  repeat'(intro t ht;first|(cases t<;>first|(cases ht;done)|(try simp only[zh_]at ht))|((first|refine za_ ht ?_|refine ht ?_ ?_|refine ht.1 ?_ ?_|refine ht ?_)<;>clear ht))
  all_goals first
   | (refine ⟨rfl,?_⟩;(try simp only [z0_,z1_,zi_] at*);rw [Gv_ hi (by omega) hx hk])
   | ((try simp only [z0_,z1_,zi_] at*);omega)
   | ((try simp only [z0_,z1_,zi_] at*);simp only [List.length_set];omega)
   | (have hlt:(i:Int) < j:=by ((try simp only [z0_,z1_,zi_] at*);omega)
      refine ⟨(i+1,j - 1,_),⟨?_,?_,?_,?_⟩,?_,rfl,rfl⟩
      ·dsimp only;omega
      ·dsimp only;omega
      ·simp only [List.length_set];exact hx
      ·have hjn:j.toNat=l.length - 1 - i:=by omega
       have:=Gu_ (by omega) hx hk
       dsimp only
       rw [hjn,Int.toNat_natCast]
       exact this
      ·dsimp only;omega)
 ·cases e
  refine ⟨rfl,fun hw ho hp=>?_⟩
  repeat'(intro t ht;first|(cases t<;>first|(cases ht;done)|(try simp only[zh_]at ht))|((first|refine za_ ht ?_|refine ht ?_ ?_|refine ht.1 ?_ ?_|refine ht ?_)<;>clear ht))
  all_goals first
   | ((try simp only [z0_,z1_,zi_] at*);omega)
   | (intro r h1 h2
      refine h1 ⟨1,?_⟩
      repeat'(intro t ht;first|(cases t<;>first|(cases ht;done)|(try simp only[zh_]at ht))|((first|refine za_ ht ?_|refine ht ?_ ?_|refine ht.1 ?_ ?_|refine ht ?_)<;>clear ht))
      exact ⟨rfl,rfl⟩)
 ·cases e
theorem WW_ {t:Ty} (h:t=t) (x:List t.den):(h ▸ x:List t.den)=x:=rfl
def zC_ (n:Int):List Int:=if 0<=n/\n < 40 then (if (Zi_ n).1=-1 then [] else if (Zi_ (Zi_ n).1).1=-1 then [(Zi_ n).1] else if (Zi_ (Zi_ (Zi_ n).1).1).1=-1 then [(Zi_ (Zi_ n).1).1,(Zi_ n).1] else [(Zi_ (Zi_ (Zi_ n).1).1).1,(Zi_ (Zi_ n).1).1,(Zi_ n).1]) else []
theorem bA_:∀ k < 40,(Zi_ (Zi_ (Zi_ (Zi_ (k:Nat)).1).1).1).1=-1\/(Zi_ (Zi_ (Zi_ (k:Nat)).1).1).1=-1\/(Zi_ (Zi_ (k:Nat)).1).1=-1\/(Zi_ (k:Nat)).1=-1:=by decide
def Xu_:IR:=
(sq (kr [0] [oD 2 (.mov (.c (.nils)))])
(sq (sq (.reg [oM 3 0,
oC 4 40 [3],
oD 5 (.un .not 4)])
(.cond 5
(sq (.reg [oD 2 (.mov (.c (.nils)))])
.ret)
.skip))
(sq (sq (kr [0,2] [oM 7 0,
oC 8 44 [7],
oM 6 8,
oX 9 6 0,
oX 10 6 1,
oM 0 9])
(.block 0
(.loop
(sq (sq (kr [0,2] [oM 11 0,
oB 12 .neq 11 (cI (-1))])
(.cond 12
.skip
(.exit 0)))
(sq (.block 1
(kr [0,2] [oM 18 2,
oM 19 0,
oD 20 (.sliceAll (.int .i64) 1 [(0,1,19)]),
oD 21 (.append (.int .i64) 8 18 20),
oM 2 21]))
(kr [0,2] [oM 14 0,
oC 15 44 [14],
oM 13 15,
oX 16 13 0,
oX 17 13 1,
oM 0 16]))))))
(sq (kr [2] [oM 22 2,
oD 23 (.call true (.f 45) [22])])
(sq (.reg [oM 24 2,
oM 2 24])
.ret)))))
def xZ_:List RD:=[.tmp 2 true (some (.int .i64))]
theorem Xd_:zl_ Try.prog Try.f19 Xu_ xZ_=true:=by kernel_rfl
def KI_:List AV->List Obj->Option (Prop × AV)
 | [.int .i64 n],[]=>some (True,.imm (.int .i64) (zC_ n))
 | _,_=>none
theorem W7_:zf_ Try.prog 19 (RoF KI_).sum:=by
 refine zo_ Try.func19 Xd_ (zc_ (s:=RoF Kf_) K8_ (zc_ (s:=RoF Qq_) k5_ (zc_ (s:=RwF z6_) ZZ_ (ze_ _)))) fun args objs p v e=>?_
 unfold KI_ at e
 split at e
 ·rename_i n
  cases e
  refine ⟨rfl,fun hw _ hp=>?_⟩
  repeat'(intro t ht;first|(cases t<;>first|(cases ht;done)|(try simp only[zh_]at ht))|((first|refine za_ ht ?_|refine ht ?_ ?_|refine ht.1 ?_ ?_|refine ht ?_)<;>clear ht))
  all_goals first
   | trivial
   | (intro r h1 h2
      refine h1 ⟨4,?_⟩
      clear h1 h2)
   | (refine ⟨?_,rfl⟩;(try simp only [z0_,z1_,zi_] at*);unfold zC_;rw [if_neg (Ya_.1 (by assumption))])
  repeat'(intro t ht;first|(cases t<;>first|(cases ht;done)|(try simp only[zh_]at ht))|((first|refine za_ ht ?_|refine ht ?_ ?_|refine ht.1 ?_ ?_|refine ht ?_)<;>clear ht))
  all_goals first
   | trivial
   | (simp only [WW_,List.length_append,List.length_cons,List.length_nil];omega)
   | (have hc:0<=n/\n < 40:=Qj_.1 (by assumption)
      refine ⟨?_,rfl⟩
      unfold zC_
      rw [if_pos hc]
      (try simp only [z0_,z1_,zi_] at*)
      simp only [*,if_true,if_false,WW_]
      done)
   | (have hc:0<=n/\n < 40:=Qj_.1 (by assumption)
      refine ⟨?_,rfl⟩
      unfold zC_
      rw [if_pos hc]
      (try simp only [z0_,z1_,zi_] at*)
      simp only [*,if_true,if_false,WW_]
      rfl)
   | (exfalso;(try simp only [z0_,z1_,zi_] at*)
      have hc:0<=n/\n < 40:=Qj_.1 (by assumption)
      have h4:=bA_ n.toNat (by omega)
      rw [Int.toNat_of_nonneg (by omega)] at h4
      omega)
 ·cases e
theorem c1:zC_ 31=[5,10,29]:=by decide
theorem c2:bG_ [105,112,118,54,95,110,100,95,116,108,108]=33/\bH_ [105,112,118,54,95,110,100,95,116,108,108]=true:=by
 have h:hr_ Xg_ [105,112,118,54,95,110,100,95,116,108,108] 0=33:=by decide+kernel
 unfold bG_ bH_;rw [h];exact ⟨rfl,rfl⟩
theorem c3:fIs 33=true/\zz_ 33=29/\zY_ 33=[136]:=by decide
theorem c4:hB_ 7 [8]=false:=by decide
theorem Gg_:∀ v:List Int,(∀ b ∈ v,0<=b/\b<=255)->q2_ 0 v=true
 | [],_=>rfl
 | b :: r,h=>by
   unfold q2_
   have hb:=h b (by simp)
   rw [if_pos (by show b.fdiv (2 ^ 8)=0;rw [Int.fdiv_eq_ediv_of_nonneg _ (by decide)];omega)]
   exact Gg_ r fun x hx=>h x (by simp [hx])
theorem vH_ (v:List Int) (z:Int):∀ (f g:Nat) (i:Int),JK_ v z (f+g) i=(JK_ v z f i && JK_ v z g (i+f))
 | 0,g,i=>by simp [JK_]
 | f+1,g,i=>by
   rw [show f+1+g=(f+g)+1 by omega]
   by_cases h:ZW_ .and .u8 ((v.getD (z - 1 - i.tdiv 8).toNat 0).fdiv (2 ^ (min (i.tmod 8).toNat 8))) 1=1
   ·rw [Gy_ h,Gy_ h];rfl
   ·rw [Gz_ h,Gz_ h,vH_ v z f g (i+1),show i+1+(f:Int)=i+((f+1:Nat):Int) by omega]
theorem Hp_:∀ s ≤ 8,∀ b < 256,q2_ (s:Nat) [((b:Nat):Int)]=JK_ [((b:Nat):Int)] 1 s ((8:Int) - (s:Nat)):=by decide+kernel
theorem Ue_ {s:Nat} {b:Int} (hs:s<=8) (h:0<=b/\b<=255):q2_ s [b]=JK_ [b] 1 s (8 - s):=by
 have:=Hp_ s hs b.toNat (by omega)
 rw [Int.toNat_of_nonneg h.1] at this;exact this
theorem U9_ {s:Int} {b:Int} {r:List Int} (h:s<=8) (hr:∀ x ∈ r,0<=x/\x<=255):q2_ s (b :: r)=q2_ s [b]:=by
 unfold q2_
 rw [if_neg (by omega:¬ 8 < s),Int.sub_self,Gg_ r hr]
 rfl
theorem two {b0 b1 b2 b3:Int} {v:List Int} (e:v=[b0,b1,b2,b3]) (hv:∀ b ∈ v,0<=b/\b<=255):q2_ 12 v=JK_ v 4 12 20:=by
 subst e
 have h0:=Ue_ (s:=8) (Nat.le_refl _) (hv b0 (by simp))
 have h1:=Ue_ (s:=4) (by omega) (hv b1 (by simp))
 have hr:=vH_ [b0,b1,b2,b3] 4 4 8 20
 have e1:JK_ [b0,b1,b2,b3] 4 4 20=JK_ [b1] 1 4 (8 - (4:Nat)):=rfl
 have e2:JK_ [b0,b1,b2,b3] 4 8 (20+(4:Nat))=JK_ [b0] 1 8 (8 - (8:Nat)):=rfl
 have hc:q2_ 4 (b1 :: [b2,b3])=q2_ 4 [b1]:=U9_ (by omega) fun x hx=>hv x (by simp at hx ⊢;omega)
 rw [show (12:Nat)=4+8 from rfl,hr,e1,e2,<- h0,<- h1]
 show (if b0.fdiv (2 ^ (min (8 - (8:Int)).toNat 8))=0 then q2_ 4 [b1,b2,b3] else false)=(q2_ 4 [b1] && (if b0.fdiv (2 ^ (min (8 - (8:Int)).toNat 8))=0 then true else false))
 rw [hc]
 split<;>simp
structure Ox where
 c:Int
 f:Int
 has:Bool
 x:Int
 v:List Int
 m:List Int
def B4_ (s:Int):Int:=if 0 < s then (255:Int).fdiv (2 ^ (min (if 8 < s then 8 else s).toNat 8)) else 255
def bw_:List Int->Int->Bool
 | [],_=>true
 | x :: r,s=>if x=B4_ s then bw_ r (s - 8) else false
def BA_ (b:List Int) (bits:Int):Bool:=bw_ b (b.length*8 - bits)
def Bz_:List Int->List Int->Bool
 | x :: r,y :: l=>if ZW_ .andNot .u8 x y=0 then Bz_ r l else true
 | _,_=>false
def BE_ (c f:Int):Bool:=if c=65535 then decide (0<=f) && decide (f<=127) else fIs f && decide (c=32768)
def ur_ (c f:Int):Int:=if c=65535 then 100 else ZV_ f
def GL_ (c f:Int):Int:=if c=65535 then 0 else JB_ f
def GK_ (c f:Int):Bool:=if c=65535 then true else JA_ f
def wq_ (c:Int):Bool:=decide (c=65535)
def g1_ (f:Int) (h:Bool) (v m:List Int) (bits:Int) (ex:Bool):Int:=
 if ex=false/\hB_ f v=false then 1032 else if h=true/\ex=false/\hB_ f m=false then 1033
 else if h=true/\(Bs_ m=true\/BA_ m (if ex=true then m.length*8 else bits)=true) then 1033 else if h=true/\Bz_ v m=true then 1030 else 0
def Bx_ (c:Int) (v m:List Int):Int:=if c=65535 then (v.length:Int)+m.length+4 else (v.length:Int)+m.length
def b3_ (c f:Int) (h:Bool) (x:Int) (v m:List Int):Bool:=
 BE_ c f && (!h || GK_ c f) && (wq_ c || decide (x=0)) && decide (x.fdiv (2 ^ (min (Int.toNat 32) IntKind.u64.bits))=0) &&
  (match h with | true=>decide ((m.length:Int)=v.length) | false=>decide (m.length=0)) && decide ((v.length:Int)<=ur_ c f) && decide (g1_ f h v m (GL_ c f) (wq_ c)=0)
def BQ_ (c f:Int) (h:Bool) (v m:List Int):List Int:=zr_ c 2++zr_ (2*f+if h=true then 1 else 0) 1++zr_ (Bx_ c v m) 1
def encO (c f:Int) (h:Bool) (x:Int) (v m:List Int):List Int:=BQ_ c f h v m++(if c=65535 then zr_ x 4 else [])++v++m
def BJ_ (h ex:Bool) (sz n:Int):Int:=if ex=true then (n - 4).tdiv (if h=true then 2 else 1) else sz
def BK_ (h ex:Bool) (sz n:Int):Bool:=if ex=true then decide (0<=n - 4) && decide ((n - 4).tmod (if h=true then 2 else 1)=0) && decide ((n - 4).tdiv (if h=true then 2 else 1)<=sz) else decide (n=(if h=true then 2 else 1)*sz)
def XJ_ (b:List Int):Int:=Ju_ (b.take 2)
def uN_ (b:List Int):Int:=(b.getD 2 0).tdiv 2
def uM_ (b:List Int):Bool:=decide ((b.getD 2 0).tmod 2=1)
def decX (b:List Int):Int:=if XJ_ b=65535 then Ju_ ((b.drop 4).take 4) else 0
def hI_ (b:List Int):Int:=if XJ_ b=65535 then 8 else 4
def gK_ (b:List Int):Int:=BJ_ (uM_ b) (wq_ (XJ_ b)) (ur_ (XJ_ b) (uN_ b)) (b.getD 3 0)
def decK (b:List Int):Bool:=BK_ (uM_ b) (wq_ (XJ_ b)) (ur_ (XJ_ b) (uN_ b)) (b.getD 3 0)
def BT_ (b:List Int):List Int:=(b.take (hI_ b+gK_ b).toNat).drop (hI_ b).toNat
def BV_ (b:List Int):List Int:=if uM_ b=true then (b.take (hI_ b+gK_ b+gK_ b).toNat).drop (hI_ b+gK_ b).toNat else []
def decN (b:List Int):Int:=hI_ b+gK_ b+if uM_ b=true then gK_ b else 0
def ba_ (b:List Int):Int:=if b.length < 4 then 1026 else if BE_ (XJ_ b) (uN_ b)=false then 1031 else if uM_ b=true/\GK_ (XJ_ b) (uN_ b)=false then 1033 else if decK b=false\/(b.length:Int) - 4 < b.getD 3 0 then 1026 else g1_ (uN_ b) (uM_ b) (BT_ b) (BV_ b) (GL_ (XJ_ b) (uN_ b)) (wq_ (XJ_ b))
def H9_ (b:List Int) (x:Int):Int:=if ba_ b=0 then x else 0
def BU_ (b:List Int) (l:List Int):List Int:=if ba_ b=0 then l else []
def vb_:IR:=
(sq (kr [0,1] [oD 2 (.boxv 0),
oD 3 (.boxv 1),
oD 4 (.mov cF)])
(sq (kr [2,3] [oA 5 0 2,
oL 6 5,
oA 7 0 3,
oL 8 7,
oB 9 .eql 6 8,
oM 10 9,
oT 10 11 (.fieldAddr 1 2),
oT 10 12 (.load none 11),
oT 10 13 (.fieldAddr 1 3),
oT 10 14 (.load none 13),
oT 10 15 (.bin .eql 12 14),
oP 16 10 15 cF,
oM 17 16,
oT 17 18 (.fieldAddr 3 2),
oT 17 19 (.load none 18),
oT 17 20 (.fieldAddr 3 3),
oT 17 21 (.load none 20),
oT 17 22 (.bin .eql 19 21),
oP 23 17 22 cF,
oM 4 23])
.ret))
def YK_:List RD:=[.tmp 4 true none]
theorem YV_:zl_ Try.prog Try.f25 vb_ YK_=true:=by kernel_rfl
def Kw_:List AV->List Obj->Option (Prop × AV)
 | [.agg [.int .i64 c,.int .i64 f,.bool h,.int .u64 x,.imm (.int .u8) v,.imm (.int .u8) m],.agg [.int .i64 c',.int .i64 f',.bool h',.int .u64 x',.imm (.int .u8) v',.imm (.int .u8) m']],[]=>some ((True,.bool (decide (c=c') && decide (f=f') && decide (x=x'))))
 | _,_=>none
theorem Jy_:zf_ Try.prog 25 (RoF Kw_).sum:=by
 refine zo_ Try.func25 YV_ (ze_ _) fun args objs p v e=>?_
 unfold Kw_ at e
 split at e
 ·rename_i c f h x v m c' f' h' x' v' m'
  cases e
  refine ⟨rfl,fun hw ho hp=>?_⟩
  change List Int at v
  change List Int at m
  change List Int at v'
  change List Int at m'
  repeat'(intro t ht;first|(cases t<;>first|(cases ht;done)|(try simp only[zh_]at ht))|((first|refine za_ ht ?_|refine ht ?_ ?_|refine ht.1 ?_ ?_|refine ht ?_)<;>clear ht))
  all_goals first
   | exact True.intro
   | (simp_all;done)
 ·cases e
def WM_ (c f:Int) (h:Bool) (x:Int) (v m:List Int) (c' f':Int) (h':Bool) (x':Int) (v' m':List Int):Bool:=decide (c=c') && decide (f=f') && decide (x=x') && (h == h') && decide (v=v') && decide (m=m')
theorem gc_ (c f:Int) (h:Bool) (x:Int) (v m:List Int):WM_ c f h x v m c f h x v m=true:=by unfold WM_;simp
def Vm_:IR:=
(sq (kr [0,1] [oD 2 (.boxv 0),
oD 3 (.boxv 1),
oD 4 (.mov cF)])
(sq (kr [2,3] [oK 5 6 2,
oK 6 6 3,
oC 7 25 [5,6],
oM 8 7,
oT 8 9 (.fieldAddr 2 2),
oT 8 10 (.load none 9),
oT 8 11 (.fieldAddr 2 3),
oT 8 12 (.load none 11),
oT 8 13 (.eqb false 10 12),
oP 14 8 13 cF,
oM 15 14,
oT 15 16 (.fieldAddr 4 2),
oT 15 17 (.load none 16),
oT 15 18 (.fieldAddr 4 3),
oT 15 19 (.load none 18),
oT 15 20 (.call false (.f 29) [17,19]),
oP 21 15 20 cF,
oM 22 21,
oT 22 23 (.fieldAddr 5 2),
oT 22 24 (.load none 23),
oT 22 25 (.fieldAddr 5 3),
oT 22 26 (.load none 25),
oT 22 27 (.call false (.f 29) [24,26]),
oP 28 22 27 cF,
oM 4 28])
.ret))
def vL_:List RD:=[.tmp 4 true none]
theorem vY_:zl_ Try.prog Try.f32 Vm_ vL_=true:=by kernel_rfl
def J0_:List AV->List Obj->Option (Prop × AV)
 | [.agg [.int .i64 c,.int .i64 f,.bool h,.int .u64 x,.imm (.int .u8) v,.imm (.int .u8) m],.agg [.int .i64 c',.int .i64 f',.bool h',.int .u64 x',.imm (.int .u8) v',.imm (.int .u8) m']],[]=>some ((True,.bool (WM_ c f h x v m c' f' h' x' v' m')))
 | _,_=>none
theorem YD_:zf_ Try.prog 32 (RoF J0_).sum:=by
 refine zo_ Try.func32 vY_ (zc_ (s:=RoF Kw_) Jy_ (zc_ (s:=RoF Kx_) Jz_ (ze_ _))) fun args objs p v e=>?_
 unfold J0_ at e
 split at e
 ·rename_i c f h x v m c' f' h' x' v' m'
  cases e
  refine ⟨rfl,fun hw ho hp=>?_⟩
  change List Int at v
  change List Int at m
  change List Int at v'
  change List Int at m'
  repeat'(intro t ht;first|(cases t<;>first|(cases ht;done)|(try simp only[zh_]at ht))|((first|refine za_ ht ?_|refine ht ?_ ?_|refine ht.1 ?_ ?_|refine ht ?_)<;>clear ht))
  all_goals first
   | exact True.intro
   | (refine ⟨?_,rfl⟩;unfold WM_;simp_all;done)
   | (refine ⟨?_,rfl⟩;unfold WM_;cases h<;>cases h'<;>simp_all;done)
   | (refine ⟨?_,rfl⟩;unfold WM_;rcases ‹(¬c=c'\/¬f=f')\/¬x=x'› with (h1 | h1) | h1<;>rw [decide_eq_false h1]<;>simp)
 ·cases e
def uE_:IR:=
(sq (kr [0] [oD 1 (.boxv 0),
oD 2 (.mov cF)])
(sq (kr [1] [oA 3 4 1,
oL 4 3,
oE 5 4,
oB 6 .leq 5 (cI 300),
oM 7 6,
oT 7 8 (.fieldAddr 5 1),
oT 7 9 (.load none 8),
oT 7 10 (.len 9),
oT 7 11 (.bin .leq 10 (cI 300)),
oP 12 7 11 cF,
oM 2 12])
.ret))
def ug_:List RD:=[.tmp 2 true none]
theorem uo_:zl_ Try.prog Try.f21 uE_ ug_=true:=by kernel_rfl
def WC_:List AV->List Obj->Option (Prop × AV)
 | [.agg [.int .i64 c,.int .i64 f,.bool h,.int .u64 x,.imm (.int .u8) v,.imm (.int .u8) m]],[]=>some ((True,.bool (decide (v.length<=300) && decide (m.length<=300))))
 | _,_=>none
theorem vC_:zf_ Try.prog 21 (RoF WC_).sum:=by
 refine zo_ Try.func21 uo_ (ze_ _) fun args objs p v e=>?_
 unfold WC_ at e
 split at e
 ·rename_i c f h x v m
  cases e
  refine ⟨rfl,fun hw ho hp=>?_⟩
  change List Int at v
  change List Int at m
  repeat'(intro t ht;first|(cases t<;>first|(cases ht;done)|(try simp only[zh_]at ht))|((first|refine za_ ht ?_|refine ht ?_ ?_|refine ht.1 ?_ ?_|refine ht ?_)<;>clear ht))
  all_goals first
   | exact True.intro
   | (simp_all;done)
   | (have e:decide (v.length<=300)=false:=decide_eq_false (by omega)
      rw [e];exact ⟨rfl,rfl⟩)
   | (have e:decide (v.length<=300)=true:=decide_eq_true (by omega)
      rw [e];refine ⟨?_,rfl⟩;rw [Bool.true_and];congr 1;rw [Bool.eq_iff_iff];simp only [decide_eq_true_eq];omega)
 ·cases e
theorem Gh_ (f:Int):0<=Zf_ f/\Zf_ f<=16:=by
 cases h:fIs f with
 | true=>
   have hn:=Qj_.1 h
   have:=bU_ f.toNat (by omega)
   rw [Int.toNat_of_nonneg hn.1] at this
   omega
 | false=>unfold Zf_;rw [h];exact ⟨Int.le_refl _,show (0:Int)<=16 by decide⟩
theorem BM_:∀ k < 40,JB_ (k:Nat)=QD_ (k:Nat)/\ZV_ (k:Nat)=Zf_ (k:Nat)/\JA_ (k:Nat)=kG_ (k:Nat):=by decide+kernel
theorem law8 (f:Int):JB_ f=QD_ f/\ZV_ f=Zf_ f/\JA_ f=kG_ f:=by
 cases h:fIs f with
 | true=>
   have hn:=Qj_.1 h
   have:=BM_ f.toNat (by omega)
   rwa [Int.toNat_of_nonneg hn.1] at this
 | false=>
   unfold JB_ QD_ ZV_ Zf_ JA_ kG_;rw [h];exact ⟨rfl,rfl,rfl⟩
theorem BX_ {n:Int} (h:0<=n/\n<=255):zr_ n 1=[n]:=by
 show [(n.fdiv (2 ^ (min (8*((1:Int) - 1 - ((0:Nat):Int))).toNat 64))) % 256]=[n]
 rw [show (min (8*((1:Int) - 1 - ((0:Nat):Int))).toNat 64)=0 from by decide,Int.pow_zero,Int.fdiv_one]
 congr 1;omega
def L1:List Int:=[128,0,10,2,8,0,7]
def L2:List Int:=[128,0,11,4,8,0,8,0]
theorem s1:ba_ L1=0/\H9_ L1 (XJ_ L1)=32768/\H9_ L1 (uN_ L1)=5/\uM_ L1=false/\H9_ L1 (decX L1)=0/\BU_ L1 (BT_ L1)=[8,0]/\BU_ L1 (BV_ L1)=[]/\H9_ L1 (decN L1)=6/\ba_ L2=1033:=by decide+kernel
theorem s2:b3_ 32768 5 false 0 [8,0] []=true/\encO 32768 5 false 0 [8,0] []=[128,0,10,2,8,0]:=by decide+kernel
def ve_:IR:=
(sq (kr [0,1] [oD 2 (.boxv 0),
oD 3 (.boxv 1),
oD 4 (.mov cF)])
(sq (kr [2,3] [oA 5 0 2,
oL 6 5,
oA 7 0 3,
oL 8 7,
oB 9 .eql 6 8,
oM 10 9,
oT 10 11 (.fieldAddr 1 2),
oT 10 12 (.load none 11),
oT 10 13 (.fieldAddr 1 3),
oT 10 14 (.load none 13),
oT 10 15 (.bin .eql 12 14),
oP 16 10 15 cF,
oM 17 16,
oT 17 18 (.fieldAddr 3 2),
oT 17 19 (.load none 18),
oT 17 20 (.fieldAddr 3 3),
oT 17 21 (.load none 20),
oT 17 22 (.bin .eql 19 21),
oP 23 17 22 cF,
oM 4 23])
.ret))
def YN_:List RD:=[.tmp 4 true none]
theorem YY_:zl_ Try.prog Try.f24 ve_ YN_=true:=by kernel_rfl
def j5_:List AV->List Obj->Option (Prop × AV)
 | [.agg [.int .i64 c,.int .i64 f,.bool h,.int .u64 x,.imm (.int .u8) v,.imm (.int .u8) m],.agg [.int .i64 c',.int .i64 f',.bool h',.int .u64 x',.imm (.int .u8) v',.imm (.int .u8) m']],[]=>some ((True,.bool (decide (c=c') && decide (f=f') && decide (x=x'))))
 | _,_=>none
theorem X9_:zf_ Try.prog 24 (RoF j5_).sum:=by
 refine zo_ Try.func24 YY_ (ze_ _) fun args objs p v e=>?_
 unfold j5_ at e
 split at e
 ·rename_i c f h x v m c' f' h' x' v' m'
  cases e
  refine ⟨rfl,fun hw ho hp=>?_⟩
  change List Int at v
  change List Int at m
  change List Int at v'
  change List Int at m'
  repeat'(intro t ht;first|(cases t<;>first|(cases ht;done)|(try simp only[zh_]at ht))|((first|refine za_ ht ?_|refine ht ?_ ?_|refine ht.1 ?_ ?_|refine ht ?_)<;>clear ht))
  all_goals first
   | exact True.intro
   | (simp_all;done)
 ·cases e
def Vn_:IR:=
(sq (kr [0] [oD 1 (.boxv 0),
oD 2 (.box [.int .i64 0,.int .i64 0,.kb false,.int .u64 0,.imm (.int .u8) [],.imm (.int .u8) []])])
(sq (kr [1,2] [oA 5 4 1,
oL 6 5,
oE 7 6,
oA 8 5 1,
oL 9 8,
oE 10 9,
oB 11 .add 7 10,
oD 12 (.mkrow (.int .u8) 1 (0:Int) 11 11),
oM 3 12])
(sq (kr [1,2,3] [oM 13 3,
oA 14 4 1,
oL 15 14,
oD 16 (.copy (.int .u8) 13 15),
oM 4 16])
(sq (kd [1,2,3,4] [(oM 17 3,[]),
(oM 18 4,[0]),
(oD 19 (.slice 1 17 (some 18) none none),[]),
(oA 20 5 1,[0,0,0]),
(oL 21 20,[1,0,0]),
(oD 22 (.copy (.int .u8) 19 21),[])])
(sq (kd [1,2,3,4] [(oM 23 3,[]),
(oM 24 4,[0]),
(oM 25 4,[0,0]),
(oD 26 (.slice 1 23 none (some 24) (some 25)),[]),
(oM 27 3,[0,0,0,0]),
(oM 28 4,[0,0,0,0,0]),
(oD 29 (.slice 1 27 (some 28) none none),[2,0,0,0]),
(oA 30 4 1,[0,0,0]),
(oS 1 30 26,[1,0,0]),
(oA 31 5 1,[]),
(oS 1 31 29,[])])
(sq (kr [1,2] [oK 32 6 1,
oS 6 2 32])
.ret))))))
def vM_:List RD:=[.cell 2 (some 6) false []]
theorem vZ_:zl_ Try.prog Try.f33 Vn_ vM_=true:=by kernel_rfl
def J1_:List AV->List Obj->Option (Prop × AV × List Obj)
 | [.agg [.int .i64 c,.int .i64 f,.bool h,.int .u64 x,.imm (.int .u8) v,.imm (.int .u8) m]],[]=>some ((v.length<=100000/\m.length<=100000,.agg [.int .i64 c,.int .i64 f,.bool h,.int .u64 x,.view 0 0 v.length,.view 0 v.length m.length],[.row false (.int .u8) (v++m)]))
 | _,_=>none
theorem YE_:zf_ Try.prog 33 (RwF J1_).sum:=by
 refine kF_ Try.func33 vZ_ (ze_ _) fun args objs p v o e=>?_
 unfold J1_ at e
 split at e
 ·rename_i c f h x v m
  cases e
  refine ⟨rfl,fun hw ho hp=>?_⟩
  change List Int at v
  change List Int at m
  have k1:((v.length:Int)+m.length).toNat=v.length+m.length:=by omega
  have k2:(List.replicate (v.length+m.length) (0:Int)).length=v.length+m.length:=List.length_replicate
  have k3:v.take (v.length+m.length)=v:=List.take_of_length_le (by omega)
  have k4:(List.replicate (v.length+m.length) (0:Int)).drop v.length=List.replicate m.length 0:=by rw [List.drop_replicate];congr 1;omega
  have k5:min v.length (v.length+m.length)=v.length:=Nat.min_eq_left (by omega)
  have k6:(v++List.replicate m.length (0:Int)).length=v.length+m.length:=by simp
  have k7:(((v.length+m.length:Nat):Int) - (v.length:Int)).toNat=m.length:=by omega
  have k8:(v++List.replicate m.length (0:Int)).take v.length=v:=List.take_left
  have k9:m.take m.length=m:=List.take_length
  have k10:min m.length m.length=m.length:=Nat.min_self _
  have k11:(v++List.replicate m.length (0:Int)).drop (v.length+m.length)=[]:=List.drop_of_length_le (by simp)
  have k12:(v++m).length=v.length+m.length:=List.length_append
  have k13:((v.length:Int) - 0).toNat=v.length:=by omega
  repeat'(intro t ht;first|(cases t<;>first|(cases ht;done)|(try simp only[zh_]at ht))|((first|refine za_ ht ?_|refine ht ?_ ?_|refine ht.1 ?_ ?_|refine ht ?_)<;>clear ht))
  all_goals first
   | exact True.intro
   | (simp only [hT_,k1,k2,k3,k4,k5,k6,k7,k8,k9,k10,k11,k12,k13,List.append_nil,Int.toNat_natCast];first | omega | exact ⟨rfl,by first | rfl | exact True.intro⟩ | (refine ⟨?_,?_,?_,?_⟩<;>first | exact True.intro | omega))
   | omega
   | ((try simp only [z0_,z1_,zi_] at*);omega)
   | exact ⟨rfl,by first | rfl | exact True.intro⟩
 ·cases e
end Go.Eng
