/- Parts of the proof: W0, WA, WB, WC, WD. No condition. -/
import Derived.Test.YtimkdohmkfjfaaaGreatDoorProg
import Derived.Test.YtimkdohmkfjfaaaGreatDoorXK11
import Derived.KernelRfl
import Derived.Test.YtimkdohmkfjfaaaGreatDoorXK19
namespace Go.Eng
open Go.Proofs
set_option linter.unusedVariables false
set_option linter.unusedSimpArgs false
set_option maxRecDepth 100000
set_option maxHeartbeats 1000000
def vY_:IR:=
(sq (kr [0,1] [oD 4 (.mov cF)])
(sq (kr [0,1] [oM 5 0,
oD 6 (.b2s 5),
oM 7 1,
oD 8 (.b2s 7),
oB 9 .eql 6 8,
oM 4 9])
.ret))
def vx_:List RD:=[.tmp 4 true none]
theorem vK_:zo_ Tryz.prog Tryz.f71 vY_ vx_=true:=by kernel_rfl
def jQ_:List AV->List Obj->Option (Prop × AV)
 | [.imm (.int .u8) a,.imm (.int .u8) b],[]=>some ((True,.bool (decide (a=b))))
 | _,_=>none
theorem Yt_:ze_ Tryz.prog 71 (RoF jQ_).sum:=by
 refine zz_ Tryz.func71 vK_ (zf_ _) fun args objs p v e=>?_
 unfold jQ_ at e
 split at e
 ·rename_i a b
  cases e
  refine ⟨rfl,fun hw ho hp=>?_⟩
  change List Int at a
  change List Int at b
  repeat'(intro t ht;first|(cases t<;>first|(cases ht;done)|(try simp only[zh_]at ht))|((first|refine za_ ht ?_|refine ht ?_ ?_|refine ht.1 ?_ ?_|refine ht ?_)<;>clear ht))
  all_goals first
   | exact True.intro
   | exact ⟨rfl,rfl⟩
 ·cases e
def Kc_:IR:=
(sq (kr [0,1] [oD 4 (.mov cF)])
(sq (sq (kr [0,1] [oM 6 0,
oE 7 6,
oM 8 1,
oE 9 8,
oB 10 .neq 7 9])
(.cond 10
(sq (.reg [oD 4 (.mov cF)])
.ret)
.skip))
(sq (sq (kr [0,1] [oM 11 0,
oE 12 11,
oD 13 (.mov (cI 0))])
(.block 0
(.loop
(sq (kr [0,1,12,13] [oB 14 .lss 13 12])
(sq (.cond 14
.skip
(.exit 0))
(sq (.block 1
(sq (.reg [oM 15 13,
oM 5 15])
(sq (kd [0,1,5,12,13] [(oM 16 0,[]),
(oM 17 5,[0]),
(oI 18 1 16 17,[]),
(oL 19 18,[]),
(oM 20 1,[0,0,0,0]),
(oM 21 5,[0,0,0,0,0]),
(oI 22 1 20 21,[2,0,0,0]),
(oL 23 22,[3,0,0,0]),
(oB 24 .neq 19 23,[])])
(.cond 24
(sq (kr [] [oD 4 (.mov cF)])
.ret)
.skip))))
(kr [0,1,12,13] [oB 25 .add 13 (cI 1),
oM 13 25])))))))
(sq (kr [] [oD 4 (.mov cT)])
.ret))))
def k4_:List RD:=[.tmp 4 true none]
theorem k7_:zo_ Tryz.prog Tryz.f136 Kc_ k4_=true:=by kernel_rfl
def ZK_:List AV->List Obj->Option (Prop × AV)
 | [.imm (.int .u64) a,.imm (.int .u64) b],[]=>some ((True,.bool (decide ((a:List Int)=b))))
 | _,_=>none
theorem kD_:ze_ Tryz.prog 136 (RoF ZK_).sum:=by
 refine zz_ Tryz.func136 k7_ (zf_ _) fun args objs p v e=>?_
 unfold ZK_ at e
 split at e
 ·rename_i a b
  cases e
  refine ⟨rfl,fun hw ho hp=>?_⟩
  change List Int at a
  change List Int at b
  change List Int at a
  change List Int at b
  have hl:a.length<=maxLen:=(hw (.imm (.int .u64) a) (by simp)).2
  unfold maxLen at hl
  clear hw ho
  repeat'(intro t ht;first|(cases t<;>first|(cases ht;done)|(try simp only[zh_]at ht))|((first|refine za_ ht ?_|refine ht ?_ ?_|refine ht.1 ?_ ?_|refine ht ?_)<;>clear ht))
  all_goals first
   | (have hne:a ≠ b:=fun h=>(by assumption:¬ (a.length:Int)=b.length) (by rw [h])
      refine ⟨?_,rfl⟩;rw [decide_eq_false hne];done)
   | (intro r h1 h2;clear h1;refine h2 ⟨[],[0,1,12,13],Nat,(fun i=>i<=a.length/\a.take i=b.take i),fun i=>[.imm (.int .u64) a,.imm (.int .u64) b,.int .i64 a.length,.int .i64 i],fun _=>[],fun i=>a.length - i,⟨0,⟨Nat.zero_le _,rfl⟩,rfl,rfl⟩,?_⟩;clear h2)
  rintro i ⟨hi,he⟩
  have hl2:a.length=b.length:=by omega
  repeat'(intro t ht;first|(cases t<;>first|(cases ht;done)|(try simp only[zh_]at ht;try(exfalso;first|contradiction|omega)))|((first|refine za_ ht ?_|refine ht ?_ ?_|refine ht.1 ?_ ?_|refine ht ?_)<;>clear ht))
  all_goals first
   | exact True.intro
   | ((try simp only [zI_,zK_,zn_] at*);omega)
   | (have e:=y4_ he (by omega) hl2
      refine ⟨?_,rfl⟩;rw [decide_eq_true e];done)
   | (have hne:a ≠ b:=gj_ (d:=0) (i:=i) (by assumption)
      refine ⟨?_,rfl⟩;rw [decide_eq_false hne];done)
   | exact ⟨i+1,⟨by omega,wN_ he (by omega) hl2 (d:=0) (by assumption)⟩,by (try simp only [zI_,zK_,zn_] at*);omega,rfl,rfl⟩
   | skip
 ·cases e
def JP_:IR:=
(sq (kr [0,1] [oD 2 (.boxv 0),
oD 3 (.boxv 1),
oD 4 (.mov cF)])
(sq (kr [2,3] [oA 5 0 2,
oL 6 5,
oA 7 0 3,
oL 8 7,
oB 9 .eql 6 8,
oM 10 9,
oT 10 11 (.fieldAddr 1 2),
oT 10 12 (.load none 11),
oT 10 13 (.fieldAddr 1 3),
oT 10 14 (.load none 13),
oT 10 15 (.call false (.f 136) [12,14]),
oP 16 10 15 cF,
oM 17 16,
oT 17 18 (.fieldAddr 2 2),
oT 17 19 (.load none 18),
oT 17 20 (.fieldAddr 2 3),
oT 17 21 (.load none 20),
oT 17 22 (.call false (.f 71) [19,21]),
oP 23 17 22 cF,
oM 4 23])
.ret))
def Jy_:List RD:=[.tmp 4 true none]
theorem JF_:zo_ Tryz.prog Tryz.f135 JP_ Jy_=true:=by kernel_rfl
def Z2_:List AV->List Obj->Option (Prop × AV)
 | [.agg [.int .i64 a0,.imm (.int .u64) a1,.imm (.int .u8) a2],.agg [.int .i64 b0,.imm (.int .u64) b1,.imm (.int .u8) b2]],[]=>some ((True,.bool (decide (((a0,a1,a2,()):FV)=(b0,b1,b2,())))))
 | _,_=>none
theorem QS_:ze_ Tryz.prog 135 (RoF Z2_).sum:=by
 refine zz_ Tryz.func135 JF_ (zb_ (s:=RoF ZK_) kD_ (zb_ (s:=RoF jQ_) Yt_ (zf_ _))) fun args objs p v e=>?_
 unfold Z2_ at e
 split at e
 ·rename_i a0 a1 a2 b0 b1 b2
  cases e
  refine ⟨rfl,fun hw ho hp=>?_⟩
  change List Int at a1
  change List Int at a2
  change List Int at b1
  change List Int at b2
  clear hw ho
  repeat'(intro t ht;first|(cases t<;>first|(cases ht;done)|(try simp only[zh_]at ht;try(exfalso;first|contradiction|omega)))|((first|refine za_ ht ?_|refine ht ?_ ?_|refine ht.1 ?_ ?_|refine ht ?_)<;>clear ht))
  all_goals first
   | exact True.intro
   | (refine ⟨congrArg AV.bool ?_,rfl⟩;rw [Bool.eq_iff_iff];simp only [Bool.and_eq_true,decide_eq_true_eq,beq_iff_eq,Prod.mk.injEq,and_true,and_assoc];done)
   | (refine ⟨congrArg AV.bool ?_,rfl⟩;simp_all [Bool.and_assoc];done)
   | (refine ⟨congrArg AV.bool ?_,rfl⟩;rw [Bool.eq_iff_iff];simp_all [and_assoc];done)
   | skip
 ·cases e
def ZC_:IR:=
(sq (kr [0,1,2] [oD 6 (.mov cF)])
(sq (sq (kr [0,1,2] [oM 10 0,
oE 11 10,
oM 12 1,
oE 13 12,
oB 14 .neq 11 13])
(.cond 14
(sq (.reg [oD 6 (.mov cF)])
.ret)
.skip))
(sq (sq (kr [0,1,2] [oM 15 0,
oE 16 15,
oD 17 (.mov (cI 0))])
(.block 0
(.loop
(sq (kr [1,2,15,16,17] [oB 18 .lss 17 16])
(sq (.cond 18
.skip
(.exit 0))
(sq (.block 1
(sq (kr [1,2,15,16,17] [oM 19 17,
oI 20 3 15 17,
oK 21 3 20,
oD 8 (.box [.int .i64 0,.imm (.int .u64) [],.imm (.int .u8) []]),
oM 7 19,
oS 3 8 21])
(sq (kr [1,2,7,8,15,16,17] [oM 22 1,
oM 23 7,
oI 24 3 22 23,
oK 25 3 24,
oD 9 (.box [.int .i64 0,.imm (.int .u64) [],.imm (.int .u8) []]),
oS 3 9 25])
(sq (kr [1,2,8,9,15,16,17] [oM 26 2,
oK 27 3 8,
oK 28 3 9,
oD 29 (.call false 26 [27,28]),
oD 30 (.un .not 29)])
(.cond 30
(sq (.reg [oD 6 (.mov cF)])
.ret)
.skip)))))
(kr [1,2,15,16,17] [oB 31 .add 17 (cI 1),
oM 17 31])))))))
(sq (kr [] [oD 6 (.mov cT)])
.ret))))
def Zz_:List RD:=[.tmp 6 true none]
theorem ZA_:zo_ Tryz.prog Tryz.f134 ZC_ Zz_=true:=by kernel_rfl
def zt_:List AV->List Obj->Option (Prop × AV)
 | [.imm (.cons (.int .i64) (.cons (.sl (.int .u64)) (.cons (.sl (.int .u8)) .nil))) a,.imm (.cons (.int .i64) (.cons (.sl (.int .u64)) (.cons (.sl (.int .u8)) .nil))) b,.fn 135 [] []],[]=>some ((True,.bool (decide ((a:List FV)=b))))
 | _,_=>none
theorem Zt_:ze_ Tryz.prog 134 (RoF zt_).sum:=by
 refine zz_ Tryz.func134 ZA_ (zb_ (s:=RoF Z2_) QS_ (zf_ _)) fun args objs p v e=>?_
 unfold zt_ at e
 split at e
 ·rename_i a b
  cases e
  refine ⟨rfl,fun hw ho hp=>?_⟩
  change List FV at a
  change List FV at b
  have hl:a.length<=maxLen:=(hw (.imm (.cons (.int .i64) (.cons (.sl (.int .u64)) (.cons (.sl (.int .u8)) .nil))) a) (by simp)).2
  unfold maxLen at hl
  clear hw ho
  repeat'(intro t ht;first|(cases t<;>first|(cases ht;done)|(try simp only[zh_]at ht))|((first|refine za_ ht ?_|refine ht ?_ ?_|refine ht.1 ?_ ?_|refine ht ?_)<;>clear ht))
  all_goals first
   | (have hne:a ≠ b:=fun h=>(by assumption:¬ (a.length:Int)=b.length) (by rw [h])
      refine ⟨?_,rfl⟩;rw [decide_eq_false hne];done)
   | (intro r h1 h2;clear h1;refine h2 ⟨[],[1,2,15,16,17],Nat,(fun i=>i<=a.length/\a.take i=b.take i),fun i=>[.imm (.cons (.int .i64) (.cons (.sl (.int .u64)) (.cons (.sl (.int .u8)) .nil))) b,.fn 135 [] [],.imm (.cons (.int .i64) (.cons (.sl (.int .u64)) (.cons (.sl (.int .u8)) .nil))) a,.int .i64 a.length,.int .i64 i],fun _=>[],fun i=>a.length - i,⟨0,⟨Nat.zero_le _,rfl⟩,rfl,rfl⟩,?_⟩;clear h2)
  rintro i ⟨hi,he⟩
  have hl2:a.length=b.length:=by omega
  repeat'(intro t ht;first|(cases t<;>first|(cases ht;done)|(try simp only[zh_]at ht;try(exfalso;first|contradiction|omega)))|((first|refine za_ ht ?_|refine ht ?_ ?_|refine ht.1 ?_ ?_|refine ht ?_)<;>clear ht))
  all_goals (try generalize (Ty.dflt (.cons (.int .i64) (.cons (.sl (.int .u64)) (.cons (.sl (.int .u8)) .nil))))=od at*)
  all_goals first
   | exact True.intro
   | ((try simp only [zI_,zK_,zn_] at*);omega)
   | (have e:=y4_ he (by omega) hl2
      refine ⟨?_,rfl⟩;rw [decide_eq_true e];done)
   | (have hne:a ≠ b:=gj_ (d:=od) (i:=i) (by assumption)
      refine ⟨?_,rfl⟩;rw [decide_eq_false hne];done)
   | exact ⟨i+1,⟨by omega,wN_ he (by omega) hl2 (d:=od) (by assumption)⟩,by (try simp only [zI_,zK_,zn_] at*);omega,rfl,rfl⟩
   | skip
 ·cases e
def Wl_:IR:=
(sq (kr [0,1] [oD 2 (.boxv 0),
oD 3 (.boxv 1),
oD 4 (.mov cF)])
(sq (sq (kr [2,3] [oA 5 0 2,
oL 6 5,
oA 7 0 3,
oL 8 7,
oB 9 .neq 6 8,
oM 10 9,
oF 10 11 (.fieldAddr 1 2),
oF 10 12 (.load none 11),
oF 10 13 (.fieldAddr 1 3),
oF 10 14 (.load none 13),
oF 10 15 (.bin .neq 12 14),
oP 16 10 cT 15,
oM 17 16,
oF 17 18 (.fieldAddr 2 2),
oF 17 19 (.load none 18),
oF 17 20 (.fieldAddr 2 3),
oF 17 21 (.load none 20),
oF 17 22 (.bin .neq 19 21),
oP 23 17 cT 22,
oM 24 23,
oF 24 25 (.fieldAddr 3 2),
oF 24 26 (.load none 25),
oF 24 27 (.fieldAddr 3 3),
oF 24 28 (.load none 27),
oF 24 29 (.bin .neq 26 28),
oP 30 24 cT 29,
oM 31 30,
oF 31 32 (.fieldAddr 4 2),
oF 31 33 (.load none 32),
oF 31 34 (.fieldAddr 4 3),
oF 31 35 (.load none 34),
oF 31 36 (.bin .neq 33 35),
oP 37 31 cT 36,
oM 38 37,
oF 38 39 (.fieldAddr 5 2),
oF 38 40 (.load none 39),
oF 38 41 (.fieldAddr 5 3),
oF 38 42 (.load none 41),
oF 38 43 (.bin .neq 40 42),
oP 44 38 cT 43])
(.cond 44
(sq (kr [] [oD 4 (.mov cF)])
.ret)
.skip))
(sq (kr [2,3] [oA 45 6 2,
oL 46 45,
oA 47 6 3,
oL 48 47,
oC 49 134 [46,48,.f 135],
oM 4 49])
.ret)))
def w0_:List RD:=[.tmp 4 true none]
theorem w9_:zo_ Tryz.prog Tryz.f83 Wl_ w0_=true:=by kernel_rfl
def Qe_:List AV->List Obj->Option (Prop × AV)
 | [.agg [.int .u64 a0,.str a1,.int .u64 a2,.int .u64 a3,.int .u64 a4,.int .u64 a5,.imm (.cons (.int .i64) (.cons (.sl (.int .u64)) (.cons (.sl (.int .u8)) .nil))) a6],.agg [.int .u64 b0,.str b1,.int .u64 b2,.int .u64 b3,.int .u64 b4,.int .u64 b5,.imm (.cons (.int .i64) (.cons (.sl (.int .u64)) (.cons (.sl (.int .u8)) .nil))) b6]],[]=>some ((True,.bool (decide (((a0,a1,a2,a3,a4,a5,a6,()):TV)=(b0,b1,b2,b3,b4,b5,b6,())))))
 | _,_=>none
theorem wb_:ze_ Tryz.prog 83 (RoF Qe_).sum:=by
 refine zz_ Tryz.func83 w9_ (zb_ (s:=RoF zt_) Zt_ (zb_ (s:=RoF Z2_) QS_ (zf_ _))) fun args objs p v e=>?_
 unfold Qe_ at e
 split at e
 ·rename_i a0 a1 a2 a3 a4 a5 a6 b0 b1 b2 b3 b4 b5 b6
  cases e
  refine ⟨rfl,fun hw ho hp=>?_⟩
  clear hw ho
  repeat'(intro t ht;first|(cases t<;>first|(cases ht;done)|(try simp only[zh_]at ht;try(exfalso;first|contradiction|omega)))|((first|refine za_ ht ?_|refine ht ?_ ?_|refine ht.1 ?_ ?_|refine ht ?_)<;>clear ht))
  all_goals first
   | exact True.intro
   | (refine ⟨congrArg AV.bool ?_,rfl⟩;rw [Bool.eq_iff_iff];simp only [Bool.and_eq_true,decide_eq_true_eq,beq_iff_eq,Prod.mk.injEq,and_true,and_assoc];done)
   | (refine ⟨congrArg AV.bool ?_,rfl⟩;simp_all [Bool.and_assoc];done)
   | (refine ⟨congrArg AV.bool ?_,rfl⟩;rw [Bool.eq_iff_iff];simp_all [and_assoc];done)
   | skip
 ·cases e
def Xy_:IR:=
(sq (kr [0,1] [oD 2 (.boxv 0),
oD 3 (.boxv 1),
oD 4 (.mov cF)])
(sq (.reg [oK 5 7 2,
oK 6 7 3,
oC 7 83 [5,6],
oM 4 7])
.ret))
def Xd_:List RD:=[.tmp 4 true none]
theorem Xl_:zo_ Tryz.prog Tryz.f82 Xy_ Xd_=true:=by kernel_rfl
def q2_:List AV->List Obj->Option (Prop × AV)
 | [.agg [.int .u64 a0,.str a1,.int .u64 a2,.int .u64 a3,.int .u64 a4,.int .u64 a5,.imm (.cons (.int .i64) (.cons (.sl (.int .u64)) (.cons (.sl (.int .u8)) .nil))) a6],.agg [.int .u64 b0,.str b1,.int .u64 b2,.int .u64 b3,.int .u64 b4,.int .u64 b5,.imm (.cons (.int .i64) (.cons (.sl (.int .u64)) (.cons (.sl (.int .u8)) .nil))) b6]],[]=>some ((True,.bool (decide (((a0,a1,a2,a3,a4,a5,a6,()):TV)=(b0,b1,b2,b3,b4,b5,b6,())))))
 | _,_=>none
theorem K3_:ze_ Tryz.prog 82 (RoF q2_).sum:=by
 refine zz_ Tryz.func82 Xl_ (zb_ (s:=RoF Qe_) wb_ (zf_ _)) fun args objs p v e=>?_
 unfold q2_ at e
 split at e
 ·rename_i a0 a1 a2 a3 a4 a5 a6 b0 b1 b2 b3 b4 b5 b6
  cases e
  refine ⟨rfl,fun hw ho hp=>?_⟩
  clear hw ho
  repeat'(intro t ht;first|(cases t<;>first|(cases ht;done)|(try simp only[zh_]at ht;try(exfalso;first|contradiction|omega)))|((first|refine za_ ht ?_|refine ht ?_ ?_|refine ht.1 ?_ ?_|refine ht ?_)<;>clear ht))
  all_goals first
   | exact True.intro
   | (refine ⟨congrArg AV.bool ?_,rfl⟩;rw [Bool.eq_iff_iff];simp only [Bool.and_eq_true,decide_eq_true_eq,beq_iff_eq,Prod.mk.injEq,and_true,and_assoc];done)
   | (refine ⟨congrArg AV.bool ?_,rfl⟩;simp_all [Bool.and_assoc];done)
   | (refine ⟨congrArg AV.bool ?_,rfl⟩;rw [Bool.eq_iff_iff];simp_all [and_assoc];done)
   | skip
 ·cases e
def Zp_:IR:=
(sq (kr [0,1,2] [oD 6 (.mov cF)])
(sq (sq (kr [0,1,2] [oM 10 0,
oE 11 10,
oM 12 1,
oE 13 12,
oB 14 .neq 11 13])
(.cond 14
(sq (.reg [oD 6 (.mov cF)])
.ret)
.skip))
(sq (sq (kr [0,1,2] [oM 15 0,
oE 16 15,
oD 17 (.mov (cI 0))])
(.block 0
(.loop
(sq (kr [1,2,15,16,17] [oB 18 .lss 17 16])
(sq (.cond 18
.skip
(.exit 0))
(sq (.block 1
(sq (kr [1,2,15,16,17] [oM 19 17,
oI 20 7 15 17,
oK 21 7 20,
oD 8 (.box [.int .u64 0,.str [],.int .u64 0,.int .u64 0,.int .u64 0,.int .u64 0,.imm (.cons (.int .i64) (.cons (.sl (.int .u64)) (.cons (.sl (.int .u8)) .nil))) []]),
oM 7 19,
oS 7 8 21])
(sq (kr [1,2,7,8,15,16,17] [oM 22 1,
oM 23 7,
oI 24 7 22 23,
oK 25 7 24,
oD 9 (.box [.int .u64 0,.str [],.int .u64 0,.int .u64 0,.int .u64 0,.int .u64 0,.imm (.cons (.int .i64) (.cons (.sl (.int .u64)) (.cons (.sl (.int .u8)) .nil))) []]),
oS 7 9 25])
(sq (kr [1,2,8,9,15,16,17] [oM 26 2,
oK 27 7 8,
oK 28 7 9,
oD 29 (.call false 26 [27,28]),
oD 30 (.un .not 29)])
(.cond 30
(sq (.reg [oD 6 (.mov cF)])
.ret)
.skip)))))
(kr [1,2,15,16,17] [oB 31 .add 17 (cI 1),
oM 17 31])))))))
(sq (kr [] [oD 6 (.mov cT)])
.ret))))
def Zn_:List RD:=[.tmp 6 true none]
theorem Zo_:zo_ Tryz.prog Tryz.f81 Zp_ Zn_=true:=by kernel_rfl
def zr_:List AV->List Obj->Option (Prop × AV)
 | [.imm ty0 a,.imm ty1 b,.fn 82 [] []],[]=>QU_ ty0 YA a fun a=>QU_ ty1 YA b fun b=>some ((True,.bool (decide ((a:List TV)=b))))
 | _,_=>none
theorem Zk_:ze_ Tryz.prog 81 (RoF zr_).sum:=by
 refine zz_ Tryz.func81 Zo_ (zb_ (s:=RoF q2_) K3_ (zf_ _)) fun args objs p v e=>?_
 unfold zr_ at e
 split at e
 ·rename_i ty0 a ty1 b
  obtain rfl:=ZX_ e
  replace e:=ZY_ e
  obtain rfl:=ZX_ e
  replace e:=ZY_ e
  cases e
  refine ⟨rfl,fun hw ho hp=>?_⟩
  change List TV at a
  change List TV at b
  have hl:a.length<=maxLen:=(hw (.imm YA a) (by simp)).2
  unfold maxLen at hl
  clear hw ho
  repeat'(intro t ht;first|(cases t<;>first|(cases ht;done)|(try simp only[zh_]at ht))|((first|refine za_ ht ?_|refine ht ?_ ?_|refine ht.1 ?_ ?_|refine ht ?_)<;>clear ht))
  all_goals first
   | (have hne:a ≠ b:=fun h=>(by assumption:¬ (a.length:Int)=b.length) (by rw [h])
      refine ⟨?_,rfl⟩;rw [decide_eq_false hne];done)
   | (intro r h1 h2;clear h1;refine h2 ⟨[],[1,2,15,16,17],Nat,(fun i=>i<=a.length/\a.take i=b.take i),fun i=>[.imm YA b,.fn 82 [] [],.imm YA a,.int .i64 a.length,.int .i64 i],fun _=>[],fun i=>a.length - i,⟨0,⟨Nat.zero_le _,rfl⟩,rfl,rfl⟩,?_⟩;clear h2)
  rintro i ⟨hi,he⟩
  have hl2:a.length=b.length:=by omega
  repeat'(intro t ht;first|(cases t<;>first|(cases ht;done)|(try simp only[zh_]at ht;try(exfalso;first|contradiction|omega)))|((first|refine za_ ht ?_|refine ht ?_ ?_|refine ht.1 ?_ ?_|refine ht ?_)<;>clear ht))
  all_goals (try generalize (Ty.dflt YA)=od at*)
  all_goals first
   | exact True.intro
   | ((try simp only [zI_,zK_,zn_] at*);omega)
   | (have e:=y4_ he (by omega) hl2
      refine ⟨?_,rfl⟩;rw [decide_eq_true e];done)
   | (have hne:a ≠ b:=gj_ (d:=od) (i:=i) (by assumption)
      refine ⟨?_,rfl⟩;rw [decide_eq_false hne];done)
   | exact ⟨i+1,⟨by omega,wN_ he (by omega) hl2 (d:=od) (by assumption)⟩,by (try simp only [zI_,zK_,zn_] at*);omega,rfl,rfl⟩
   | skip
 ·cases e
def YS_:IR:=
(sq (kr [0,1] [oD 4 (.mov cF)])
(sq (.reg [oM 5 0,
oM 6 1,
oC 7 81 [5,6,.f 82],
oM 4 7])
.ret))
def YA_:List RD:=[.tmp 4 true none]
theorem YK_:zo_ Tryz.prog Tryz.f35 YS_ YA_=true:=by kernel_rfl
def jl_:List AV->List Obj->Option (Prop × AV)
 | [.imm ty0 a,.imm ty1 b],[]=>QU_ ty0 YA a fun a=>QU_ ty1 YA b fun b=>some ((True,.bool (decide ((a:List TV)=b))))
 | _,_=>none
theorem yb_:ze_ Tryz.prog 35 (RoF jl_).sum:=by
 refine zz_ Tryz.func35 YK_ (zb_ (s:=RoF zr_) Zk_ (zb_ (s:=RoF q2_) K3_ (zf_ _))) fun args objs p v e=>?_
 unfold jl_ at e
 split at e
 ·rename_i ty0 a ty1 b
  obtain rfl:=ZX_ e
  replace e:=ZY_ e
  obtain rfl:=ZX_ e
  replace e:=ZY_ e
  cases e
  refine ⟨rfl,fun hw ho hp=>?_⟩
  clear hw ho
  repeat'(intro t ht;first|(cases t<;>first|(cases ht;done)|(try simp only[zh_]at ht;try(exfalso;first|contradiction|omega)))|((first|refine za_ ht ?_|refine ht ?_ ?_|refine ht.1 ?_ ?_|refine ht ?_)<;>clear ht))
  all_goals first
   | exact True.intro
   | exact ⟨rfl,rfl⟩
   | exact rfl
 ·cases e
theorem wnb2 {n:Int} (h0:0<=n) (h1:n<=65535):zs_ (zi_ n 2)=n:=jx_ 2 n (by decide) h0 (by show n < 65536;omega)
theorem wnb4 {n:Int} (h0:0<=n) (h1:n < 4294967296):zs_ (zi_ n 4)=n:=jx_ 4 n (by decide) h0 (by show n < 4294967296;omega)
theorem jS_ (n:Int):(zi_ n 2).length=2:=by have:=z1_ (n:=n) (w:=2) (by decide);omega
theorem vi_ (n:Int):(zi_ n 4).length=4:=by have:=z1_ (n:=n) (w:=4) (by decide);omega
theorem b4_ {y:List Int} (hb:∀ x ∈ y,0<=x/\x<=255) (hl:y.length=2):zi_ (zs_ y) 2=y:=Ki_ 2 y (by decide) hl hb
theorem wnm4 {y:List Int} (hb:∀ x ∈ y,0<=x/\x<=255) (hl:y.length=4):zi_ (zs_ y) 4=y:=Ki_ 4 y (by decide) hl hb
theorem Hc_ {y:List Int} {k:Nat} (hb:∀ x ∈ y,0<=x/\x<=255) (hl:y.length=k):0<=zs_ y/\zs_ y < 256 ^ k:=by
 have:=Y6_ y hb;rwa [hl] at this
theorem zdi_ {t x:Int} {p q:List Int} (hs:¬ szT t=0) (ho:otT t=false) (hx:0<=x/\x<=18446744073709551615) (h:nbO t x=some p):p.length=(szT t).toNat/\nuV t (p++q)=x/\nuX t (p++q)=false:=by
 rcases Qh_ t with ⟨h1,_⟩ | ⟨h1,h2,h3,h4⟩ | ⟨h1,h2,h4⟩ | ⟨h1,h2,h3,_⟩
 ·exact absurd h1 hs
 ·rw [nb_1 h2 h1 hx.1 hx.2] at h
  split at h
  ·cases h
   have hv:nuV t ([x]++q)=x:=by
    unfold nuV nuW
    rw [if_neg (by rw [h2];decide),if_pos h1]
    show zs_ [x]=x
    unfold zs_;simp
   exact ⟨by rw [h1];rfl,hv,by rw [bp_ h2 h1,hv];exact decide_eq_false (by omega)⟩
  ·cases h
 ·cases hty:tyT t with
  | true=>
    rw [zcJ_ hty hx.1 hx.2] at h
    split at h
    ·rename_i hle
     cases h
     refine ⟨by rw [List.length_append,jS_,h1];rfl,?_,?_⟩
     ·unfold nuV nuW
      rw [if_pos hty,List.append_assoc]
      show zs_ ((zi_ x 2++([0,4]++q)).take 2)=x
      rw [List.take_left' (jS_ x)];exact wnb2 hx.1 hle
     ·rw [uq_ hty h1,List.append_assoc,List.drop_left' (jS_ x)];rfl
    ·cases h
  | false=>
    rw [bx_ hty (by omega) hx.1 hx.2] at h
    split at h
    ·rename_i hle
     cases h
     refine ⟨by rw [vi_,h1];rfl,?_,nx_4 hty h1 _⟩
     unfold nuV nuW
     rw [if_neg (by rw [hty];decide),if_neg (by omega)]
     show zs_ ((zi_ x 4++q).take 4)=x
     rw [List.take_left' (vi_ x)];exact wnb4 hx.1 hle
    ·cases h
 ·rw [ho] at h3;cases h3
theorem szP {t:Int} (hs:¬ szT t=0):1<=szT t/\szT t<=8:=by
 rcases Qh_ t with ⟨h1,_⟩ | ⟨h1,_⟩ | ⟨h1,_⟩ | ⟨h1,_⟩<;>omega
theorem BT_ {t:Int} (hs:¬ szT t=0) (ho:otT t=false):∀ (n:List Int) (y:List Int),(∀ x ∈ n,0<=x/\x<=18446744073709551615)->jb_ (nbO t) n=some y->nuG t y=(n,0)/\y.length=n.length*(szT t).toNat
 | [],y,_,h=>by cases h;exact ⟨Wf_ rfl,by simp⟩
 | x :: r,y,hw,h=>by
   obtain ⟨p,q,h1,h2,h3⟩:=ZQ_ h
   subst h3
   obtain ⟨ih1,ih2⟩:=BT_ hs ho r q (fun z hz=>hw z (List.mem_cons_of_mem _ hz)) h2
   obtain ⟨k1,k2,k3⟩:=zdi_ (q:=q) hs ho (hw x (List.mem_cons_self ..)) h1
   have hz:=szP hs
   have hd:(p++q).drop (szT t).toNat=q:=List.drop_left' k1
   rw [gT_ (by rw [List.length_append];omega) k3 hz.1,k2,hd,ih1]
   exact ⟨rfl,by rw [List.length_append,List.length_cons,k1,ih2,Nat.succ_mul,Nat.add_comm]⟩
theorem QN_ {y:List Int} (hb:∀ x ∈ y,0<=x/\x<=255) (k:Nat):∀ x ∈ y.take k,0<=x/\x<=255:=fun x hx=>hb x (List.mem_of_mem_take hx)
theorem jN_ {y:List Int} (hb:∀ x ∈ y,0<=x/\x<=255) (k:Nat):∀ x ∈ y.drop k,0<=x/\x<=255:=fun x hx=>hb x (List.mem_of_mem_drop hx)
theorem zdj_ {t:Int} {y:List Int} (hb:∀ x ∈ y,0<=x/\x<=255) (hs:¬ szT t=0) (ho:otT t=false) (hl:(szT t).toNat<=y.length) (h:nuX t y=false):nbO t (nuV t y)=some (y.take (szT t).toNat):=by
 rcases Qh_ t with ⟨h1,_⟩ | ⟨h1,h2,h3,h4⟩ | ⟨h1,h2,h4⟩ | ⟨h1,h2,h3,_⟩
 ·exact absurd h1 hs
 ·rw [h1] at hl ⊢
  obtain ⟨c,r,rfl⟩:∃ c r,y=c :: r:=by
   cases y with
   | nil=>exact absurd hl (by decide)
   | cons c r=>exact ⟨c,r,rfl⟩
  have hc:=hb c (List.mem_cons_self ..)
  have hv:nuV t (c :: r)=c:=by
   unfold nuV nuW
   rw [if_neg (by rw [h2];decide),if_pos h1]
   show zs_ [c]=c
   unfold zs_;simp
  rw [bp_ h2 h1,hv] at h
  rw [hv,nb_1 h2 h1 hc.1 (by omega),if_pos (by have:=of_decide_eq_false h;omega)]
  rfl
 ·rw [h1] at hl ⊢
  have hl:4<=y.length:=hl
  show _=some (y.take 4)
  cases hty:tyT t with
  | true=>
    rw [uq_ hty h1] at h
    have h5:zs_ ((y.drop 2).take 2)=4:=by simpa using h
    have l1:(y.take 2).length=2:=by rw [List.length_take];omega
    have l2:((y.drop 2).take 2).length=2:=by rw [List.length_take,List.length_drop];omega
    have hv:nuV t y=zs_ (y.take 2):=by unfold nuV nuW;rw [if_pos hty];rfl
    have r1:=Hc_ (QN_ hb 2) l1
    have r2:zs_ (y.take 2) < 65536:=r1.2
    have e2:=b4_ (QN_ (jN_ hb 2) 2) l2
    rw [h5] at e2
    have e4:zi_ 4 2=[0,4]:=by decide
    rw [hv,zcJ_ hty r1.1 (by omega),if_pos (by omega),b4_ (QN_ hb 2) l1,<- e4,e2]
    congr 1
    rw [<- List.take_append_drop 2 (y.take 4),List.take_take,List.drop_take];rfl
  | false=>
    have l1:(y.take 4).length=4:=by rw [List.length_take];omega
    have hv:nuV t y=zs_ (y.take 4):=by unfold nuV nuW;rw [if_neg (by rw [hty];decide),if_neg (by omega)];rfl
    have r1:=Hc_ (QN_ hb 4) l1
    have r2:zs_ (y.take 4) < 4294967296:=r1.2
    rw [hv,bx_ hty (by omega) r1.1 (by omega),if_pos r2,wnm4 (QN_ hb 4) l1]
 ·rw [ho] at h3;cases h3
theorem BU_ {t:Int} (hs:¬ szT t=0) (ho:otT t=false):∀ (k:Nat) (y:List Int),y.length<=k->(∀ x ∈ y,0<=x/\x<=255)->(y.length:Int).tmod (szT t)=0->(nuG t y).2=0->jb_ (nbO t) (nuG t y).1=some y
 | 0,y,hk,_,_,_=>by
   have e:y=[]:=List.eq_nil_of_length_eq_zero (by omega)
   subst e;rw [Wf_ rfl];rfl
 | k+1,y,hk,hb,hm,h=>by
   by_cases hz:y.length=0
   ·have e:y=[]:=List.eq_nil_of_length_eq_zero hz
    subst e;rw [Wf_ rfl];rfl
   ·have hp:=szP hs
    have hm2:=hm
    rw [Int.tmod_eq_emod_of_nonneg (by omega)] at hm2
    have hl:szT t<=y.length/\((y.length:Int) - szT t) % szT t=0:=by
     rcases Qh_ t with ⟨h1,_⟩ | ⟨h1,_⟩ | ⟨h1,_⟩ | ⟨h1,_⟩<;>(rw [h1] at hm2 ⊢;omega)
    cases hx:nuX t y with
    | true=>rw [BV_ hz hx] at h;cases h
    | false=>
      rw [gT_ hz hx hp.1] at h ⊢
      have ih:=BU_ hs ho k (y.drop (szT t).toNat) (by rw [List.length_drop];omega) (jN_ hb _) (by
       rw [List.length_drop,Int.tmod_eq_emod_of_nonneg (by omega),show ((y.length - (szT t).toNat:Nat):Int)=(y.length:Int) - szT t by omega];exact hl.2) h
      show wM_ (nbO t (nuV t y)) (jb_ (nbO t) _)=_
      rw [zdj_ hb hs ho (by omega) hx,ih]
      show some (y.take _++y.drop _)=_
      rw [List.take_append_drop]
theorem Vj_ {f:FV} (h:fbK f=true):kdF f=true/\∃ p,jb_ (nbO f.1) f.2.1=some p/\fbY f=p++f.2.2.1/\(fbY f).length<=65524:=by
 have hk:=HJ_ h
 cases hW:fbW f with
 | none=>unfold fbK fnG at h;rw [hW] at h;cases h
 | some y=>
   obtain ⟨_,h2,h3⟩:=HN_ hW
   rw [h2] at h
   have hl:=of_decide_eq_true h
   have hY:=h3 (by omega)
   unfold fbW at hW
   rw [if_pos hk] at hW
   obtain ⟨p,q,a,b,c⟩:=ZQ_ hW
   cases b
   exact ⟨hk,p,a,by rw [hY,c],by rw [hY];omega⟩
theorem zdz_ {f:FV} {D:Bool} (hw:∀ x ∈ f.2.1,0<=x/\x<=18446744073709551615) (h:fbK f=true) (hd:D=false\/otT f.1=true):ftE D f.1 (fbY f)=0/\ftN D f.1 (fbY f)=f.2.1/\ftD f.1 (fbY f)=f.2.2.1:=by
 obtain ⟨hk,p,hp,hY,hl⟩:=Vj_ h
 obtain ⟨hs,hc⟩:=UF_ hk
 rcases hc with ⟨ho,h2⟩ | ⟨ho,h2⟩
 ·obtain ⟨a,b,e⟩:∃ a b,f.2.1=[a,b]:=by
   match hn:f.2.1,h2 with
   | [a,b],_=>exact ⟨a,b,rfl⟩
  rw [e] at hp hw
  have hty:tyT f.1=false/\¬ szT f.1=1:=by
   rcases Qh_ f.1 with ⟨h1,_⟩ | ⟨_,_,h3,_⟩ | ⟨_,h3,_⟩ | ⟨h1,h3,_⟩
   ·exact absurd h1 hs
   ·rw [ho] at h3;cases h3
   ·rw [ho] at h3;cases h3
   ·exact ⟨h3,by omega⟩
  obtain ⟨u,v,h3,h4,rfl⟩:=ZQ_ hp
  obtain ⟨v1,v2,h5,h6,rfl⟩:=ZQ_ h4
  cases h6
  have wa:=hw a (by simp)
  have wb:=hw b (by simp)
  rw [bx_ hty.1 hty.2 wa.1 wa.2] at h3
  rw [bx_ hty.1 hty.2 wb.1 wb.2] at h5
  split at h3
  ·rename_i ca
   split at h5
   ·rename_i cb
    cases h3;cases h5
    obtain ⟨q1,q2,q3⟩:=ft_o (D:=D) (x:=fbY f) hs ho
    have hlen:¬ (fbY f).length < 8:=by rw [hY];simp only [List.length_append,vi_,List.length_nil];omega
    have e4:(fbY f).take 4=zi_ a 4:=by rw [hY,List.append_assoc];exact List.take_left' (vi_ a)
    have e5:(fbY f).drop 4=zi_ b 4++f.2.2.1:=by rw [hY,List.append_nil,List.append_assoc];exact List.drop_left' (vi_ a)
    have e6:((fbY f).drop 4).take 4=zi_ b 4:=by rw [e5];exact List.take_left' (vi_ b)
    have e7:(fbY f).drop 8=f.2.2.1:=by
     rw [show 8=4+4 from rfl,<- List.drop_drop,e5];exact List.drop_left' (vi_ b)
    rw [q1,q2,q3,if_neg hlen,if_neg hlen,if_neg hlen,e4,e6,e7,wnb4 wa.1 ca,wnb4 wb.1 cb,e]
    exact ⟨rfl,rfl,rfl⟩
   ·cases h5
  ·cases h3
 ·have hD:D=false:=hd.resolve_right (by rw [ho];decide)
  have e2:f.2.2.1=[]:=List.eq_nil_of_length_eq_zero h2
  rw [e2,List.append_nil] at hY
  obtain ⟨g1,g2⟩:=BT_ hs ho f.2.1 p hw hp
  have hz:=szP hs
  obtain ⟨q1,q2,q3⟩:=bJ_ (D:=D) (x:=p) hs ho hD (by
   rw [g2,Int.tmod_eq_emod_of_nonneg (by omega),Int.natCast_mul,Int.toNat_of_nonneg (by omega)];exact Int.mul_emod_left _ _)
  rw [hY,q1,q2,q3,g1,e2];exact ⟨rfl,rfl,rfl⟩
theorem zdA_ {t:Int} {D:Bool} {x:List Int} (hb:∀ z ∈ x,0<=z/\z<=255) (hl:x.length<=65524) (h:ftE D t x=0):fbK (t,ftN D t x,ftD t x,())=true/\fbY (t,ftN D t x,ftD t x,())=x/\(D && !otT t)=false:=by
 have key:fbW (t,ftN D t x,ftD t x,())=some x/\(D && !otT t)=false:=by
  by_cases hs:szT t=0
  ·rw [(ft_0 hs).1] at h;cases h
  ·cases ho:otT t with
   | true=>
     obtain ⟨q1,q2,q3⟩:=ft_o (D:=D) (x:=x) hs ho
     rw [q1] at h
     by_cases h8:x.length < 8
     ·rw [if_pos h8] at h;cases h
     ·rw [q2,q3,if_neg h8,if_neg h8]
      have hty:tyT t=false/\¬ szT t=1:=by
       rcases Qh_ t with ⟨h1,_⟩ | ⟨_,_,h3,_⟩ | ⟨_,h3,_⟩ | ⟨h1,h3,_⟩
       ·exact absurd h1 hs
       ·rw [ho] at h3;cases h3
       ·rw [ho] at h3;cases h3
       ·exact ⟨h3,by omega⟩
      have l1:(x.take 4).length=4:=by rw [List.length_take];omega
      have l2:((x.drop 4).take 4).length=4:=by rw [List.length_take,List.length_drop];omega
      have r1:=Hc_ (QN_ hb 4) l1
      have r2:=Hc_ (QN_ (jN_ hb 4) 4) l2
      have s1:zs_ (x.take 4) < 4294967296:=r1.2
      have s2:zs_ ((x.drop 4).take 4) < 4294967296:=r2.2
      refine ⟨?_,by simp⟩
      unfold fbW
      have hk:kdF (t,[zs_ (x.take 4),zs_ ((x.drop 4).take 4)],x.drop 8,())=true:=by
       unfold kdF;rw [ho,decide_eq_false hs];rfl
      rw [if_pos hk]
      show wM_ (wM_ (nbO t _) (wM_ (nbO t _) (some []))) (some (x.drop 8))=_
      rw [bx_ hty.1 hty.2 r1.1 (by omega),bx_ hty.1 hty.2 r2.1 (by omega),if_pos s1,if_pos s2,wnm4 (QN_ hb 4) l1,wnm4 (QN_ (jN_ hb 4) 4) l2]
      show some (x.take 4++((x.drop 4).take 4++[])++x.drop 8)=some x
      rw [List.append_nil,List.append_assoc,show x.drop 8=(x.drop 4).drop 4 by rw [List.drop_drop],List.take_append_drop,List.take_append_drop]
   | false=>
     cases D with
     | true=>rw [(ft_d hs ho).1] at h;cases h
     | false=>
       by_cases hm:(x.length:Int).tmod (szT t)=0
       ·obtain ⟨q1,q2,q3⟩:=bJ_ (D:=false) (x:=x) hs ho rfl hm
        rw [q1] at h
        have hA:=BU_ hs ho x.length x (Nat.le_refl _) hb hm h
        refine ⟨?_,rfl⟩
        rw [q2,q3]
        unfold fbW
        have hk:kdF (t,(nuG t x).1,[],())=true:=by unfold kdF;rw [ho,decide_eq_false hs];rfl
        rw [if_pos hk]
        show wM_ (jb_ (nbO t) _) (some [])=_
        rw [hA];show some (x++[])=_;rw [List.append_nil]
       ·rw [(ft_m hs ho hm).1] at h;cases h
 obtain ⟨_,k2,k3⟩:=HN_ key.1
 exact ⟨by rw [k2];exact decide_eq_true (by omega),k3 hl,key.2⟩
theorem zcf_ {t:Int} {y:List Int} (rest:List Int) (ht:0<=t/\t<=65535) (hl:y.length<=65524):tT (enP t y++rest)=t/\tN (enP t y++rest)=4+y.length/\tlK (enP t y++rest)=0/\bd (enP t y++rest)=y/\(tlN (enP t y++rest)).toNat=(enP t y).length:=by
 have hz:=VI_ (n:=4+(y.length:Int)) (by omega)
 obtain ⟨z,hzz⟩:∃ z:Nat,zr (4+(y.length:Int))=z:=⟨(zr (4+(y.length:Int))).toNat,by omega⟩
 have e:enP t y++rest=zi_ t 2++(zi_ (4+y.length) 2++(y++(List.replicate z 0++rest))):=by
  unfold enP enH;rw [hzz,Int.toNat_natCast];simp only [List.append_assoc]
 have e':enP t y++rest=enH t y++(List.replicate z 0++rest):=by unfold enP;rw [hzz,Int.toNat_natCast,List.append_assoc]
 have e1:tT (enP t y++rest)=t:=by rw [e];unfold tT;rw [List.take_left' (jS_ t)];exact wnb2 ht.1 ht.2
 have e2:tN (enP t y++rest)=4+y.length:=by rw [e];unfold tN;rw [List.drop_left' (jS_ t),List.take_left' (jS_ _)];exact wnb2 (by omega) (by omega)
 have hlen:(enP t y++rest).length=4+y.length+z+rest.length:=by rw [e'];simp only [List.length_append,WW_,List.length_replicate];omega
 have hN:(4+(y.length:Int)).toNat=4+y.length:=by omega
 have e3:((enP t y++rest).drop (4+y.length))=List.replicate z 0++rest:=by rw [e'];exact List.drop_left' (WW_ t y)
 refine ⟨e1,e2,?_,?_,?_⟩
 ·rw [GZ_ (by omega) (by rw [e2];omega) (by rw [e2,hlen,hzz];omega),e2,hzz,hN,e3,Int.toNat_natCast,List.take_left' List.length_replicate,if_pos (XY_ z)]
 ·unfold bd
  rw [e2,hN,e',List.take_left' (WW_ t y)]
  unfold enH
  exact List.drop_left' (by rw [List.length_append,jS_,jS_])
 ·unfold tlN
  have:=XG_ t y
  rw [hzz] at this
  rw [e2,hzz];omega
theorem Wh_ (f:FV) (r:List FV):jnP ((f :: r).map itF)=enP f.1 (fbY f)++jnP (r.map itF):=by
 unfold jnP;rw [List.map_cons,List.flatMap_cons];rfl
theorem zcM_:∀ (l:List FV),(jnP (l.map itF)).length % 8=0
 | []=>rfl
 | f :: r=>by
   have h1:=zcM_ r
   have h2:=XG_ f.1 (fbY f)
   have h3:=VI_ (n:=4+((fbY f).length:Int)) (by omega)
   rw [Wh_,List.length_append];omega
theorem zaC_:∀ (r acc:List FV),gdF (tyL acc) r=true->(∀ f ∈ r,∀ x ∈ f.2.1,0<=x/\x<=18446744073709551615)->fsG acc 0 (jnP (r.map itF))=(acc++r,0)
 | [],acc,_,_=>by rw [List.append_nil];exact xK_ rfl
 | f :: r,acc,h,hw=>by
   unfold gdF at h
   simp only [Bool.and_eq_true,Bool.not_eq_true'] at h
   obtain ⟨⟨h1,h2⟩,h3⟩:=h
   have hk:=HJ_ h1
   obtain ⟨l1,l2,l3,l4,l5⟩:=zcf_ (jnP (r.map itF)) (Bi_ (UF_ hk).1) (zaL_ f)
   have hD:(tyL acc).contains f.1=false\/otT f.1=true:=by
    cases ho:otT f.1 with
    | true=>exact .inr rfl
    | false=>rw [ho] at h2;exact .inl (by simpa using h2)
   obtain ⟨g1,g2,g3⟩:=zdz_ (D:=(tyL acc).contains f.1) (hw f (List.mem_cons_self ..)) h1 hD
   have hX:ftX acc (enP f.1 (fbY f)++jnP (r.map itF))=0:=by unfold ftX;rw [l1,l4];exact g1
   have hV:ftV acc (enP f.1 (fbY f)++jnP (r.map itF))=f:=by unfold ftV;rw [l1,l4,g2,g3]
   have ih:=zaC_ r (acc++[f]) (by rw [u1_];exact h3) fun g hg=>hw g (List.mem_cons_of_mem _ hg)
   rw [Wh_,uA_ l3,hX,hV,vb_,l5,List.drop_left,ih,List.append_assoc];rfl
theorem zaQ_ {Y:List Int} (hb:∀ x ∈ Y,0<=x/\x<=255) (h:tlK Y=0):enP (tT Y) (bd Y)=Y.take (tlN Y).toNat/\(bd Y).length+4=(tN Y).toNat:=by
 obtain ⟨h1,h2,h3,h4,h5⟩:=X1_ h
 have hz:=VI_ (n:=tN Y) (by omega)
 have hL:tlN Y=tN Y+zr (tN Y):=rfl
 have hbl:(bd Y).length=(tN Y).toNat - 4:=by unfold bd;rw [List.length_drop,List.length_take];omega
 refine ⟨?_,by omega⟩
 have e0:(4+((bd Y).length:Int))=tN Y:=by omega
 have a1:zi_ (tT Y) 2=Y.take 2:=b4_ (QN_ hb 2) (by rw [List.length_take];omega)
 have a2:zi_ (tN Y) 2=(Y.drop 2).take 2:=b4_ (QN_ (jN_ hb 2) 2) (by rw [List.length_take,List.length_drop];omega)
 have a3:List.replicate (zr (tN Y)).toNat 0=(Y.drop (tN Y).toNat).take (zr (tN Y)).toNat:=by
  have hr:=xY_ h5
  rw [hr];congr 1
  rw [List.length_take,List.length_drop];omega
 have b1:Y.take 2++(Y.drop 2).take 2=Y.take 4:=by
  rw [<- List.take_append_drop 2 (Y.take 4),List.take_take,List.drop_take];rfl
 have b2:Y.take 4++bd Y=Y.take (tN Y).toNat:=by
  unfold bd
  have:=List.take_append_drop 4 (Y.take (tN Y).toNat)
  rw [List.take_take,Nat.min_eq_left (by omega)] at this
  exact this
 unfold enP enH
 rw [e0,a1,a2,a3,b1,b2,show (tlN Y).toNat=(tN Y).toNat+(zr (tN Y)).toNat by omega,List.take_add]
theorem zaD_:∀ (n:Nat) (Y:List Int) (acc l:List FV),Y.length<=n->Y.length<=65528->(∀ x ∈ Y,0<=x/\x<=255)->fsG acc 0 Y=(l,0)->∃ r,l=acc++r/\gdF (tyL acc) r=true/\jnP (r.map itF)=Y
 | n,Y,acc,l,hn,hl,hb,h=>by
   by_cases hz:Y.length=0
   ·have e:Y=[]:=List.eq_nil_of_length_eq_zero hz
    subst e
    rw [xK_ rfl] at h;cases h
    exact ⟨[],(List.append_nil _).symm,rfl,rfl⟩
   ·cases n with
    | zero=>omega
    | succ n=>
      by_cases h1:tlK Y=0
      ·have hq:=X1_ h1
       rw [uA_ h1] at h
       by_cases hx:ftX acc Y=0
       ·rw [hx,vb_] at h
        obtain ⟨r,e1,e2,e3⟩:=zaD_ n (Y.drop (tlN Y).toNat) (acc++[ftV acc Y]) l (by rw [List.length_drop];omega) (by rw [List.length_drop];omega) (jN_ hb _) h
        obtain ⟨c1,c2⟩:=zaQ_ hb h1
        have hbl:(bd Y).length<=65524:=by
         have:tN Y<=tlN Y:=by
          have:=VI_ (n:=tN Y) (by omega)
          have hL:tlN Y=tN Y+zr (tN Y):=rfl
          omega
         omega
        have hbd:∀ x ∈ bd Y,0<=x/\x<=255:=by unfold bd;exact jN_ (QN_ hb _) _
        obtain ⟨k1,k2,k3⟩:=zdA_ (t:=tT Y) (D:=(tyL acc).contains (tT Y)) hbd hbl hx
        have hV:ftV acc Y=(tT Y,ftN ((tyL acc).contains (tT Y)) (tT Y) (bd Y),ftD (tT Y) (bd Y),()):=rfl
        refine ⟨ftV acc Y :: r,by rw [e1,List.append_assoc];rfl,?_,?_⟩
        ·rw [u1_] at e2
         unfold gdF
         simp only [Bool.and_eq_true,Bool.not_eq_true']
         exact ⟨⟨k1,k3⟩,e2⟩
        ·rw [Wh_,e3,hV,k2]
         show enP (tT Y) (bd Y)++_=Y
         rw [c1,List.take_append_drop]
       ·have hne:zl_ 0 (ftX acc Y) ≠ 0:=by unfold zl_;rw [if_pos rfl];exact hx
        have:=zcN_ _ (acc++[ftV acc Y]) (zl_ 0 (ftX acc Y)) (Y.drop (tlN Y).toNat) (Nat.le_refl _) hne
        rw [h] at this;exact absurd this.symm hne
      ·rw [UT_ hz h1] at h
       have:zl_ 0 (tlK Y)=0:=(Prod.mk.inj h).2
       unfold zl_ at this;rw [if_pos rfl] at this;exact absurd this h1
theorem Bz_ {n i:Int} (hn:0<=n/\n<=65535) (hi:0<=i/\i<=255):Qb_ [2,1,-5] [n,i]=zi_ n 2++zi_ i 1++zi_ 0 5/\Kr_ [2,1,-5] [n,i]=true:=by
 have e1:n.fdiv (2 ^ 16)=0:=by rw [Int.fdiv_eq_ediv_of_nonneg _ (by decide)];omega
 have e2:i.fdiv (2 ^ 8)=0:=by rw [Int.fdiv_eq_ediv_of_nonneg _ (by decide)];omega
 have h:jG_ [2,1,-5] [n,i]=some (zi_ n 2++zi_ i 1++zi_ 0 5):=by
  unfold jG_
  rw [if_pos ⟨by decide,(by decide:ki_ [2,1,-5]=2)⟩]
  have m:min (8*(2:Int)).toNat 64=16:=by decide
  have m1:min (8*(1:Int)).toNat 64=8:=by decide
  simp only [qE_,m,m1]
  rw [if_neg (by decide),if_neg (by rintro ⟨_,h⟩;exact h e1),if_neg (by decide),if_neg (by rintro ⟨_,h⟩;exact h e2),if_pos (by decide)]
  rfl
 unfold Qb_ Kr_;rw [h];exact ⟨rfl,rfl⟩
theorem hI_ {nm zs:List Int} (h:∀ c ∈ nm,c ≠ 0) (i:Int):kf_ 0 (nm++0 :: zs) i=i+nm.length:=by
 induction nm generalizing i with
 | nil=>show (if (0:Int)=0 then i else _)=_;rw [if_pos rfl];simp
 | cons a l ih=>
   show (if a=0 then i else kf_ 0 (l++0 :: zs) (i+1))=_
   rw [if_neg (h a (by simp)),ih (fun c hc=>h c (by simp [hc])),List.length_cons];omega
theorem HB_ {nm:List Int} (h:q7_ nm=true):Xu_ (xa_ nm)=true/\nmS (xa_ nm)=nm/\(xa_ nm).length=32:=by
 obtain ⟨h1,h2⟩:=UA_.1 h
 have hl:(xa_ nm).length=32:=by unfold xa_;rw [List.length_append,List.length_replicate];omega
 refine ⟨?_,?_,hl⟩
 all_goals
  unfold xa_
  obtain ⟨k,hk⟩:∃ k,32 - nm.length=k+1:=⟨31 - nm.length,by omega⟩
  rw [hk,List.replicate_succ]
  have hi:=hI_ (nm:=nm) (zs:=List.replicate k 0) (fun c hc e=>by have:=zcH_.1 (h2 c hc);omega) 0
  have hz:zi (nm++0 :: List.replicate k 0)=nm.length:=by unfold zi;rw [hi,if_pos (by omega)];omega
  have hd:(nm++0 :: List.replicate k 0).drop nm.length=0 :: List.replicate k 0:=List.drop_left
  have ht:(nm++0 :: List.replicate k 0).take nm.length=nm:=List.take_left
  have h0:zY_ (0 :: List.replicate k 0)=true:=XY_ (k+1)
 ·unfold Xu_;rw [hz,hd,ht,h0,h];rfl
 ·unfold nmS;rw [hz,hd,ht,if_pos h0]
theorem bu_ {b:List Int} (hl:b.length=32) (h:Xu_ b=true):q7_ (nmS b)=true/\xa_ (nmS b)=b:=by
 unfold Xu_ at h
 simp only [Bool.and_eq_true] at h
 have hS:nmS b=b.take (zi b):=by unfold nmS;rw [if_pos h.1]
 have hzl:=zdQ_ b
 have hd:=xY_ h.1
 rw [List.length_drop,hl] at hd
 rw [hS]
 refine ⟨h.2,?_⟩
 unfold xa_
 rw [List.length_take,hl,Nat.min_eq_left (by omega),<- hd,List.take_append_drop]
structure wfT (t:TV):Prop where
 i:0<=t.1
 n:(0<=t.2.2.1/\t.2.2.1<=18446744073709551615)/\(0<=t.2.2.2.1/\t.2.2.2.1<=18446744073709551615)/\(0<=t.2.2.2.2.1/\t.2.2.2.2.1<=18446744073709551615)/\(0<=t.2.2.2.2.2.1/\t.2.2.2.2.2.1<=18446744073709551615)
 f:∀ f ∈ t.2.2.2.2.2.2.1,∀ x ∈ f.2.1,0<=x/\x<=18446744073709551615
 d:∀ f ∈ t.2.2.2.2.2.2.1,∀ x ∈ f.2.2.1,0<=x/\x<=255
theorem vE_ {t:TV} {y:List Int} (h:ptO t=some y):gdF [] t.2.2.2.2.2.2.1=true/\64+((ptX t).length:Int)<=65528/\t.1<=254/\q7_ t.2.1=true/\ptX t=jnP (t.2.2.2.2.2.2.1.map itF)/\Kr_ [2,1,-5] [64+((ptX t).length:Int),t.1]=true/\Kr_ [8,8,4,4] [t.2.2.1,t.2.2.2.1,t.2.2.2.2.1,t.2.2.2.2.2.1]=true/\
 y=Qb_ [2,1,-5] [64+((ptX t).length:Int),t.1]++xa_ t.2.1++Qb_ [8,8,4,4] [t.2.2.1,t.2.2.2.1,t.2.2.2.2.1,t.2.2.2.2.2.1]++ptX t:=by
 by_cases hG:ptG t=true
 ·obtain ⟨g1,g2,g3,g4⟩:=Y2_.1 hG
  unfold ptO at h
  rw [if_pos hG] at h
  obtain ⟨p1,X,h1,h2,rfl⟩:=ZQ_ h
  cases h2
  obtain ⟨p2,B,h3,h4,rfl⟩:=ZQ_ h1
  obtain ⟨A,N,h5,h6,rfl⟩:=ZQ_ h3
  cases h6
  obtain ⟨a1,a2⟩:=jZ_ h5
  obtain ⟨b1,b2⟩:=jZ_ h4
  refine ⟨g1,g2,g3,g4,?_,a1,b1,by rw [a2,b2]⟩
  unfold ptX itL;rw [if_pos g1]
 ·unfold ptO at h;rw [if_neg hG] at h;cases h
theorem zc8_ (t:TV) (y rest:List Int) (hb:∀ z ∈ y++rest,0<=z/\z<=255) (hw:wfT t) (h:ptO t=some y):¬ y.length=0/\tbX (y++rest)=0/\tbV (y++rest)=t/\fN (y++rest)=(y.length:Int):=by
 obtain ⟨g1,g2,g3,g4,hX,a1,b1,e⟩:=vE_ h
 have h8:=zcM_ t.2.2.2.2.2.2.1
 rw [<- hX] at h8
 have hi:=hw.i
 obtain ⟨u1,_⟩:=Bz_ (n:=64+((ptX t).length:Int)) (i:=t.1) (by omega) (by omega)
 obtain ⟨n1,n2,n3⟩:=HB_ g4
 obtain ⟨v1,v2⟩:=bg_ (w:=[8,8,4,4]) (xs:=[t.2.2.1,t.2.2.2.1,t.2.2.2.2.1,t.2.2.2.2.2.1]) (ptX t++rest) (fun x hx=>by
  obtain ⟨w1,w2,w3,w4⟩:=hw.n
  simp only [List.mem_cons,List.not_mem_nil,or_false] at hx
  rcases hx with rfl | rfl | rfl | rfl<;>assumption) b1
 have hs:(ZT_ [8,8,4,4]).toNat=24:=by decide
 rw [hs] at v2
 have hfs:=zaC_ t.2.2.2.2.2.2.1 [] g1 hw.f
 rw [<- hX,List.nil_append] at hfs
 rw [u1] at e
 clear h a1 b1 u1
 generalize Qb_ [8,8,4,4] [t.2.2.1,t.2.2.2.1,t.2.2.2.2.1,t.2.2.2.2.2.1]=B at*
 generalize xa_ t.2.1=N at*
 generalize ptX t=X at*
 have l1:(zi_ t.1 1).length=1:=by have:=z1_ (n:=t.1) (w:=1) (by decide);omega
 have l5:(zi_ 0 5).length=5:=by decide
 have hA:(zi_ (64+(X.length:Int)) 2++zi_ t.1 1++zi_ 0 5).length=8:=by rw [List.length_append,List.length_append,jS_,l1,l5]
 have hy:y.length=64+X.length:=by rw [e];simp only [List.length_append,jS_,l1,l5,n3,v2]
 have w1:y++rest=zi_ (64+(X.length:Int)) 2++(zi_ t.1 1++(zi_ 0 5++(N++(B++(X++rest))))):=by rw [e];simp only [List.append_assoc]
 have w2:y++rest=(zi_ (64+(X.length:Int)) 2++zi_ t.1 1++zi_ 0 5)++(N++(B++(X++rest))):=by rw [e];simp only [List.append_assoc]
 have hl:(y++rest).length=64+X.length+rest.length:=by rw [List.length_append,hy]
 generalize y++rest=w at*
 have t2:zs_ (w.take 2)=64+X.length:=by rw [w1,List.take_left' (jS_ _)];exact wnb2 (by omega) (by omega)
 have t8:w.take 8=zi_ (64+(X.length:Int)) 2++zi_ t.1 1++zi_ 0 5:=by rw [w2];exact List.take_left' hA
 have t3:zs_ ((w.take 8).drop 3)=0:=by
  rw [t8,List.drop_left' (by rw [List.length_append,jS_,l1])];decide
 have tI:idY w=t.1:=by
  have d2:w.drop 2=t.1 :: (zi_ 0 5++(N++(B++(X++rest)))):=by
   rw [w1,List.drop_left' (jS_ _),h0_ hi (by omega)];rfl
  rw [zJ_ (show 2 < w.length by omega) 0] at d2
  exact (List.cons.inj d2).1
 have d8:w.drop 8=N++(B++(X++rest)):=by rw [w2];exact List.drop_left' hA
 have tN8:nmY w=N:=by
  unfold nmY
  rw [List.drop_take,d8];exact List.take_left' n3
 have d40:w.drop 40=B++(X++rest):=by
  rw [show 40=8+32 from rfl,<- List.drop_drop,d8];exact List.drop_left' n3
 have hb:=hb
 have hr:rE w=0:=by
  unfold rE
  rw [if_neg (by rw [t2,Int.tmod_eq_emod_of_nonneg (by omega)];omega),if_neg (by rw [t3];decide),if_neg (by rw [tI];omega),if_neg (by rw [tN8,n1];decide)]
 obtain ⟨q1,q2,q3⟩:=zaM_ hb (show ¬ (w.length:Int) < 64 by omega)
 obtain ⟨q3,q4,q5⟩:=q3 hr
 rw [hr] at q1
 rw [t2] at q2
 have hF:fF w=(t.2.2.2.2.2.2.1,0):=by
  unfold fF
  have:(w.take (fN w).toNat).drop 64=X:=by
   rw [q2,List.drop_take,show 64=40+24 from rfl,<- List.drop_drop,d40,List.drop_left' v2]
   rw [show (64+(X.length:Int)).toNat - (40+24)=X.length by omega]
   exact List.take_left
  rw [this];exact hfs
 have hG:KV_ [8,8,4,4] (w.drop 40)=[t.2.2.1,t.2.2.2.1,t.2.2.2.2.1,t.2.2.2.2.2.1]:=by
  unfold KV_;rw [d40,v1]
 refine ⟨by omega,by unfold tbX;rw [if_pos q1,hF],?_,by rw [q2,hy];omega⟩
 have k0:=q5 0 (by decide)
 have k1:=q5 1 (by decide)
 have k2:=q5 2 (by decide)
 have k3:=q5 3 (by decide)
 rw [hG] at k0 k1 k2 k3
 unfold tbV
 rw [q3,q4,tN8,n2,tI,k0,k1,k2,k3,hF];rfl
theorem zc9_ (y:List Int) (hb:∀ x ∈ y,0<=x/\x<=255) (hl:y.length<=65528) (h:tbX y=0):1<=fN y/\fN y<=y.length/\ptO (tbV y)=some (y.take (fN y).toNat):=by
 obtain ⟨c1,c2,c3⟩:=Hj_ h
 have h64:¬ (y.length:Int) < 64:=by omega
 obtain ⟨q1,q2,q3⟩:=zaM_ hb h64
 rw [c1] at q1
 obtain ⟨q3,q4,q5⟩:=q3 q1.symm
 have hr:=q1.symm
 refine ⟨by omega,c3,?_⟩
 by_cases r1:zs_ (y.take 2) < 64\/¬ (zs_ (y.take 2)).tmod 8=0\/(y.length:Int) < zs_ (y.take 2)
 ·rw [rE_n r1] at hr;cases hr
 ·rw [rE_z r1] at hr
  by_cases r2:zs_ ((y.take 8).drop 3)=0
  ·rw [if_neg (not_not_intro r2)] at hr
   by_cases r3:idY y=255
   ·rw [if_pos r3] at hr;cases hr
   ·rw [if_neg r3] at hr
    cases r4:Xu_ (nmY y) with
    | false=>rw [r4,if_pos rfl] at hr;cases hr
    | true=>
      have hnl:(nmY y).length=32:=by unfold nmY;rw [List.length_drop,List.length_take];omega
      obtain ⟨m1,m2⟩:=bu_ hnl r4
      have hF:(fF y).2=0:=by unfold tbX at h;rw [if_pos c1] at h;exact h
      obtain ⟨fs,hfs⟩:∃ fs,fF y=(fs,0):=⟨(fF y).1,Prod.ext rfl hF⟩
      have hfs2:=hfs
      unfold fF at hfs2
      obtain ⟨fr,e1,e2,e3⟩:=zaD_ ((y.take (fN y).toNat).drop 64).length _ [] fs (Nat.le_refl _) (by rw [List.length_drop,List.length_take];omega) (jN_ (QN_ hb _) _) hfs2
      rw [List.nil_append] at e1
      subst e1
      obtain ⟨G1,G2⟩:=UR_ (y:=y.drop 40) (by rw [List.length_drop];omega)
      have k0:=q5 0 (by decide)
      have k1:=q5 1 (by decide)
      have k2:=q5 2 (by decide)
      have k3:=q5 3 (by decide)
      have hG:qY_ [8,8,4,4] (y.drop 40)=([uS (y.take 64) y.length 0,uS (y.take 64) y.length 1,uS (y.take 64) y.length 2,uS (y.take 64) y.length 3],0):=by
       refine Prod.ext ?_ G2
       show KV_ [8,8,4,4] (y.drop 40)=_
       rw [k0,k1,k2,k3,G1];rfl
      obtain ⟨p1,p2,_⟩:=bH_ (jN_ hb 40) hG
      rw [show (ZT_ [8,8,4,4]).toNat=24 by decide] at p2
      have hV:tbV y=(idY y,nmS (nmY y),uS (y.take 64) y.length 0,uS (y.take 64) y.length 1,uS (y.take 64) y.length 2,uS (y.take 64) y.length 3,fs,()):=by
       unfold tbV;rw [q3,q4,hfs]
      have hXl:((y.take (fN y).toNat).drop 64).length=(fN y).toNat - 64:=by rw [List.length_drop,List.length_take];omega
      have hX:ptX (tbV y)=(y.take (fN y).toNat).drop 64:=by
       rw [hV];unfold ptX itL
       show jnP (if gdF [] fs=true then fs.map itF else [])=_
       rw [if_pos (show gdF [] fs=true from e2)];exact e3
      have hN:64+((ptX (tbV y)).length:Int)=fN y:=by rw [hX,hXl];omega
      have hid:0<=idY y/\idY y<=255:=by
       unfold idY
       have:=hb (y.getD 2 0) (zv_ (by omega) 0)
       exact this
      have hG2:ptG (tbV y)=true:=Y2_.2 ⟨by rw [hV];exact e2,by rw [hN];omega,by rw [hV];show idY y<=254;omega,by rw [hV];exact m1⟩
      obtain ⟨u1,u2⟩:=Bz_ (n:=fN y) (i:=idY y) (by omega) hid
      have hn2:fN y=zs_ (y.take 2):=q2
      have s1:zi_ (fN y) 2=y.take 2:=by rw [hn2];exact b4_ (QN_ hb 2) (by rw [List.length_take];omega)
      have s2:zi_ (idY y) 1=(y.drop 2).take 1:=by
       rw [h0_ hid.1 hid.2,zJ_ (show 2 < y.length by omega) 0];rfl
      have s3:zi_ 0 5=(y.drop 3).take 5:=by
       have hz:zY_ ((y.take 8).drop 3)=true:=(gS_ fun x hx=>(jN_ (QN_ hb 8) 3 x hx).1).1 r2
       have:=xY_ hz
       rw [List.length_drop,List.length_take,Nat.min_eq_left (by omega)] at this
       rw [List.drop_take] at this
       rw [Vq_];exact this.symm
      have s4:zi_ (fN y) 2++zi_ (idY y) 1++zi_ 0 5=y.take 8:=by
       rw [s1,s2,s3,<- List.take_add,<- List.take_add]
      unfold ptO
      rw [if_pos hG2,hN,hX,hV]
      show wM_ (wM_ (wM_ (wU_ [2,1,-5] [fN y,idY y]) (some (xa_ (nmS (nmY y))))) (wU_ [8,8,4,4] [_,_,_,_])) (some _)=_
      unfold wU_
      rw [if_pos u2,if_pos p1,u1,p2,m2,s4]
      show some (y.take 8++nmY y++(y.drop 40).take 24++(y.take (fN y).toNat).drop 64)=_
      congr 1
      have z1:y.take 8++nmY y=y.take 40:=by
       unfold nmY
       rw [List.drop_take,<- List.take_add]
      rw [z1,<- List.take_add]
      have:=List.take_append_drop 64 (y.take (fN y).toNat)
      rw [List.take_take,Nat.min_eq_left (by omega)] at this
      exact this
  ·rw [if_pos r2] at hr;cases hr
theorem rtE {α:Type} {W:α->Prop} {B:List Int->Prop} {o:α->Option (List Int)} {E N P:List Int->Int} {V:List Int->α} (hB:∀ y k,B y->B (y.drop k)) (h:∀ x y rest,B (y++rest)->W x->o x=some y->¬ y.length=0/\E (y++rest)=0/\V (y++rest)=x/\N (y++rest)=(y.length:Int)):∀ (l:List α) (y:List Int),B y->(∀ x ∈ l,W x)->jb_ o l=some y->gG E N P V y=(l,0,(y.length:Int))
 | [],y,_,_,hy=>by cases hy;exact US_ rfl
 | x :: r,y,hb,hw,hy=>by
   obtain ⟨p,q,h1,h2,h3⟩:=ZQ_ hy
   subst h3
   obtain ⟨a1,a2,a3,a4⟩:=h x p q hb (hw x (List.mem_cons_self ..)) h1
   have hq:B q:=by have:=hB _ p.length hb;rwa [List.drop_left] at this
   have ih:=rtE (P:=P) hB h r q hq (fun z hz=>hw z (List.mem_cons_of_mem _ hz)) h2
   rw [zaA_ (by rw [List.length_append];omega) a2 (by omega),a3,a4,Int.toNat_natCast,List.drop_left,ih]
   refine Prod.ext rfl (Prod.ext rfl ?_)
   show (p.length:Int)+(q.length:Int)=((p++q).length:Nat)
   rw [List.length_append];omega
theorem rtD {α:Type} {B:List Int->Prop} {o:α->Option (List Int)} {E N P:List Int->Int} {V:List Int->α} (hB:∀ y k,B y->B (y.drop k)) (h:∀ y:List Int,B y->¬ y.length=0->E y=0->1<=N y/\N y<=y.length/\o (V y)=some (y.take (N y).toNat)):∀ (n:Nat) (y:List Int),y.length<=n->B y->(gG E N P V y).2.1=0->jb_ o (gG E N P V y).1=some y
 | 0,y,hn,_,_=>by
   have e:y=[]:=List.eq_nil_of_length_eq_zero (by omega)
   subst e;rw [US_ rfl];rfl
 | n+1,y,hn,hb,h0=>by
   by_cases hz:y.length=0
   ·have e:y=[]:=List.eq_nil_of_length_eq_zero hz
    subst e;rw [US_ rfl];rfl
   ·by_cases he:E y=0
    ·obtain ⟨h1,h2,h3⟩:=h y hb hz he
     rw [zaA_ hz he h1] at h0 ⊢
     have ih:=rtD (P:=P) hB h n (y.drop (N y).toNat) (by rw [List.length_drop];omega) (hB _ _ hb) h0
     show wM_ (o (V y)) (jb_ o _)=_
     rw [h3,ih]
     show some (_++_)=_
     rw [List.take_append_drop]
    ·rw [zaB_ hz he] at h0;exact absurd h0 he
theorem Un_:∀ (w xs b r:List Int),(∀ n ∈ w,n ≠ 0/\n<=8/\-64<=n)->qE_ w xs b=some r->(r.length:Int)=b.length+(w.map zp_).sum
 | [],xs,b,r,_,h=>by simp only [qE_,Option.some.injEq] at h;subst h;simp
 | n :: w,xs,b,r,hw,h=>by
   have hn:=hw n (by simp)
   have hw':∀ n ∈ w,n ≠ 0/\n<=8/\-64<=n:=fun m hm=>hw m (by simp [hm])
   simp only [qE_] at h
   split at h
   ·have ih:=Un_ w _ _ r hw' h
    have hl:=z1_ (n:=0) (w:=0 - n) (by omega)
    rw [List.length_append] at ih
    rw [List.map_cons,List.sum_cons,jd_ (by assumption)];omega
   ·cases xs with
    | nil=>cases h
    | cons x ys=>
      simp only at h
      split at h
      ·cases h
      ·have ih:=Un_ w _ _ r hw' h
       have hl:=z1_ (n:=x) (w:=n) (by omega)
       rw [List.length_append] at ih
       rw [List.map_cons,List.sum_cons,J0_ (by assumption)];omega
theorem Y1_ {w xs:List Int} (hk:Kr_ w xs=true):((Qb_ w xs).length:Int)=ZT_ w:=by
 unfold Kr_ at hk
 obtain ⟨r,hr⟩:=Option.isSome_iff_exists.1 hk
 have hb:Qb_ w xs=r:=by unfold Qb_;rw [hr];rfl
 rw [hb]
 unfold jG_ at hr
 split at hr
 ·rename_i h
  have:=Un_ w xs [] r (Zu_.1 h.1).2 hr
  unfold ZT_;rw [if_pos h.1,this];simp
 ·cases hr
theorem zeo_ {lim:Int} {v:Option (List Int)} (h:(fnG lim v).2=0):∃ y,v=some y/\fnG lim v=(y,0)/\(y.length:Int)<=lim:=by
 cases v with
 | none=>cases h
 | some y=>
   unfold fnG at h ⊢
   dsimp only at h ⊢
   by_cases c:lim < (y.length:Int)
   ·rw [if_pos c] at h;cases h
   ·rw [if_neg c];exact ⟨y,rfl,rfl,by omega⟩
theorem zcP_ {lim:Int} {y:List Int} (h:(y.length:Int)<=lim):fnG lim (some y)=(y,0):=by unfold fnG;dsimp only;rw [if_neg (by omega)]
def byP (y:List Int):Prop:=∀ x ∈ y,0<=x/\x<=255
theorem qZ_ {a b:List Int} (ha:byP a) (hb:byP b):byP (a++b):=fun x hx=>(List.mem_append.1 hx).elim (ha x) (hb x)
theorem HU_ (n w:Int):byP (zi_ n w):=GD_ n w
theorem zcR_ (k:Nat):byP (List.replicate k 0):=fun x hx=>by rw [List.eq_of_mem_replicate hx];decide
theorem Uo_:∀ (w xs b y:List Int),byP b->qE_ w xs b=some y->byP y
 | [],_,b,y,hb,h=>by cases h;exact hb
 | n :: r,xs,b,y,hb,h=>by
   unfold qE_ at h
   split at h
   ·exact Uo_ r xs _ y (qZ_ hb (HU_ _ _)) h
   ·split at h
    ·cases h
    ·split at h
     ·cases h
     ·exact Uo_ r _ _ y (qZ_ hb (HU_ _ _)) h
theorem Um_ (w xs:List Int):byP (Qb_ w xs):=by
 unfold Qb_ jG_
 split
 ·cases h:qE_ w xs [] with
  | none=>exact fun x hx=>(by cases hx)
  | some y=>exact Uo_ w xs [] y (fun x hx=>(by cases hx)) h
 ·exact fun x hx=>(by cases hx)
theorem Ho_ {w n y:List Int} (h:wU_ w n=some y):byP y:=by
 obtain ⟨_,rfl⟩:=jZ_ h;exact Um_ w n
theorem B0_ {t n:Int} {y:List Int} (h:nbO t n=some y):byP y/\1<=y.length:=by
 unfold nbO at h
 split at h
 ·obtain ⟨h1,h2⟩:=jZ_ h
  have hl:(y.length:Int)=ZT_ [2,2]:=by rw [<- h2];exact Y1_ h1
  rw [show ZT_ [2,2]=4 by decide] at hl
  exact ⟨Ho_ h,by omega⟩
 ·split at h
  ·cases h
  ·obtain ⟨h1,h2⟩:=jZ_ h
   have hl:(y.length:Int)=ZT_ [wdT t]:=by rw [<- h2];exact Y1_ h1
   have:1<=ZT_ [wdT t]:=by unfold wdT;split<;>decide
   exact ⟨Ho_ h,by omega⟩
theorem HY_ {α:Type} {o:α->Option (List Int)} (hb:∀ x y,o x=some y->byP y):∀ (l:List α) (y:List Int),jb_ o l=some y->byP y
 | [],y,h=>by cases h;exact fun x hx=>(by cases hx)
 | x :: r,y,h=>by
   obtain ⟨p,q,h1,h2,rfl⟩:=ZQ_ h
   exact qZ_ (hb x p h1) (HY_ hb r q h2)
theorem U7_ {α:Type} {o:α->Option (List Int)} {k:Nat} (hb:∀ x y,o x=some y->k<=y.length):∀ (l:List α) (y:List Int),jb_ o l=some y->k*l.length<=y.length
 | [],y,h=>by cases h;simp
 | x :: r,y,h=>by
   obtain ⟨p,q,h1,h2,rfl⟩:=ZQ_ h
   have a:=hb x p h1
   have b:=U7_ hb r q h2
   rw [List.length_cons,List.length_append,Nat.mul_succ];omega
theorem GN_ {α:Type} {o:α->Option (List Int)}:∀ {l:List α} {y:List Int},jb_ o l=some y->∀ x ∈ l,∃ z,o x=some z/\z.length<=y.length
 | [],y,_,x,hx=>by cases hx
 | a :: r,y,h,x,hx=>by
   obtain ⟨p,q,h1,h2,rfl⟩:=ZQ_ h
   rw [List.length_append]
   rcases List.mem_cons.1 hx with rfl | hx
   ·exact ⟨p,h1,by omega⟩
   ·obtain ⟨z,h3,h4⟩:=GN_ h2 x hx
    exact ⟨z,h3,by omega⟩
theorem zdD_ {f:FV} (h:fbK f=true) (hd:byP f.2.2.1):byP (fbY f):=by
 obtain ⟨_,p,hp,hY,_⟩:=Vj_ h
 rw [hY]
 exact qZ_ (HY_ (fun x y h=>(B0_ h).1) _ _ hp) hd
theorem zah_:∀ (l:List FV),(∀ f ∈ l,fbK f=true/\byP f.2.2.1)->byP (jnP (l.map itF))
 | [],_=>fun x hx=>(by cases hx)
 | f :: r,h=>by
   obtain ⟨h1,h2⟩:=h f (List.mem_cons_self ..)
   rw [Wh_]
   refine qZ_ ?_ (zah_ r fun g hg=>h g (List.mem_cons_of_mem _ hg))
   unfold enP enH
   exact qZ_ (qZ_ (qZ_ (HU_ _ _) (HU_ _ _)) (zdD_ h1 h2)) (zcR_ _)
theorem zbT_ {s:List Int} (h:q7_ s=true):byP (xa_ s):=by
 unfold xa_
 exact qZ_ (fun x hx=>by have:=zcH_.1 ((UA_.1 h).2 x hx);omega) (zcR_ _)
theorem zd2_ {t:TV} {y:List Int} (hw:wfT t) (h:ptO t=some y):byP y:=by
 obtain ⟨g1,g2,g3,g4,hX,a1,b1,e⟩:=vE_ h
 rw [e,hX]
 exact qZ_ (qZ_ (qZ_ (Um_ _ _) (zbT_ g4)) (Um_ _ _)) (zah_ _ fun f hf=>⟨va_ g1 f hf,hw.d f hf⟩)
theorem GO_ {α:Type} {W:α->Prop} {o:α->Option (List Int)} (hb:∀ x y,W x->o x=some y->byP y):∀ (l:List α) (y:List Int),(∀ x ∈ l,W x)->jb_ o l=some y->byP y
 | [],y,_,h=>by cases h;exact fun x hx=>(by cases hx)
 | x :: r,y,hw,h=>by
   obtain ⟨p,q,h1,h2,rfl⟩:=ZQ_ h
   exact qZ_ (hb x p (hw x (List.mem_cons_self ..)) h1) (GO_ hb r q (fun z hz=>hw z (List.mem_cons_of_mem _ hz)) h2)
theorem zdV_ {l:List TV} (hw:∀ t ∈ l,wfT t) (h:tbE l=0):fdE (tbL l)=0/\fdL (tbL l)=l:=by
 unfold tbE at h
 obtain ⟨y,h1,h2,h3⟩:=zeo_ h
 have hL:tbL l=y:=by unfold tbL;rw [h2]
 have hb:=GO_ (fun x y hx h=>zd2_ hx h) l y hw h1
 have hg:fdG y=(l,0,(y.length:Int)):=rtE (W:=wfT) (B:=byP) (fun y k hy x hx=>hy x (List.mem_of_mem_drop hx)) (fun x y rest hb hw h=>zc8_ x y rest hb hw h) l y hb hw h1
 have hE:fdE y=0:=by unfold fdE;rw [hg]
 rw [hL]
 exact ⟨hE,by unfold fdL;rw [if_pos (show (fdG y).2.1=0 from hE),hg]⟩
theorem zcL_:∀ (l:List FV),8*l.length<=(jnP (l.map itF)).length/\∀ f ∈ l,(fbY f).length<=(jnP (l.map itF)).length
 | []=>⟨Nat.le_refl _,fun f hf=>(by cases hf)⟩
 | f :: r=>by
   obtain ⟨h1,h2⟩:=zcL_ r
   have h3:=XG_ f.1 (fbY f)
   have h4:=VI_ (n:=4+((fbY f).length:Int)) (by omega)
   rw [Wh_,List.length_append,List.length_cons]
   refine ⟨by omega,fun g hg=>?_⟩
   rcases List.mem_cons.1 hg with rfl | hg
   ·omega
   ·have:=h2 g hg;omega
theorem zcE_ {t:TV} {y:List Int} (h:ptO t=some y) (hl:y.length<=3000):okF t.2.2.2.2.2.2.1/\64<=y.length:=by
 obtain ⟨g1,g2,g3,g4,hX,a1,b1,e⟩:=vE_ h
 have l1:=Y1_ a1
 have l2:=Y1_ b1
 rw [show ZT_ [2,1,-5]=8 by decide] at l1
 rw [show ZT_ [8,8,4,4]=24 by decide] at l2
 have l3:=(HB_ g4).2.2
 have hy:y.length=64+(ptX t).length:=by rw [e];simp only [List.length_append];omega
 obtain ⟨n1,n2⟩:=zcL_ t.2.2.2.2.2.2.1
 rw [<- hX] at n1 n2
 refine ⟨⟨fun f hf=>?_,by omega⟩,by omega⟩
 have h5:=n2 f hf
 obtain ⟨_,p,hp,hY,_⟩:=Vj_ (va_ g1 f hf)
 have h6:=U7_ (k:=1) (fun x y h=>(B0_ h).2) _ _ hp
 have h7:(fbY f).length=p.length+f.2.2.1.length:=by rw [hY,List.length_append]
 omega
theorem zc1_ {y:List Int} (hb:∀ x ∈ y,0<=x/\x<=255) (hl:y.length<=3000) (h:fdE y=0):okT (fdL y)/\tbE (fdL y)=0/\tbL (fdL y)=y:=by
 have hL:fdL y=(fdG y).1:=if_pos h
 have hA:jb_ ptO (fdL y)=some y:=by
  rw [hL]
  exact rtD (B:=fun y=>byP y/\y.length<=65528) (fun y k hy=>⟨fun x hx=>hy.1 x (List.mem_of_mem_drop hx),by rw [List.length_drop];have:=hy.2;omega⟩) (fun y hy _ he=>zc9_ y hy.1 hy.2 he) y.length y (Nat.le_refl _) ⟨hb,by omega⟩ h
 have hn:=U7_ (k:=64) (o:=fun t=>if (∃ z,ptO t=some z/\z.length<=3000) then ptO t else none) (fun x z hz=>by
  split at hz
  ·rename_i hc
   obtain ⟨z',h1,h2⟩:=hc
   rw [h1] at hz;cases hz
   exact (zcE_ h1 h2).2
  ·cases hz) (fdL y) y (by
  have key:∀ (l:List TV) (w:List Int),w.length<=3000->jb_ ptO l=some w->jb_ (fun t=>if (∃ z,ptO t=some z/\z.length<=3000) then ptO t else none) l=some w:=by
   intro l
   induction l with
   | nil=>intro w _ h;exact h
   | cons t r ih=>
     intro w hw h
     obtain ⟨p,q,h1,h2,rfl⟩:=ZQ_ h
     rw [List.length_append] at hw
     show wM_ (if _ then _ else _) (jb_ _ r)=_
     rw [if_pos ⟨p,h1,by omega⟩,h1,ih q (by omega) h2];rfl
  exact key _ _ hl hA)
 refine ⟨⟨fun t ht=>?_,by omega⟩,?_,?_⟩
 ·obtain ⟨z,h1,h2⟩:=GN_ hA t ht
  exact (zcE_ h1 (by omega)).1
 ·unfold tbE;rw [hA,zcP_ (by omega)]
 ·unfold tbL;rw [hA,zcP_ (by omega)]
theorem fd_8:∀ (n:Nat) (y:List Int),y.length<=n->(fdG y).2.1=0->y.length % 8=0
 | 0,y,hn,_=>by omega
 | n+1,y,hn,h=>by
   by_cases h0:y.length=0
   ·omega
   ·by_cases h1:tbX y=0
    ·obtain ⟨k1,k2,k3⟩:=Hj_ h1
     have k4:=(HO_ k1).2.2.2
     rw [zaJ_ h0 h1] at h
     have ih:=fd_8 n (y.drop (fN y).toNat) (by rw [List.length_drop];omega) h
     rw [List.length_drop] at ih
     rw [Int.tmod_eq_emod_of_nonneg (by omega)] at k4
     omega
    ·rw [zaK_ h0 h1] at h;exact absurd h h1
theorem zb8_ {y:List Int} (h:fdE y=0) (h0:0 < y.length):¬ fdE (y.take ((y.length:Int) - 1).toNat)=0:=fun h2=>by
 have h3:=fd_8 y.length y (Nat.le_refl _) h
 have h4:=fd_8 _ (y.take ((y.length:Int) - 1).toNat) (Nat.le_refl _) h2
 rw [List.length_take] at h4
 omega
theorem zb7_ {y:List Int} (h:¬ fdE y=0):fdL y=[]:=if_neg h
theorem zc0_ {l:List TV} (h:Ty.wf (.sl YA) l):∀ t ∈ l,wfT t:=fun t ht=>by
 obtain ⟨h1,h2,h3,h4,h5,h6,h7,_⟩:=h.1 t ht
 have u64:∀ {n:Int},Ty.wf (.int .u64) n->0<=n/\n<=18446744073709551615:=fun {n} hn=>by
  unfold Ty.wf inK at hn;rw [Y8_,UC_] at hn;exact hn
 refine ⟨(u64 h1).1,⟨u64 h3,u64 h4,u64 h5,u64 h6⟩,fun f hf x hx=>?_,fun f hf x hx=>?_⟩
 ·obtain ⟨_,g2,_,_⟩:=h7.1 f hf
  exact u64 (g2.1 x hx)
 ·obtain ⟨_,_,g3,_⟩:=h7.1 f hf
  exact g3.1 x hx
end Go.Eng
