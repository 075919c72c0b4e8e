/- Parts of the proof: V6, V4, V5, M4, M5, M6, M7, M8. No condition. -/
import Derived.Test.YteihcoggfaenaaaGreatDoorProg
import Derived.Test.YteihcoggfaenaaaGreatDoorWH10
import Derived.KernelRfl
import Derived.Test.YteihcoggfaenaaaGreatDoorWH17
import Derived.Test.YteihcoggfaenaaaGreatDoorWH15
import Derived.Test.YteihcoggfaenaaaGreatDoorWH13
namespace Go.Eng
open Go.Proofs
set_option linter.unusedVariables false
set_option linter.unusedSimpArgs false
set_option maxRecDepth 100000
set_option maxHeartbeats 1000000
def H9_ (x:List Int):Bool:=decide (x.length<=400)
def zd3_ (x:List Int):Bool:=decide (x.length<=30)
def fwPa (p:VPa):Bool:=p.2.1.all H9_ && (p.2.2.2.2.2.2.1.all zd3_ && (decide (p.1.length<=60) && decide (p.2.1.length<=20) && decide (p.2.2.2.2.2.2.1.length<=40) && decide (p.2.2.2.2.2.2.2.2.2.1.length<=2000) && fewO p.2.2.1 && xx_ p.2.2.2.1 && fewB p.2.2.2.2.1 && vb_ p.2.2.2.2.2.1 && fewP p.2.2.2.2.2.2.2.1 && X8_ p.2.2.2.2.2.2.2.2.1))
def UH_:IR:=
(sq (kr [0] [oD 1 (.boxv 0),
oD 2 (.mov cF)])
(sq (sq (.reg [oD 3 (.mov (cI 0))])
(.block 0
(.loop
(sq (sq (kr [1,3] [oM 5 3,
oA 6 1 1,
oL 7 6,
oE 8 7,
oB 9 .lss 5 8])
(.cond 9
.skip
(.exit 0)))
(sq (.block 1
(sq (kr [1,3] [oA 12 1 1,
oL 13 12,
oM 14 3,
oI 15 1 13 14,
oL 16 15,
oD 17 (.slen 16),
oB 18 .gtr 17 (cI 400)])
(.cond 18
(sq (kr [] [oD 2 (.mov cF)])
.ret)
.skip)))
(kr [1,3] [oM 10 3,
oB 11 .add 10 (cI 1),
oM 3 11]))))))
(sq (sq (kr [1] [oD 4 (.mov (cI 0))])
(.block 2
(.loop
(sq (sq (kr [1,4] [oM 19 4,
oA 20 6 1,
oL 21 20,
oE 22 21,
oB 23 .lss 19 22])
(.cond 23
.skip
(.exit 2)))
(sq (.block 3
(sq (kr [1,4] [oA 26 6 1,
oL 27 26,
oM 28 4,
oI 29 1 27 28,
oL 30 29,
oE 31 30,
oB 32 .gtr 31 (cI 30)])
(.cond 32
(sq (kr [] [oD 2 (.mov cF)])
.ret)
.skip)))
(kr [1,4] [oM 24 4,
oB 25 .add 24 (cI 1),
oM 4 25]))))))
(sq (kr [1] [oA 33 0 1,
oL 34 33,
oE 35 34,
oB 36 .leq 35 (cI 60),
oM 37 36,
oT 37 38 (.fieldAddr 1 1),
oT 37 39 (.load none 38),
oT 37 40 (.len 39),
oT 37 41 (.bin .leq 40 (cI 20)),
oP 42 37 41 cF,
oM 43 42,
oT 43 44 (.fieldAddr 6 1),
oT 43 45 (.load none 44),
oT 43 46 (.len 45),
oT 43 47 (.bin .leq 46 (cI 40)),
oP 48 43 47 cF,
oM 49 48,
oT 49 50 (.fieldAddr 9 1),
oT 49 51 (.load none 50),
oT 49 52 (.len 51),
oT 49 53 (.bin .leq 52 (cI 2000)),
oP 54 49 53 cF,
oM 55 54,
oT 55 56 (.fieldAddr 2 1),
oT 55 57 (.load none 56),
oT 55 58 (.call false (.f 18) [57]),
oP 59 55 58 cF,
oM 60 59,
oT 60 61 (.fieldAddr 3 1),
oT 60 62 (.load none 61),
oT 60 63 (.call false (.f 20) [62]),
oP 64 60 63 cF,
oM 65 64,
oT 65 66 (.fieldAddr 4 1),
oT 65 67 (.load none 66),
oT 65 68 (.call false (.f 21) [67]),
oP 69 65 68 cF,
oM 70 69,
oT 70 71 (.fieldAddr 5 1),
oT 70 72 (.load none 71),
oT 70 73 (.call false (.f 22) [72]),
oP 74 70 73 cF,
oM 75 74,
oT 75 76 (.fieldAddr 7 1),
oT 75 77 (.load none 76),
oT 75 78 (.call false (.f 24) [77]),
oP 79 75 78 cF,
oM 80 79,
oT 80 81 (.fieldAddr 8 1),
oT 80 82 (.load none 81),
oT 80 83 (.call false (.f 61) [82]),
oP 84 80 83 cF,
oM 2 84])
.ret))))
def uO_:List RD:=[.tmp 2 true none]
theorem Uh_:zj_ Tryz.prog Tryz.f17 UH_ uO_=true:=by kernel_rfl
def jN_:List AV->List Obj->Option (Prop × AV)
 | [.agg zz0],[]=>Jn_ YC zz0 fun ⟨a0,a1,a2,a3,a4,a5,a6,a7,a8,a9,_⟩=>some ((True,.bool (fwPa (a0,a1,a2,a3,a4,a5,a6,a7,a8,a9,()))))
 | _,_=>none
theorem Vd_:zd_ Tryz.prog 17 (RoF jN_).sum:=by
 refine zi_ Tryz.func17 Uh_ (za_ (s:=RoF Xm_) vJ_ (za_ (s:=RoF Xl_) vI_ (za_ (s:=RoF Xk_) vH_ (za_ (s:=RoF Xj_) vG_ (za_ (s:=RoF Xi_) vF_ (za_ (s:=RoF vq_) b6_ (zc_ _))))))) fun args objs p v e=>?_
 unfold jN_ at e
 split at e
 ·rename_i zz0
  replace e:=qR_ e
  obtain ⟨⟨a0,a1,a2,a3,a4,a5,a6,a7,a8,a9,_⟩,hz,e⟩:=e
  replace hz:zz0=[.imm (.int .u64) a0,.imm .str a1,.imm Y1 a2,.imm Y3 a3,.imm Y4 a4,.imm Y5 a5,.imm (.sl (.int .u64)) a6,.imm Y8 a7,.imm YA a8,.imm (.int .u8) a9]:=hz
  subst hz
  cases e
  refine ⟨rfl,fun hw ho hp=>?_⟩
  change List Int at a0
  change List Int at a9
  change List (List Int) at a1
  change List (List Int) at a6
  have hl1:a1.length<=maxLen:=(hw _ (List.mem_cons_self ..) (.imm .str a1) (by simp)).2
  have hl6:a6.length<=maxLen:=(hw _ (List.mem_cons_self ..) (.imm (.sl (.int .u64)) a6) (by simp)).2
  unfold maxLen at hl1 hl6
  clear hw ho
  repeat'(intro t ht;first|(cases t<;>first|(cases ht;done)|(try simp only[zg_]at ht))|((first|refine zb_ ht ?_|refine ht ?_ ?_|refine ht.1 ?_ ?_|refine ht ?_)<;>clear ht))
  all_goals first
   | (intro r h1 h2;clear h1;refine h2 ⟨[1,3],Nat,(fun i=>i<=a1.length/\(a1.take i).all H9_=true),fun i=>[.ptr 0 0,.int .i64 i],fun _=>[.box [.imm (.int .u64) a0,.imm .str a1,.imm Y1 a2,.imm Y3 a3,.imm Y4 a4,.imm Y5 a5,.imm (.sl (.int .u64)) a6,.imm Y8 a7,.imm YA a8,.imm (.int .u8) a9]],fun i=>a1.length - i,⟨0,⟨Nat.zero_le _,rfl⟩,rfl,rfl⟩,?_⟩;clear h2)
   | skip
  rintro i ⟨hi,he⟩
  repeat'(intro t ht;first|(cases t<;>first|(cases ht;done)|(try simp only[zg_]at ht;try(exfalso;first|contradiction|omega)))|((first|refine zb_ ht ?_|refine ht ?_ ?_|refine ht.1 ?_ ?_|refine ht ?_)<;>clear ht))
  all_goals (try generalize (Ty.dflt .str)=od at*)
  all_goals first
   | exact True.intro
   | ((try simp only [zm_,zn_,zl_] at*);omega)
   | (have hf:H9_ (a1.getD i od)=true:=decide_eq_true (by omega)
      exact ⟨i+1,⟨by omega,Zv_ (d:=od) (by omega) he hf⟩,by dsimp only;omega,rfl,rfl⟩)
   | (have hf:H9_ (a1.getD i od)=false:=decide_eq_false (by omega)
      refine ⟨?_,rfl⟩;unfold fwPa;rw [ZF_ (d:=od) (show i < a1.length by omega) hf,Bool.false_and];done)
   | (intro r h1 h2;clear h1;refine h2 ⟨[1,4],Nat,(fun i=>i<=a6.length/\(a6.take i).all zd3_=true),fun i=>[.ptr 0 0,.int .i64 i],fun _=>[.box [.imm (.int .u64) a0,.imm .str a1,.imm Y1 a2,.imm Y3 a3,.imm Y4 a4,.imm Y5 a5,.imm (.sl (.int .u64)) a6,.imm Y8 a7,.imm YA a8,.imm (.int .u8) a9]],fun i=>a6.length - i,⟨0,⟨Nat.zero_le _,rfl⟩,rfl,rfl⟩,?_⟩;clear h2)
   | skip
  have h1:=Z0_ (by omega) he
  rintro j ⟨hj,hje⟩
  repeat'(intro t ht;first|(cases t<;>first|(cases ht;done)|(try simp only[zg_]at ht;try(exfalso;first|contradiction|omega)))|((first|refine zb_ ht ?_|refine ht ?_ ?_|refine ht.1 ?_ ?_|refine ht ?_)<;>clear ht))
  all_goals (try generalize (Ty.dflt (.sl (.int .u64)))=od at*)
  all_goals first
   | exact True.intro
   | ((try simp only [zm_,zn_,zl_] at*);omega)
   | (have hf:zd3_ (a6.getD j od)=true:=decide_eq_true (by omega)
      exact ⟨j+1,⟨by omega,Zv_ (d:=od) (by omega) hje hf⟩,by dsimp only;omega,rfl,rfl⟩)
   | (have hf:zd3_ (a6.getD j od)=false:=decide_eq_false (by omega)
      refine ⟨?_,rfl⟩;unfold fwPa;rw [h1,ZF_ (d:=od) (show j < a6.length by omega) hf,Bool.false_and,Bool.and_false];done)
   | (have h6:=Z0_ (by omega) hje
      refine ⟨congrArg AV.bool ?_,rfl⟩;unfold fwPa;rw [h1,h6,Bool.true_and,Bool.true_and];dsimp only;first | (rw [decide_eq_false (show ¬ a0.length<=60 by omega)];simp;done) | (rw [decide_eq_false (show ¬ a1.length<=20 by omega)];simp;done) | (rw [decide_eq_false (show ¬ a6.length<=40 by omega)];simp;done) | (rw [decide_eq_false (show ¬ a9.length<=2000 by omega)];simp;done) | (simp_all;done) | (rw [decide_eq_true (show a0.length<=60 by omega),decide_eq_true (show a1.length<=20 by omega),decide_eq_true (show a6.length<=40 by omega),decide_eq_true (show a9.length<=2000 by omega)];simp [qd_, *];done))
   | skip
 ·cases e
def ua_ (x:VEl):Bool:=decide (x.2.1.length<=500)
def fwMs (p:VMs):Bool:=p.2.2.2.2.1.all ua_ && (p.2.2.2.2.2.2.2.2.2.2.2.2.2.2.1.all fwPa && (decide (p.2.2.1.length<=60) && decide (p.2.2.2.1.length<=3000) && decide (p.2.2.2.2.1.length<=20) && decide (p.2.2.2.2.2.2.2.2.2.2.2.2.2.2.1.length<=12) && fewO p.2.2.2.2.2.1 && bD_ p.2.2.2.2.2.2.1 && xx_ p.2.2.2.2.2.2.2.1 && fewB p.2.2.2.2.2.2.2.2.1 && vb_ p.2.2.2.2.2.2.2.2.2.1 && X9_ p.2.2.2.2.2.2.2.2.2.2.1 && fewP p.2.2.2.2.2.2.2.2.2.2.2.1))
def zcQ_:IR:=
(sq (kr [0] [oD 1 (.boxv 0),
oD 2 (.mov cF)])
(sq (sq (.reg [oD 3 (.mov (cI 0))])
(.block 0
(.loop
(sq (sq (kr [1,3] [oM 5 3,
oA 6 4 1,
oL 7 6,
oE 8 7,
oB 9 .lss 5 8])
(.cond 9
.skip
(.exit 0)))
(sq (.block 1
(sq (kr [1,3] [oA 12 4 1,
oL 13 12,
oM 14 3,
oI 15 2 13 14,
oA 16 1 15,
oL 17 16,
oE 18 17,
oB 19 .gtr 18 (cI 500)])
(.cond 19
(sq (kr [] [oD 2 (.mov cF)])
.ret)
.skip)))
(kr [1,3] [oM 10 3,
oB 11 .add 10 (cI 1),
oM 3 11]))))))
(sq (sq (kr [1] [oD 4 (.mov (cI 0))])
(.block 2
(.loop
(sq (sq (kr [1,4] [oM 20 4,
oA 21 14 1,
oL 22 21,
oE 23 22,
oB 24 .lss 20 23])
(.cond 24
.skip
(.exit 2)))
(sq (.block 3
(sq (kr [1,4] [oA 27 14 1,
oL 28 27,
oM 29 4,
oI 30 10 28 29,
oK 31 10 30,
oC 32 17 [31],
oD 33 (.un .not 32)])
(.cond 33
(sq (kr [] [oD 2 (.mov cF)])
.ret)
.skip)))
(kr [1,4] [oM 25 4,
oB 26 .add 25 (cI 1),
oM 4 26]))))))
(sq (kr [1] [oA 34 2 1,
oL 35 34,
oE 36 35,
oB 37 .leq 36 (cI 60),
oM 38 37,
oT 38 39 (.fieldAddr 3 1),
oT 38 40 (.load none 39),
oT 38 41 (.len 40),
oT 38 42 (.bin .leq 41 (cI 3000)),
oP 43 38 42 cF,
oM 44 43,
oT 44 45 (.fieldAddr 4 1),
oT 44 46 (.load none 45),
oT 44 47 (.len 46),
oT 44 48 (.bin .leq 47 (cI 20)),
oP 49 44 48 cF,
oM 50 49,
oT 50 51 (.fieldAddr 14 1),
oT 50 52 (.load none 51),
oT 50 53 (.len 52),
oT 50 54 (.bin .leq 53 (cI 12)),
oP 55 50 54 cF,
oM 56 55,
oT 56 57 (.fieldAddr 5 1),
oT 56 58 (.load none 57),
oT 56 59 (.call false (.f 18) [58]),
oP 60 56 59 cF,
oM 61 60,
oT 61 62 (.fieldAddr 6 1),
oT 61 63 (.load none 62),
oT 61 64 (.call false (.f 19) [63]),
oP 65 61 64 cF,
oM 66 65,
oT 66 67 (.fieldAddr 7 1),
oT 66 68 (.load none 67),
oT 66 69 (.call false (.f 20) [68]),
oP 70 66 69 cF,
oM 71 70,
oT 71 72 (.fieldAddr 8 1),
oT 71 73 (.load none 72),
oT 71 74 (.call false (.f 21) [73]),
oP 75 71 74 cF,
oM 76 75,
oT 76 77 (.fieldAddr 9 1),
oT 76 78 (.load none 77),
oT 76 79 (.call false (.f 22) [78]),
oP 80 76 79 cF,
oM 81 80,
oT 81 82 (.fieldAddr 10 1),
oT 81 83 (.load none 82),
oT 81 84 (.call false (.f 23) [83]),
oP 85 81 84 cF,
oM 86 85,
oT 86 87 (.fieldAddr 11 1),
oT 86 88 (.load none 87),
oT 86 89 (.call false (.f 24) [88]),
oP 90 86 89 cF,
oM 2 90])
.ret))))
def zbZ_:List RD:=[.tmp 2 true none]
theorem zcj_:zj_ Tryz.prog Tryz.f7 zcQ_ zbZ_=true:=by kernel_rfl
def Xh_:List AV->List Obj->Option (Prop × AV)
 | [.agg zz0],[]=>Jn_ YD zz0 fun ⟨a0,a1,a2,a3,a4,a5,a6,a7,a8,a9,a10,a11,a12,a13,a14,_⟩=>some ((True,.bool (fwMs (a0,a1,a2,a3,a4,a5,a6,a7,a8,a9,a10,a11,a12,a13,a14,()))))
 | _,_=>none
theorem vE_:zd_ Tryz.prog 7 (RoF Xh_).sum:=by
 refine zi_ Tryz.func7 zcj_ (za_ (s:=RoF jN_) Vd_ (za_ (s:=RoF Xm_) vJ_ (za_ (s:=RoF Jq_) WK_ (za_ (s:=RoF Xl_) vI_ (za_ (s:=RoF Xk_) vH_ (za_ (s:=RoF Xj_) vG_ (za_ (s:=RoF vr_) b7_ (za_ (s:=RoF Xi_) vF_ (zc_ _))))))))) fun args objs p v e=>?_
 unfold Xh_ at e
 split at e
 ·rename_i zz0
  replace e:=qR_ e
  obtain ⟨⟨a0,a1,a2,a3,a4,a5,a6,a7,a8,a9,a10,a11,a12,a13,a14,_⟩,hz,e⟩:=e
  replace hz:zz0=[.int .i64 a0,.int .u32 a1,.imm (.int .u64) a2,.imm (.int .u8) a3,.imm YB a4,.imm Y1 a5,.imm Y2 a6,.imm Y3 a7,.imm Y4 a8,.imm Y5 a9,.imm Y7 a10,.imm Y8 a11,.int .i64 a12,.int .i64 a13,.imm YC a14]:=hz
  subst hz
  change Int at a0
  change Int at a1
  change Int at a12
  change Int at a13
  cases e
  refine ⟨rfl,fun hw ho hp=>?_⟩
  change List Int at a2
  change List Int at a3
  change List VEl at a4
  change List VPa at a14
  have hl1:a4.length<=maxLen:=(hw _ (List.mem_cons_self ..) (.imm YB a4) (by simp)).2
  have hl6:a14.length<=maxLen:=(hw _ (List.mem_cons_self ..) (.imm YC a14) (by simp)).2
  unfold maxLen at hl1 hl6
  clear hw ho
  repeat'(intro t ht;first|(cases t<;>first|(cases ht;done)|(try simp only[zg_]at ht))|((first|refine zb_ ht ?_|refine ht ?_ ?_|refine ht.1 ?_ ?_|refine ht ?_)<;>clear ht))
  all_goals first
   | (intro r h1 h2;clear h1;refine h2 ⟨[1,3],Nat,(fun i=>i<=a4.length/\(a4.take i).all ua_=true),fun i=>[.ptr 0 0,.int .i64 i],fun _=>[.box [.int .i64 a0,.int .u32 a1,.imm (.int .u64) a2,.imm (.int .u8) a3,.imm YB a4,.imm Y1 a5,.imm Y2 a6,.imm Y3 a7,.imm Y4 a8,.imm Y5 a9,.imm Y7 a10,.imm Y8 a11,.int .i64 a12,.int .i64 a13,.imm YC a14]],fun i=>a4.length - i,⟨0,⟨Nat.zero_le _,rfl⟩,rfl,rfl⟩,?_⟩;clear h2)
   | skip
  rintro i ⟨hi,he⟩
  repeat'(intro t ht;first|(cases t<;>first|(cases ht;done)|(try simp only[zg_]at ht;try(exfalso;first|contradiction|omega)))|((first|refine zb_ ht ?_|refine ht ?_ ?_|refine ht.1 ?_ ?_|refine ht ?_)<;>clear ht))
  all_goals (try generalize (Ty.dflt YB)=od at*)
  all_goals first
   | exact True.intro
   | ((try simp only [zm_,zn_,zl_] at*);omega)
   | (have hf:ua_ (a4.getD i od)=true:=decide_eq_true (by omega)
      exact ⟨i+1,⟨by omega,Zv_ (d:=od) (by omega) he hf⟩,by dsimp only;omega,rfl,rfl⟩)
   | (have hf:ua_ (a4.getD i od)=false:=decide_eq_false (by omega)
      refine ⟨?_,rfl⟩;unfold fwMs;rw [ZF_ (d:=od) (show i < a4.length by omega) hf,Bool.false_and];done)
   | (intro r h1 h2;clear h1;refine h2 ⟨[1,4],Nat,(fun i=>i<=a14.length/\(a14.take i).all fwPa=true),fun i=>[.ptr 0 0,.int .i64 i],fun _=>[.box [.int .i64 a0,.int .u32 a1,.imm (.int .u64) a2,.imm (.int .u8) a3,.imm YB a4,.imm Y1 a5,.imm Y2 a6,.imm Y3 a7,.imm Y4 a8,.imm Y5 a9,.imm Y7 a10,.imm Y8 a11,.int .i64 a12,.int .i64 a13,.imm YC a14]],fun i=>a14.length - i,⟨0,⟨Nat.zero_le _,rfl⟩,rfl,rfl⟩,?_⟩;clear h2)
   | skip
  have h1:=Z0_ (by omega) he
  rintro j ⟨hj,hje⟩
  repeat'(intro t ht;first|(cases t<;>first|(cases ht;done)|(try simp only[zg_]at ht;try(exfalso;first|contradiction|omega)))|((first|refine zb_ ht ?_|refine ht ?_ ?_|refine ht.1 ?_ ?_|refine ht ?_)<;>clear ht))
  all_goals (try generalize (Ty.dflt YC)=od at*)
  all_goals first
   | exact True.intro
   | ((try simp only [zm_,zn_,zl_] at*);omega)
   | (have hf:fwPa (a14.getD j od)=true:=by assumption
      exact ⟨j+1,⟨by omega,Zv_ (d:=od) (by omega) hje hf⟩,by dsimp only;omega,rfl,rfl⟩)
   | (have hf:fwPa (a14.getD j od)=false:=by assumption
      refine ⟨?_,rfl⟩;unfold fwMs;rw [h1,ZF_ (d:=od) (show j < a14.length by omega) hf,Bool.false_and,Bool.and_false];done)
   | (have h6:=Z0_ (by omega) hje
      refine ⟨congrArg AV.bool ?_,rfl⟩;unfold fwMs;rw [h1,h6,Bool.true_and,Bool.true_and];dsimp only;first | (rw [decide_eq_false (show ¬ a2.length<=60 by omega)];simp;done) | (rw [decide_eq_false (show ¬ a3.length<=3000 by omega)];simp;done) | (rw [decide_eq_false (show ¬ a4.length<=20 by omega)];simp;done) | (rw [decide_eq_false (show ¬ a14.length<=12 by omega)];simp;done) | (simp_all;done) | (rw [decide_eq_true (show a2.length<=60 by omega),decide_eq_true (show a3.length<=3000 by omega),decide_eq_true (show a4.length<=20 by omega),decide_eq_true (show a14.length<=12 by omega)];simp [qd_, *];done))
   | skip
 ·cases e
def zaz_:IR:=
(sq (kr [0,1] [oD 2 (.boxv 0),
oD 3 (.boxv 1),
oD 4 (.mov cF)])
(sq (sq (kr [2,3] [oA 7 0 2,
oL 8 7,
oA 9 0 3,
oL 10 9,
oC 11 25 [8,10],
oD 12 (.un .not 11),
oM 13 12,
oF 13 14 (.fieldAddr 1 2),
oF 13 15 (.load none 14),
oF 13 16 (.len 15),
oF 13 17 (.fieldAddr 1 3),
oF 13 18 (.load none 17),
oF 13 19 (.len 18),
oF 13 20 (.bin .neq 16 19),
oP 21 13 cT 20,
oM 22 21,
oF 22 23 (.fieldAddr 6 2),
oF 22 24 (.load none 23),
oF 22 25 (.len 24),
oF 22 26 (.fieldAddr 6 3),
oF 22 27 (.load none 26),
oF 22 28 (.len 27),
oF 22 29 (.bin .neq 25 28),
oP 30 22 cT 29,
oM 31 30,
oF 31 32 (.fieldAddr 9 2),
oF 31 33 (.load none 32),
oF 31 34 (.fieldAddr 9 3),
oF 31 35 (.load none 34),
oF 31 36 (.call false (.f 13) [33,35]),
oF 31 37 (.un .not 36),
oP 38 31 cT 37])
(.cond 38
(sq (kr [] [oD 4 (.mov cF)])
.ret)
.skip))
(sq (sq (kr [2,3] [oD 5 (.mov (cI 0))])
(.block 0
(.loop
(sq (sq (kr [2,3,5] [oM 39 5,
oA 40 1 2,
oL 41 40,
oE 42 41,
oB 43 .lss 39 42])
(.cond 43
.skip
(.exit 0)))
(sq (.block 1
(sq (kd [2,3,5] [(oA 46 1 2,[]),
(oL 47 46,[]),
(oM 48 5,[0,0]),
(oI 49 1 47 48,[]),
(oL 50 49,[]),
(oA 51 1 3,[0,0,0,0,0]),
(oL 52 51,[1,0,0,0,0]),
(oM 53 5,[0,0,0,0,0,0,0]),
(oI 54 1 52 53,[3,0,0,0,0]),
(oL 55 54,[4,0,0,0,0]),
(oB 56 .neq 50 55,[])])
(.cond 56
(sq (kr [] [oD 4 (.mov cF)])
.ret)
.skip)))
(kr [2,3,5] [oM 44 5,
oB 45 .add 44 (cI 1),
oM 5 45]))))))
(sq (sq (kr [2,3] [oD 6 (.mov (cI 0))])
(.block 2
(.loop
(sq (sq (kr [2,3,6] [oM 57 6,
oA 58 6 2,
oL 59 58,
oE 60 59,
oB 61 .lss 57 60])
(.cond 61
.skip
(.exit 2)))
(sq (.block 3
(sq (kd [2,3,6] [(oA 64 6 2,[]),
(oL 65 64,[]),
(oM 66 6,[0,0]),
(oI 67 1 65 66,[]),
(oL 68 67,[]),
(oA 69 6 3,[0,0,0,0,0]),
(oL 70 69,[1,0,0,0,0]),
(oM 71 6,[0,0,0,0,0,0,0]),
(oI 72 1 70 71,[3,0,0,0,0]),
(oL 73 72,[4,0,0,0,0]),
(oC 74 25 [68,73],[]),
(oD 75 (.un .not 74),[])])
(.cond 75
(sq (kr [] [oD 4 (.mov cF)])
.ret)
.skip)))
(kr [2,3,6] [oM 62 6,
oB 63 .add 62 (cI 1),
oM 6 63]))))))
(sq (kr [2,3] [oA 76 2 2,
oL 77 76,
oA 78 2 3,
oL 79 78,
oC 80 54 [77,79],
oM 81 80,
oT 81 82 (.fieldAddr 3 2),
oT 81 83 (.load none 82),
oT 81 84 (.fieldAddr 3 3),
oT 81 85 (.load none 84),
oT 81 86 (.call false (.f 56) [83,85]),
oP 87 81 86 cF,
oM 88 87,
oT 88 89 (.fieldAddr 4 2),
oT 88 90 (.load none 89),
oT 88 91 (.fieldAddr 4 3),
oT 88 92 (.load none 91),
oT 88 93 (.call false (.f 57) [90,92]),
oP 94 88 93 cF,
oM 95 94,
oT 95 96 (.fieldAddr 5 2),
oT 95 97 (.load none 96),
oT 95 98 (.fieldAddr 5 3),
oT 95 99 (.load none 98),
oT 95 100 (.call false (.f 58) [97,99]),
oP 101 95 100 cF,
oM 102 101,
oT 102 103 (.fieldAddr 7 2),
oT 102 104 (.load none 103),
oT 102 105 (.fieldAddr 7 3),
oT 102 106 (.load none 105),
oT 102 107 (.call false (.f 60) [104,106]),
oP 108 102 107 cF,
oM 109 108,
oT 109 110 (.fieldAddr 8 2),
oT 109 111 (.load none 110),
oT 109 112 (.fieldAddr 8 3),
oT 109 113 (.load none 112),
oT 109 114 (.call false (.f 109) [111,113]),
oP 115 109 114 cF,
oM 4 115])
.ret)))))
def Bj_:List RD:=[.tmp 4 true none]
theorem BQ_:zj_ Tryz.prog Tryz.f52 zaz_ Bj_=true:=by kernel_rfl
def yf_:List AV->List Obj->Option (Prop × AV)
 | [.agg zz0,.agg zz1],[]=>Jn_ YC zz0 fun ⟨a0,a1,a2,a3,a4,a5,a6,a7,a8,a9,_⟩=>Jn_ YC zz1 fun ⟨b0,b1,b2,b3,b4,b5,b6,b7,b8,b9,_⟩=>some ((True,.bool (decide (((a0,a1,a2,a3,a4,a5,a6,a7,a8,a9,()):VPa)=(b0,b1,b2,b3,b4,b5,b6,b7,b8,b9,())))))
 | _,_=>none
theorem hY_:zd_ Tryz.prog 52 (RoF yf_).sum:=by
 refine zi_ Tryz.func52 BQ_ (za_ (s:=RoF kD_) Kt_ (za_ (s:=RoF Zc_) z6_ (za_ (s:=RoF ww_) yB_ (za_ (s:=RoF wv_) yA_ (za_ (s:=RoF wu_) yz_ (za_ (s:=RoF wt_) yy_ (za_ (s:=RoF ws_) yx_ (za_ (s:=RoF yg_) hZ_ (zc_ _))))))))) fun args objs p v e=>?_
 unfold yf_ at e
 split at e
 ·rename_i zz0 zz1
  replace e:=qR_ e
  obtain ⟨⟨a0,a1,a2,a3,a4,a5,a6,a7,a8,a9,_⟩,hz,e⟩:=e
  replace hz:zz0=[.imm (.int .u64) a0,.imm .str a1,.imm Y1 a2,.imm Y3 a3,.imm Y4 a4,.imm Y5 a5,.imm (.sl (.int .u64)) a6,.imm Y8 a7,.imm YA a8,.imm (.int .u8) a9]:=hz
  subst hz
  replace e:=qR_ e
  obtain ⟨⟨b0,b1,b2,b3,b4,b5,b6,b7,b8,b9,_⟩,hz,e⟩:=e
  replace hz:zz1=[.imm (.int .u64) b0,.imm .str b1,.imm Y1 b2,.imm Y3 b3,.imm Y4 b4,.imm Y5 b5,.imm (.sl (.int .u64)) b6,.imm Y8 b7,.imm YA b8,.imm (.int .u8) b9]:=hz
  subst hz
  cases e
  refine ⟨rfl,fun hw ho hp=>?_⟩
  change List Int at a0
  change List Int at a9
  change List Int at b0
  change List Int at b9
  change List (List Int) at a1
  change List (List Int) at b1
  change List (List Int) at a6
  change List (List Int) at b6
  have hl1:a1.length<=maxLen:=(hw _ (List.mem_cons_self ..) (.imm .str a1) (by simp)).2
  have hl6:a6.length<=maxLen:=(hw _ (List.mem_cons_self ..) (.imm (.sl (.int .u64)) a6) (by simp)).2
  unfold maxLen at hl1 hl6
  clear hw ho
  have hno:∀ h:¬ (a0=b0/\a1=b1/\a2=b2/\a3=b3/\a4=b4/\a5=b5/\a6=b6/\a7=b7/\a8=b8/\a9=b9),decide (((a0,a1,a2,a3,a4,a5,a6,a7,a8,a9,()):VPa)=(b0,b1,b2,b3,b4,b5,b6,b7,b8,b9,()))=false:=fun h=>decide_eq_false fun e=>h (by simpa only [Prod.mk.injEq,and_true] using e)
  repeat'(intro t ht;first|(cases t<;>first|(cases ht;done)|(try simp only[zg_]at ht;try(exfalso;first|contradiction|omega)))|((first|refine zb_ ht ?_|refine ht ?_ ?_|refine ht.1 ?_ ?_|refine ht ?_)<;>clear ht))
  all_goals first
   | exact True.intro
   | (refine ⟨?_,rfl⟩;rw [hno fun k=>by simp_all];done)
   | (intro r h1 h2;clear h1;refine h2 ⟨[2,3,5],Nat,(fun i=>i<=a1.length/\a1.take i=b1.take i),fun i=>[.ptr 0 0,.ptr 1 0,.int .i64 i],fun _=>[.box [.imm (.int .u64) a0,.imm .str a1,.imm Y1 a2,.imm Y3 a3,.imm Y4 a4,.imm Y5 a5,.imm (.sl (.int .u64)) a6,.imm Y8 a7,.imm YA a8,.imm (.int .u8) a9],.box [.imm (.int .u64) b0,.imm .str b1,.imm Y1 b2,.imm Y3 b3,.imm Y4 b4,.imm Y5 b5,.imm (.sl (.int .u64)) b6,.imm Y8 b7,.imm YA b8,.imm (.int .u8) b9]],fun i=>a1.length - i,⟨0,⟨Nat.zero_le _,rfl⟩,rfl,rfl⟩,?_⟩;clear h2)
   | skip
  rintro i ⟨hi,he⟩
  have hl2:a1.length=b1.length:=by omega
  have hl3:a6.length=b6.length:=by omega
  repeat'(intro t ht;first|(cases t<;>first|(cases ht;done)|(try simp only[zg_]at ht;try(exfalso;first|contradiction|omega)))|((first|refine zb_ ht ?_|refine ht ?_ ?_|refine ht.1 ?_ ?_|refine ht ?_)<;>clear ht))
  all_goals (try generalize (Ty.dflt .str)=od at*)
  all_goals first
   | exact True.intro
   | ((try simp only [zm_,zn_,zl_] at*);omega)
   | (have hne:a1 ≠ b1:=Xr_ (d:=od) (i:=i) (by assumption)
      refine ⟨?_,rfl⟩;rw [hno fun k=>hne k.2.1];done)
   | exact ⟨i+1,⟨by omega,Qf_ he (by omega) hl2 (d:=od) (by assumption)⟩,by (try simp only [zm_,zn_,zl_] at*);omega,rfl,rfl⟩
   | (intro r h1 h2;clear h1;refine h2 ⟨[2,3,6],Nat,(fun i=>i<=a6.length/\a6.take i=b6.take i),fun i=>[.ptr 0 0,.ptr 1 0,.int .i64 i],fun _=>[.box [.imm (.int .u64) a0,.imm .str a1,.imm Y1 a2,.imm Y3 a3,.imm Y4 a4,.imm Y5 a5,.imm (.sl (.int .u64)) a6,.imm Y8 a7,.imm YA a8,.imm (.int .u8) a9],.box [.imm (.int .u64) b0,.imm .str b1,.imm Y1 b2,.imm Y3 b3,.imm Y4 b4,.imm Y5 b5,.imm (.sl (.int .u64)) b6,.imm Y8 b7,.imm YA b8,.imm (.int .u8) b9]],fun i=>a6.length - i,⟨0,⟨Nat.zero_le _,rfl⟩,rfl,rfl⟩,?_⟩;clear h2)
   | skip
  have e1:=Km_ he (by omega) hl2
  rintro j ⟨hj,he6⟩
  repeat'(intro t ht;first|(cases t<;>first|(cases ht;done)|(try simp only[zg_]at ht;try(exfalso;first|contradiction|omega)))|((first|refine zb_ ht ?_|refine ht ?_ ?_|refine ht.1 ?_ ?_|refine ht ?_)<;>clear ht))
  all_goals (try generalize (Ty.dflt (.sl (.int .u64)))=od at*)
  all_goals first
   | exact True.intro
   | ((try simp only [zm_,zn_,zl_] at*);omega)
   | (have hne:a6 ≠ b6:=Xr_ (d:=od) (i:=j) (by assumption)
      refine ⟨?_,rfl⟩;rw [hno fun k=>hne k.2.2.2.2.2.2.1];done)
   | exact ⟨j+1,⟨by omega,Qf_ he6 (by omega) hl3 (d:=od) (by assumption)⟩,by (try simp only [zm_,zn_,zl_] at*);omega,rfl,rfl⟩
   | (have e6:=Km_ he6 (by omega) hl3
      refine ⟨congrArg AV.bool ?_,rfl⟩;rw [Bool.eq_iff_iff];simp_all [and_assoc];done)
   | skip
 ·cases e
def zay_:IR:=
(sq (kr [0,1] [oD 2 (.boxv 0),
oD 3 (.boxv 1),
oD 4 (.mov cF)])
(sq (sq (kr [2,3] [oA 6 0 2,
oL 7 6,
oA 8 0 3,
oL 9 8,
oB 10 .neq 7 9,
oM 11 10,
oF 11 12 (.fieldAddr 1 2),
oF 11 13 (.load none 12),
oF 11 14 (.fieldAddr 1 3),
oF 11 15 (.load none 14),
oF 11 16 (.bin .neq 13 15),
oP 17 11 cT 16,
oM 18 17,
oF 18 19 (.fieldAddr 12 2),
oF 18 20 (.load none 19),
oF 18 21 (.fieldAddr 12 3),
oF 18 22 (.load none 21),
oF 18 23 (.bin .neq 20 22),
oP 24 18 cT 23,
oM 25 24,
oF 25 26 (.fieldAddr 13 2),
oF 25 27 (.load none 26),
oF 25 28 (.fieldAddr 13 3),
oF 25 29 (.load none 28),
oF 25 30 (.bin .neq 27 29),
oP 31 25 cT 30,
oM 32 31,
oF 32 33 (.fieldAddr 2 2),
oF 32 34 (.load none 33),
oF 32 35 (.fieldAddr 2 3),
oF 32 36 (.load none 35),
oF 32 37 (.call false (.f 25) [34,36]),
oF 32 38 (.un .not 37),
oP 39 32 cT 38,
oM 40 39,
oF 40 41 (.fieldAddr 3 2),
oF 40 42 (.load none 41),
oF 40 43 (.fieldAddr 3 3),
oF 40 44 (.load none 43),
oF 40 45 (.call false (.f 13) [42,44]),
oF 40 46 (.un .not 45),
oP 47 40 cT 46,
oM 48 47,
oF 48 49 (.fieldAddr 14 2),
oF 48 50 (.load none 49),
oF 48 51 (.len 50),
oF 48 52 (.fieldAddr 14 3),
oF 48 53 (.load none 52),
oF 48 54 (.len 53),
oF 48 55 (.bin .neq 51 54),
oP 56 48 cT 55])
(.cond 56
(sq (kr [] [oD 4 (.mov cF)])
.ret)
.skip))
(sq (sq (kr [2,3] [oD 5 (.mov (cI 0))])
(.block 0
(.loop
(sq (sq (kr [2,3,5] [oM 57 5,
oA 58 14 2,
oL 59 58,
oE 60 59,
oB 61 .lss 57 60])
(.cond 61
.skip
(.exit 0)))
(sq (.block 1
(sq (kd [2,3,5] [(oA 64 14 2,[]),
(oL 65 64,[]),
(oM 66 5,[0,0]),
(oI 67 10 65 66,[]),
(oK 68 10 67,[]),
(oA 69 14 3,[0,0,0,0,0]),
(oL 70 69,[1,0,0,0,0]),
(oM 71 5,[0,0,0,0,0,0,0]),
(oI 72 10 70 71,[3,0,0,0,0]),
(oK 73 10 72,[4,0,0,0,0]),
(oC 74 52 [68,73],[]),
(oD 75 (.un .not 74),[])])
(.cond 75
(sq (kr [] [oD 4 (.mov cF)])
.ret)
.skip)))
(kr [2,3,5] [oM 62 5,
oB 63 .add 62 (cI 1),
oM 5 63]))))))
(sq (kr [2,3] [oA 76 4 2,
oL 77 76,
oA 78 4 3,
oL 79 78,
oC 80 53 [77,79],
oM 81 80,
oT 81 82 (.fieldAddr 5 2),
oT 81 83 (.load none 82),
oT 81 84 (.fieldAddr 5 3),
oT 81 85 (.load none 84),
oT 81 86 (.call false (.f 54) [83,85]),
oP 87 81 86 cF,
oM 88 87,
oT 88 89 (.fieldAddr 6 2),
oT 88 90 (.load none 89),
oT 88 91 (.fieldAddr 6 3),
oT 88 92 (.load none 91),
oT 88 93 (.call false (.f 55) [90,92]),
oP 94 88 93 cF,
oM 95 94,
oT 95 96 (.fieldAddr 7 2),
oT 95 97 (.load none 96),
oT 95 98 (.fieldAddr 7 3),
oT 95 99 (.load none 98),
oT 95 100 (.call false (.f 56) [97,99]),
oP 101 95 100 cF,
oM 102 101,
oT 102 103 (.fieldAddr 8 2),
oT 102 104 (.load none 103),
oT 102 105 (.fieldAddr 8 3),
oT 102 106 (.load none 105),
oT 102 107 (.call false (.f 57) [104,106]),
oP 108 102 107 cF,
oM 109 108,
oT 109 110 (.fieldAddr 9 2),
oT 109 111 (.load none 110),
oT 109 112 (.fieldAddr 9 3),
oT 109 113 (.load none 112),
oT 109 114 (.call false (.f 58) [111,113]),
oP 115 109 114 cF,
oM 116 115,
oT 116 117 (.fieldAddr 10 2),
oT 116 118 (.load none 117),
oT 116 119 (.fieldAddr 10 3),
oT 116 120 (.load none 119),
oT 116 121 (.call false (.f 59) [118,120]),
oP 122 116 121 cF,
oM 123 122,
oT 123 124 (.fieldAddr 11 2),
oT 123 125 (.load none 124),
oT 123 126 (.fieldAddr 11 3),
oT 123 127 (.load none 126),
oT 123 128 (.call false (.f 60) [125,127]),
oP 129 123 128 cF,
oM 4 129])
.ret))))
def Bi_:List RD:=[.tmp 4 true none]
theorem BP_:zj_ Tryz.prog Tryz.f16 zay_ Bi_=true:=by kernel_rfl
def ye_:List AV->List Obj->Option (Prop × AV)
 | [.agg zz0,.agg zz1],[]=>Jn_ YD zz0 fun ⟨a0,a1,a2,a3,a4,a5,a6,a7,a8,a9,a10,a11,a12,a13,a14,_⟩=>Jn_ YD zz1 fun ⟨b0,b1,b2,b3,b4,b5,b6,b7,b8,b9,b10,b11,b12,b13,b14,_⟩=>some ((True,.bool (decide (((a0,a1,a2,a3,a4,a5,a6,a7,a8,a9,a10,a11,a12,a13,a14,()):VMs)=(b0,b1,b2,b3,b4,b5,b6,b7,b8,b9,b10,b11,b12,b13,b14,())))))
 | _,_=>none
theorem hX_:zd_ Tryz.prog 16 (RoF ye_).sum:=by
 refine zi_ Tryz.func16 BP_ (za_ (s:=RoF kD_) Kt_ (za_ (s:=RoF Zc_) z6_ (za_ (s:=RoF yf_) hY_ (za_ (s:=RoF xL_) gC_ (za_ (s:=RoF ww_) yB_ (za_ (s:=RoF K6_) JA_ (za_ (s:=RoF wv_) yA_ (za_ (s:=RoF wu_) yz_ (za_ (s:=RoF wt_) yy_ (za_ (s:=RoF yi_) h1_ (za_ (s:=RoF ws_) yx_ (zc_ _)))))))))))) fun args objs p v e=>?_
 unfold ye_ at e
 split at e
 ·rename_i zz0 zz1
  replace e:=qR_ e
  obtain ⟨⟨a0,a1,a2,a3,a4,a5,a6,a7,a8,a9,a10,a11,a12,a13,a14,_⟩,hz,e⟩:=e
  replace hz:zz0=[.int .i64 a0,.int .u32 a1,.imm (.int .u64) a2,.imm (.int .u8) a3,.imm YB a4,.imm Y1 a5,.imm Y2 a6,.imm Y3 a7,.imm Y4 a8,.imm Y5 a9,.imm Y7 a10,.imm Y8 a11,.int .i64 a12,.int .i64 a13,.imm YC a14]:=hz
  subst hz
  change Int at a0
  change Int at a1
  change Int at a12
  change Int at a13
  replace e:=qR_ e
  obtain ⟨⟨b0,b1,b2,b3,b4,b5,b6,b7,b8,b9,b10,b11,b12,b13,b14,_⟩,hz,e⟩:=e
  replace hz:zz1=[.int .i64 b0,.int .u32 b1,.imm (.int .u64) b2,.imm (.int .u8) b3,.imm YB b4,.imm Y1 b5,.imm Y2 b6,.imm Y3 b7,.imm Y4 b8,.imm Y5 b9,.imm Y7 b10,.imm Y8 b11,.int .i64 b12,.int .i64 b13,.imm YC b14]:=hz
  subst hz
  change Int at b0
  change Int at b1
  change Int at b12
  change Int at b13
  cases e
  refine ⟨rfl,fun hw ho hp=>?_⟩
  change List Int at a2
  change List Int at a3
  change List Int at b2
  change List Int at b3
  change List VPa at a14
  change List VPa at b14
  have hl1:a14.length<=maxLen:=(hw _ (List.mem_cons_self ..) (.imm YC a14) (by simp)).2
  unfold maxLen at hl1
  clear hw ho
  have hno:∀ h:¬ (a0=b0/\a1=b1/\a2=b2/\a3=b3/\a4=b4/\a5=b5/\a6=b6/\a7=b7/\a8=b8/\a9=b9/\a10=b10/\a11=b11/\a12=b12/\a13=b13/\a14=b14),decide (((a0,a1,a2,a3,a4,a5,a6,a7,a8,a9,a10,a11,a12,a13,a14,()):VMs)=(b0,b1,b2,b3,b4,b5,b6,b7,b8,b9,b10,b11,b12,b13,b14,()))=false:=fun h=>decide_eq_false fun e=>h (by simpa only [Prod.mk.injEq,and_true] using e)
  repeat'(intro t ht;first|(cases t<;>first|(cases ht;done)|(try simp only[zg_]at ht;try(exfalso;first|contradiction|omega)))|((first|refine zb_ ht ?_|refine ht ?_ ?_|refine ht.1 ?_ ?_|refine ht ?_)<;>clear ht))
  all_goals first
   | exact True.intro
   | (refine ⟨?_,rfl⟩;rw [hno fun k=>by simp_all];done)
   | (intro r h1 h2;clear h1;refine h2 ⟨[2,3,5],Nat,(fun i=>i<=a14.length/\a14.take i=b14.take i),fun i=>[.ptr 0 0,.ptr 1 0,.int .i64 i],fun _=>[.box [.int .i64 a0,.int .u32 a1,.imm (.int .u64) a2,.imm (.int .u8) a3,.imm YB a4,.imm Y1 a5,.imm Y2 a6,.imm Y3 a7,.imm Y4 a8,.imm Y5 a9,.imm Y7 a10,.imm Y8 a11,.int .i64 a12,.int .i64 a13,.imm YC a14],.box [.int .i64 b0,.int .u32 b1,.imm (.int .u64) b2,.imm (.int .u8) b3,.imm YB b4,.imm Y1 b5,.imm Y2 b6,.imm Y3 b7,.imm Y4 b8,.imm Y5 b9,.imm Y7 b10,.imm Y8 b11,.int .i64 b12,.int .i64 b13,.imm YC b14]],fun i=>a14.length - i,⟨0,⟨Nat.zero_le _,rfl⟩,rfl,rfl⟩,?_⟩;clear h2)
   | skip
  rintro i ⟨hi,he⟩
  have hl2:a14.length=b14.length:=by omega
  repeat'(intro t ht;first|(cases t<;>first|(cases ht;done)|(try simp only[zg_]at ht;try(exfalso;first|contradiction|omega)))|((first|refine zb_ ht ?_|refine ht ?_ ?_|refine ht.1 ?_ ?_|refine ht ?_)<;>clear ht))
  all_goals (try generalize (Ty.dflt YC)=od at*)
  all_goals first
   | exact True.intro
   | ((try simp only [zm_,zn_,zl_] at*);omega)
   | (have hne:a14 ≠ b14:=Xr_ (d:=od) (i:=i) (by assumption)
      refine ⟨?_,rfl⟩;rw [hno fun k=>hne k.2.2.2.2.2.2.2.2.2.2.2.2.2.2];done)
   | exact ⟨i+1,⟨by omega,Qf_ he (by omega) hl2 (d:=od) (by assumption)⟩,by (try simp only [zm_,zn_,zl_] at*);omega,rfl,rfl⟩
   | (have e6:=Km_ he (by omega) hl2
      refine ⟨congrArg AV.bool ?_,rfl⟩;rw [Bool.eq_iff_iff];simp_all [and_assoc];done)
   | skip
 ·cases e
def exO (o:OV):List Int:=if rgO o=true then Zq_ o.1 o.2.1 o.2.2.1 o.2.2.2.1 o.2.2.2.2.1 o.2.2.2.2.2.1 else []
def eeO (o:OV):Int:=if rgO o=true then 0 else 10001
def puS (room:Int):List OV->List Int->Int->List Int × Int
 | [],l,e=>(l,e)
 | o :: r,l,e=>puS room r (kB_ (exO o) l room (zt_ e (eeO o))) (QS_ (exO o) l room (zt_ e (eeO o)))
theorem zfZ_ {room:Int} {l:List OV} {i:Nat} {d:OV} {b:List Int} {e:Int} (h:i < l.length):puS room (l.drop i) b e=puS room (l.drop (i+1)) (kB_ (exO (l.getD i d)) b room (zt_ e (eeO (l.getD i d)))) (QS_ (exO (l.getD i d)) b room (zt_ e (eeO (l.getD i d)))):=by
 rw [zI_ h d];rfl
def mpS (x:List OV) (l:List Int) (room e:Int):List Int × Int:=puS room x (qj_ [2,2] [1,qc_ x] l room e) (qG_ [2,2] [1,qc_ x] l room e)
def mpZ (x:List OV):List Int:=List.replicate (pz (qc_ x)).toNat 0
def mpB (x:List OV) (l:List Int) (room e:Int):List Int:=if rgM x=true then kB_ (mpZ x) (mpS x l room e).1 room (mpS x l room e).2 else l
def mpE (x:List OV) (l:List Int) (room e:Int):Int:=if rgM x=true then QS_ (mpZ x) (mpS x l room e).1 room (mpS x l room e).2 else zt_ e 10001
theorem zj3_ {o:OV}:(exO o).length<=300:=by
 unfold exO;split
 ·exact (jq_ (by assumption)).2
 ·simp
def bo_:IR:=
(sq (sq (kr [0,1] [oM 9 1,
oC 10 69 [9],
oD 11 (.un .not 10)])
(.cond 11
(sq (.reg [oM 12 0,
oC 13 34 [12,(cI 10001)]])
.ret)
.skip))
(sq (.reg [oM 14 1,
oC 15 70 [14],
oM 4 15])
(sq (kr [0,1,4] [oM 16 0,
oD 17 (.sliceAll (.int .i64) 2 [(0,1,(cI 2)),(1,1,(cI 2))]),
oM 18 4,
oD 19 (.conv .u64 18),
oD 20 (.sliceAll (.int .u64) 2 [(0,1,(.c (.int .u64 1))),(1,1,19)]),
oC 21 28 [16,17,20]])
(sq (sq (.reg [oM 22 1,
oE 23 22,
oD 24 (.mov (cI 0))])
(.block 0
(.loop
(sq (kr [0,4,22,23,24] [oB 25 .lss 24 23])
(sq (.cond 25
.skip
(.exit 0))
(sq (.block 1
(sq (.reg [oI 26 6 22 24,
oK 27 6 26,
oD 6 (.box [.int .i64 0,.int .i64 0,.kb false,.int .u64 0,.imm (.int .u8) [],.imm (.int .u8) []]),
oS 6 6 27])
(sq (kr [0,4,6,22,23,24] [oK 29 6 6,
oC 30 71 [29],
oM 28 30,
oX 31 28 0,
oX 32 28 1,
oM 7 31,
oM 8 32])
(sq (kr [0,4,7,8,22,23,24] [oM 33 0,
oM 34 8,
oC 35 34 [33,34]])
(.reg [oM 36 0,
oM 37 7,
oC 38 65 [36,37]])))))
(kr [0,4,22,23,24] [oB 39 .add 24 (cI 1),
oM 24 39])))))))
(kr [0,4] [oM 40 0,
oM 41 4,
oC 42 72 [41],
oD 43 (.mkrow (.int .u8) 1 (0:Int) 42 42),
oC 44 65 [40,43]])))))
def Hr_:List RD:=[]
theorem HQ_:zj_ Tryz.prog Tryz.f31 bo_ Hr_=true:=by kernel_rfl
def v9_:List AV->List Obj->Option (Prop × Res)
 | [.ptr 0 0,.imm (.cons (.int .i64) (.cons (.int .i64) (.cons .bool (.cons (.int .u64) (.cons (.sl (.int .u8)) (.cons (.sl (.int .u8)) .nil)))))) x],[.box [.own 1,.int .i64 room,.mapv 2,.int .i64 e],.row false (.int .u8) l,.map sq (.int .i64) (.int .i64) h]=>some (okM x/\0<=room/\room<=1000000/\l.length<=1000000,.br (rgM x) (.one (.tup []) [.box [.own 3,.int .i64 room,.mapv 2,.int .i64 (mpE x l room e)],.dead,.map sq (.int .i64) (.int .i64) h,.row false (.int .u8) (mpB x l room e)]) (.one (.tup []) [.box [.own 1,.int .i64 room,.mapv 2,.int .i64 (zt_ e 10001)],.row false (.int .u8) l,.map sq (.int .i64) (.int .i64) h]))
 | _,_=>none
def jA_:List AV->List Obj->Option (Prop × AV × List Obj)
 | [.ptr 0 0,.imm (.cons (.int .i64) (.cons (.int .i64) (.cons .bool (.cons (.int .u64) (.cons (.sl (.int .u8)) (.cons (.sl (.int .u8)) .nil)))))) x],[.box [.own 1,.int .i64 room,.mapv 2,.int .i64 e],.row false (.int .u8) l,.map sq (.int .i64) (.int .i64) h]=>some (okM x/\0<=room/\room<=1000000/\l.length<=1000000,.tup [],[.box [.own 3,.int .i64 room,.mapv 2,.int .i64 (mpE x l room e)],.dead,.map sq (.int .i64) (.int .i64) h,.row false (.int .u8) (mpB x l room e)])
 | _,_=>none
theorem gA_:zd_ Tryz.prog 31 (RcF v9_).sum:=by
 refine u5_ Tryz.func31 HQ_ (za_ (s:=RoF jQ_) Vg_ (za_ (s:=RwF zy_) zE_ (za_ (s:=RoF KE_) WP_ (za_ (s:=RwF zF_) zJ_ (za_ (s:=RoF KA_) WL_ (za_ (s:=RwF zu_) zz_ (za_ (s:=RoF kR_) wK_ (zc_ _)))))))) fun args objs p v e=>?_
 unfold v9_ at e
 split at e
 ·rename_i x room e l sq h
  cases e
  change List Int at l
  change List OV at x
  refine ⟨rfl,fun hw' ho hp=>?_⟩
  clear hw' ho
  obtain ⟨hok,hp1,hp2,hp3⟩:=hp
  have hok':=hok
  have hn:=hok.n
  cases hr:rgM x with
  | false=>
    repeat'(intro t ht;first|(cases t<;>first|(cases ht;done)|(try simp only[zg_]at ht;try(exfalso;first|contradiction|omega)))|((first|refine zb_ ht ?_|refine ht ?_ ?_|refine ht.1 ?_ ?_|refine ht ?_)<;>clear ht))
    all_goals first
     | exact True.intro
     | exact hok
     | (exfalso;simp_all;done)
     | exact ⟨rfl,rfl⟩
  | true=>
    have hL:=zgm_ hok
    have hL2:qc_ x<=65528:=by unfold rgM at hr;simp only [Bool.and_eq_true,decide_eq_true_eq] at hr;exact hr.2
    have hz:=vO_ (n:=qc_ x) (by omega)
    have hr1:(qj_ [2,2] [1,qc_ x] l room e).length<=1000000:=j8_ hp3 hp2
    repeat'(intro t ht;first|(cases t<;>first|(cases ht;done)|(try simp only[zg_]at ht;try(exfalso;first|contradiction|omega)))|((first|refine zb_ ht ?_|refine ht ?_ ?_|refine ht.1 ?_ ?_|refine ht ?_)<;>clear ht))
    all_goals first
     | exact True.intro
     | exact hok
     | (exfalso;simp_all;done)
     | ((try simp only [zm_,zn_,zl_] at*);omega)
     | exact ⟨hp1,hp2,hp3⟩
     | (intro r h1 h2;clear h1;refine h2 ⟨[0,4,22,23,24],Nat × List Int × Int,(fun a=>a.1<=x.length/\a.2.1.length<=1000000/\mpS x l room e=puS room (x.drop a.1) a.2.1 a.2.2),fun a=>[.ptr 0 0,.int .i64 (qc_ x),.imm Y1 x,.int .i64 x.length,.int .i64 a.1],fun a=>[.box [.own 3,.int .i64 room,.mapv 2,.int .i64 a.2.2],.dead,.map sq (.int .i64) (.int .i64) h,.row false (.int .u8) a.2.1],fun a=>x.length - a.1,⟨(0,qj_ [2,2] [1,qc_ x] l room e,qG_ [2,2] [1,qc_ x] l room e),⟨Nat.zero_le _,hr1,rfl⟩,rfl,rfl⟩,?_⟩;clear h2)
    rintro ⟨i,b,f⟩ ⟨hi,hb,he⟩
    dsimp only at hi hb he
    repeat'(intro t ht;first|(cases t<;>first|(cases ht;done)|(try simp only[zg_]at ht;try(exfalso;first|contradiction|omega)))|((first|refine zb_ ht ?_|refine ht ?_ ?_|refine ht.1 ?_ ?_|refine ht ?_)<;>clear ht))
    all_goals (try generalize (Ty.dflt Y1)=od at*)
    all_goals first
     | exact True.intro
     | ((try simp only [zm_,zn_,zl_] at*);omega)
     | (simp only [List.length_replicate];constructor<;>omega)
     | exact ⟨hp1,hp2,hb,Nat.le_trans (zj3_ (o:=x.getD i od)) (by decide)⟩
     | exact lenM (hok'.a.h _ (zU_ (show i < x.length by omega) od))
     | (rw [List.drop_of_length_le (show x.length<=i by omega)] at he
        have h1:mpS x l room e=(b,f):=he
        unfold mpE mpB
        rw [if_pos hr,if_pos hr,h1];exact ⟨rfl,rfl⟩)
     | (refine ⟨(i+1,_,_),⟨?_,?_,he.trans (zfZ_ (d:=od) (show i < x.length by omega))⟩,?_,rfl,rfl⟩
        ·dsimp only;omega
        ·exact Q8_ hb hp2
        ·dsimp only;omega)
 ·cases e
theorem XD_:zd_ Tryz.prog 31 (RwF jA_).sum:=by
 refine yO_ gA_ fun args objs p v o e=>?_
 unfold jA_ at e
 split at e
 ·rename_i x room e l sq h
  cases e
  cases hb:rgM x with
  | true=>exact ⟨_,_,rfl,KY_ hb,.inl rfl⟩
  | false=>
    refine ⟨_,_,rfl,QZ_ hb,.inr ⟨0,1,[],[.int .i64 room,.mapv 2,.int .i64 (zt_ e 10001)],.int .u8,l,rfl,rfl,?_⟩⟩
    unfold mpE mpB;rw [hb];rfl
 ·cases e
def boO (l:List OV):List Int:=l.flatMap ecO
def meN (l:List OV):Int:=4+((boO l).length:Int)
def meB (l:List OV):List Int:=ze_ 1 2++ze_ (meN l) 2++boO l++List.replicate (pz (meN l)).toNat 0
theorem Hd_ {o:OV} (h:rgO o=true):szO o=(ecO o).length/\exO o=ecO o/\eeO o=0/\(ecO o).length<=300:=by
 have h1:=jq_ h
 have h2:=ue_ h
 refine ⟨?_,?_,if_pos h,?_⟩
 ·unfold szO ecO;rw [h1.1,h2]
 ·unfold exO ecO;rw [if_pos h,h2]
 ·unfold ecO;rw [<- h2];exact h1.2
theorem H8_:∀ (l:List OV),l.all rgO=true->(l.map szO).sum=((boO l).length:Int)
 | [],_=>rfl
 | o :: r,h=>by
   rw [List.all_cons,Bool.and_eq_true] at h
   have ih:=H8_ r h.2
   unfold boO at ih ⊢
   rw [List.flatMap_cons,List.length_append,List.map_cons,List.sum_cons,ih,(Hd_ h.1).1];omega
theorem Ja_ {l:List OV} (h:rgM l=true):l.all rgO=true/\(ckS [] l).2=0/\qc_ l=meN l/\meN l<=65528/\4<=meN l:=by
 unfold rgM at h
 simp only [Bool.and_eq_true,decide_eq_true_eq] at h
 obtain ⟨⟨h1,h2⟩,h3⟩:=h
 have h4:qc_ l=meN l:=by unfold qc_ meN;rw [H8_ l h1]
 exact ⟨h1,h2,h4,by omega,by unfold meN;omega⟩
theorem zcc_ {room:Int}:∀ (r:List OV) (l:List Int),r.all rgO=true->(l.length:Int)+(boO r).length<=room->puS room r l 0=(l++boO r,0)
 | [],l,_,_=>by unfold boO puS;simp
 | o :: r,l,h,hl=>by
   rw [List.all_cons,Bool.and_eq_true] at h
   obtain ⟨_,h2,h3,_⟩:=Hd_ h.1
   have e1:boO (o :: r)=ecO o++boO r:=List.flatMap_cons
   rw [e1,List.length_append] at hl
   obtain ⟨b1,b2⟩:=xC_ (x:=ecO o) (l:=l) (room:=room) (by omega)
   have f0:zt_ 0 0=0:=rfl
   unfold puS
   rw [h2,h3,f0,b1,b2,zcc_ r (l++ecO o) h.2 (by rw [List.length_append];omega),e1,List.append_assoc]
theorem zkQ_ {x:List OV} {l:List Int} {room:Int} (h:rgM x=true) (hl:(l.length:Int)+meN x+pz (meN x)<=room):mpB x l room 0=l++meB x/\mpE x l room 0=0:=by
 obtain ⟨h1,h2,h3,h4,h5⟩:=Ja_ h
 have hz:=vO_ (n:=meN x) (by omega)
 obtain ⟨r1,r2⟩:=hh_ (a:=1) (n:=meN x) (by omega) (by omega)
 have l2:=zk_ (n:=1) (w:=2) (by decide)
 have l3:=zk_ (n:=meN x) (w:=2) (by decide)
 have hb:((Zn_ [2,2] [1,meN x]).length:Int)=4:=by rw [r1,List.length_append];omega
 have hbo:meN x=4+(boO x).length:=rfl
 obtain ⟨w1,w2⟩:=Ha_ (l:=l) (room:=room) r2 (by omega)
 rw [r1] at w1
 have hS:mpS x l room 0=(l++(ze_ 1 2++ze_ (meN x) 2)++boO x,0):=by
  unfold mpS;rw [h3,w1,w2]
  exact zcc_ x _ h1 (by simp only [List.length_append];omega)
 obtain ⟨z1,z2⟩:=xC_ (x:=mpZ x) (l:=l++(ze_ 1 2++ze_ (meN x) 2)++boO x) (room:=room) (by unfold mpZ;rw [h3];simp only [List.length_append,List.length_replicate];omega)
 unfold mpB mpE
 rw [if_pos h,if_pos h,hS,z1,z2]
 refine ⟨?_,rfl⟩
 unfold meB mpZ;rw [h3];simp only [List.append_assoc]
theorem zge_ {x:List OV} {l:List Int} {room e:Int} (h:rgM x=false):mpB x l room e=l/\mpE x l room e=zt_ e 10001:=by
 unfold mpB mpE;rw [h];exact ⟨rfl,rfl⟩
theorem zdZ_ (l:List OV) (h:0<=meN l):((meB l).length:Int)=meN l+pz (meN l):=by
 have l2:=zk_ (n:=1) (w:=2) (by decide)
 have l3:=zk_ (n:=meN l) (w:=2) (by decide)
 have hz:=vO_ (n:=meN l) (by omega)
 have hbo:meN l=4+(boO l).length:=rfl
 unfold meB
 simp only [List.length_append,List.length_replicate];omega
theorem zfM_ {o:OV} (h:rgO o=true):0<=o.2.1/\o.2.1<=127/\0<=o.1/\o.1<=65535/\o.2.2.2.2.1.length<=100/\o.2.2.2.2.2.1.length<=100:=by
 have hn:=qk_ h
 refine ⟨hn.1,hn.2.1,?_,?_,?_,?_⟩<;>omega
def vO (y:List Int):OV:=(zC_ y,zT_ y,Zu_ y,q6_ y,Z7_ y,Z4_ y,())
def mlG (acc:List OV) (y:List Int):List OV × Int:=
 if y.length=0 then (acc,0) else if ¬ zQ_ y=0 then ([],zQ_ y) else if ¬ (ckS [] (acc++[vO y])).2=0 then ([],(ckS [] (acc++[vO y])).2) else mlG (acc++[vO y]) (y.drop (max 1 (Zg_ y).toNat))
termination_by y.length
decreasing_by all_goals (rw [List.length_drop];omega)
theorem y1_ {acc:List OV} {y:List Int} (h:y.length=0):mlG acc y=(acc,0):=by rw [mlG,if_pos h]
theorem H3_ {acc:List OV} {y:List Int} (h:¬ y.length=0) (h1:¬ zQ_ y=0):mlG acc y=([],zQ_ y):=by rw [mlG,if_neg h,if_pos h1]
theorem zcB_ {acc:List OV} {y:List Int} (h:¬ y.length=0) (h1:zQ_ y=0) (h2:¬ (ckS [] (acc++[vO y])).2=0):mlG acc y=([],(ckS [] (acc++[vO y])).2):=by rw [mlG,if_neg h,if_neg (not_not_intro h1),if_pos h2]
theorem ui_ {y:List Int} (hb:∀ x ∈ y,0<=x/\x<=255) (h:zQ_ y=0):4<=Zg_ y/\Zg_ y<=y.length:=by
 obtain ⟨h1,h2,h3,h4⟩:=uf_ hb h
 have:=congrArg List.length h2
 rw [List.length_take] at this
 have hl:4<=(Qh_ (zC_ y) (zT_ y) (Zu_ y) (q6_ y) (Z7_ y) (Z4_ y)).length:=by
  have:=zk_ (n:=zC_ y) (w:=2) (by decide)
  unfold Qh_;simp only [List.length_append,List.length_cons];omega
 omega
theorem zcA_ {acc:List OV} {y:List Int} (hb:∀ x ∈ y,0<=x/\x<=255) (h:¬ y.length=0) (h1:zQ_ y=0) (h2:(ckS [] (acc++[vO y])).2=0):mlG acc y=mlG (acc++[vO y]) (y.drop (Zg_ y).toNat):=by
 have hn:=ui_ hb h1
 rw [mlG,if_neg h,if_neg (not_not_intro h1),if_neg (not_not_intro h2),show max 1 (Zg_ y).toNat=(Zg_ y).toNat by omega]
theorem ziO_ {y:List Int} (h:zQ_ y=0):((Zr_ y (zC_ y),Zr_ y (zT_ y),(if zQ_ y=0 then Zu_ y else false),Zr_ y (q6_ y),Z8_ y (Z7_ y),Z8_ y (Z4_ y),()):OV)=vO y:=by
 unfold Zr_ Z8_ vO;simp only [if_pos h]
def GM_:IR:=
(sq (kr [0] [oD 1 (.boxv 0),
oD 2 (.mov (.c (.undef)))])
(sq (.reg [oD 3 (.mkfn 180 [] [1]),
oM 2 3])
.ret))
def gT_:List RD:=[.tmp 2 true none]
theorem Gj_:zj_ Tryz.prog Tryz.f158 GM_ gT_=true:=by kernel_rfl
def wB_:List AV->List Obj->Option (Prop × AV × List Obj)
 | [.imm (.int .u8) b],[]=>some ((True,.fn 180 [] [.ptr 0 0],[.box [.imm (.int .u8) b]]))
 | _,_=>none
theorem uz_:zd_ Tryz.prog 158 (RwF wB_).sum:=by
 refine qg_ Tryz.func158 Gj_ (zc_ _) fun args objs p v o e=>?_
 unfold wB_ at e
 split at e
 ·rename_i b
  cases e
  refine ⟨rfl,fun hw ho hp=>?_⟩
  change List Int at b
  repeat'(intro t ht;first|(cases t<;>first|(cases ht;done)|(try simp only[zg_]at ht;try(exfalso;first|contradiction|omega)))|((first|refine zb_ ht ?_|refine ht ?_ ?_|refine ht.1 ?_ ?_|refine ht ?_)<;>clear ht))
  all_goals first
   | exact True.intro
   | exact ⟨rfl,rfl⟩
 ·cases e
def GL_:IR:=
(sq (kr [0] [oD 2 (.box [.nils]),
oD 3 (.box [.int .i64 0])])
(sq (sq (.reg [oM 8 0,
oC 9 158 [8]])
(.block 0
(.rng 9 [10,11] [2,3] 180
(sq (kr [2,3,10,11] [oD 4 (.box [.int .i64 0,.int .i64 0,.kb false,.int .u64 0,.nils,.nils]),
oS 6 4 10])
(.reg [oM 5 11]))
(.block 1
(sq (sq (kr [2,3,4,5] [oM 12 5,
oB 13 .neq 12 (cI 0)])
(.cond 13
(sq (.reg [oM 14 5,
oN (.store 1 2 (.c (.nils))),
oS 1 3 14])
.ret)
.skip))
(sq (.reg [oL 15 2,
oK 16 6 4,
oD 17 (.sliceAll Y1 1 [(0,6,16)]),
oD 18 (.append Y1 80 15 17),
oS 1 2 18])
(sq (kr [2,3] [oL 20 2,
oC 21 119 [20],
oM 19 21,
oX 22 19 0,
oX 23 19 1,
oM 6 22,
oM 7 23])
(sq (kr [2,3,7] [oM 24 7,
oB 25 .neq 24 (cI 0)])
(.cond 25
(sq (.reg [oM 26 7,
oN (.store 1 2 (.c (.nils))),
oS 1 3 26])
.ret)
.skip))))))
(.block 0
(.loop
(sq (sq (kr [0,1] [oL 6 1,
oE 7 6,
oB 8 .gtr 7 (cI 0)])
(.cond 8
.skip
(.exit 0)))
(.block 1
(sq (kr [0,1] [oL 10 1,
oC 11 181 [10],
oM 9 11,
oX 12 9 0,
oX 13 9 1,
oX 14 9 2,
oD 3 (.box [.int .i64 0,.int .i64 0,.kb false,.int .u64 0,.imm (.int .u8) [],.imm (.int .u8) []]),
oS 6 3 12,
oM 4 13,
oM 5 14])
(sq (sq (.keep [0,1,3,4,5]
(.yld [oM 15 0,
oK 16 6 3,
oM 17 5] (some 18) (.t 15) [(.t 16),(.t 17)] [0,1,4,5] [oD 19 (.un .not 18),
oM 20 19,
oF 20 21 (.mov 5),
oF 20 22 (.bin .neq 21 (cI 0)),
oP 23 20 cT 22]))
(.cond 23
.ret
.skip))
(kr [0,1,4] [oL 24 1,
oM 25 4,
oD 26 (.slice 1 24 (some 25) none none),
oS 1 1 26]))))))))))
(sq (kr [2,3] [oL 27 2,
oS 1 2 27,
oN (.store 1 3 (cI 0))])
.ret)))
def gS_:List RD:=[.cell 2 none true [(some Y1)],.cell 3 none true []]
theorem Gi_:zj_ Tryz.prog Tryz.f132 GL_ gS_=true:=by kernel_rfl
def wA_:List AV->List Obj->Option (Prop × AV)
 | [.imm (.int .u8) b],[]=>some ((b.length<=100000000,.tup [.imm Y1 (mlG [] b).1,.int .i64 (mlG [] b).2]))
 | _,_=>none
theorem uy_:zd_ Tryz.prog 132 (RoF wA_).sum:=by
 refine zi_ Tryz.func132 Gi_ (za_ (s:=RoF KB_) WM_ (za_ (s:=RwF wB_) uz_ (za_ (s:=RoF KD_) WO_ (zc_ _)))) fun args objs p v e=>?_
 unfold wA_ at e
 split at e
 ·rename_i b
  cases e
  refine ⟨rfl,fun hw ho hp=>?_⟩
  change List Int at b
  have hb:∀ x ∈ (b:List Int),(0:Int)<=x/\x<=255:=fun x hx=>(hw (.imm (.int .u8) b) (by simp)).1 x hx
  clear hw ho
  repeat'(intro t ht;first|(cases t<;>first|(cases ht;done)|(try simp only[zg_]at ht;try(exfalso;first|contradiction|omega)))|((first|refine zb_ ht ?_|refine ht ?_ ?_|refine ht.1 ?_ ?_|refine ht ?_)<;>clear ht))
  all_goals first
   | exact True.intro
   | (refine .inl fun lr ln=>?_)
  repeat'(intro t ht;first|(cases t<;>first|(cases ht;done)|(try simp only[zg_]at ht;try(exfalso;first|contradiction|omega)))|((first|refine zb_ ht ?_|refine ht ?_ ?_|refine ht.1 ?_ ?_|refine ht ?_)<;>clear ht))
  all_goals first
   | exact True.intro
   | (intro r h1 h2;clear h1;refine h2 ⟨[0,1],Option (List OV × List Int),(fun a=>match a with | none=>True | some a=>a.1.length+a.2.length<=b.length/\(∀ x ∈ a.2,0<=x/\x<=255)/\mlG [] b=mlG a.1 a.2),(fun a=>[.yv ln,.ptr 0 0]),(fun a=>match a with | none=>[.box [.imm (.int .u8) b],.box [.nils],.box [.int .i64 0],.lrec lr 0] | some a=>[.box [.imm (.int .u8) a.2],.box [.own 4],.box [.int .i64 0],.lrec lr 0,.row false Y1 a.1]),(fun a=>match a with | none=>b.length+1 | some a=>a.2.length),⟨none,True.intro,rfl,rfl⟩,?_⟩;clear h2)
  rintro (_ | ⟨acc,y⟩) hJ
  ·clear hJ
   repeat'(intro t ht;first|(cases t<;>first|(cases ht;done)|(try simp only[zg_]at ht;try(exfalso;first|contradiction|omega)))|((first|refine zb_ ht ?_|refine ht ?_ ?_|refine ht.1 ?_ ?_|refine ht ?_)<;>clear ht))
   all_goals (try dsimp only at*)
   all_goals first
    | exact True.intro
    | ((try simp only [zm_,zn_,zl_] at*);omega)
    | exact ⟨rfl,rfl⟩
    | (rw [y1_ (by omega)];exact ⟨rfl,rfl⟩)
    | (simp only [qd_,List.length_cons,List.length_nil];constructor<;>omega)
    | (have h0:zQ_ b=0:=by assumption
       have hg:=ui_ hb h0
       have e1:Zr_ b (Zg_ b)=Zg_ b:=if_pos h0
       have hv:=ziO_ h0
       first
        | (rw [e1];constructor<;>omega)
        | (have hc:¬ (ckS [] ([]++[(Zr_ b (zC_ b),Zr_ b (zT_ b),if zQ_ b=0 then Zu_ b else false,Zr_ b (q6_ b),Z8_ b (Z7_ b),Z8_ b (Z4_ b),())])).2=0:=by assumption
           rw [hv] at hc
           have hm:=zcB_ (acc:=[]) (by omega) h0 hc
           rw [hm,<- hv];exact ⟨rfl,rfl⟩)
        | (have hc:(ckS [] ([]++[(Zr_ b (zC_ b),Zr_ b (zT_ b),if zQ_ b=0 then Zu_ b else false,Zr_ b (q6_ b),Z8_ b (Z7_ b),Z8_ b (Z4_ b),())])).2=0:=by assumption
           rw [hv] at hc
           have hm:=zcA_ (acc:=[]) hb (by omega) h0 hc
           refine ⟨some ([]++[vO b],b.drop (Zg_ b).toNat),⟨?_,fun x hx=>hb x (List.mem_of_mem_drop hx),hm⟩,?_,rfl,?_⟩
           ·simp only [List.length_append,List.length_cons,List.length_nil,List.length_drop];omega
           ·dsimp only;rw [List.length_drop];omega
           ·dsimp only;rw [e1,<- hv];rfl))
    | (have h0:¬ zQ_ b=0:=by assumption
       rw [H3_ (by omega) h0];exact ⟨rfl,rfl⟩)
  ·obtain ⟨j1,j2,j3⟩:=hJ
   dsimp only at j1 j2 j3
   repeat'(intro t ht;first|(cases t<;>first|(cases ht;done)|(try simp only[zg_]at ht;try(exfalso;first|contradiction|omega)))|((first|refine zb_ ht ?_|refine ht ?_ ?_|refine ht.1 ?_ ?_|refine ht ?_)<;>clear ht))
   all_goals (try dsimp only at*)
   all_goals first
    | exact True.intro
    | ((try simp only [zm_,zn_,zl_] at*);omega)
    | exact ⟨rfl,rfl⟩
    | (rw [j3,y1_ (by omega)];exact ⟨rfl,rfl⟩)
    | (simp only [qd_,List.length_cons,List.length_nil];constructor<;>omega)
    | (have h0:zQ_ y=0:=by assumption
       have hg:=ui_ j2 h0
       have e1:Zr_ y (Zg_ y)=Zg_ y:=if_pos h0
       have hv:=ziO_ h0
       first
        | (rw [e1];constructor<;>omega)
        | (have hc:¬ (ckS [] (acc++[(Zr_ y (zC_ y),Zr_ y (zT_ y),if zQ_ y=0 then Zu_ y else false,Zr_ y (q6_ y),Z8_ y (Z7_ y),Z8_ y (Z4_ y),())])).2=0:=by assumption
           rw [hv] at hc
           have hm:=zcB_ (acc:=acc) (by omega) h0 hc
           rw [j3,hm,<- hv];exact ⟨rfl,rfl⟩)
        | (have hc:(ckS [] (acc++[(Zr_ y (zC_ y),Zr_ y (zT_ y),if zQ_ y=0 then Zu_ y else false,Zr_ y (q6_ y),Z8_ y (Z7_ y),Z8_ y (Z4_ y),())])).2=0:=by assumption
           rw [hv] at hc
           have hm:=zcA_ (acc:=acc) j2 (by omega) h0 hc
           refine ⟨some (acc++[vO y],y.drop (Zg_ y).toNat),⟨?_,fun x hx=>j2 x (List.mem_of_mem_drop hx),j3.trans hm⟩,?_,rfl,?_⟩
           ·simp only [List.length_append,List.length_cons,List.length_nil,List.length_drop];omega
           ·dsimp only;rw [List.length_drop];omega
           ·dsimp only;rw [e1,<- hv];rfl))
    | (have h0:¬ zQ_ y=0:=by assumption
       rw [j3,H3_ (by omega) h0];exact ⟨rfl,rfl⟩)
 ·cases e
def Wx_:IR:=
(sq (kr [0] [oD 2 (.mov (.c (.imm (.int .u8) [])))])
(sq (sq (.reg [oM 3 0,
oC 4 43 [3],
oB 5 .neq 4 (cI 0)])
(.cond 5
(sq (.reg [oD 2 (.mov (.c (.imm (.int .u8) [])))])
.ret)
.skip))
(sq (kd [0] [(oM 6 0,[]),
(oD 7 (.nilck 6),[]),
(oA 8 0 7,[]),
(oL 9 8,[]),
(oM 10 0,[0,0,0,0]),
(oD 11 (.nilck 10),[1,0,0,0]),
(oA 12 1 11,[2,0,0,0]),
(oL 13 12,[3,0,0,0]),
(oD 14 (.slice 1 9 (some 13) none none),[]),
(oC 15 67 [14],[]),
(oM 2 15,[])])
.ret)))
def w2_:List RD:=[.tmp 2 true (some (.int .u8))]
theorem Wi_:zj_ Tryz.prog Tryz.f96 Wx_ w2_=true:=by kernel_rfl
def qZ_:List AV->List Obj->Option (Prop × AV)
 | [.ptr 0 0],[.box [.imm (.int .u8) b,.int .i64 p,.int .i64 sh,.int .i64 od,.int .i64 e,.bool true]]=>some ((0<=p/\p<=b.length/\b.length<=140737488355328,.imm (.int .u8) (if e=0 then b.drop p.toNat else [])))
 | _,_=>none
theorem JI_:zd_ Tryz.prog 96 (RoF qZ_).sum:=by
 refine zi_ Tryz.func96 Wi_ (za_ (s:=RoF zp_) zq_ (za_ (s:=RoF qt_) Qy_ (zc_ _))) fun args objs p v e=>?_
 unfold qZ_ at e
 split at e
 ·rename_i b p sh od e
  cases e
  refine ⟨rfl,fun hw ho hp=>?_⟩
  change List Int at b
  clear hw ho
  obtain ⟨h1,h2,h3⟩:=hp
  repeat'(intro t ht;first|(cases t<;>first|(cases ht;done)|(try simp only[zg_]at ht;try(exfalso;first|contradiction|omega)))|((first|refine zb_ ht ?_|refine ht ?_ ?_|refine ht.1 ?_ ?_|refine ht ?_)<;>clear ht))
  all_goals first
   | exact True.intro
   | (rw [List.length_drop];omega)
   | ((try simp only [zm_,zn_,zl_] at*);omega)
   | omega
   | (rw [if_pos (by assumption)];exact ⟨rfl,rfl⟩)
   | (rw [if_neg (by assumption)];exact ⟨rfl,rfl⟩)
 ·cases e
theorem get2 (b:List Int):ZE_ [2] b=if b.length < 2 then ([],1) else ([Zx_ (b.take 2)],0):=by
 have hr:Zw_ [2]=true:=by decide
 unfold ZE_
 rw [if_pos hr]
 have a2:zv_ 2=2:=by decide
 have t2:Int.toNat 2=2:=rfl
 have p2:(0:Int) < 2:=by decide
 simp only [Zy_,a2,t2,if_pos p2]
 by_cases h:b.length < 2
 ·rw [if_pos h,if_pos (by omega)]
 ·rw [if_neg h,if_neg (by omega)];rfl
theorem HZ_ {b:List Int} {p sh od:Int} (hp:0<=p) (h:p+2<=b.length):yY_ 2 b p 0=Zx_ ((b.drop p.toNat).take 2)/\xf_ 2 b p 0=p+2/\Xx_ 2 b p sh od 0=0:=by
 have e:ZE_ [2] (b.drop p.toNat)=([Zx_ ((b.drop p.toNat).take 2)],0):=by
  rw [get2,if_neg (by rw [List.length_drop];omega)]
 have es:zG_ [2]=2:=by decide
 unfold yY_ xf_ Xx_ QR_ ky_ k8_ zP_ zZ_
 rw [e,es];exact ⟨rfl,rfl,rfl⟩
theorem zdR_ {b:List Int} {p sh od:Int} (hp:0<=p/\p<=b.length) (h:¬ p+2<=b.length):yY_ 2 b p 0=0/\xf_ 2 b p 0=p/\Xx_ 2 b p sh od 0=sh:=by
 have e:ZE_ [2] (b.drop p.toNat)=([],1):=by
  rw [get2,if_pos (by rw [List.length_drop];omega)]
 unfold yY_ xf_ Xx_ QR_ ky_ k8_ zP_ zZ_
 rw [e];exact ⟨rfl,rfl,rfl⟩
theorem zhX_ {b:List Int} {p sh od e:Int} (he:e ≠ 0):yY_ 2 b p e=0/\xf_ 2 b p e=p/\Xx_ 2 b p sh od e=e:=by
 unfold yY_ xf_ Xx_ QR_ ky_ k8_
 rw [if_neg he,if_neg he,if_neg he];exact ⟨rfl,rfl,rfl⟩
theorem zfC_ {b:List Int} {sh od:Int} (hs:sh ≠ 0):
 (¬ b.length < 4->yY_ 2 b 0 0=tT b/\xf_ 2 b 0 0=2/\Xx_ 2 b 0 sh od 0=0/\yY_ 2 b 2 0=tN b/\xf_ 2 b 2 0=4/\Xx_ 2 b 2 sh od 0=0)/\
 (b.length < 4->yY_ 2 b (xf_ 2 b 0 0) (Xx_ 2 b 0 sh od 0)=0/\Xx_ 2 b (xf_ 2 b 0 0) sh od (Xx_ 2 b 0 sh od 0)=sh/\0<=xf_ 2 b 0 0/\xf_ 2 b 0 0<=b.length):=by
 constructor
 ·intro h
  obtain ⟨a1,a2,a3⟩:=HZ_ (b:=b) (p:=0) (sh:=sh) (od:=od) (by decide) (by omega)
  obtain ⟨b1,b2,b3⟩:=HZ_ (b:=b) (p:=2) (sh:=sh) (od:=od) (by decide) (by omega)
  exact ⟨a1,a2,a3,b1,b2,b3⟩
 ·intro h
  by_cases h2:b.length < 2
  ·obtain ⟨a1,a2,a3⟩:=zdR_ (b:=b) (p:=0) (sh:=sh) (od:=od) ⟨by decide,by omega⟩ (by omega)
   rw [a2,a3]
   obtain ⟨b1,b2,b3⟩:=zhX_ (b:=b) (p:=0) (sh:=sh) (od:=od) hs
   exact ⟨b1,b3,by decide,by omega⟩
  ·obtain ⟨a1,a2,a3⟩:=HZ_ (b:=b) (p:=0) (sh:=sh) (od:=od) (by decide) (by omega)
   rw [a2,a3]
   obtain ⟨b1,b2,b3⟩:=zdR_ (b:=b) (p:=0+2) (sh:=sh) (od:=od) ⟨by decide,by omega⟩ (by omega)
   exact ⟨b1,b3,by decide,by omega⟩
theorem zh2_ {k p sh:Int} {b:List Int} (hk:1<=k/\k<=7) (hp:0<=p) (h:p+k<=b.length):ky_ [0 - k] b p 0=(if ZB_ ((b.drop p.toNat).take k.toNat)=true then p+k else p)/\k8_ [0 - k] b p sh sh 0=(if ZB_ ((b.drop p.toNat).take k.toNat)=true then 0 else sh):=by
 have hr:Zw_ [0 - k]=true:=by
  rw [ZD_];refine ⟨by simp,fun n hn=>?_⟩
  simp only [List.mem_cons,List.not_mem_nil,or_false] at hn
  subst hn;omega
 have ha:zv_ (0 - k)=k:=by unfold zv_;split<;>omega
 have hl:(b.drop p.toNat).length=b.length - p.toNat:=List.length_drop
 have e:ZE_ [0 - k] (b.drop p.toNat)=([],if ZB_ ((b.drop p.toNat).take k.toNat)=true then 0 else 2):=by
  unfold ZE_;rw [if_pos hr]
  simp only [Zy_,ha]
  rw [if_neg (by omega),if_neg (by omega)]
  split<;>rfl
 have es:zG_ [0 - k]=k:=by
  unfold zG_;rw [if_pos hr];simp only [List.map_cons,List.map_nil,List.sum_cons,List.sum_nil,ha];omega
 unfold ky_ k8_ zZ_
 rw [e,es]
 cases hz:ZB_ ((b.drop p.toNat).take k.toNat) with
 | true=>exact ⟨rfl,rfl⟩
 | false=>exact ⟨rfl,rfl⟩
def mdZ (b:List Int):Bool:=ZB_ ((b.drop (tN b).toNat).take (pz (tN b)).toNat)
def mdE (b:List Int):Int:=if b.length < 4 then 1026 else if ¬ tT b=1 then 1025 else if tN b < 4\/65528 < tN b\/b.length < tN b+pz (tN b) then 1026 else if ¬ (mlG [] (bd b)).2=0 then (mlG [] (bd b)).2 else if mdZ b=true then 0 else 1026
def mdL (b:List Int):List OV:=if mdE b=0 then (mlG [] (bd b)).1 else []
def mdN (b:List Int):Int:=if mdE b=0 then tN b+pz (tN b) else 0
theorem YY_ {b:List Int} {e:Int} (h:mdE b=e) (h0:¬ e=0):mdL b=[]/\mdN b=0:=by
 unfold mdL mdN;rw [h,if_neg h0,if_neg h0];exact ⟨rfl,rfl⟩
def VO_:IR:=
(sq (kr [0] [oD 2 (.mov (.c (.imm Y1 []))),
oD 3 (.mov (cI 0)),
oD 4 (.mov (cI 0))])
(sq (.reg [oM 12 0,
oC 13 41 [12,(cI 1026),(cI 1026)],
oM 5 13])
(sq (kr [0,5] [oM 14 5,
oC 15 131 [14,(cI 2)],
oM 16 5,
oC 17 131 [16,(cI 2)],
oD 18 (.conv .i64 17),
oM 6 15,
oM 7 18])
(sq (.block 0
(sq (kr [0,5,6,7] [oM 20 5,
oC 21 43 [20],
oB 22 .neq 21 (cI 0),
oM 19 22])
(.cond 19
(sq (kr [5] [oM 23 5,
oC 24 43 [23],
oD 2 (.mov (.c (.imm Y1 []))),
oD 3 (.mov (cI 0)),
oM 4 24])
.ret)
(sq (.reg [oM 26 6,
oB 27 .neq 26 (.c (.int .u64 1)),
oM 25 27])
(.cond 25
(sq (kr [] [oD 2 (.mov (.c (.imm Y1 []))),
oD 3 (.mov (cI 0)),
oD 4 (.mov (cI 1025))])
.ret)
(sq (kr [0,5,7] [oM 29 7,
oB 30 .lss 29 (cI 4),
oM 31 30,
oF 31 32 (.mov 7),
oF 31 33 (.bin .gtr 32 (cI 65528)),
oP 34 31 cT 33,
oM 35 34,
oF 35 36 (.mov 7),
oF 35 37 (.mov 7),
oF 35 38 (.call false (.f 72) [37]),
oF 35 39 (.bin .add 36 38),
oF 35 40 (.mov 0),
oF 35 41 (.len 40),
oF 35 42 (.bin .gtr 39 41),
oP 43 35 cT 42,
oM 28 43])
(.cond 28
(sq (kr [] [oD 2 (.mov (.c (.imm Y1 []))),
oD 3 (.mov (cI 0)),
oD 4 (.mov (cI 1026))])
.ret)
.skip)))))))
(sq (kr [5,7] [oM 45 5,
oM 46 7,
oB 47 .sub 46 (cI 4),
oC 48 98 [45,47],
oC 49 132 [48],
oM 44 49,
oX 50 44 0,
oX 51 44 1,
oM 8 50,
oM 9 51])
(sq (sq (kr [5,7,8,9] [oM 52 9,
oB 53 .neq 52 (cI 0)])
(.cond 53
(sq (.reg [oM 54 9,
oD 2 (.mov (.c (.imm Y1 []))),
oD 3 (.mov (cI 0)),
oM 4 54])
.ret)
.skip))
(sq (sq (kr [5,7,8] [oM 55 7,
oC 56 72 [55],
oM 10 56])
(sq (.reg [oM 57 10,
oB 58 .gtr 57 (cI 0)])
(.cond 58
(kr [5,8,10] [oM 59 5,
oM 60 10,
oD 61 (.un .neg 60),
oD 62 (.sliceAll (.int .i64) 1 [(0,1,61)]),
oC 63 42 [59,62]])
.skip)))
(sq (sq (.reg [oM 64 5,
oC 65 43 [64],
oM 11 65])
(sq (kr [5,8,11] [oM 66 11,
oB 67 .neq 66 (cI 0)])
(.cond 67
(sq (.reg [oM 68 11,
oD 2 (.mov (.c (.imm Y1 []))),
oD 3 (.mov (cI 0)),
oM 4 68])
.ret)
.skip)))
(sq (kr [5,8] [oM 69 8,
oM 70 5,
oC 71 133 [70],
oM 2 69,
oM 3 71,
oD 4 (.mov (cI 0))])
.ret)))))))))
def Vp_:List RD:=[.tmp 2 true (some Y1),.tmp 3 true none,.tmp 4 true none]
theorem VB_:zj_ Tryz.prog Tryz.f97 VO_ Vp_=true:=by kernel_rfl
def K8_:List AV->List Obj->Option (Prop × AV)
 | [.imm (.int .u8) b],[]=>some ((b.length<=100000000,.tup [.imm Y1 (mdL b),.int .i64 (mdN b),.int .i64 (mdE b)]))
 | _,_=>none
theorem Yx_:zd_ Tryz.prog 97 (RoF K8_).sum:=by
 refine zi_ Tryz.func97 VB_ (za_ (s:=RwF ZJ_) ZN_ (za_ (s:=RwF Z9_) kl_ (za_ (s:=RoF zp_) zq_ (za_ (s:=RoF kR_) wK_ (za_ (s:=RwF zK_) zY_ (za_ (s:=RoF wA_) uy_ (za_ (s:=RwF zW_) z5_ (za_ (s:=RoF ZR_) qH_ (zc_ _))))))))) fun args objs p v e=>?_
 unfold K8_ at e
 split at e
 ·rename_i b
  cases e
  refine ⟨rfl,fun hw ho hp=>?_⟩
  change List Int at b
  have hb:∀ x ∈ (b:List Int),(0:Int)<=x/\x<=255:=fun x hx=>(hw (.imm (.int .u8) b) (by simp)).1 x hx
  clear hw ho
  have hn2:0<=tN b/\tN b<=65535:=kO_ (a:=2) hb
  have hz:=vO_ hn2.1
  obtain ⟨T1,T2⟩:=zfC_ (b:=b) (sh:=1026) (od:=1026) (by decide)
  by_cases h4:b.length < 4
  ·obtain ⟨n1,n2,n3,n4⟩:=T2 h4
   have hE:mdE b=1026:=if_pos h4
   obtain ⟨m1,m2⟩:=YY_ hE (by decide)
   rw [m1,m2,hE]
   repeat'(intro t ht;first|(cases t<;>first|(cases ht;done)|(try simp only[zg_]at ht))|((first|refine zb_ ht ?_|refine ht ?_ ?_|refine ht.1 ?_ ?_|refine ht ?_)<;>clear ht))
   all_goals (try simp only [n1,n2,zdX_,zd0_] at*)
   all_goals first
    | exact True.intro
    | exact ⟨n3,n4,by omega⟩
    | omega
    | exact ⟨by decide,by omega,by omega⟩
    | exact ⟨rfl,by first | rfl | exact True.intro⟩
    | exact ⟨True.intro,True.intro⟩
    | (exfalso;simp_all;done)
  ·obtain ⟨n1,n2,n3,n4,n5,n6⟩:=T1 h4
   by_cases ht:tT b=1
   ·by_cases hr:tN b < 4\/65528 < tN b\/b.length < tN b+pz (tN b)
    ·have hE:mdE b=1026:=by unfold mdE;rw [if_neg h4,if_neg (not_not_intro ht),if_pos hr]
     obtain ⟨m1,m2⟩:=YY_ hE (by decide)
     rw [m1,m2,hE]
     repeat'(intro t ht;first|(cases t<;>first|(cases ht;done)|(try simp only[zg_]at ht))|((first|refine zb_ ht ?_|refine ht ?_ ?_|refine ht.1 ?_ ?_|refine ht ?_)<;>clear ht))
     all_goals (try simp only [n1,n2,n3,n4,n5,n6,ht] at*)
     all_goals first
      | exact True.intro
      | contradiction
      | omega
      | ((try simp only [zm_,zn_,zl_] at*);omega)
      | exact ⟨by decide,by omega,by omega⟩
      | exact ⟨rfl,by first | rfl | exact True.intro⟩
      | exact ⟨True.intro,True.intro⟩
      | (exfalso;omega)
    ·have hE0:mdE b=if ¬ (mlG [] (bd b)).2=0 then (mlG [] (bd b)).2 else if mdZ b=true then 0 else 1026:=by unfold mdE;rw [if_neg h4,if_neg (not_not_intro ht),if_neg hr]
     obtain ⟨k1,k2,k3⟩:=Jz_ (n:=tN b - 4) (p:=4) (sh:=1026) (b:=b) (by omega) (by omega)
     have k4:(b.take (4+(tN b - 4)).toNat).drop (4:Int).toNat=bd b:=by unfold bd;rw [show 4+(tN b - 4)=tN b by omega];rfl
     rw [k4] at k1
     have k5:(4:Int)+(tN b - 4)=tN b:=by omega
     rw [k5] at k2
     have hbl:=zbx_ hb
     by_cases hg:(mlG [] (bd b)).2=0
     ·rw [if_neg (not_not_intro hg)] at hE0
      by_cases hk:0 < pz (tN b)
      ·obtain ⟨r1,r2⟩:=zh2_ (sh:=1026) (b:=b) (p:=tN b) (k:=pz (tN b)) (by omega) (by omega) (by omega)
       have hZ:ZB_ ((b.drop (tN b).toNat).take (pz (tN b)).toNat)=mdZ b:=rfl
       rw [hZ] at r1 r2
       cases hz0:mdZ b with
       | true=>
         rw [hz0] at hE0 r1 r2
         rw [if_pos rfl] at r1 r2 hE0
         have m1:mdL b=(mlG [] (bd b)).1:=if_pos hE0
         have m2:mdN b=tN b+pz (tN b):=if_pos hE0
         rw [m1,m2,hE0]
         repeat'(intro t ht;first|(cases t<;>first|(cases ht;done)|(try simp only[zg_]at ht))|((first|refine zb_ ht ?_|refine ht ?_ ?_|refine ht.1 ?_ ?_|refine ht ?_)<;>clear ht))
         all_goals (try simp only [n1,n2,n3,n4,n5,n6,ht,k1,k2,k3,hg,r1,r2] at*)
         all_goals first
          | exact True.intro
          | contradiction
          | omega
          | ((try simp only [zm_,zn_,zl_] at*);omega)
          | exact ⟨by omega,by omega,by omega,by decide⟩
          | exact ⟨by omega,by omega,by omega⟩
          | exact ⟨rfl,by first | rfl | exact True.intro⟩
          | exact ⟨True.intro,True.intro⟩
          | (exfalso;omega)
       | false=>
         rw [hz0] at hE0 r1 r2
         rw [if_neg (by decide)] at r1 r2 hE0
         obtain ⟨m1,m2⟩:=YY_ hE0 (by decide)
         rw [m1,m2,hE0]
         repeat'(intro t ht;first|(cases t<;>first|(cases ht;done)|(try simp only[zg_]at ht))|((first|refine zb_ ht ?_|refine ht ?_ ?_|refine ht.1 ?_ ?_|refine ht ?_)<;>clear ht))
         all_goals (try simp only [n1,n2,n3,n4,n5,n6,ht,k1,k2,k3,hg,r1,r2] at*)
         all_goals first
          | exact True.intro
          | contradiction
          | omega
          | ((try simp only [zm_,zn_,zl_] at*);omega)
          | exact ⟨by omega,by omega,by omega,by decide⟩
          | exact ⟨by omega,by omega,by omega⟩
          | exact ⟨rfl,by first | rfl | exact True.intro⟩
          | exact ⟨True.intro,True.intro⟩
          | (exfalso;omega)
      ·have hk0:pz (tN b)=0:=by omega
       have hz0:mdZ b=true:=by unfold mdZ;rw [hk0];rfl
       rw [hz0,if_pos rfl] at hE0
       have m1:mdL b=(mlG [] (bd b)).1:=if_pos hE0
       have m2:mdN b=tN b:=by have:mdN b=tN b+pz (tN b):=if_pos hE0;omega
       rw [m1,m2,hE0]
       repeat'(intro t ht;first|(cases t<;>first|(cases ht;done)|(try simp only[zg_]at ht))|((first|refine zb_ ht ?_|refine ht ?_ ?_|refine ht.1 ?_ ?_|refine ht ?_)<;>clear ht))
       all_goals (try simp only [n1,n2,n3,n4,n5,n6,ht,k1,k2,k3,hg] at*)
       all_goals first
        | exact True.intro
        | contradiction
        | omega
        | ((try simp only [zm_,zn_,zl_] at*);omega)
        | exact ⟨by omega,by omega,by omega,by decide⟩
        | exact ⟨by omega,by omega,by omega⟩
        | exact ⟨rfl,by first | rfl | exact True.intro⟩
        | exact ⟨True.intro,True.intro⟩
        | (exfalso;omega)
     ·rw [if_pos hg] at hE0
      obtain ⟨m1,m2⟩:=YY_ hE0 hg
      rw [m1,m2,hE0]
      repeat'(intro t ht;first|(cases t<;>first|(cases ht;done)|(try simp only[zg_]at ht))|((first|refine zb_ ht ?_|refine ht ?_ ?_|refine ht.1 ?_ ?_|refine ht ?_)<;>clear ht))
      all_goals (try simp only [n1,n2,n3,n4,n5,n6,ht,k1,k2,k3] at*)
      all_goals first
       | exact True.intro
       | contradiction
       | omega
       | ((try simp only [zm_,zn_,zl_] at*);omega)
       | exact ⟨by omega,by omega,by omega,by decide⟩
       | exact ⟨by omega,by omega,by omega⟩
       | exact ⟨rfl,by first | rfl | exact True.intro⟩
       | exact ⟨True.intro,True.intro⟩
       | (exfalso;omega)
   ·have hE:mdE b=1025:=by unfold mdE;rw [if_neg h4,if_pos ht]
    obtain ⟨m1,m2⟩:=YY_ hE (by decide)
    rw [m1,m2,hE]
    repeat'(intro t ht;first|(cases t<;>first|(cases ht;done)|(try simp only[zg_]at ht))|((first|refine zb_ ht ?_|refine ht ?_ ?_|refine ht.1 ?_ ?_|refine ht ?_)<;>clear ht))
    all_goals (try simp only [n1,n2,n3,n4,n5,n6] at*)
    all_goals first
     | exact True.intro
     | contradiction
     | omega
     | ((try simp only [zm_,zn_,zl_] at*);omega)
     | exact ⟨by decide,by omega,by omega⟩
     | exact ⟨rfl,by first | rfl | exact True.intro⟩
     | exact ⟨True.intro,True.intro⟩
     | (exfalso;omega)
 ·cases e
def mtL (b:List Int) (p e:Int):List OV:=if e=0 then mdL (b.drop p.toNat) else []
def mtP (b:List Int) (p e:Int):Int:=if e=0 then p+mdN (b.drop p.toNat) else p
def mtE (b:List Int) (p e:Int):Int:=if e=0 then mdE (b.drop p.toNat) else e
theorem zcG_ (b:List Int) (hb:∀ x ∈ b,0<=x/\x<=255):0<=mdN b/\mdN b<=b.length:=by
 have hn2:0<=tN b/\tN b<=65535:=kO_ (a:=2) hb
 have hz:=vO_ hn2.1
 unfold mdN;split
 ·rename_i h
  unfold mdE at h
  split at h
  ·cases h
  ·split at h
   ·cases h
   ·split at h
    ·cases h
    ·omega
 ·omega
def GN_:IR:=
(sq (kr [0] [oD 2 (.mov (.c (.imm Y1 [])))])
(sq (sq (.reg [oM 7 0,
oC 8 43 [7],
oB 9 .neq 8 (cI 0)])
(.cond 9
(sq (.reg [oD 2 (.mov (.c (.imm Y1 [])))])
.ret)
.skip))
(sq (.reg [oM 10 0,
oC 11 96 [10],
oM 3 11])
(sq (kr [0,3] [oM 13 3,
oC 14 97 [13],
oM 12 14,
oX 15 12 0,
oX 16 12 1,
oX 17 12 2,
oM 4 15,
oM 5 16,
oM 6 17])
(sq (kr [0,4,5,6] [oM 18 0,
oM 19 6,
oC 20 44 [18,19]])
(sq (.reg [oM 21 0,
oM 22 5,
oC 23 98 [21,22]])
(sq (.reg [oM 24 4,
oM 2 24])
.ret)))))))
def gU_:List RD:=[.tmp 2 true (some Y1)]
theorem Gk_:zj_ Tryz.prog Tryz.f45 GN_ gU_=true:=by kernel_rfl
def KF_:List AV->List Obj->Option (Prop × AV × List Obj)
 | [.ptr 0 0],[.box [.imm (.int .u8) b,.int .i64 p,.int .i64 sh,.int .i64 od,.int .i64 e,.bool true]]=>some ((0<=p/\p<=b.length/\b.length<=100000000/\sh ≠ 0,.imm Y1 (mtL b p e),[.box [.imm (.int .u8) b,.int .i64 (mtP b p e),.int .i64 sh,.int .i64 od,.int .i64 (mtE b p e),.bool true]]))
 | _,_=>none
theorem WQ_:zd_ Tryz.prog 45 (RwF KF_).sum:=by
 refine qg_ Tryz.func45 Gk_ (za_ (s:=RoF zp_) zq_ (za_ (s:=RoF qZ_) JI_ (za_ (s:=RoF K8_) Yx_ (za_ (s:=RwF zr_) zs_ (za_ (s:=RwF zK_) zY_ (zc_ _)))))) fun args objs p v o e=>?_
 unfold KF_ at e
 split at e
 ·rename_i b p sh od e
  cases e
  refine ⟨rfl,fun hw ho hp=>?_⟩
  change List Int at b
  have hb:∀ x ∈ (b:List Int),(0:Int)<=x/\x<=255:=fun x hx=>((ho _ (List.mem_cons_self ..)) (.imm (.int .u8) b) (by simp)).1 x hx
  clear hw ho
  obtain ⟨h1,h2,h3,h4⟩:=hp
  have hbd:∀ x ∈ b.drop p.toNat,(0:Int)<=x/\x<=255:=fun x hx=>hb x (List.mem_of_mem_drop hx)
  have hN:=zcG_ _ hbd
  have hl:(b.drop p.toNat).length=b.length - p.toNat:=List.length_drop
  by_cases he:e=0
  ·subst he
   have f0:∀ x,zt_ 0 x=x:=fun x=>if_pos rfl
   have hT:jm_ (mdN (b.drop p.toNat)) b p sh (mdE (b.drop p.toNat))=p+mdN (b.drop p.toNat)/\ZW_ (mdN (b.drop p.toNat)) b p sh (mdE (b.drop p.toNat))=mdE (b.drop p.toNat):=by
    have hE:ZW_ (mdN (b.drop p.toNat)) b p sh (mdE (b.drop p.toNat))=mdE (b.drop p.toNat):=by
     unfold ZW_;rw [if_neg (by omega),if_neg (by omega)]
    refine ⟨?_,hE⟩
    unfold jm_;rw [hE]
    by_cases h0:mdE (b.drop p.toNat)=0
    ·rw [if_pos h0]
    ·rw [if_neg h0,(YY_ rfl h0).2];omega
   repeat'(intro t ht;first|(cases t<;>first|(cases ht;done)|(try simp only[zg_]at ht;try(exfalso;first|contradiction|omega)))|((first|refine zb_ ht ?_|refine ht ?_ ?_|refine ht.1 ?_ ?_|refine ht ?_)<;>clear ht))
   all_goals (try simp only [if_true,f0,hT] at*)
   all_goals first
    | exact True.intro
    | exact ⟨h1,h2,by omega,h4⟩
    | exact ⟨h1,h2,by omega⟩
    | omega
    | (unfold mtL mtP mtE;exact ⟨rfl,by first | rfl | exact True.intro⟩)
    | (exfalso;simp_all;done)
  ·repeat'(intro t ht;first|(cases t<;>first|(cases ht;done)|(try simp only[zg_]at ht;try(exfalso;first|contradiction|omega)))|((first|refine zb_ ht ?_|refine ht ?_ ?_|refine ht.1 ?_ ?_|refine ht ?_)<;>clear ht))
   all_goals first
    | exact True.intro
    | (unfold mtL mtP mtE;rw [if_neg he,if_neg he,if_neg he];exact ⟨rfl,by first | rfl | exact True.intro⟩)
    | (exfalso;simp_all;done)
 ·cases e
theorem ziV_ {b:List Int} (h4:¬ b.length < 4) (ht:tT b=1) (hr:¬ (tN b < 4\/65528 < tN b\/b.length < tN b+pz (tN b))):mdE b=if ¬ (mlG [] (bd b)).2=0 then (mlG [] (bd b)).2 else if mdZ b=true then 0 else 1026:=by
 unfold mdE;rw [if_neg h4,if_neg (not_not_intro ht),if_neg hr]
end Go.Eng
