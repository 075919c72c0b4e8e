/- Parts of the proof: V4, V5, M4, M5, M6, M7, M8. No condition. -/
import Derived.Test.YtiejmanmofemeaaGreatDoorProg
import Derived.Test.YtiejmanmofemeaaGreatDoorWB10
import Derived.KernelRfl
import Derived.Test.YtiejmanmofemeaaGreatDoorWB20
import Derived.Test.YtiejmanmofemeaaGreatDoorWB17
import Derived.Test.YtiejmanmofemeaaGreatDoorWB14
namespace Go.Eng
open Go.Proofs
set_option linter.unusedVariables false
set_option linter.unusedSimpArgs false
set_option maxRecDepth 100000
set_option maxHeartbeats 1000000
def zbs_:IR:=
(sq (kr [0,1] [oD 2 (.boxv 0),
oD 3 (.boxv 1),
oD 4 (.mov cF)])
(sq (sq (kr [2,3] [oA 7 0 2,
oL 8 7,
oA 9 0 3,
oL 10 9,
oC 11 90 [8,10],
oD 12 (.un .not 11),
oM 13 12,
oF 13 14 (.fieldAddr 1 2),
oF 13 15 (.load none 14),
oF 13 16 (.len 15),
oF 13 17 (.fieldAddr 1 3),
oF 13 18 (.load none 17),
oF 13 19 (.len 18),
oF 13 20 (.bin .neq 16 19),
oP 21 13 cT 20,
oM 22 21,
oF 22 23 (.fieldAddr 6 2),
oF 22 24 (.load none 23),
oF 22 25 (.len 24),
oF 22 26 (.fieldAddr 6 3),
oF 22 27 (.load none 26),
oF 22 28 (.len 27),
oF 22 29 (.bin .neq 25 28),
oP 30 22 cT 29,
oM 31 30,
oF 31 32 (.fieldAddr 9 2),
oF 31 33 (.load none 32),
oF 31 34 (.fieldAddr 9 3),
oF 31 35 (.load none 34),
oF 31 36 (.call false (.f 27) [33,35]),
oF 31 37 (.un .not 36),
oP 38 31 cT 37])
(.cond 38
(sq (kr [] [oD 4 (.mov cF)])
.ret)
.skip))
(sq (sq (kr [2,3] [oD 5 (.mov (cI 0))])
(.block 0
(.loop
(sq (sq (kr [2,3,5] [oM 39 5,
oA 40 1 2,
oL 41 40,
oE 42 41,
oB 43 .lss 39 42])
(.cond 43
.skip
(.exit 0)))
(sq (.block 1
(sq (kd [2,3,5] [(oA 46 1 2,[]),
(oL 47 46,[]),
(oM 48 5,[0,0]),
(oI 49 1 47 48,[]),
(oL 50 49,[]),
(oA 51 1 3,[0,0,0,0,0]),
(oL 52 51,[1,0,0,0,0]),
(oM 53 5,[0,0,0,0,0,0,0]),
(oI 54 1 52 53,[3,0,0,0,0]),
(oL 55 54,[4,0,0,0,0]),
(oB 56 .neq 50 55,[])])
(.cond 56
(sq (kr [] [oD 4 (.mov cF)])
.ret)
.skip)))
(kr [2,3,5] [oM 44 5,
oB 45 .add 44 (cI 1),
oM 5 45]))))))
(sq (sq (kr [2,3] [oD 6 (.mov (cI 0))])
(.block 2
(.loop
(sq (sq (kr [2,3,6] [oM 57 6,
oA 58 6 2,
oL 59 58,
oE 60 59,
oB 61 .lss 57 60])
(.cond 61
.skip
(.exit 2)))
(sq (.block 3
(sq (kd [2,3,6] [(oA 64 6 2,[]),
(oL 65 64,[]),
(oM 66 6,[0,0]),
(oI 67 1 65 66,[]),
(oL 68 67,[]),
(oA 69 6 3,[0,0,0,0,0]),
(oL 70 69,[1,0,0,0,0]),
(oM 71 6,[0,0,0,0,0,0,0]),
(oI 72 1 70 71,[3,0,0,0,0]),
(oL 73 72,[4,0,0,0,0]),
(oC 74 90 [68,73],[]),
(oD 75 (.un .not 74),[])])
(.cond 75
(sq (kr [] [oD 4 (.mov cF)])
.ret)
.skip)))
(kr [2,3,6] [oM 62 6,
oB 63 .add 62 (cI 1),
oM 6 63]))))))
(sq (kr [2,3] [oA 76 2 2,
oL 77 76,
oA 78 2 3,
oL 79 78,
oC 80 93 [77,79],
oM 81 80,
oT 81 82 (.fieldAddr 3 2),
oT 81 83 (.load none 82),
oT 81 84 (.fieldAddr 3 3),
oT 81 85 (.load none 84),
oT 81 86 (.call false (.f 19) [83,85]),
oP 87 81 86 cF,
oM 88 87,
oT 88 89 (.fieldAddr 4 2),
oT 88 90 (.load none 89),
oT 88 91 (.fieldAddr 4 3),
oT 88 92 (.load none 91),
oT 88 93 (.call false (.f 94) [90,92]),
oP 94 88 93 cF,
oM 95 94,
oT 95 96 (.fieldAddr 5 2),
oT 95 97 (.load none 96),
oT 95 98 (.fieldAddr 5 3),
oT 95 99 (.load none 98),
oT 95 100 (.call false (.f 95) [97,99]),
oP 101 95 100 cF,
oM 102 101,
oT 102 103 (.fieldAddr 7 2),
oT 102 104 (.load none 103),
oT 102 105 (.fieldAddr 7 3),
oT 102 106 (.load none 105),
oT 102 107 (.call false (.f 97) [104,106]),
oP 108 102 107 cF,
oM 109 108,
oT 109 110 (.fieldAddr 8 2),
oT 109 111 (.load none 110),
oT 109 112 (.fieldAddr 8 3),
oT 109 113 (.load none 112),
oT 109 114 (.call false (.f 152) [111,113]),
oP 115 109 114 cF,
oM 4 115])
.ret)))))
def B4_:List RD:=[.tmp 4 true none]
theorem zaF_:zn_ Tryz.prog Tryz.f91 zbs_ B4_=true:=by kernel_rfl
def yq_:List AV->List Obj->Option (Prop × AV)
 | [.agg zz0,.agg zz1],[]=>K1_ YC zz0 fun ⟨a0,a1,a2,a3,a4,a5,a6,a7,a8,a9,_⟩=>K1_ YC zz1 fun ⟨b0,b1,b2,b3,b4,b5,b6,b7,b8,b9,_⟩=>some ((True,.bool (decide (((a0,a1,a2,a3,a4,a5,a6,a7,a8,a9,()):VPa)=(b0,b1,b2,b3,b4,b5,b6,b7,b8,b9,())))))
 | _,_=>none
theorem h6_:zd_ Tryz.prog 91 (RoF yq_).sum:=by
 refine zi_ Tryz.func91 zaF_ (za_ (s:=RoF K9_) JC_ (za_ (s:=RoF z1_) zQ_ (za_ (s:=RoF wA_) yX_ (za_ (s:=RoF ww_) yW_ (za_ (s:=RoF wv_) yV_ (za_ (s:=RoF wu_) yU_ (za_ (s:=RoF wt_) yT_ (za_ (s:=RoF ys_) h8_ (zc_ _))))))))) fun args objs p v e=>?_
 unfold yq_ at e
 split at e
 ·rename_i zz0 zz1
  replace e:=qk_ e
  obtain ⟨⟨a0,a1,a2,a3,a4,a5,a6,a7,a8,a9,_⟩,hz,e⟩:=e
  replace hz:zz0=[.imm (.int .u64) a0,.imm .str a1,.imm Y1 a2,.imm Y3 a3,.imm Y4 a4,.imm Y5 a5,.imm (.sl (.int .u64)) a6,.imm Y8 a7,.imm YA a8,.imm (.int .u8) a9]:=hz
  subst hz
  replace e:=qk_ e
  obtain ⟨⟨b0,b1,b2,b3,b4,b5,b6,b7,b8,b9,_⟩,hz,e⟩:=e
  replace hz:zz1=[.imm (.int .u64) b0,.imm .str b1,.imm Y1 b2,.imm Y3 b3,.imm Y4 b4,.imm Y5 b5,.imm (.sl (.int .u64)) b6,.imm Y8 b7,.imm YA b8,.imm (.int .u8) b9]:=hz
  subst hz
  cases e
  refine ⟨rfl,fun hw ho hp=>?_⟩
  change List Int at a0
  change List Int at a9
  change List Int at b0
  change List Int at b9
  change List (List Int) at a1
  change List (List Int) at b1
  change List (List Int) at a6
  change List (List Int) at b6
  have hl1:a1.length<=maxLen:=(hw _ (List.mem_cons_self ..) (.imm .str a1) (by simp)).2
  have hl6:a6.length<=maxLen:=(hw _ (List.mem_cons_self ..) (.imm (.sl (.int .u64)) a6) (by simp)).2
  unfold maxLen at hl1 hl6
  clear hw ho
  have hno:∀ h:¬ (a0=b0/\a1=b1/\a2=b2/\a3=b3/\a4=b4/\a5=b5/\a6=b6/\a7=b7/\a8=b8/\a9=b9),decide (((a0,a1,a2,a3,a4,a5,a6,a7,a8,a9,()):VPa)=(b0,b1,b2,b3,b4,b5,b6,b7,b8,b9,()))=false:=fun h=>decide_eq_false fun e=>h (by simpa only [Prod.mk.injEq,and_true] using e)
  repeat'(intro t ht;first|(cases t<;>first|(cases ht;done)|(try simp only[zg_]at ht;try(exfalso;first|contradiction|omega)))|((first|refine zb_ ht ?_|refine ht ?_ ?_|refine ht.1 ?_ ?_|refine ht ?_)<;>clear ht))
  all_goals first
   | exact True.intro
   | (refine ⟨?_,rfl⟩;rw [hno fun k=>by simp_all];done)
   | (intro r h1 h2;clear h1;refine h2 ⟨[2,3,5],Nat,(fun i=>i<=a1.length/\a1.take i=b1.take i),fun i=>[.ptr 0 0,.ptr 1 0,.int .i64 i],fun _=>[.box [.imm (.int .u64) a0,.imm .str a1,.imm Y1 a2,.imm Y3 a3,.imm Y4 a4,.imm Y5 a5,.imm (.sl (.int .u64)) a6,.imm Y8 a7,.imm YA a8,.imm (.int .u8) a9],.box [.imm (.int .u64) b0,.imm .str b1,.imm Y1 b2,.imm Y3 b3,.imm Y4 b4,.imm Y5 b5,.imm (.sl (.int .u64)) b6,.imm Y8 b7,.imm YA b8,.imm (.int .u8) b9]],fun i=>a1.length - i,⟨0,⟨Nat.zero_le _,rfl⟩,rfl,rfl⟩,?_⟩;clear h2)
   | skip
  rintro i ⟨hi,he⟩
  have hl2:a1.length=b1.length:=by omega
  have hl3:a6.length=b6.length:=by omega
  repeat'(intro t ht;first|(cases t<;>first|(cases ht;done)|(try simp only[zg_]at ht;try(exfalso;first|contradiction|omega)))|((first|refine zb_ ht ?_|refine ht ?_ ?_|refine ht.1 ?_ ?_|refine ht ?_)<;>clear ht))
  all_goals (try generalize (Ty.dflt .str)=od at*)
  all_goals first
   | exact True.intro
   | ((try simp only [zk_,zl_,zj_] at*);omega)
   | (have hne:a1 ≠ b1:=Xs_ (d:=od) (i:=i) (by assumption)
      refine ⟨?_,rfl⟩;rw [hno fun k=>hne k.2.1];done)
   | exact ⟨i+1,⟨by omega,Qg_ he (by omega) hl2 (d:=od) (by assumption)⟩,by (try simp only [zk_,zl_,zj_] at*);omega,rfl,rfl⟩
   | (intro r h1 h2;clear h1;refine h2 ⟨[2,3,6],Nat,(fun i=>i<=a6.length/\a6.take i=b6.take i),fun i=>[.ptr 0 0,.ptr 1 0,.int .i64 i],fun _=>[.box [.imm (.int .u64) a0,.imm .str a1,.imm Y1 a2,.imm Y3 a3,.imm Y4 a4,.imm Y5 a5,.imm (.sl (.int .u64)) a6,.imm Y8 a7,.imm YA a8,.imm (.int .u8) a9],.box [.imm (.int .u64) b0,.imm .str b1,.imm Y1 b2,.imm Y3 b3,.imm Y4 b4,.imm Y5 b5,.imm (.sl (.int .u64)) b6,.imm Y8 b7,.imm YA b8,.imm (.int .u8) b9]],fun i=>a6.length - i,⟨0,⟨Nat.zero_le _,rfl⟩,rfl,rfl⟩,?_⟩;clear h2)
   | skip
  have e1:=Kn_ he (by omega) hl2
  rintro j ⟨hj,he6⟩
  repeat'(intro t ht;first|(cases t<;>first|(cases ht;done)|(try simp only[zg_]at ht;try(exfalso;first|contradiction|omega)))|((first|refine zb_ ht ?_|refine ht ?_ ?_|refine ht.1 ?_ ?_|refine ht ?_)<;>clear ht))
  all_goals (try generalize (Ty.dflt (.sl (.int .u64)))=od at*)
  all_goals first
   | exact True.intro
   | ((try simp only [zk_,zl_,zj_] at*);omega)
   | (have hne:a6 ≠ b6:=Xs_ (d:=od) (i:=j) (by assumption)
      refine ⟨?_,rfl⟩;rw [hno fun k=>hne k.2.2.2.2.2.2.1];done)
   | exact ⟨j+1,⟨by omega,Qg_ he6 (by omega) hl3 (d:=od) (by assumption)⟩,by (try simp only [zk_,zl_,zj_] at*);omega,rfl,rfl⟩
   | (have e6:=Kn_ he6 (by omega) hl3
      refine ⟨congrArg AV.bool ?_,rfl⟩;rw [Bool.eq_iff_iff];simp_all [and_assoc];done)
   | skip
 ·cases e
def zbr_:IR:=
(sq (kr [0,1] [oD 2 (.boxv 0),
oD 3 (.boxv 1),
oD 4 (.mov cF)])
(sq (sq (kr [2,3] [oA 6 0 2,
oL 7 6,
oA 8 0 3,
oL 9 8,
oB 10 .neq 7 9,
oM 11 10,
oF 11 12 (.fieldAddr 1 2),
oF 11 13 (.load none 12),
oF 11 14 (.fieldAddr 1 3),
oF 11 15 (.load none 14),
oF 11 16 (.bin .neq 13 15),
oP 17 11 cT 16,
oM 18 17,
oF 18 19 (.fieldAddr 12 2),
oF 18 20 (.load none 19),
oF 18 21 (.fieldAddr 12 3),
oF 18 22 (.load none 21),
oF 18 23 (.bin .neq 20 22),
oP 24 18 cT 23,
oM 25 24,
oF 25 26 (.fieldAddr 13 2),
oF 25 27 (.load none 26),
oF 25 28 (.fieldAddr 13 3),
oF 25 29 (.load none 28),
oF 25 30 (.bin .neq 27 29),
oP 31 25 cT 30,
oM 32 31,
oF 32 33 (.fieldAddr 2 2),
oF 32 34 (.load none 33),
oF 32 35 (.fieldAddr 2 3),
oF 32 36 (.load none 35),
oF 32 37 (.call false (.f 90) [34,36]),
oF 32 38 (.un .not 37),
oP 39 32 cT 38,
oM 40 39,
oF 40 41 (.fieldAddr 3 2),
oF 40 42 (.load none 41),
oF 40 43 (.fieldAddr 3 3),
oF 40 44 (.load none 43),
oF 40 45 (.call false (.f 27) [42,44]),
oF 40 46 (.un .not 45),
oP 47 40 cT 46,
oM 48 47,
oF 48 49 (.fieldAddr 14 2),
oF 48 50 (.load none 49),
oF 48 51 (.len 50),
oF 48 52 (.fieldAddr 14 3),
oF 48 53 (.load none 52),
oF 48 54 (.len 53),
oF 48 55 (.bin .neq 51 54),
oP 56 48 cT 55])
(.cond 56
(sq (kr [] [oD 4 (.mov cF)])
.ret)
.skip))
(sq (sq (kr [2,3] [oD 5 (.mov (cI 0))])
(.block 0
(.loop
(sq (sq (kr [2,3,5] [oM 57 5,
oA 58 14 2,
oL 59 58,
oE 60 59,
oB 61 .lss 57 60])
(.cond 61
.skip
(.exit 0)))
(sq (.block 1
(sq (kd [2,3,5] [(oA 64 14 2,[]),
(oL 65 64,[]),
(oM 66 5,[0,0]),
(oI 67 10 65 66,[]),
(oK 68 10 67,[]),
(oA 69 14 3,[0,0,0,0,0]),
(oL 70 69,[1,0,0,0,0]),
(oM 71 5,[0,0,0,0,0,0,0]),
(oI 72 10 70 71,[3,0,0,0,0]),
(oK 73 10 72,[4,0,0,0,0]),
(oC 74 91 [68,73],[]),
(oD 75 (.un .not 74),[])])
(.cond 75
(sq (kr [] [oD 4 (.mov cF)])
.ret)
.skip)))
(kr [2,3,5] [oM 62 5,
oB 63 .add 62 (cI 1),
oM 5 63]))))))
(sq (kr [2,3] [oA 76 4 2,
oL 77 76,
oA 78 4 3,
oL 79 78,
oC 80 92 [77,79],
oM 81 80,
oT 81 82 (.fieldAddr 5 2),
oT 81 83 (.load none 82),
oT 81 84 (.fieldAddr 5 3),
oT 81 85 (.load none 84),
oT 81 86 (.call false (.f 93) [83,85]),
oP 87 81 86 cF,
oM 88 87,
oT 88 89 (.fieldAddr 6 2),
oT 88 90 (.load none 89),
oT 88 91 (.fieldAddr 6 3),
oT 88 92 (.load none 91),
oT 88 93 (.call false (.f 59) [90,92]),
oP 94 88 93 cF,
oM 95 94,
oT 95 96 (.fieldAddr 7 2),
oT 95 97 (.load none 96),
oT 95 98 (.fieldAddr 7 3),
oT 95 99 (.load none 98),
oT 95 100 (.call false (.f 19) [97,99]),
oP 101 95 100 cF,
oM 102 101,
oT 102 103 (.fieldAddr 8 2),
oT 102 104 (.load none 103),
oT 102 105 (.fieldAddr 8 3),
oT 102 106 (.load none 105),
oT 102 107 (.call false (.f 94) [104,106]),
oP 108 102 107 cF,
oM 109 108,
oT 109 110 (.fieldAddr 9 2),
oT 109 111 (.load none 110),
oT 109 112 (.fieldAddr 9 3),
oT 109 113 (.load none 112),
oT 109 114 (.call false (.f 95) [111,113]),
oP 115 109 114 cF,
oM 116 115,
oT 116 117 (.fieldAddr 10 2),
oT 116 118 (.load none 117),
oT 116 119 (.fieldAddr 10 3),
oT 116 120 (.load none 119),
oT 116 121 (.call false (.f 96) [118,120]),
oP 122 116 121 cF,
oM 123 122,
oT 123 124 (.fieldAddr 11 2),
oT 123 125 (.load none 124),
oT 123 126 (.fieldAddr 11 3),
oT 123 127 (.load none 126),
oT 123 128 (.call false (.f 97) [125,127]),
oP 129 123 128 cF,
oM 4 129])
.ret))))
def B3_:List RD:=[.tmp 4 true none]
theorem zaE_:zn_ Tryz.prog Tryz.f36 zbr_ B3_=true:=by kernel_rfl
def yp_:List AV->List Obj->Option (Prop × AV)
 | [.agg zz0,.agg zz1],[]=>K1_ YD zz0 fun ⟨a0,a1,a2,a3,a4,a5,a6,a7,a8,a9,a10,a11,a12,a13,a14,_⟩=>K1_ YD zz1 fun ⟨b0,b1,b2,b3,b4,b5,b6,b7,b8,b9,b10,b11,b12,b13,b14,_⟩=>some ((True,.bool (decide (((a0,a1,a2,a3,a4,a5,a6,a7,a8,a9,a10,a11,a12,a13,a14,()):VMs)=(b0,b1,b2,b3,b4,b5,b6,b7,b8,b9,b10,b11,b12,b13,b14,())))))
 | _,_=>none
theorem h5_:zd_ Tryz.prog 36 (RoF yp_).sum:=by
 refine zi_ Tryz.func36 zaE_ (za_ (s:=RoF K9_) JC_ (za_ (s:=RoF z1_) zQ_ (za_ (s:=RoF yq_) h6_ (za_ (s:=RoF xH_) go_ (za_ (s:=RoF wA_) yX_ (za_ (s:=RoF K5_) JA_ (za_ (s:=RoF ww_) yW_ (za_ (s:=RoF wv_) yV_ (za_ (s:=RoF wu_) yU_ (za_ (s:=RoF yu_) Ha_ (za_ (s:=RoF wt_) yT_ (zc_ _)))))))))))) fun args objs p v e=>?_
 unfold yp_ at e
 split at e
 ·rename_i zz0 zz1
  replace e:=qk_ e
  obtain ⟨⟨a0,a1,a2,a3,a4,a5,a6,a7,a8,a9,a10,a11,a12,a13,a14,_⟩,hz,e⟩:=e
  replace hz:zz0=[.int .i64 a0,.int .u32 a1,.imm (.int .u64) a2,.imm (.int .u8) a3,.imm YB a4,.imm Y1 a5,.imm Y2 a6,.imm Y3 a7,.imm Y4 a8,.imm Y5 a9,.imm Y7 a10,.imm Y8 a11,.int .i64 a12,.int .i64 a13,.imm YC a14]:=hz
  subst hz
  change Int at a0
  change Int at a1
  change Int at a12
  change Int at a13
  replace e:=qk_ e
  obtain ⟨⟨b0,b1,b2,b3,b4,b5,b6,b7,b8,b9,b10,b11,b12,b13,b14,_⟩,hz,e⟩:=e
  replace hz:zz1=[.int .i64 b0,.int .u32 b1,.imm (.int .u64) b2,.imm (.int .u8) b3,.imm YB b4,.imm Y1 b5,.imm Y2 b6,.imm Y3 b7,.imm Y4 b8,.imm Y5 b9,.imm Y7 b10,.imm Y8 b11,.int .i64 b12,.int .i64 b13,.imm YC b14]:=hz
  subst hz
  change Int at b0
  change Int at b1
  change Int at b12
  change Int at b13
  cases e
  refine ⟨rfl,fun hw ho hp=>?_⟩
  change List Int at a2
  change List Int at a3
  change List Int at b2
  change List Int at b3
  change List VPa at a14
  change List VPa at b14
  have hl1:a14.length<=maxLen:=(hw _ (List.mem_cons_self ..) (.imm YC a14) (by simp)).2
  unfold maxLen at hl1
  clear hw ho
  have hno:∀ h:¬ (a0=b0/\a1=b1/\a2=b2/\a3=b3/\a4=b4/\a5=b5/\a6=b6/\a7=b7/\a8=b8/\a9=b9/\a10=b10/\a11=b11/\a12=b12/\a13=b13/\a14=b14),decide (((a0,a1,a2,a3,a4,a5,a6,a7,a8,a9,a10,a11,a12,a13,a14,()):VMs)=(b0,b1,b2,b3,b4,b5,b6,b7,b8,b9,b10,b11,b12,b13,b14,()))=false:=fun h=>decide_eq_false fun e=>h (by simpa only [Prod.mk.injEq,and_true] using e)
  repeat'(intro t ht;first|(cases t<;>first|(cases ht;done)|(try simp only[zg_]at ht;try(exfalso;first|contradiction|omega)))|((first|refine zb_ ht ?_|refine ht ?_ ?_|refine ht.1 ?_ ?_|refine ht ?_)<;>clear ht))
  all_goals first
   | exact True.intro
   | (refine ⟨?_,rfl⟩;rw [hno fun k=>by simp_all];done)
   | (intro r h1 h2;clear h1;refine h2 ⟨[2,3,5],Nat,(fun i=>i<=a14.length/\a14.take i=b14.take i),fun i=>[.ptr 0 0,.ptr 1 0,.int .i64 i],fun _=>[.box [.int .i64 a0,.int .u32 a1,.imm (.int .u64) a2,.imm (.int .u8) a3,.imm YB a4,.imm Y1 a5,.imm Y2 a6,.imm Y3 a7,.imm Y4 a8,.imm Y5 a9,.imm Y7 a10,.imm Y8 a11,.int .i64 a12,.int .i64 a13,.imm YC a14],.box [.int .i64 b0,.int .u32 b1,.imm (.int .u64) b2,.imm (.int .u8) b3,.imm YB b4,.imm Y1 b5,.imm Y2 b6,.imm Y3 b7,.imm Y4 b8,.imm Y5 b9,.imm Y7 b10,.imm Y8 b11,.int .i64 b12,.int .i64 b13,.imm YC b14]],fun i=>a14.length - i,⟨0,⟨Nat.zero_le _,rfl⟩,rfl,rfl⟩,?_⟩;clear h2)
   | skip
  rintro i ⟨hi,he⟩
  have hl2:a14.length=b14.length:=by omega
  repeat'(intro t ht;first|(cases t<;>first|(cases ht;done)|(try simp only[zg_]at ht;try(exfalso;first|contradiction|omega)))|((first|refine zb_ ht ?_|refine ht ?_ ?_|refine ht.1 ?_ ?_|refine ht ?_)<;>clear ht))
  all_goals (try generalize (Ty.dflt YC)=od at*)
  all_goals first
   | exact True.intro
   | ((try simp only [zk_,zl_,zj_] at*);omega)
   | (have hne:a14 ≠ b14:=Xs_ (d:=od) (i:=i) (by assumption)
      refine ⟨?_,rfl⟩;rw [hno fun k=>hne k.2.2.2.2.2.2.2.2.2.2.2.2.2.2];done)
   | exact ⟨i+1,⟨by omega,Qg_ he (by omega) hl2 (d:=od) (by assumption)⟩,by (try simp only [zk_,zl_,zj_] at*);omega,rfl,rfl⟩
   | (have e6:=Kn_ he (by omega) hl2
      refine ⟨congrArg AV.bool ?_,rfl⟩;rw [Bool.eq_iff_iff];simp_all [and_assoc];done)
   | skip
 ·cases e
def exO (o:OV):List Int:=if rgO o=true then Zs_ o.1 o.2.1 o.2.2.1 o.2.2.2.1 o.2.2.2.2.1 o.2.2.2.2.2.1 else []
def eeO (o:OV):Int:=if rgO o=true then 0 else 10001
def puS (room:Int):List OV->List Int->Int->List Int × Int
 | [],l,e=>(l,e)
 | o :: r,l,e=>puS room r (kb_ (exO o) l room (zs_ e (eeO o))) (QT_ (exO o) l room (zs_ e (eeO o)))
theorem zgQ_ {room:Int} {l:List OV} {i:Nat} {d:OV} {b:List Int} {e:Int} (h:i < l.length):puS room (l.drop i) b e=puS room (l.drop (i+1)) (kb_ (exO (l.getD i d)) b room (zs_ e (eeO (l.getD i d)))) (QT_ (exO (l.getD i d)) b room (zs_ e (eeO (l.getD i d)))):=by
 rw [zA_ h d];rfl
def mpS (x:List OV) (l:List Int) (room e:Int):List Int × Int:=puS room x (QS_ [2,2] [1,Z3_ x] l room e) (Qi_ [2,2] [1,Z3_ x] l room e)
def mpZ (x:List OV):List Int:=List.replicate (pz (Z3_ x)).toNat 0
def mpB (x:List OV) (l:List Int) (room e:Int):List Int:=if rgM x=true then kb_ (mpZ x) (mpS x l room e).1 room (mpS x l room e).2 else l
def mpE (x:List OV) (l:List Int) (room e:Int):Int:=if rgM x=true then QT_ (mpZ x) (mpS x l room e).1 room (mpS x l room e).2 else zs_ e 10001
theorem zkF_ {o:OV}:(exO o).length<=300:=by
 unfold exO;split
 ·exact (kY_ (by assumption)).2
 ·simp
def Ba_:IR:=
(sq (sq (kr [0,1] [oM 9 1,
oC 10 157 [9],
oD 11 (.un .not 10)])
(.cond 11
(sq (.reg [oM 12 0,
oC 13 103 [12,(cI 10001)]])
.ret)
.skip))
(sq (.reg [oM 14 1,
oC 15 158 [14],
oM 4 15])
(sq (kr [0,1,4] [oM 16 0,
oD 17 (.sliceAll (.int .i64) 2 [(0,1,(cI 2)),(1,1,(cI 2))]),
oM 18 4,
oD 19 (.conv .u64 18),
oD 20 (.sliceAll (.int .u64) 2 [(0,1,(.c (.int .u64 1))),(1,1,19)]),
oC 21 99 [16,17,20]])
(sq (sq (.reg [oM 22 1,
oE 23 22,
oD 24 (.mov (cI 0))])
(.block 0
(.loop
(sq (kr [0,4,22,23,24] [oB 25 .lss 24 23])
(sq (.cond 25
.skip
(.exit 0))
(sq (.block 1
(sq (.reg [oI 26 6 22 24,
oK 27 6 26,
oD 6 (.box [.int .i64 0,.int .i64 0,.kb false,.int .u64 0,.imm (.int .u8) [],.imm (.int .u8) []]),
oS 6 6 27])
(sq (kr [0,4,6,22,23,24] [oK 29 6 6,
oC 30 159 [29],
oM 28 30,
oX 31 28 0,
oX 32 28 1,
oM 7 31,
oM 8 32])
(sq (kr [0,4,7,8,22,23,24] [oM 33 0,
oM 34 8,
oC 35 103 [33,34]])
(.reg [oM 36 0,
oM 37 7,
oC 38 117 [36,37]])))))
(kr [0,4,22,23,24] [oB 39 .add 24 (cI 1),
oM 24 39])))))))
(kr [0,4] [oM 40 0,
oM 41 4,
oC 42 160 [41],
oD 43 (.mkrow (.int .u8) 1 (0:Int) 42 42),
oC 44 117 [40,43]])))))
def HU_:List RD:=[]
theorem bs_:zn_ Tryz.prog Tryz.f101 Ba_ HU_=true:=by kernel_rfl
def Vs_:List AV->List Obj->Option (Prop × Res)
 | [.ptr 0 0,.imm (.cons (.int .i64) (.cons (.int .i64) (.cons .bool (.cons (.int .u64) (.cons (.sl (.int .u8)) (.cons (.sl (.int .u8)) .nil)))))) x],[.box [.own 1,.int .i64 room,.mapv 2,.int .i64 e],.row false (.int .u8) l,.map sq (.int .i64) (.int .i64) h]=>some (okM x/\0<=room/\room<=1000000/\l.length<=1000000,.br (rgM x) (.one (.tup []) [.box [.own 3,.int .i64 room,.mapv 2,.int .i64 (mpE x l room e)],.dead,.map sq (.int .i64) (.int .i64) h,.row false (.int .u8) (mpB x l room e)]) (.one (.tup []) [.box [.own 1,.int .i64 room,.mapv 2,.int .i64 (zs_ e 10001)],.row false (.int .u8) l,.map sq (.int .i64) (.int .i64) h]))
 | _,_=>none
def xS_:List AV->List Obj->Option (Prop × AV × List Obj)
 | [.ptr 0 0,.imm (.cons (.int .i64) (.cons (.int .i64) (.cons .bool (.cons (.int .u64) (.cons (.sl (.int .u8)) (.cons (.sl (.int .u8)) .nil)))))) x],[.box [.own 1,.int .i64 room,.mapv 2,.int .i64 e],.row false (.int .u8) l,.map sq (.int .i64) (.int .i64) h]=>some (okM x/\0<=room/\room<=1000000/\l.length<=1000000,.tup [],[.box [.own 3,.int .i64 room,.mapv 2,.int .i64 (mpE x l room e)],.dead,.map sq (.int .i64) (.int .i64) h,.row false (.int .u8) (mpB x l room e)])
 | _,_=>none
theorem gm_:zd_ Tryz.prog 101 (RcF Vs_).sum:=by
 refine hg_ Tryz.func101 bs_ (za_ (s:=RoF jW_) Vz_ (za_ (s:=RwF zG_) zN_ (za_ (s:=RoF KI_) WU_ (za_ (s:=RwF z6_) Zw_ (za_ (s:=RoF KE_) WQ_ (za_ (s:=RwF zF_) zK_ (za_ (s:=RoF kW_) wR_ (zc_ _)))))))) fun args objs p v e=>?_
 unfold Vs_ at e
 split at e
 ·rename_i x room e l sq h
  cases e
  change List Int at l
  change List OV at x
  refine ⟨rfl,fun hw' ho hp=>?_⟩
  clear hw' ho
  obtain ⟨hok,hp1,hp2,hp3⟩:=hp
  have hok':=hok
  have hn:=hok.n
  cases hr:rgM x with
  | false=>
    repeat'(intro t ht;first|(cases t<;>first|(cases ht;done)|(try simp only[zg_]at ht;try(exfalso;first|contradiction|omega)))|((first|refine zb_ ht ?_|refine ht ?_ ?_|refine ht.1 ?_ ?_|refine ht ?_)<;>clear ht))
    all_goals first
     | exact True.intro
     | exact hok
     | (exfalso;simp_all;done)
     | exact ⟨rfl,rfl⟩
  | true=>
    have hL:=zg8_ hok
    have hL2:Z3_ x<=65528:=by unfold rgM at hr;simp only [Bool.and_eq_true,decide_eq_true_eq] at hr;exact hr.2
    have hz:=XO_ (n:=Z3_ x) (by omega)
    have hr1:(QS_ [2,2] [1,Z3_ x] l room e).length<=1000000:=Qq_ hp3 hp2
    repeat'(intro t ht;first|(cases t<;>first|(cases ht;done)|(try simp only[zg_]at ht;try(exfalso;first|contradiction|omega)))|((first|refine zb_ ht ?_|refine ht ?_ ?_|refine ht.1 ?_ ?_|refine ht ?_)<;>clear ht))
    all_goals first
     | exact True.intro
     | exact hok
     | (exfalso;simp_all;done)
     | ((try simp only [zk_,zl_,zj_] at*);omega)
     | exact ⟨hp1,hp2,hp3⟩
     | (intro r h1 h2;clear h1;refine h2 ⟨[0,4,22,23,24],Nat × List Int × Int,(fun a=>a.1<=x.length/\a.2.1.length<=1000000/\mpS x l room e=puS room (x.drop a.1) a.2.1 a.2.2),fun a=>[.ptr 0 0,.int .i64 (Z3_ x),.imm Y1 x,.int .i64 x.length,.int .i64 a.1],fun a=>[.box [.own 3,.int .i64 room,.mapv 2,.int .i64 a.2.2],.dead,.map sq (.int .i64) (.int .i64) h,.row false (.int .u8) a.2.1],fun a=>x.length - a.1,⟨(0,QS_ [2,2] [1,Z3_ x] l room e,Qi_ [2,2] [1,Z3_ x] l room e),⟨Nat.zero_le _,hr1,rfl⟩,rfl,rfl⟩,?_⟩;clear h2)
    rintro ⟨i,b,f⟩ ⟨hi,hb,he⟩
    dsimp only at hi hb he
    repeat'(intro t ht;first|(cases t<;>first|(cases ht;done)|(try simp only[zg_]at ht;try(exfalso;first|contradiction|omega)))|((first|refine zb_ ht ?_|refine ht ?_ ?_|refine ht.1 ?_ ?_|refine ht ?_)<;>clear ht))
    all_goals (try generalize (Ty.dflt Y1)=od at*)
    all_goals first
     | exact True.intro
     | ((try simp only [zk_,zl_,zj_] at*);omega)
     | (simp only [List.length_replicate];constructor<;>omega)
     | exact ⟨hp1,hp2,hb,Nat.le_trans (zkF_ (o:=x.getD i od)) (by decide)⟩
     | exact lenM (hok'.a.h _ (zD_ (show i < x.length by omega) od))
     | (rw [List.drop_of_length_le (show x.length<=i by omega)] at he
        have h1:mpS x l room e=(b,f):=he
        unfold mpE mpB
        rw [if_pos hr,if_pos hr,h1];exact ⟨rfl,rfl⟩)
     | (refine ⟨(i+1,_,_),⟨?_,?_,he.trans (zgQ_ (d:=od) (show i < x.length by omega))⟩,?_,rfl,rfl⟩
        ·dsimp only;omega
        ·exact Kc_ hb hp2
        ·dsimp only;omega)
 ·cases e
theorem gz_:zd_ Tryz.prog 101 (RwF xS_).sum:=by
 refine y7_ gm_ fun args objs p v o e=>?_
 unfold xS_ at e
 split at e
 ·rename_i x room e l sq h
  cases e
  cases hb:rgM x with
  | true=>exact ⟨_,_,rfl,jN_ hb,.inl rfl⟩
  | false=>
    refine ⟨_,_,rfl,jO_ hb,.inr ⟨0,1,[],[.int .i64 room,.mapv 2,.int .i64 (zs_ e 10001)],.int .u8,l,rfl,rfl,?_⟩⟩
    unfold mpE mpB;rw [hb];rfl
 ·cases e
def boO (l:List OV):List Int:=l.flatMap ecO
def meN (l:List OV):Int:=4+((boO l).length:Int)
def meB (l:List OV):List Int:=ze_ 1 2++ze_ (meN l) 2++boO l++List.replicate (pz (meN l)).toNat 0
theorem x2_ {o:OV} (h:rgO o=true):szO o=(ecO o).length/\exO o=ecO o/\eeO o=0/\(ecO o).length<=300:=by
 have h1:=kY_ h
 have h2:=Xb_ h
 refine ⟨?_,?_,if_pos h,?_⟩
 ·unfold szO ecO;rw [h1.1,h2]
 ·unfold exO ecO;rw [if_pos h,h2]
 ·unfold ecO;rw [<- h2];exact h1.2
theorem ub_:∀ (l:List OV),l.all rgO=true->(l.map szO).sum=((boO l).length:Int)
 | [],_=>rfl
 | o :: r,h=>by
   rw [List.all_cons,Bool.and_eq_true] at h
   have ih:=ub_ r h.2
   unfold boO at ih ⊢
   rw [List.flatMap_cons,List.length_append,List.map_cons,List.sum_cons,ih,(x2_ h.1).1];omega
theorem kB_ {l:List OV} (h:rgM l=true):l.all rgO=true/\(ckS [] l).2=0/\Z3_ l=meN l/\meN l<=65528/\4<=meN l:=by
 unfold rgM at h
 simp only [Bool.and_eq_true,decide_eq_true_eq] at h
 obtain ⟨⟨h1,h2⟩,h3⟩:=h
 have h4:Z3_ l=meN l:=by unfold Z3_ meN;rw [ub_ l h1]
 exact ⟨h1,h2,h4,by omega,by unfold meN;omega⟩
theorem zdc_ {room:Int}:∀ (r:List OV) (l:List Int),r.all rgO=true->(l.length:Int)+(boO r).length<=room->puS room r l 0=(l++boO r,0)
 | [],l,_,_=>by unfold boO puS;simp
 | o :: r,l,h,hl=>by
   rw [List.all_cons,Bool.and_eq_true] at h
   obtain ⟨_,h2,h3,_⟩:=x2_ h.1
   have e1:boO (o :: r)=ecO o++boO r:=List.flatMap_cons
   rw [e1,List.length_append] at hl
   obtain ⟨b1,b2⟩:=xA_ (x:=ecO o) (l:=l) (room:=room) (by omega)
   have f0:zs_ 0 0=0:=rfl
   unfold puS
   rw [h2,h3,f0,b1,b2,zdc_ r (l++ecO o) h.2 (by rw [List.length_append];omega),e1,List.append_assoc]
theorem zlt_ {x:List OV} {l:List Int} {room:Int} (h:rgM x=true) (hl:(l.length:Int)+meN x+pz (meN x)<=room):mpB x l room 0=l++meB x/\mpE x l room 0=0:=by
 obtain ⟨h1,h2,h3,h4,h5⟩:=kB_ h
 have hz:=XO_ (n:=meN x) (by omega)
 obtain ⟨r1,r2⟩:=BT_ (a:=1) (n:=meN x) (by omega) (by omega)
 have l2:=zm_ (n:=1) (w:=2) (by decide)
 have l3:=zm_ (n:=meN x) (w:=2) (by decide)
 have hb:((Zm_ [2,2] [1,meN x]).length:Int)=4:=by rw [r1,List.length_append];omega
 have hbo:meN x=4+(boO x).length:=rfl
 obtain ⟨w1,w2⟩:=Hr_ (l:=l) (room:=room) r2 (by omega)
 rw [r1] at w1
 have hS:mpS x l room 0=(l++(ze_ 1 2++ze_ (meN x) 2)++boO x,0):=by
  unfold mpS;rw [h3,w1,w2]
  exact zdc_ x _ h1 (by simp only [List.length_append];omega)
 obtain ⟨z1,z2⟩:=xA_ (x:=mpZ x) (l:=l++(ze_ 1 2++ze_ (meN x) 2)++boO x) (room:=room) (by unfold mpZ;rw [h3];simp only [List.length_append,List.length_replicate];omega)
 unfold mpB mpE
 rw [if_pos h,if_pos h,hS,z1,z2]
 refine ⟨?_,rfl⟩
 unfold meB mpZ;rw [h3];simp only [List.append_assoc]
theorem zg3_ {x:List OV} {l:List Int} {room e:Int} (h:rgM x=false):mpB x l room e=l/\mpE x l room e=zs_ e 10001:=by
 unfold mpB mpE;rw [h];exact ⟨rfl,rfl⟩
theorem bD_ (l:List OV) (h:0<=meN l):((meB l).length:Int)=meN l+pz (meN l):=by
 have l2:=zm_ (n:=1) (w:=2) (by decide)
 have l3:=zm_ (n:=meN l) (w:=2) (by decide)
 have hz:=XO_ (n:=meN l) (by omega)
 have hbo:meN l=4+(boO l).length:=rfl
 unfold meB
 simp only [List.length_append,List.length_replicate];omega
def meL (l:List OV):List Int:=if rgM l=true then meB l else []
def meE (l:List OV):Int:=if rgM l=true then 0 else 10001
theorem uM_ {o:OV} (h:rgO o=true):0<=o.2.1/\o.2.1<=127/\0<=o.1/\o.1<=65535/\o.2.2.2.2.1.length<=100/\o.2.2.2.2.2.1.length<=100:=by
 have hn:=Z9_ h
 refine ⟨hn.1,hn.2.1,?_,?_,?_,?_⟩<;>omega
def zlg_ (o:OV):Bool:=Kw_ o.1 o.2.1 o.2.2.1 o.2.2.2.1 o.2.2.2.2.1 o.2.2.2.2.2.1
theorem zgN_ {o:OV} (h:bysO o):zlg_ o=rgO o:=(YZ_ h.1 h.2.1 h.2.2).symm
theorem zcq_ {l:List OV} {i:Nat} {d:OV} (h:i < l.length):boO (l.take (i+1))=boO (l.take i)++ecO (l.getD i d):=by
 unfold boO
 rw [List.take_succ_eq_append_getElem h,List.flatMap_append,List.getD_eq_getElem?_getD,List.getElem?_eq_getElem h];simp
theorem zep_ {l:List OV} (h:l.all rgO=true):(boO l).length<=300*l.length:=by
 induction l with
 | nil=>simp [boO]
 | cons o r ih=>
   rw [List.all_cons,Bool.and_eq_true] at h
   have e1:boO (o :: r)=ecO o++boO r:=List.flatMap_cons
   have:=ih h.2
   have h2:=(x2_ h.1).2.2.2
   rw [e1,List.length_append,List.length_cons];omega
def bT_:IR:=
(sq (kr [0] [oD 2 (.mov cF)])
(sq (.reg [oD 3 (.mov (cI 4))])
(sq (sq (.reg [oD 4 (.mov (cI 0))])
(.block 0
(.loop
(sq (sq (kr [0,3,4] [oM 7 4,
oM 8 0,
oE 9 8,
oB 10 .lss 7 9])
(.cond 10
.skip
(.exit 0)))
(sq (.block 1
(sq (sq (kr [0,3,4] [oM 13 0,
oM 14 4,
oI 15 6 13 14,
oK 16 6 15,
oC 17 179 [16],
oD 18 (.un .not 17)])
(.cond 18
(sq (kr [] [oD 2 (.mov cF)])
.ret)
.skip))
(kr [0,3,4] [oM 19 3,
oM 20 0,
oM 21 4,
oI 22 6 20 21,
oK 23 6 22,
oC 24 180 [23],
oE 25 24,
oB 26 .add 19 25,
oM 3 26])))
(kr [0,3,4] [oM 11 4,
oB 12 .add 11 (cI 1),
oM 4 12]))))))
(sq (kr [0,3] [oM 28 0,
oC 29 168 [28],
oM 27 29,
oX 30 27 0,
oX 31 27 1,
oM 5 30,
oM 6 31])
(sq (kr [3,6] [oM 32 6,
oB 33 .eql 32 (cI 0),
oM 34 33,
oT 34 35 (.mov 3),
oT 34 36 (.bin .leq 35 (cI 65528)),
oP 37 34 36 cF,
oM 2 37])
.ret)))))
def HD_:List RD:=[.tmp 2 true none]
theorem bb_:zn_ Tryz.prog Tryz.f149 bT_ HD_=true:=by kernel_rfl
def xL_:List AV->List Obj->Option (Prop × AV)
 | [.imm (.cons (.int .i64) (.cons (.int .i64) (.cons .bool (.cons (.int .u64) (.cons (.sl (.int .u8)) (.cons (.sl (.int .u8)) .nil)))))) l],[]=>some ((okM l,.bool (rgM l)))
 | _,_=>none
theorem gs_:zd_ Tryz.prog 149 (RoF xL_).sum:=by
 refine zi_ Tryz.func149 bb_ (za_ (s:=RoF jx_) XF_ (za_ (s:=RoF jy_) XG_ (za_ (s:=RoF xN_) gu_ (zc_ _)))) fun args objs p v e=>?_
 unfold xL_ at e
 split at e
 ·rename_i l
  cases e
  refine ⟨rfl,fun hw ho hp=>?_⟩
  change List OV at l
  have hby:=zde_ (l:=l) (hw (.imm Y1 l) (by simp))
  clear hw ho
  have hok:=hp
  have hn:=hok.n
  repeat'(intro t ht;first|(cases t<;>first|(cases ht;done)|(try simp only[zg_]at ht))|((first|refine zb_ ht ?_|refine ht ?_ ?_|refine ht.1 ?_ ?_|refine ht ?_)<;>clear ht))
  all_goals first
   | exact True.intro
   | (intro r h1 h2;clear h1;refine h2 ⟨[0,3,4],Nat,(fun i=>i<=l.length/\(l.take i).all rgO=true),fun i=>[.imm Y1 l,.int .i64 (meN (l.take i)),.int .i64 i],fun _=>[],fun i=>l.length - i,⟨0,⟨Nat.zero_le _,rfl⟩,rfl,rfl⟩,?_⟩;clear h2)
  rintro i ⟨hi,he⟩
  repeat'(intro t ht;first|(cases t<;>first|(cases ht;done)|(try simp only[zg_]at ht;try(exfalso;first|contradiction|omega)))|((first|refine zb_ ht ?_|refine ht ?_ ?_|refine ht.1 ?_ ?_|refine ht ?_)<;>clear ht))
  all_goals (try generalize (Ty.dflt Y1)=od at*)
  all_goals first
   | exact True.intro
   | ((try simp only [zk_,zl_,zj_] at*);omega)
   | (have ha:=ZR_ (by omega) he
      rw [List.take_of_length_le (show l.length<=i by omega)] at*
      refine ⟨congrArg AV.bool ?_,rfl⟩
      have h3:Z3_ l=meN l:=by unfold Z3_ meN;rw [ub_ l ha]
      unfold rgM;rw [ha,h3];simp_all;done)
   | (have hlt:i < l.length:=by omega
      have hb:=hby _ (zD_ hlt od)
      have hq:=zgN_ hb
      have hlen:=hok.a.h _ (zD_ hlt od)
      first
       | exact hlen.2
       | (have hr:rgO (l.getD i od)=false:=hq.symm.trans ht
          have hm:rgM l=false:=by unfold rgM;rw [ZF_ hlt hr];rfl
          rw [hm];exact ⟨rfl,rfl⟩)
       | (have hr:rgO (l.getD i od)=true:=hq.symm.trans ht
          have hnu:=uM_ hr
          first
           | exact hnu
           | (have h3:=zep_ he
              rw [WN_ (show i<=l.length by omega)] at h3
              have h4:(ZB_ (l.getD i od).1 (l.getD i od).2.1 (l.getD i od).2.2.1 (l.getD i od).2.2.2.1 (l.getD i od).2.2.2.2.1 (l.getD i od).2.2.2.2.2.1).length<=300:=(x2_ hr).2.2.2
              unfold meN
              simp only [bC_,bE_,Int.toNat_natCast];omega)
           | (refine ⟨i+1,⟨by omega,Zp_ (by omega) he hr⟩,by dsimp only;omega,?_,rfl⟩
              have h5:meN (l.take (i+1))=meN (l.take i)+((ecO (l.getD i od)).length:Int):=by unfold meN;rw [zcq_ (d:=od) hlt,List.length_append];omega
              dsimp only;rw [h5];rfl)))
 ·cases e
def bU_:IR:=
(sq (kr [0] [oD 2 (.nilrow (.int .u8))])
(sq (.reg [oD 3 (.nilrow (.int .u8))])
(sq (sq (.reg [oD 4 (.mov (cI 0))])
(.block 0
(.loop
(sq (sq (kr [0,3,4] [oM 7 4,
oM 8 0,
oE 9 8,
oB 10 .lss 7 9])
(.cond 10
.skip
(.exit 0)))
(sq (.block 1
(kr [0,3,4] [oM 13 3,
oM 14 0,
oM 15 4,
oI 16 6 14 15,
oK 17 6 16,
oC 18 180 [17],
oD 19 (.append (.int .u8) 1 13 18),
oM 3 19]))
(kr [0,3,4] [oM 11 4,
oB 12 .add 11 (cI 1),
oM 4 12]))))))
(sq (kr [3] [oM 20 3,
oE 21 20,
oB 22 .add (cI 4) 21,
oM 5 22])
(sq (kr [3,5] [oC 23 84 [(.c (.int .u64 1)),(cI 2)],
oM 24 5,
oD 25 (.conv .u64 24),
oC 26 84 [25,(cI 2)],
oD 27 (.append (.int .u8) 1 23 26),
oM 6 27])
(sq (kr [3,5,6] [oM 28 6,
oM 29 3,
oD 30 (.append (.int .u8) 1 28 29),
oM 31 5,
oC 32 166 [31],
oD 33 (.appendz (.int .u8) 1 (0:Int) 30 32),
oM 2 33])
.ret))))))
def HE_:List RD:=[.tmp 2 true (some (.int .u8))]
theorem bc_:zn_ Tryz.prog Tryz.f150 bU_ HE_=true:=by kernel_rfl
def xM_:List AV->List Obj->Option (Prop × AV)
 | [.imm (.cons (.int .i64) (.cons (.int .i64) (.cons .bool (.cons (.int .u64) (.cons (.sl (.int .u8)) (.cons (.sl (.int .u8)) .nil)))))) l],[]=>some ((rgM l=true/\l.length<=100000,.imm (.int .u8) (meB l)))
 | _,_=>none
theorem gt_:zd_ Tryz.prog 150 (RoF xM_).sum:=by
 refine zi_ Tryz.func150 bc_ (za_ (s:=RoF jy_) XG_ (za_ (s:=RwF Qb_) qL_ (za_ (s:=RoF xK_) gr_ (zc_ _)))) fun args objs p v e=>?_
 unfold xM_ at e
 split at e
 ·rename_i l
  cases e
  refine ⟨rfl,fun hw ho hp=>?_⟩
  change List OV at l
  clear hw ho
  obtain ⟨hr,hn⟩:=hp
  obtain ⟨h1,h2,h3,h4,h5⟩:=kB_ hr
  have hz:=XO_ (n:=meN l) (by omega)
  repeat'(intro t ht;first|(cases t<;>first|(cases ht;done)|(try simp only[zg_]at ht))|((first|refine zb_ ht ?_|refine ht ?_ ?_|refine ht.1 ?_ ?_|refine ht ?_)<;>clear ht))
  all_goals first
   | exact True.intro
   | (intro r h1 h2;clear h1;refine h2 ⟨[0,3,4],Nat,(fun i=>i<=l.length),fun i=>[.imm Y1 l,.own 0,.int .i64 i],fun i=>[.row false (.int .u8) (boO (l.take i))],fun i=>l.length - i,⟨0,Nat.zero_le _,rfl,rfl⟩,?_⟩;clear h2)
  rintro i hi
  have hbi:=zep_ (l:=l.take i) (List.all_eq_true.2 fun o ho=>List.all_eq_true.1 h1 o (List.mem_of_mem_take ho))
  have hti:(l.take i).length<=100000:=by rw [List.length_take];omega
  repeat'(intro t ht;first|(cases t<;>first|(cases ht;done)|(try simp only[zg_]at ht;try(exfalso;first|contradiction|omega)))|((first|refine zb_ ht ?_|refine ht ?_ ?_|refine ht.1 ?_ ?_|refine ht ?_)<;>clear ht))
  all_goals (try generalize (Ty.dflt Y1)=od at*)
  all_goals first
   | exact True.intro
   | ((try simp only [zk_,zl_,zj_] at*);omega)
   | (have hlt:i < l.length:=by omega
      have hro:=List.all_eq_true.1 h1 _ (zD_ hlt od)
      first
       | exact uM_ hro
       | (have h6:(ZB_ (l.getD i od).1 (l.getD i od).2.1 (l.getD i od).2.2.1 (l.getD i od).2.2.2.1 (l.getD i od).2.2.2.2.1 (l.getD i od).2.2.2.2.2.1).length<=300:=(x2_ hro).2.2.2
          simp only [zT_,Int.toNat_natCast];constructor<;>omega)
       | (refine ⟨i+1,by omega,by dsimp only;omega,rfl,?_⟩
          dsimp only
          rw [zcq_ (d:=od) hlt];rfl))
   | (have e:l.take i=l:=List.take_of_length_le (show l.length<=i by omega)
      refine ⟨?_,by first | rfl | exact True.intro⟩
      rw [e];unfold meB meN;simp only [zT_,List.append_assoc];done)
   | (have hge:l.length<=i:=by omega
      have e:l.take i=l:=List.take_of_length_le hge
      rw [e] at*
      have l2:=zm_ (n:=1) (w:=2) (by decide)
      have l3:=zm_ (n:=meN l) (w:=2) (by decide)
      have l4:=zm_ (n:=4+((boO l).length:Int)) (w:=2) (by decide)
      have hb:=zep_ h1
      unfold meN at*
      first
       | ((try simp only [zk_,zl_,zj_] at*);omega)
       | exact ⟨by decide,by decide⟩
       | (simp only [zT_,List.length_append,List.length_nil];constructor<;>omega)
       | (simp only [zT_,List.length_append,List.length_nil];refine ⟨?_,?_,?_⟩<;>omega))
 ·cases e
def GB_:IR:=
(sq (kr [0] [oD 2 (.mov (.c (.imm (.int .u8) []))),
oD 3 (.mov (cI 0))])
(sq (sq (.reg [oM 4 0,
oC 5 149 [4],
oD 6 (.un .not 5)])
(.cond 6
(sq (.reg [oD 2 (.mov (.c (.imm (.int .u8) []))),
oD 3 (.mov (cI 10001))])
.ret)
.skip))
(sq (kr [0] [oM 7 0,
oC 8 150 [7],
oM 2 8,
oD 3 (.mov (cI 0))])
.ret)))
def gG_:List RD:=[.tmp 2 true (some (.int .u8)),.tmp 3 true none]
theorem g8_:zn_ Tryz.prog Tryz.f82 GB_ gG_=true:=by kernel_rfl
def wz_:List AV->List Obj->Option (Prop × AV)
 | [.imm (.cons (.int .i64) (.cons (.int .i64) (.cons .bool (.cons (.int .u64) (.cons (.sl (.int .u8)) (.cons (.sl (.int .u8)) .nil)))))) x],[]=>some ((okM x,.tup [.imm (.int .u8) (meL x),.int .i64 (meE x)]))
 | _,_=>none
theorem uu_:zd_ Tryz.prog 82 (RoF wz_).sum:=by
 refine zi_ Tryz.func82 g8_ (za_ (s:=RoF xL_) gs_ (za_ (s:=RoF xM_) gt_ (zc_ _))) fun args objs p v e=>?_
 unfold wz_ at e
 split at e
 ·rename_i x
  cases e
  refine ⟨rfl,fun hw ho hp=>?_⟩
  change List OV at x
  clear hw ho
  have hok:=hp
  have hn:=hp.n
  repeat'(intro t ht;first|(cases t<;>first|(cases ht;done)|(try simp only[zg_]at ht))|((first|refine zb_ ht ?_|refine ht ?_ ?_|refine ht.1 ?_ ?_|refine ht ?_)<;>clear ht))
  all_goals first
   | exact True.intro
   | exact hok
   | exact ⟨by assumption,hn⟩
   | (unfold meL meE;rw [if_pos (by assumption),if_pos (by assumption)];exact ⟨rfl,rfl⟩)
   | (have hr:rgM x=false:=by assumption
      unfold meL meE;rw [hr];exact ⟨rfl,rfl⟩)
 ·cases e
def vO (y:List Int):OV:=(zz_ y,zO_ y,ZK_ y,Qa_ y,qd_ y,qa_ y,())
def mlG (acc:List OV) (y:List Int):List OV × Int:=
 if y.length=0 then (acc,0) else if ¬ zM_ y=0 then ([],zM_ y) else if ¬ (ckS [] (acc++[vO y])).2=0 then ([],(ckS [] (acc++[vO y])).2) else mlG (acc++[vO y]) (y.drop (max 1 (Zi_ y).toNat))
termination_by y.length
decreasing_by all_goals (rw [List.length_drop];omega)
theorem Ym_ {acc:List OV} {y:List Int} (h:y.length=0):mlG acc y=(acc,0):=by rw [mlG,if_pos h]
theorem bA_ {acc:List OV} {y:List Int} (h:¬ y.length=0) (h1:¬ zM_ y=0):mlG acc y=([],zM_ y):=by rw [mlG,if_neg h,if_pos h1]
theorem zdH_ {acc:List OV} {y:List Int} (h:¬ y.length=0) (h1:zM_ y=0) (h2:¬ (ckS [] (acc++[vO y])).2=0):mlG acc y=([],(ckS [] (acc++[vO y])).2):=by rw [mlG,if_neg h,if_neg (not_not_intro h1),if_pos h2]
theorem uh_ {y:List Int} (hb:∀ x ∈ y,0<=x/\x<=255) (h:zM_ y=0):4<=Zi_ y/\Zi_ y<=y.length:=by
 obtain ⟨h1,h2,h3,h4⟩:=uf_ hb h
 have:=congrArg List.length h2
 rw [List.length_take] at this
 have hl:4<=(ZB_ (zz_ y) (zO_ y) (ZK_ y) (Qa_ y) (qd_ y) (qa_ y)).length:=by
  have:=zm_ (n:=zz_ y) (w:=2) (by decide)
  unfold ZB_;simp only [List.length_append,List.length_cons];omega
 omega
theorem zdG_ {acc:List OV} {y:List Int} (hb:∀ x ∈ y,0<=x/\x<=255) (h:¬ y.length=0) (h1:zM_ y=0) (h2:(ckS [] (acc++[vO y])).2=0):mlG acc y=mlG (acc++[vO y]) (y.drop (Zi_ y).toNat):=by
 have hn:=uh_ hb h1
 rw [mlG,if_neg h,if_neg (not_not_intro h1),if_neg (not_not_intro h2),show max 1 (Zi_ y).toNat=(Zi_ y).toNat by omega]
theorem zjA_ {y:List Int} (h:zM_ y=0):((Zz_ y (zz_ y),Zz_ y (zO_ y),(if zM_ y=0 then ZK_ y else false),Zz_ y (Qa_ y),qe_ y (qd_ y),qe_ y (qa_ y),()):OV)=vO y:=by
 unfold Zz_ qe_ vO;simp only [if_pos h]
def GN_:IR:=
(sq (kr [0] [oD 1 (.boxv 0),
oD 2 (.mov (.c (.undef)))])
(sq (.reg [oD 3 (.mkfn 232 [] [1]),
oM 2 3])
.ret))
def gS_:List RD:=[.tmp 2 true none]
theorem Gk_:zn_ Tryz.prog Tryz.f213 GN_ gS_=true:=by kernel_rfl
def wH_:List AV->List Obj->Option (Prop × AV × List Obj)
 | [.imm (.int .u8) b],[]=>some ((True,.fn 232 [] [.ptr 0 0],[.box [.imm (.int .u8) b]]))
 | _,_=>none
theorem uB_:zd_ Tryz.prog 213 (RwF wH_).sum:=by
 refine qw_ Tryz.func213 Gk_ (zc_ _) fun args objs p v o e=>?_
 unfold wH_ at e
 split at e
 ·rename_i b
  cases e
  refine ⟨rfl,fun hw ho hp=>?_⟩
  change List Int at b
  repeat'(intro t ht;first|(cases t<;>first|(cases ht;done)|(try simp only[zg_]at ht;try(exfalso;first|contradiction|omega)))|((first|refine zb_ ht ?_|refine ht ?_ ?_|refine ht.1 ?_ ?_|refine ht ?_)<;>clear ht))
  all_goals first
   | exact True.intro
   | exact ⟨rfl,rfl⟩
 ·cases e
def GM_:IR:=
(sq (kr [0] [oD 2 (.box [.nils]),
oD 3 (.box [.int .i64 0])])
(sq (sq (.reg [oM 8 0,
oC 9 213 [8]])
(.block 0
(.rng 9 [10,11] [2,3] 232
(sq (kr [2,3,10,11] [oD 4 (.box [.int .i64 0,.int .i64 0,.kb false,.int .u64 0,.nils,.nils]),
oS 6 4 10])
(.reg [oM 5 11]))
(.block 1
(sq (sq (kr [2,3,4,5] [oM 12 5,
oB 13 .neq 12 (cI 0)])
(.cond 13
(sq (.reg [oM 14 5,
oN (.store 1 2 (.c (.nils))),
oS 1 3 14])
.ret)
.skip))
(sq (.reg [oL 15 2,
oK 16 6 4,
oD 17 (.sliceAll Y1 1 [(0,6,16)]),
oD 18 (.append Y1 80 15 17),
oS 1 2 18])
(sq (kr [2,3] [oL 20 2,
oC 21 189 [20],
oM 19 21,
oX 22 19 0,
oX 23 19 1,
oM 6 22,
oM 7 23])
(sq (kr [2,3,7] [oM 24 7,
oB 25 .neq 24 (cI 0)])
(.cond 25
(sq (.reg [oM 26 7,
oN (.store 1 2 (.c (.nils))),
oS 1 3 26])
.ret)
.skip))))))
(.block 0
(.loop
(sq (sq (kr [0,1] [oL 6 1,
oE 7 6,
oB 8 .gtr 7 (cI 0)])
(.cond 8
.skip
(.exit 0)))
(.block 1
(sq (kr [0,1] [oL 10 1,
oC 11 233 [10],
oM 9 11,
oX 12 9 0,
oX 13 9 1,
oX 14 9 2,
oD 3 (.box [.int .i64 0,.int .i64 0,.kb false,.int .u64 0,.imm (.int .u8) [],.imm (.int .u8) []]),
oS 6 3 12,
oM 4 13,
oM 5 14])
(sq (sq (.keep [0,1,3,4,5]
(.yld [oM 15 0,
oK 16 6 3,
oM 17 5] (some 18) (.t 15) [(.t 16),(.t 17)] [0,1,4,5] [oD 19 (.un .not 18),
oM 20 19,
oF 20 21 (.mov 5),
oF 20 22 (.bin .neq 21 (cI 0)),
oP 23 20 cT 22]))
(.cond 23
.ret
.skip))
(kr [0,1,4] [oL 24 1,
oM 25 4,
oD 26 (.slice 1 24 (some 25) none none),
oS 1 1 26]))))))))))
(sq (kr [2,3] [oL 27 2,
oS 1 2 27,
oN (.store 1 3 (cI 0))])
.ret)))
def gR_:List RD:=[.cell 2 none true [(some Y1)],.cell 3 none true []]
theorem Gj_:zn_ Tryz.prog Tryz.f196 GM_ gR_=true:=by kernel_rfl
def wG_:List AV->List Obj->Option (Prop × AV)
 | [.imm (.int .u8) b],[]=>some ((b.length<=100000000,.tup [.imm Y1 (mlG [] b).1,.int .i64 (mlG [] b).2]))
 | _,_=>none
theorem uA_:zd_ Tryz.prog 196 (RoF wG_).sum:=by
 refine zi_ Tryz.func196 Gj_ (za_ (s:=RoF KF_) WR_ (za_ (s:=RwF wH_) uB_ (za_ (s:=RoF KH_) WT_ (zc_ _)))) fun args objs p v e=>?_
 unfold wG_ at e
 split at e
 ·rename_i b
  cases e
  refine ⟨rfl,fun hw ho hp=>?_⟩
  change List Int at b
  have hb:∀ x ∈ (b:List Int),(0:Int)<=x/\x<=255:=fun x hx=>(hw (.imm (.int .u8) b) (by simp)).1 x hx
  clear hw ho
  repeat'(intro t ht;first|(cases t<;>first|(cases ht;done)|(try simp only[zg_]at ht;try(exfalso;first|contradiction|omega)))|((first|refine zb_ ht ?_|refine ht ?_ ?_|refine ht.1 ?_ ?_|refine ht ?_)<;>clear ht))
  all_goals first
   | exact True.intro
   | (refine .inl fun lr ln=>?_)
  repeat'(intro t ht;first|(cases t<;>first|(cases ht;done)|(try simp only[zg_]at ht;try(exfalso;first|contradiction|omega)))|((first|refine zb_ ht ?_|refine ht ?_ ?_|refine ht.1 ?_ ?_|refine ht ?_)<;>clear ht))
  all_goals first
   | exact True.intro
   | (intro r h1 h2;clear h1;refine h2 ⟨[0,1],Option (List OV × List Int),(fun a=>match a with | none=>True | some a=>a.1.length+a.2.length<=b.length/\(∀ x ∈ a.2,0<=x/\x<=255)/\mlG [] b=mlG a.1 a.2),(fun a=>[.yv ln,.ptr 0 0]),(fun a=>match a with | none=>[.box [.imm (.int .u8) b],.box [.nils],.box [.int .i64 0],.lrec lr 0] | some a=>[.box [.imm (.int .u8) a.2],.box [.own 4],.box [.int .i64 0],.lrec lr 0,.row false Y1 a.1]),(fun a=>match a with | none=>b.length+1 | some a=>a.2.length),⟨none,True.intro,rfl,rfl⟩,?_⟩;clear h2)
  rintro (_ | ⟨acc,y⟩) hJ
  ·clear hJ
   repeat'(intro t ht;first|(cases t<;>first|(cases ht;done)|(try simp only[zg_]at ht;try(exfalso;first|contradiction|omega)))|((first|refine zb_ ht ?_|refine ht ?_ ?_|refine ht.1 ?_ ?_|refine ht ?_)<;>clear ht))
   all_goals (try dsimp only at*)
   all_goals first
    | exact True.intro
    | ((try simp only [zk_,zl_,zj_] at*);omega)
    | exact ⟨rfl,rfl⟩
    | (rw [Ym_ (by omega)];exact ⟨rfl,rfl⟩)
    | (simp only [zT_,List.length_cons,List.length_nil];constructor<;>omega)
    | (have h0:zM_ b=0:=by assumption
       have hg:=uh_ hb h0
       have e1:Zz_ b (Zi_ b)=Zi_ b:=if_pos h0
       have hv:=zjA_ h0
       first
        | (rw [e1];constructor<;>omega)
        | (have hc:¬ (ckS [] ([]++[(Zz_ b (zz_ b),Zz_ b (zO_ b),if zM_ b=0 then ZK_ b else false,Zz_ b (Qa_ b),qe_ b (qd_ b),qe_ b (qa_ b),())])).2=0:=by assumption
           rw [hv] at hc
           have hm:=zdH_ (acc:=[]) (by omega) h0 hc
           rw [hm,<- hv];exact ⟨rfl,rfl⟩)
        | (have hc:(ckS [] ([]++[(Zz_ b (zz_ b),Zz_ b (zO_ b),if zM_ b=0 then ZK_ b else false,Zz_ b (Qa_ b),qe_ b (qd_ b),qe_ b (qa_ b),())])).2=0:=by assumption
           rw [hv] at hc
           have hm:=zdG_ (acc:=[]) hb (by omega) h0 hc
           refine ⟨some ([]++[vO b],b.drop (Zi_ b).toNat),⟨?_,fun x hx=>hb x (List.mem_of_mem_drop hx),hm⟩,?_,rfl,?_⟩
           ·simp only [List.length_append,List.length_cons,List.length_nil,List.length_drop];omega
           ·dsimp only;rw [List.length_drop];omega
           ·dsimp only;rw [e1,<- hv];rfl))
    | (have h0:¬ zM_ b=0:=by assumption
       rw [bA_ (by omega) h0];exact ⟨rfl,rfl⟩)
  ·obtain ⟨j1,j2,j3⟩:=hJ
   dsimp only at j1 j2 j3
   repeat'(intro t ht;first|(cases t<;>first|(cases ht;done)|(try simp only[zg_]at ht;try(exfalso;first|contradiction|omega)))|((first|refine zb_ ht ?_|refine ht ?_ ?_|refine ht.1 ?_ ?_|refine ht ?_)<;>clear ht))
   all_goals (try dsimp only at*)
   all_goals first
    | exact True.intro
    | ((try simp only [zk_,zl_,zj_] at*);omega)
    | exact ⟨rfl,rfl⟩
    | (rw [j3,Ym_ (by omega)];exact ⟨rfl,rfl⟩)
    | (simp only [zT_,List.length_cons,List.length_nil];constructor<;>omega)
    | (have h0:zM_ y=0:=by assumption
       have hg:=uh_ j2 h0
       have e1:Zz_ y (Zi_ y)=Zi_ y:=if_pos h0
       have hv:=zjA_ h0
       first
        | (rw [e1];constructor<;>omega)
        | (have hc:¬ (ckS [] (acc++[(Zz_ y (zz_ y),Zz_ y (zO_ y),if zM_ y=0 then ZK_ y else false,Zz_ y (Qa_ y),qe_ y (qd_ y),qe_ y (qa_ y),())])).2=0:=by assumption
           rw [hv] at hc
           have hm:=zdH_ (acc:=acc) (by omega) h0 hc
           rw [j3,hm,<- hv];exact ⟨rfl,rfl⟩)
        | (have hc:(ckS [] (acc++[(Zz_ y (zz_ y),Zz_ y (zO_ y),if zM_ y=0 then ZK_ y else false,Zz_ y (Qa_ y),qe_ y (qd_ y),qe_ y (qa_ y),())])).2=0:=by assumption
           rw [hv] at hc
           have hm:=zdG_ (acc:=acc) j2 (by omega) h0 hc
           refine ⟨some (acc++[vO y],y.drop (Zi_ y).toNat),⟨?_,fun x hx=>j2 x (List.mem_of_mem_drop hx),j3.trans hm⟩,?_,rfl,?_⟩
           ·simp only [List.length_append,List.length_cons,List.length_nil,List.length_drop];omega
           ·dsimp only;rw [List.length_drop];omega
           ·dsimp only;rw [e1,<- hv];rfl))
    | (have h0:¬ zM_ y=0:=by assumption
       rw [j3,bA_ (by omega) h0];exact ⟨rfl,rfl⟩)
 ·cases e
def WA_:IR:=
(sq (kr [0] [oD 2 (.mov (.c (.imm (.int .u8) [])))])
(sq (sq (.reg [oM 3 0,
oC 4 23 [3],
oB 5 .neq 4 (cI 0)])
(.cond 5
(sq (.reg [oD 2 (.mov (.c (.imm (.int .u8) [])))])
.ret)
.skip))
(sq (kd [0] [(oM 6 0,[]),
(oD 7 (.nilck 6),[]),
(oA 8 0 7,[]),
(oL 9 8,[]),
(oM 10 0,[0,0,0,0]),
(oD 11 (.nilck 10),[1,0,0,0]),
(oA 12 1 11,[2,0,0,0]),
(oL 13 12,[3,0,0,0]),
(oD 14 (.slice 1 9 (some 13) none none),[]),
(oC 15 60 [14],[]),
(oM 2 15,[])])
.ret)))
def w5_:List RD:=[.tmp 2 true (some (.int .u8))]
theorem Wl_:zn_ Tryz.prog Tryz.f164 WA_ w5_=true:=by kernel_rfl
def q4_:List AV->List Obj->Option (Prop × AV)
 | [.ptr 0 0],[.box [.imm (.int .u8) b,.int .i64 p,.int .i64 sh,.int .i64 od,.int .i64 e,.bool true]]=>some ((0<=p/\p<=b.length/\b.length<=140737488355328,.imm (.int .u8) (if e=0 then b.drop p.toNat else [])))
 | _,_=>none
theorem JK_:zd_ Tryz.prog 164 (RoF q4_).sum:=by
 refine zi_ Tryz.func164 Wl_ (za_ (s:=RoF zr_) zu_ (za_ (s:=RoF qz_) QA_ (zc_ _))) fun args objs p v e=>?_
 unfold q4_ at e
 split at e
 ·rename_i b p sh od e
  cases e
  refine ⟨rfl,fun hw ho hp=>?_⟩
  change List Int at b
  clear hw ho
  obtain ⟨h1,h2,h3⟩:=hp
  repeat'(intro t ht;first|(cases t<;>first|(cases ht;done)|(try simp only[zg_]at ht;try(exfalso;first|contradiction|omega)))|((first|refine zb_ ht ?_|refine ht ?_ ?_|refine ht.1 ?_ ?_|refine ht ?_)<;>clear ht))
  all_goals first
   | exact True.intro
   | (rw [List.length_drop];omega)
   | ((try simp only [zk_,zl_,zj_] at*);omega)
   | omega
   | (rw [if_pos (by assumption)];exact ⟨rfl,rfl⟩)
   | (rw [if_neg (by assumption)];exact ⟨rfl,rfl⟩)
 ·cases e
theorem get2 (b:List Int):Zh_ [2] b=if b.length < 2 then ([],1) else ([z8_ (b.take 2)],0):=by
 have hr:zP_ [2]=true:=by decide
 unfold Zh_
 rw [if_pos hr]
 have a2:zp_ 2=2:=by decide
 have t2:Int.toNat 2=2:=rfl
 have p2:(0:Int) < 2:=by decide
 simp only [Zq_,a2,t2,if_pos p2]
 by_cases h:b.length < 2
 ·rw [if_pos h,if_pos (by omega)]
 ·rw [if_neg h,if_neg (by omega)];rfl
theorem bx_ {b:List Int} {p sh od:Int} (hp:0<=p) (h:p+2<=b.length):Yi_ 2 b p 0=z8_ ((b.drop p.toNat).take 2)/\xf_ 2 b p 0=p+2/\XA_ 2 b p sh od 0=0:=by
 have e:Zh_ [2] (b.drop p.toNat)=([z8_ ((b.drop p.toNat).take 2)],0):=by
  rw [get2,if_neg (by rw [List.length_drop];omega)]
 have es:zE_ [2]=2:=by decide
 unfold Yi_ xf_ XA_ Qy_ qK_ Z6_ zC_ zI_
 rw [e,es];exact ⟨rfl,rfl,rfl⟩
theorem zeW_ {b:List Int} {p sh od:Int} (hp:0<=p/\p<=b.length) (h:¬ p+2<=b.length):Yi_ 2 b p 0=0/\xf_ 2 b p 0=p/\XA_ 2 b p sh od 0=sh:=by
 have e:Zh_ [2] (b.drop p.toNat)=([],1):=by
  rw [get2,if_pos (by rw [List.length_drop];omega)]
 unfold Yi_ xf_ XA_ Qy_ qK_ Z6_ zC_ zI_
 rw [e];exact ⟨rfl,rfl,rfl⟩
theorem ziH_ {b:List Int} {p sh od e:Int} (he:e ≠ 0):Yi_ 2 b p e=0/\xf_ 2 b p e=p/\XA_ 2 b p sh od e=e:=by
 unfold Yi_ xf_ XA_ Qy_ qK_ Z6_
 rw [if_neg he,if_neg he,if_neg he];exact ⟨rfl,rfl,rfl⟩
theorem zgz_ {b:List Int} {sh od:Int} (hs:sh ≠ 0):
 (¬ b.length < 4->Yi_ 2 b 0 0=tT b/\xf_ 2 b 0 0=2/\XA_ 2 b 0 sh od 0=0/\Yi_ 2 b 2 0=tN b/\xf_ 2 b 2 0=4/\XA_ 2 b 2 sh od 0=0)/\
 (b.length < 4->Yi_ 2 b (xf_ 2 b 0 0) (XA_ 2 b 0 sh od 0)=0/\XA_ 2 b (xf_ 2 b 0 0) sh od (XA_ 2 b 0 sh od 0)=sh/\0<=xf_ 2 b 0 0/\xf_ 2 b 0 0<=b.length):=by
 constructor
 ·intro h
  obtain ⟨a1,a2,a3⟩:=bx_ (b:=b) (p:=0) (sh:=sh) (od:=od) (by decide) (by omega)
  obtain ⟨b1,b2,b3⟩:=bx_ (b:=b) (p:=2) (sh:=sh) (od:=od) (by decide) (by omega)
  exact ⟨a1,a2,a3,b1,b2,b3⟩
 ·intro h
  by_cases h2:b.length < 2
  ·obtain ⟨a1,a2,a3⟩:=zeW_ (b:=b) (p:=0) (sh:=sh) (od:=od) ⟨by decide,by omega⟩ (by omega)
   rw [a2,a3]
   obtain ⟨b1,b2,b3⟩:=ziH_ (b:=b) (p:=0) (sh:=sh) (od:=od) hs
   exact ⟨b1,b3,by decide,by omega⟩
  ·obtain ⟨a1,a2,a3⟩:=bx_ (b:=b) (p:=0) (sh:=sh) (od:=od) (by decide) (by omega)
   rw [a2,a3]
   obtain ⟨b1,b2,b3⟩:=zeW_ (b:=b) (p:=0+2) (sh:=sh) (od:=od) ⟨by decide,by omega⟩ (by omega)
   exact ⟨b1,b3,by decide,by omega⟩
theorem ziM_ {k p sh:Int} {b:List Int} (hk:1<=k/\k<=7) (hp:0<=p) (h:p+k<=b.length):qK_ [0 - k] b p 0=(if zX_ ((b.drop p.toNat).take k.toNat)=true then p+k else p)/\Z6_ [0 - k] b p sh sh 0=(if zX_ ((b.drop p.toNat).take k.toNat)=true then 0 else sh):=by
 have hr:zP_ [0 - k]=true:=by
  rw [Zl_];refine ⟨by simp,fun n hn=>?_⟩
  simp only [List.mem_cons,List.not_mem_nil,or_false] at hn
  subst hn;omega
 have ha:zp_ (0 - k)=k:=by unfold zp_;split<;>omega
 have hl:(b.drop p.toNat).length=b.length - p.toNat:=List.length_drop
 have e:Zh_ [0 - k] (b.drop p.toNat)=([],if zX_ ((b.drop p.toNat).take k.toNat)=true then 0 else 2):=by
  unfold Zh_;rw [if_pos hr]
  simp only [Zq_,ha]
  rw [if_neg (by omega),if_neg (by omega)]
  split<;>rfl
 have es:zE_ [0 - k]=k:=by
  unfold zE_;rw [if_pos hr];simp only [List.map_cons,List.map_nil,List.sum_cons,List.sum_nil,ha];omega
 unfold qK_ Z6_ zI_
 rw [e,es]
 cases hz:zX_ ((b.drop p.toNat).take k.toNat) with
 | true=>exact ⟨rfl,rfl⟩
 | false=>exact ⟨rfl,rfl⟩
def mdZ (b:List Int):Bool:=zX_ ((b.drop (tN b).toNat).take (pz (tN b)).toNat)
def mdE (b:List Int):Int:=if b.length < 4 then 1026 else if ¬ tT b=1 then 1025 else if tN b < 4\/65528 < tN b\/b.length < tN b+pz (tN b) then 1026 else if ¬ (mlG [] (bd b)).2=0 then (mlG [] (bd b)).2 else if mdZ b=true then 0 else 1026
def mdL (b:List Int):List OV:=if mdE b=0 then (mlG [] (bd b)).1 else []
def mdN (b:List Int):Int:=if mdE b=0 then tN b+pz (tN b) else 0
theorem ve_ {b:List Int} {e:Int} (h:mdE b=e) (h0:¬ e=0):mdL b=[]/\mdN b=0:=by
 unfold mdL mdN;rw [h,if_neg h0,if_neg h0];exact ⟨rfl,rfl⟩
def VZ_:IR:=
(sq (kr [0] [oD 2 (.mov (.c (.imm Y1 []))),
oD 3 (.mov (cI 0)),
oD 4 (.mov (cI 0))])
(sq (.reg [oM 12 0,
oC 13 20 [12,(cI 1026),(cI 1026)],
oM 5 13])
(sq (kr [0,5] [oM 14 5,
oC 15 195 [14,(cI 2)],
oM 16 5,
oC 17 195 [16,(cI 2)],
oD 18 (.conv .i64 17),
oM 6 15,
oM 7 18])
(sq (.block 0
(sq (kr [0,5,6,7] [oM 20 5,
oC 21 23 [20],
oB 22 .neq 21 (cI 0),
oM 19 22])
(.cond 19
(sq (kr [5] [oM 23 5,
oC 24 23 [23],
oD 2 (.mov (.c (.imm Y1 []))),
oD 3 (.mov (cI 0)),
oM 4 24])
.ret)
(sq (.reg [oM 26 6,
oB 27 .neq 26 (.c (.int .u64 1)),
oM 25 27])
(.cond 25
(sq (kr [] [oD 2 (.mov (.c (.imm Y1 []))),
oD 3 (.mov (cI 0)),
oD 4 (.mov (cI 1025))])
.ret)
(sq (kr [0,5,7] [oM 29 7,
oB 30 .lss 29 (cI 4),
oM 31 30,
oF 31 32 (.mov 7),
oF 31 33 (.bin .gtr 32 (cI 65528)),
oP 34 31 cT 33,
oM 35 34,
oF 35 36 (.mov 7),
oF 35 37 (.mov 7),
oF 35 38 (.call false (.f 160) [37]),
oF 35 39 (.bin .add 36 38),
oF 35 40 (.mov 0),
oF 35 41 (.len 40),
oF 35 42 (.bin .gtr 39 41),
oP 43 35 cT 42,
oM 28 43])
(.cond 28
(sq (kr [] [oD 2 (.mov (.c (.imm Y1 []))),
oD 3 (.mov (cI 0)),
oD 4 (.mov (cI 1026))])
.ret)
.skip)))))))
(sq (kr [5,7] [oM 45 5,
oM 46 7,
oB 47 .sub 46 (cI 4),
oC 48 21 [45,47],
oC 49 196 [48],
oM 44 49,
oX 50 44 0,
oX 51 44 1,
oM 8 50,
oM 9 51])
(sq (sq (kr [5,7,8,9] [oM 52 9,
oB 53 .neq 52 (cI 0)])
(.cond 53
(sq (.reg [oM 54 9,
oD 2 (.mov (.c (.imm Y1 []))),
oD 3 (.mov (cI 0)),
oM 4 54])
.ret)
.skip))
(sq (sq (kr [5,7,8] [oM 55 7,
oC 56 160 [55],
oM 10 56])
(sq (.reg [oM 57 10,
oB 58 .gtr 57 (cI 0)])
(.cond 58
(kr [5,8,10] [oM 59 5,
oM 60 10,
oD 61 (.un .neg 60),
oD 62 (.sliceAll (.int .i64) 1 [(0,1,61)]),
oC 63 107 [59,62]])
.skip)))
(sq (sq (.reg [oM 64 5,
oC 65 23 [64],
oM 11 65])
(sq (kr [5,8,11] [oM 66 11,
oB 67 .neq 66 (cI 0)])
(.cond 67
(sq (.reg [oM 68 11,
oD 2 (.mov (.c (.imm Y1 []))),
oD 3 (.mov (cI 0)),
oM 4 68])
.ret)
.skip)))
(sq (kr [5,8] [oM 69 8,
oM 70 5,
oC 71 118 [70],
oM 2 69,
oM 3 71,
oD 4 (.mov (cI 0))])
.ret)))))))))
def VH_:List RD:=[.tmp 2 true (some Y1),.tmp 3 true none,.tmp 4 true none]
theorem VP_:zn_ Tryz.prog Tryz.f165 VZ_ VH_=true:=by kernel_rfl
def jb_:List AV->List Obj->Option (Prop × AV)
 | [.imm (.int .u8) b],[]=>some ((b.length<=100000000,.tup [.imm Y1 (mdL b),.int .i64 (mdN b),.int .i64 (mdE b)]))
 | _,_=>none
theorem YT_:zd_ Tryz.prog 165 (RoF jb_).sum:=by
 refine zi_ Tryz.func165 VP_ (za_ (s:=RwF qu_) qM_ (za_ (s:=RwF qf_) kp_ (za_ (s:=RoF zr_) zu_ (za_ (s:=RoF kW_) wR_ (za_ (s:=RwF zJ_) zV_ (za_ (s:=RoF wG_) uA_ (za_ (s:=RwF z5_) Zv_ (za_ (s:=RoF ZX_) qN_ (zc_ _))))))))) fun args objs p v e=>?_
 unfold jb_ at e
 split at e
 ·rename_i b
  cases e
  refine ⟨rfl,fun hw ho hp=>?_⟩
  change List Int at b
  have hb:∀ x ∈ (b:List Int),(0:Int)<=x/\x<=255:=fun x hx=>(hw (.imm (.int .u8) b) (by simp)).1 x hx
  clear hw ho
  have hn2:0<=tN b/\tN b<=65535:=jq_ (a:=2) hb
  have hz:=XO_ hn2.1
  obtain ⟨T1,T2⟩:=zgz_ (b:=b) (sh:=1026) (od:=1026) (by decide)
  by_cases h4:b.length < 4
  ·obtain ⟨n1,n2,n3,n4⟩:=T2 h4
   have hE:mdE b=1026:=if_pos h4
   obtain ⟨m1,m2⟩:=ve_ hE (by decide)
   rw [m1,m2,hE]
   repeat'(intro t ht;first|(cases t<;>first|(cases ht;done)|(try simp only[zg_]at ht))|((first|refine zb_ ht ?_|refine ht ?_ ?_|refine ht.1 ?_ ?_|refine ht ?_)<;>clear ht))
   all_goals (try simp only [n1,n2,bC_,bE_] at*)
   all_goals first
    | exact True.intro
    | exact ⟨n3,n4,by omega⟩
    | omega
    | exact ⟨by decide,by omega,by omega⟩
    | exact ⟨rfl,by first | rfl | exact True.intro⟩
    | exact ⟨True.intro,True.intro⟩
    | (exfalso;simp_all;done)
  ·obtain ⟨n1,n2,n3,n4,n5,n6⟩:=T1 h4
   by_cases ht:tT b=1
   ·by_cases hr:tN b < 4\/65528 < tN b\/b.length < tN b+pz (tN b)
    ·have hE:mdE b=1026:=by unfold mdE;rw [if_neg h4,if_neg (not_not_intro ht),if_pos hr]
     obtain ⟨m1,m2⟩:=ve_ hE (by decide)
     rw [m1,m2,hE]
     repeat'(intro t ht;first|(cases t<;>first|(cases ht;done)|(try simp only[zg_]at ht))|((first|refine zb_ ht ?_|refine ht ?_ ?_|refine ht.1 ?_ ?_|refine ht ?_)<;>clear ht))
     all_goals (try simp only [n1,n2,n3,n4,n5,n6,ht] at*)
     all_goals first
      | exact True.intro
      | contradiction
      | omega
      | ((try simp only [zk_,zl_,zj_] at*);omega)
      | exact ⟨by decide,by omega,by omega⟩
      | exact ⟨rfl,by first | rfl | exact True.intro⟩
      | exact ⟨True.intro,True.intro⟩
      | (exfalso;omega)
    ·have hE0:mdE b=if ¬ (mlG [] (bd b)).2=0 then (mlG [] (bd b)).2 else if mdZ b=true then 0 else 1026:=by unfold mdE;rw [if_neg h4,if_neg (not_not_intro ht),if_neg hr]
     obtain ⟨k1,k2,k3⟩:=Jz_ (n:=tN b - 4) (p:=4) (sh:=1026) (b:=b) (by omega) (by omega)
     have k4:(b.take (4+(tN b - 4)).toNat).drop (4:Int).toNat=bd b:=by unfold bd;rw [show 4+(tN b - 4)=tN b by omega];rfl
     rw [k4] at k1
     have k5:(4:Int)+(tN b - 4)=tN b:=by omega
     rw [k5] at k2
     have hbl:=zjN_ hb
     by_cases hg:(mlG [] (bd b)).2=0
     ·rw [if_neg (not_not_intro hg)] at hE0
      by_cases hk:0 < pz (tN b)
      ·obtain ⟨r1,r2⟩:=ziM_ (sh:=1026) (b:=b) (p:=tN b) (k:=pz (tN b)) (by omega) (by omega) (by omega)
       have hZ:zX_ ((b.drop (tN b).toNat).take (pz (tN b)).toNat)=mdZ b:=rfl
       rw [hZ] at r1 r2
       cases hz0:mdZ b with
       | true=>
         rw [hz0] at hE0 r1 r2
         rw [if_pos rfl] at r1 r2 hE0
         have m1:mdL b=(mlG [] (bd b)).1:=if_pos hE0
         have m2:mdN b=tN b+pz (tN b):=if_pos hE0
         rw [m1,m2,hE0]
         repeat'(intro t ht;first|(cases t<;>first|(cases ht;done)|(try simp only[zg_]at ht))|((first|refine zb_ ht ?_|refine ht ?_ ?_|refine ht.1 ?_ ?_|refine ht ?_)<;>clear ht))
         all_goals (try simp only [n1,n2,n3,n4,n5,n6,ht,k1,k2,k3,hg,r1,r2] at*)
         all_goals first
          | exact True.intro
          | contradiction
          | omega
          | ((try simp only [zk_,zl_,zj_] at*);omega)
          | exact ⟨by omega,by omega,by omega,by decide⟩
          | exact ⟨by omega,by omega,by omega⟩
          | exact ⟨rfl,by first | rfl | exact True.intro⟩
          | exact ⟨True.intro,True.intro⟩
          | (exfalso;omega)
       | false=>
         rw [hz0] at hE0 r1 r2
         rw [if_neg (by decide)] at r1 r2 hE0
         obtain ⟨m1,m2⟩:=ve_ hE0 (by decide)
         rw [m1,m2,hE0]
         repeat'(intro t ht;first|(cases t<;>first|(cases ht;done)|(try simp only[zg_]at ht))|((first|refine zb_ ht ?_|refine ht ?_ ?_|refine ht.1 ?_ ?_|refine ht ?_)<;>clear ht))
         all_goals (try simp only [n1,n2,n3,n4,n5,n6,ht,k1,k2,k3,hg,r1,r2] at*)
         all_goals first
          | exact True.intro
          | contradiction
          | omega
          | ((try simp only [zk_,zl_,zj_] at*);omega)
          | exact ⟨by omega,by omega,by omega,by decide⟩
          | exact ⟨by omega,by omega,by omega⟩
          | exact ⟨rfl,by first | rfl | exact True.intro⟩
          | exact ⟨True.intro,True.intro⟩
          | (exfalso;omega)
      ·have hk0:pz (tN b)=0:=by omega
       have hz0:mdZ b=true:=by unfold mdZ;rw [hk0];rfl
       rw [hz0,if_pos rfl] at hE0
       have m1:mdL b=(mlG [] (bd b)).1:=if_pos hE0
       have m2:mdN b=tN b:=by have:mdN b=tN b+pz (tN b):=if_pos hE0;omega
       rw [m1,m2,hE0]
       repeat'(intro t ht;first|(cases t<;>first|(cases ht;done)|(try simp only[zg_]at ht))|((first|refine zb_ ht ?_|refine ht ?_ ?_|refine ht.1 ?_ ?_|refine ht ?_)<;>clear ht))
       all_goals (try simp only [n1,n2,n3,n4,n5,n6,ht,k1,k2,k3,hg] at*)
       all_goals first
        | exact True.intro
        | contradiction
        | omega
        | ((try simp only [zk_,zl_,zj_] at*);omega)
        | exact ⟨by omega,by omega,by omega,by decide⟩
        | exact ⟨by omega,by omega,by omega⟩
        | exact ⟨rfl,by first | rfl | exact True.intro⟩
        | exact ⟨True.intro,True.intro⟩
        | (exfalso;omega)
     ·rw [if_pos hg] at hE0
      obtain ⟨m1,m2⟩:=ve_ hE0 hg
      rw [m1,m2,hE0]
      repeat'(intro t ht;first|(cases t<;>first|(cases ht;done)|(try simp only[zg_]at ht))|((first|refine zb_ ht ?_|refine ht ?_ ?_|refine ht.1 ?_ ?_|refine ht ?_)<;>clear ht))
      all_goals (try simp only [n1,n2,n3,n4,n5,n6,ht,k1,k2,k3] at*)
      all_goals first
       | exact True.intro
       | contradiction
       | omega
       | ((try simp only [zk_,zl_,zj_] at*);omega)
       | exact ⟨by omega,by omega,by omega,by decide⟩
       | exact ⟨by omega,by omega,by omega⟩
       | exact ⟨rfl,by first | rfl | exact True.intro⟩
       | exact ⟨True.intro,True.intro⟩
       | (exfalso;omega)
   ·have hE:mdE b=1025:=by unfold mdE;rw [if_neg h4,if_pos ht]
    obtain ⟨m1,m2⟩:=ve_ hE (by decide)
    rw [m1,m2,hE]
    repeat'(intro t ht;first|(cases t<;>first|(cases ht;done)|(try simp only[zg_]at ht))|((first|refine zb_ ht ?_|refine ht ?_ ?_|refine ht.1 ?_ ?_|refine ht ?_)<;>clear ht))
    all_goals (try simp only [n1,n2,n3,n4,n5,n6] at*)
    all_goals first
     | exact True.intro
     | contradiction
     | omega
     | ((try simp only [zk_,zl_,zj_] at*);omega)
     | exact ⟨by decide,by omega,by omega⟩
     | exact ⟨rfl,by first | rfl | exact True.intro⟩
     | exact ⟨True.intro,True.intro⟩
     | (exfalso;omega)
 ·cases e
def mtL (b:List Int) (p e:Int):List OV:=if e=0 then mdL (b.drop p.toNat) else []
def mtP (b:List Int) (p e:Int):Int:=if e=0 then p+mdN (b.drop p.toNat) else p
def mtE (b:List Int) (p e:Int):Int:=if e=0 then mdE (b.drop p.toNat) else e
theorem zdK_ (b:List Int) (hb:∀ x ∈ b,0<=x/\x<=255):0<=mdN b/\mdN b<=b.length:=by
 have hn2:0<=tN b/\tN b<=65535:=jq_ (a:=2) hb
 have hz:=XO_ hn2.1
 unfold mdN;split
 ·rename_i h
  unfold mdE at h
  split at h
  ·cases h
  ·split at h
   ·cases h
   ·split at h
    ·cases h
    ·omega
 ·omega
def GO_:IR:=
(sq (kr [0] [oD 2 (.mov (.c (.imm Y1 [])))])
(sq (sq (.reg [oM 7 0,
oC 8 23 [7],
oB 9 .neq 8 (cI 0)])
(.cond 9
(sq (.reg [oD 2 (.mov (.c (.imm Y1 [])))])
.ret)
.skip))
(sq (.reg [oM 10 0,
oC 11 164 [10],
oM 3 11])
(sq (kr [0,3] [oM 13 3,
oC 14 165 [13],
oM 12 14,
oX 15 12 0,
oX 16 12 1,
oX 17 12 2,
oM 4 15,
oM 5 16,
oM 6 17])
(sq (kr [0,4,5,6] [oM 18 0,
oM 19 6,
oC 20 63 [18,19]])
(sq (.reg [oM 21 0,
oM 22 5,
oC 23 21 [21,22]])
(sq (.reg [oM 24 4,
oM 2 24])
.ret)))))))
def gT_:List RD:=[.tmp 2 true (some Y1)]
theorem Gl_:zn_ Tryz.prog Tryz.f108 GO_ gT_=true:=by kernel_rfl
def wI_:List AV->List Obj->Option (Prop × AV × List Obj)
 | [.ptr 0 0],[.box [.imm (.int .u8) b,.int .i64 p,.int .i64 sh,.int .i64 od,.int .i64 e,.bool true]]=>some ((0<=p/\p<=b.length/\b.length<=100000000/\sh ≠ 0,.imm Y1 (mtL b p e),[.box [.imm (.int .u8) b,.int .i64 (mtP b p e),.int .i64 sh,.int .i64 od,.int .i64 (mtE b p e),.bool true]]))
 | _,_=>none
theorem uC_:zd_ Tryz.prog 108 (RwF wI_).sum:=by
 refine qw_ Tryz.func108 Gl_ (za_ (s:=RoF zr_) zu_ (za_ (s:=RoF q4_) JK_ (za_ (s:=RoF jb_) YT_ (za_ (s:=RwF zt_) zx_ (za_ (s:=RwF zJ_) zV_ (zc_ _)))))) fun args objs p v o e=>?_
 unfold wI_ at e
 split at e
 ·rename_i b p sh od e
  cases e
  refine ⟨rfl,fun hw ho hp=>?_⟩
  change List Int at b
  have hb:∀ x ∈ (b:List Int),(0:Int)<=x/\x<=255:=fun x hx=>((ho _ (List.mem_cons_self ..)) (.imm (.int .u8) b) (by simp)).1 x hx
  clear hw ho
  obtain ⟨h1,h2,h3,h4⟩:=hp
  have hbd:∀ x ∈ b.drop p.toNat,(0:Int)<=x/\x<=255:=fun x hx=>hb x (List.mem_of_mem_drop hx)
  have hN:=zdK_ _ hbd
  have hl:(b.drop p.toNat).length=b.length - p.toNat:=List.length_drop
  by_cases he:e=0
  ·subst he
   have f0:∀ x,zs_ 0 x=x:=fun x=>if_pos rfl
   have hT:QG_ (mdN (b.drop p.toNat)) b p sh (mdE (b.drop p.toNat))=p+mdN (b.drop p.toNat)/\ZA_ (mdN (b.drop p.toNat)) b p sh (mdE (b.drop p.toNat))=mdE (b.drop p.toNat):=by
    have hE:ZA_ (mdN (b.drop p.toNat)) b p sh (mdE (b.drop p.toNat))=mdE (b.drop p.toNat):=by
     unfold ZA_;rw [if_neg (by omega),if_neg (by omega)]
    refine ⟨?_,hE⟩
    unfold QG_;rw [hE]
    by_cases h0:mdE (b.drop p.toNat)=0
    ·rw [if_pos h0]
    ·rw [if_neg h0,(ve_ rfl h0).2];omega
   repeat'(intro t ht;first|(cases t<;>first|(cases ht;done)|(try simp only[zg_]at ht;try(exfalso;first|contradiction|omega)))|((first|refine zb_ ht ?_|refine ht ?_ ?_|refine ht.1 ?_ ?_|refine ht ?_)<;>clear ht))
   all_goals (try simp only [if_true,f0,hT] at*)
   all_goals first
    | exact True.intro
    | exact ⟨h1,h2,by omega,h4⟩
    | exact ⟨h1,h2,by omega⟩
    | omega
    | (unfold mtL mtP mtE;exact ⟨rfl,by first | rfl | exact True.intro⟩)
    | (exfalso;simp_all;done)
  ·repeat'(intro t ht;first|(cases t<;>first|(cases ht;done)|(try simp only[zg_]at ht;try(exfalso;first|contradiction|omega)))|((first|refine zb_ ht ?_|refine ht ?_ ?_|refine ht.1 ?_ ?_|refine ht ?_)<;>clear ht))
   all_goals first
    | exact True.intro
    | (unfold mtL mtP mtE;rw [if_neg he,if_neg he,if_neg he];exact ⟨rfl,by first | rfl | exact True.intro⟩)
    | (exfalso;simp_all;done)
 ·cases e
theorem zjG_ {b:List Int} (h4:¬ b.length < 4) (ht:tT b=1) (hr:¬ (tN b < 4\/65528 < tN b\/b.length < tN b+pz (tN b))):mdE b=if ¬ (mlG [] (bd b)).2=0 then (mlG [] (bd b)).2 else if mdZ b=true then 0 else 1026:=by
 unfold mdE;rw [if_neg h4,if_neg (not_not_intro ht),if_neg hr]
end Go.Eng
