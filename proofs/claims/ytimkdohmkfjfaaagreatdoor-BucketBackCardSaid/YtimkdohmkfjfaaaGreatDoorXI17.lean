/- Parts of the proof: K7, P1, V1, V2, V3, V6, M4, M5, M6, M7, M8, X1, X2, M9, MA, P2, P3, P4, P5, P6, XG, K8, K9, KA, DF, DA, DC, DD, DG. No condition. -/
import Derived.Test.YtimkdohmkfjfaaaGreatDoorProg
import Derived.Test.YtimkdohmkfjfaaaGreatDoorXI10
import Derived.KernelRfl
import Derived.Test.YtimkdohmkfjfaaaGreatDoorXI16
import Derived.Test.YtimkdohmkfjfaaaGreatDoorXI13
import Derived.Test.YtimkdohmkfjfaaaGreatDoorXI14
import Derived.Lib.BytesEntry
import Derived.Lib.Walk
import Derived.Laws.Externs
import Derived.Lib.Strings
import Derived.Lib.Slices
import Derived.Test.YtimkdohmkfjfaaaGreatDoorXI11
namespace Go.Eng
open Go.Proofs
set_option linter.unusedVariables false
set_option linter.unusedSimpArgs false
set_option maxRecDepth 100000
set_option maxHeartbeats 1000000
theorem zb7_ {b:List Int} {e:Int} (h:(bG b).2.1=e) (h0:¬ e=0):bdL b=[]/\bdE b=e:=by
 have:bdE b=e:=by unfold bdE;rw [h,if_pos h0]
 exact ⟨by unfold bdL;rw [this,if_neg h0],this⟩
theorem zb6_ {b:List Int} {acc:List BK} (h1:(bG b).1=acc) (h:(bG b).2.1=0):(65528 < b.length->bdL b=[]/\bdE b=1549)/\(¬ 65528 < b.length->bdL b=acc/\bdE b=0):=by
 have e:bdE b=if 65528 < b.length then 1549 else 0:=by unfold bdE;rw [h,if_neg (not_not_intro rfl)]
 constructor
 ·intro hl
  rw [if_pos hl] at e
  exact ⟨by unfold bdL;rw [e];rfl,e⟩
 ·intro hl
  rw [if_neg hl] at e
  exact ⟨by unfold bdL;rw [e,if_pos rfl];exact h1,e⟩
def smB (x y:BK):Bool:=decide (x.1=y.1) && decide (x.2.1=y.2.1) && decide (x.2.2.1=y.2.2.1) && decide (x.2.2.2.1=y.2.2.2.1)
theorem zcn_ {x y:BK} (h:smB x y=true):x=y:=by
 obtain ⟨a,b,c,d,_⟩:=x
 obtain ⟨a',b',c',d',_⟩:=y
 unfold smB at h
 simp only [Bool.and_eq_true,decide_eq_true_eq] at h
 obtain ⟨⟨⟨h1,h2⟩,h3⟩,h4⟩:=h
 rw [h1,h2,h3,h4]
theorem zcv_ {x y:BK} (h:¬ (x.1=y.1/\x.2.1=y.2.1/\x.2.2.1=y.2.2.1/\x.2.2.2.1=y.2.2.2.1)):¬ x=y:=fun e=>h (by rw [e];exact ⟨rfl,rfl,rfl,rfl⟩)
theorem zbX_ {x y:BK} (h:x.1=y.1/\x.2.1=y.2.1/\x.2.2.1=y.2.2.1/\x.2.2.2.1=y.2.2.2.1):x=y:=zcn_ (by unfold smB;rw [h.1,h.2.1,h.2.2.1,h.2.2.2];simp)
def gO_:IR:=
(sq (kr [0,1] [oD 4 (.mov cF)])
(sq (sq (kr [0,1] [oM 8 0,
oE 9 8,
oM 10 1,
oE 11 10,
oB 12 .neq 9 11])
(.cond 12
(sq (.reg [oD 4 (.mov cF)])
.ret)
.skip))
(sq (sq (kr [0,1] [oD 5 (.mov (cI 0))])
(.block 0
(.loop
(sq (sq (kr [0,1,5] [oM 13 5,
oM 14 0,
oE 15 14,
oB 16 .lss 13 15])
(.cond 16
.skip
(.exit 0)))
(sq (.block 1
(sq (kd [0,1,5] [(oM 19 0,[]),
(oM 20 5,[0]),
(oI 21 4 19 20,[]),
(oK 22 4 21,[]),
(oM 23 1,[0,0,0,0]),
(oM 24 5,[0,0,0,0,0]),
(oI 25 4 23 24,[2,0,0,0]),
(oK 26 4 25,[3,0,0,0]),
(oD 6 (.box [.int .u64 0,.int .u64 0,.int .u64 0,.imm Y2 []]),[0,0,0,0,0,0,0,0]),
(oD 7 (.box [.int .u64 0,.int .u64 0,.int .u64 0,.imm Y2 []]),[0,0,0,0,0,0,0,0,0]),
(oS 4 6 22,[2,0,0,0]),
(oS 4 7 26,[])])
(sq (kr [0,1,5,6,7] [oA 27 0 6,
oL 28 27,
oA 29 0 7,
oL 30 29,
oB 31 .eql 28 30,
oM 32 31,
oT 32 33 (.fieldAddr 1 6),
oT 32 34 (.load none 33),
oT 32 35 (.fieldAddr 1 7),
oT 32 36 (.load none 35),
oT 32 37 (.bin .eql 34 36),
oP 38 32 37 cF,
oM 39 38,
oT 39 40 (.fieldAddr 2 6),
oT 39 41 (.load none 40),
oT 39 42 (.fieldAddr 2 7),
oT 39 43 (.load none 42),
oT 39 44 (.bin .eql 41 43),
oP 45 39 44 cF,
oM 46 45,
oT 46 47 (.fieldAddr 3 6),
oT 46 48 (.load none 47),
oT 46 49 (.fieldAddr 3 7),
oT 46 50 (.load none 49),
oT 46 51 (.call false (.f 54) [48,50]),
oP 52 46 51 cF,
oD 53 (.un .not 52)])
(.cond 53
(sq (kr [] [oD 4 (.mov cF)])
.ret)
.skip))))
(kr [0,1,5] [oM 17 5,
oB 18 .add 17 (cI 1),
oM 5 18]))))))
(sq (kr [] [oD 4 (.mov cT)])
.ret))))
def U6_:List RD:=[.tmp 4 true none]
theorem go_:zo_ Tryz.prog Tryz.f16 gO_ U6_=true:=by kernel_rfl
def Wg_:List AV->List Obj->Option (Prop × AV)
 | [.imm ty0 a,.imm ty1 b],[]=>Zw_ ty0 Y4 a fun a=>Zw_ ty1 Y4 b fun b=>some ((True,.bool (decide ((a:List BK)=b))))
 | _,_=>none
theorem ua_:ze_ Tryz.prog 16 (RoF Wg_).sum:=by
 refine zk_ Tryz.func16 go_ (za_ (s:=RoF Wh_) ub_ (zf_ _)) fun args objs p v e=>?_
 unfold Wg_ at e
 split at e
 ·rename_i ty0 a ty1 b
  obtain rfl:=zz_ e
  replace e:=zA_ e
  obtain rfl:=zz_ e
  replace e:=zA_ e
  cases e
  refine ⟨rfl,fun hw ho hp=>?_⟩
  change List BK at a
  change List BK at b
  have hl:a.length<=maxLen:=(hw (.imm Y4 a) (by simp)).2
  unfold maxLen at hl
  clear hw ho
  repeat'(intro t ht;first|(cases t<;>first|(cases ht;done)|(try simp only[zh_]at ht))|((first|refine zb_ ht ?_|refine ht ?_ ?_|refine ht.1 ?_ ?_|refine ht ?_)<;>clear ht))
  all_goals first
   | (have hne:a ≠ b:=fun h=>(by assumption:¬ (a.length:Int)=b.length) (by rw [h])
      refine ⟨?_,rfl⟩;rw [decide_eq_false hne];done)
   | (intro r h1 h2;clear h1;refine h2 ⟨[],[0,1,5],Nat,(fun i=>i<=a.length/\a.take i=b.take i),fun i=>[.imm Y4 a,.imm Y4 b,.int .i64 i],fun _=>[],fun i=>a.length - i,⟨0,⟨Nat.zero_le _,rfl⟩,rfl,rfl⟩,?_⟩;clear h2)
  rintro i ⟨hi,he⟩
  have hl2:a.length=b.length:=by omega
  repeat'(intro t ht;first|(cases t<;>first|(cases ht;done)|(try simp only[zh_]at ht;try(exfalso;first|contradiction|omega)))|((first|refine zb_ ht ?_|refine ht ?_ ?_|refine ht.1 ?_ ?_|refine ht ?_)<;>clear ht))
  all_goals (try generalize (Ty.dflt Y4)=od at*)
  all_goals first
   | exact True.intro
   | ((try simp only [zl_,zp_,zm_] at*);omega)
   | (have e:=UL_ he (by omega) hl2
      refine ⟨?_,rfl⟩;rw [decide_eq_true e];done)
   | (have hne:a ≠ b:=br_ (d:=od) (i:=i) (zcv_ fun h=>by simp_all)
      refine ⟨?_,rfl⟩;rw [decide_eq_false hne];done)
   | (have hs:a.getD i od=b.getD i od:=zbX_ (by simp_all)
      exact ⟨i+1,⟨by omega,yG_ he (by omega) hl2 (d:=od) hs⟩,by (try simp only [zl_,zp_,zm_] at*);omega,rfl,rfl⟩)
   | skip
 ·cases e
def fwB (x:BK):Bool:=hr_ x.2.2.2.1
def Vi_ (l:List BK):Bool:=l.all fwB && decide (l.length<=20)
theorem zaL_ {l:List BK} (h:Vi_ l=true):okB l/\l.length<=20:=by
 unfold Vi_ at h
 simp only [Bool.and_eq_true,decide_eq_true_eq] at h
 exact ⟨⟨fun o ho=>(zaK_ (List.all_eq_true.1 h.1 o ho)).1,by omega⟩,h.2⟩
def hj_:IR:=
(sq (kr [0] [oD 2 (.mov cF)])
(sq (sq (.reg [oD 3 (.mov (cI 0))])
(.block 0
(.loop
(sq (sq (kr [0,3] [oM 4 3,
oM 5 0,
oE 6 5,
oB 7 .lss 4 6])
(.cond 7
.skip
(.exit 0)))
(sq (.block 1
(sq (kr [0,3] [oM 10 0,
oM 11 3,
oI 12 4 10 11,
oA 13 3 12,
oL 14 13,
oC 15 46 [14],
oD 16 (.un .not 15)])
(.cond 16
(sq (kr [] [oD 2 (.mov cF)])
.ret)
.skip)))
(kr [0,3] [oM 8 3,
oB 9 .add 8 (cI 1),
oM 3 9]))))))
(sq (kr [0] [oM 17 0,
oE 18 17,
oB 19 .leq 18 (cI 20),
oM 2 19])
.ret)))
def GU_:List RD:=[.tmp 2 true none]
theorem G2_:zo_ Tryz.prog Tryz.f12 hj_ GU_=true:=by kernel_rfl
def Xq_:List AV->List Obj->Option (Prop × AV)
 | [.imm ty0 l],[]=>Zw_ ty0 Y4 l fun l=>some ((True,.bool (Vi_ l)))
 | _,_=>none
theorem UR_:ze_ Tryz.prog 12 (RoF Xq_).sum:=by
 refine zk_ Tryz.func12 G2_ (za_ (s:=RoF Xr_) US_ (zf_ _)) fun args objs p v e=>?_
 unfold Xq_ at e
 split at e
 ·rename_i ty0 l
  obtain rfl:=zz_ e
  replace e:=zA_ e
  cases e
  refine ⟨rfl,fun hw ho hp=>?_⟩
  change List BK at l
  have hl:l.length<=maxLen:=(hw (.imm Y4 l) (by simp)).2
  unfold maxLen at hl
  clear hw ho
  repeat'(intro t ht;first|(cases t<;>first|(cases ht;done)|(try simp only[zh_]at ht))|((first|refine zb_ ht ?_|refine ht ?_ ?_|refine ht.1 ?_ ?_|refine ht ?_)<;>clear ht))
  all_goals first
   | (intro r h1 h2;clear h1;refine h2 ⟨[],[0,3],Nat,(fun i=>i<=l.length/\(l.take i).all fwB=true),fun i=>[.imm Y4 l,.int .i64 i],fun _=>[],fun i=>l.length - i,⟨0,⟨Nat.zero_le _,rfl⟩,rfl,rfl⟩,?_⟩;clear h2)
  rintro i ⟨hi,he⟩
  repeat'(intro t ht;first|(cases t<;>first|(cases ht;done)|(try simp only[zh_]at ht;try(exfalso;first|contradiction|omega)))|((first|refine zb_ ht ?_|refine ht ?_ ?_|refine ht.1 ?_ ?_|refine ht ?_)<;>clear ht))
  all_goals (try generalize (Ty.dflt Y4)=od at*)
  all_goals first
   | exact True.intro
   | ((try simp only [zl_,zp_,zm_] at*);omega)
   | (have h:=vg_ (by omega) he
      refine ⟨?_,rfl⟩;unfold Vi_;rw [h,Bool.true_and];congr 1;exact decide_eq_decide.2 (by omega))
   | (have hf:fwB (l.getD i od)=true:=by assumption
      exact ⟨i+1,⟨by omega,Xk_ (d:=od) (by omega) he hf⟩,by dsimp only;omega,rfl,rfl⟩)
   | (have hf:fwB (l.getD i od)=false:=by assumption
      have h:Vi_ l=false:=by unfold Vi_;rw [vf_ (d:=od) (show i < l.length by omega) hf,Bool.false_and]
      refine ⟨?_,rfl⟩;rw [h];done)
   | skip
 ·cases e
abbrev P8:=Int × Int × Int × Int × Int × Int × Int × Int × Unit
abbrev PV:=Int × Int × List Int × P8 × Unit
instance:DecidableEq (Int × Int × Int × Int × Unit):=inferInstance
instance:DecidableEq P8:=inferInstance
instance:DecidableEq PV:=inferInstance
abbrev VIn:=Int × Int × Int × List AC × List Int × Unit
instance:DecidableEq (List Int × Unit):=inferInstance
instance:DecidableEq (List AC × List Int × Unit):=inferInstance
instance:DecidableEq (Int × List AC × List Int × Unit):=inferInstance
instance:DecidableEq (Int × Int × List AC × List Int × Unit):=inferInstance
instance:DecidableEq VIn:=inferInstance
abbrev VBd:=Int × Int × Int × Int × List Int × Unit
instance:DecidableEq (List Int × Unit):=inferInstance
instance:DecidableEq (Int × List Int × Unit):=inferInstance
instance:DecidableEq (Int × Int × List Int × Unit):=inferInstance
instance:DecidableEq (Int × Int × Int × List Int × Unit):=inferInstance
instance:DecidableEq VBd:=inferInstance
abbrev VPr:=Int × Int × List Int × Unit
instance:DecidableEq (List Int × Unit):=inferInstance
instance:DecidableEq (Int × List Int × Unit):=inferInstance
instance:DecidableEq VPr:=inferInstance
abbrev VQu:=Int × Int × List VPr × Unit
instance:DecidableEq (List VPr × Unit):=inferInstance
instance:DecidableEq (Int × List VPr × Unit):=inferInstance
instance:DecidableEq VQu:=inferInstance
abbrev VFe:=Int × List Int × List Int × Unit
instance:DecidableEq (List Int × Unit):=inferInstance
instance:DecidableEq (List Int × List Int × Unit):=inferInstance
instance:DecidableEq VFe:=inferInstance
abbrev VTb:=Int × List Int × Int × Int × Int × Int × List VFe × Unit
instance:DecidableEq (List VFe × Unit):=inferInstance
instance:DecidableEq (Int × List VFe × Unit):=inferInstance
instance:DecidableEq (Int × Int × List VFe × Unit):=inferInstance
instance:DecidableEq (Int × Int × Int × List VFe × Unit):=inferInstance
instance:DecidableEq (Int × Int × Int × Int × List VFe × Unit):=inferInstance
instance:DecidableEq (List Int × Int × Int × Int × Int × List VFe × Unit):=inferInstance
instance:DecidableEq VTb:=inferInstance
abbrev VEl:=Int × List Int × Unit
instance:DecidableEq (List Int × Unit):=inferInstance
instance:DecidableEq VEl:=inferInstance
abbrev VPa:=List Int × List (List Int) × List OV × List VIn × List BK × List VBd × List (List Int) × List PV × List VTb × List Int × Unit
instance:DecidableEq (List Int × Unit):=inferInstance
instance:DecidableEq (List VTb × List Int × Unit):=inferInstance
instance:DecidableEq (List PV × List VTb × List Int × Unit):=inferInstance
instance:DecidableEq (List (List Int) × List PV × List VTb × List Int × Unit):=inferInstance
instance:DecidableEq (List VBd × List (List Int) × List PV × List VTb × List Int × Unit):=inferInstance
instance:DecidableEq (List BK × List VBd × List (List Int) × List PV × List VTb × List Int × Unit):=inferInstance
instance:DecidableEq (List VIn × List BK × List VBd × List (List Int) × List PV × List VTb × List Int × Unit):=inferInstance
instance:DecidableEq (List OV × List VIn × List BK × List VBd × List (List Int) × List PV × List VTb × List Int × Unit):=inferInstance
instance:DecidableEq (List (List Int) × List OV × List VIn × List BK × List VBd × List (List Int) × List PV × List VTb × List Int × Unit):=inferInstance
instance:DecidableEq VPa:=inferInstance
abbrev VMs:=Int × Int × List Int × List Int × List VEl × List OV × List AC × List VIn × List BK × List VBd × List VQu × List PV × Int × Int × List VPa × Unit
instance:DecidableEq (List VPa × Unit):=inferInstance
instance:DecidableEq (Int × List VPa × Unit):=inferInstance
instance:DecidableEq (Int × Int × List VPa × Unit):=inferInstance
instance:DecidableEq (List PV × Int × Int × List VPa × Unit):=inferInstance
instance:DecidableEq (List VQu × List PV × Int × Int × List VPa × Unit):=inferInstance
instance:DecidableEq (List VBd × List VQu × List PV × Int × Int × List VPa × Unit):=inferInstance
instance:DecidableEq (List BK × List VBd × List VQu × List PV × Int × Int × List VPa × Unit):=inferInstance
instance:DecidableEq (List VIn × List BK × List VBd × List VQu × List PV × Int × Int × List VPa × Unit):=inferInstance
instance:DecidableEq (List AC × List VIn × List BK × List VBd × List VQu × List PV × Int × Int × List VPa × Unit):=inferInstance
instance:DecidableEq (List OV × List AC × List VIn × List BK × List VBd × List VQu × List PV × Int × Int × List VPa × Unit):=inferInstance
instance:DecidableEq (List VEl × List OV × List AC × List VIn × List BK × List VBd × List VQu × List PV × Int × Int × List VPa × Unit):=inferInstance
instance:DecidableEq (List Int × List VEl × List OV × List AC × List VIn × List BK × List VBd × List VQu × List PV × Int × Int × List VPa × Unit):=inferInstance
instance:DecidableEq (List Int × List Int × List VEl × List OV × List AC × List VIn × List BK × List VBd × List VQu × List PV × Int × Int × List VPa × Unit):=inferInstance
instance:DecidableEq (Int × List Int × List Int × List VEl × List OV × List AC × List VIn × List BK × List VBd × List VQu × List PV × Int × Int × List VPa × Unit):=inferInstance
instance:DecidableEq VMs:=inferInstance
def x0_:IR:=
(sq (kr [0,1] [oD 2 (.boxv 0),
oD 3 (.boxv 1),
oD 4 (.mov cF)])
(sq (kr [2,3] [oA 5 0 2,
oL 6 5,
oA 7 0 3,
oL 8 7,
oB 9 .eql 6 8,
oM 10 9,
oT 10 11 (.fieldAddr 1 2),
oT 10 12 (.load none 11),
oT 10 13 (.fieldAddr 1 3),
oT 10 14 (.load none 13),
oT 10 15 (.bin .eql 12 14),
oP 16 10 15 cF,
oM 17 16,
oT 17 18 (.fieldAddr 2 2),
oT 17 19 (.load none 18),
oT 17 20 (.fieldAddr 2 3),
oT 17 21 (.load none 20),
oT 17 22 (.bin .eql 19 21),
oP 23 17 22 cF,
oM 24 23,
oT 24 25 (.fieldAddr 3 2),
oT 24 26 (.load none 25),
oT 24 27 (.fieldAddr 3 3),
oT 24 28 (.load none 27),
oT 24 29 (.call false (.f 59) [26,28]),
oP 30 24 29 cF,
oM 4 30])
.ret))
def xD_:List RD:=[.tmp 4 true none]
theorem xN_:zo_ Tryz.prog Tryz.f58 x0_ xD_=true:=by kernel_rfl
def q3_:List AV->List Obj->Option (Prop × AV)
 | [.agg [.int .u64 a0,.int .u64 a1,.int .u64 a2,.imm ty0 a3],.agg [.int .u64 b0,.int .u64 b1,.int .u64 b2,.imm ty1 b3]],[]=>Zw_ ty0 Y2 a3 fun a3=>Zw_ ty1 Y2 b3 fun b3=>some ((True,.bool (decide (((a0,a1,a2,a3,()):BK)=(b0,b1,b2,b3,())))))
 | _,_=>none
theorem k2_:ze_ Tryz.prog 58 (RoF q3_).sum:=by
 refine zk_ Tryz.func58 xN_ (za_ (s:=RoF J7_) vu_ (zf_ _)) fun args objs p v e=>?_
 unfold q3_ at e
 split at e
 ·rename_i a0 a1 a2 ty0 a3 b0 b1 b2 ty1 b3
  obtain rfl:=zz_ e
  replace e:=zA_ e
  obtain rfl:=zz_ e
  replace e:=zA_ e
  cases e
  refine ⟨rfl,fun hw ho hp=>?_⟩
  clear hw ho
  repeat'(intro t ht;first|(cases t<;>first|(cases ht;done)|(try simp only[zh_]at ht;try(exfalso;first|contradiction|omega)))|((first|refine zb_ ht ?_|refine ht ?_ ?_|refine ht.1 ?_ ?_|refine ht ?_)<;>clear ht))
  all_goals first
   | exact True.intro
   | (refine ⟨congrArg AV.bool ?_,rfl⟩;rw [Bool.eq_iff_iff];simp only [Bool.and_eq_true,decide_eq_true_eq,beq_iff_eq,Prod.mk.injEq,and_true,and_assoc];done)
   | (refine ⟨congrArg AV.bool ?_,rfl⟩;simp_all [Bool.and_assoc];done)
   | (refine ⟨congrArg AV.bool ?_,rfl⟩;rw [Bool.eq_iff_iff];simp_all [and_assoc];done)
   | skip
 ·cases e
def Zg_:IR:=
(sq (kr [0,1,2] [oD 6 (.mov cF)])
(sq (sq (kr [0,1,2] [oM 10 0,
oE 11 10,
oM 12 1,
oE 13 12,
oB 14 .neq 11 13])
(.cond 14
(sq (.reg [oD 6 (.mov cF)])
.ret)
.skip))
(sq (sq (kr [0,1,2] [oM 15 0,
oE 16 15,
oD 17 (.mov (cI 0))])
(.block 0
(.loop
(sq (kr [1,2,15,16,17] [oB 18 .lss 17 16])
(sq (.cond 18
.skip
(.exit 0))
(sq (.block 1
(sq (kr [1,2,15,16,17] [oM 19 17,
oI 20 4 15 17,
oK 21 4 20,
oD 8 (.box [.int .u64 0,.int .u64 0,.int .u64 0,.imm Y2 []]),
oM 7 19,
oS 4 8 21])
(sq (kr [1,2,7,8,15,16,17] [oM 22 1,
oM 23 7,
oI 24 4 22 23,
oK 25 4 24,
oD 9 (.box [.int .u64 0,.int .u64 0,.int .u64 0,.imm Y2 []]),
oS 4 9 25])
(sq (kr [1,2,8,9,15,16,17] [oM 26 2,
oK 27 4 8,
oK 28 4 9,
oD 29 (.call false 26 [27,28]),
oD 30 (.un .not 29)])
(.cond 30
(sq (.reg [oD 6 (.mov cF)])
.ret)
.skip)))))
(kr [1,2,15,16,17] [oB 31 .add 17 (cI 1),
oM 17 31])))))))
(sq (kr [] [oD 6 (.mov cT)])
.ret))))
def Ze_:List RD:=[.tmp 6 true none]
theorem Zf_:zo_ Tryz.prog Tryz.f57 Zg_ Ze_=true:=by kernel_rfl
def zn_:List AV->List Obj->Option (Prop × AV)
 | [.imm ty0 a,.imm ty1 b,.fn 58 [] []],[]=>Zw_ ty0 Y4 a fun a=>Zw_ ty1 Y4 b fun b=>some ((True,.bool (decide ((a:List BK)=b))))
 | _,_=>none
theorem Za_:ze_ Tryz.prog 57 (RoF zn_).sum:=by
 refine zk_ Tryz.func57 Zf_ (za_ (s:=RoF q3_) k2_ (zf_ _)) fun args objs p v e=>?_
 unfold zn_ at e
 split at e
 ·rename_i ty0 a ty1 b
  obtain rfl:=zz_ e
  replace e:=zA_ e
  obtain rfl:=zz_ e
  replace e:=zA_ e
  cases e
  refine ⟨rfl,fun hw ho hp=>?_⟩
  change List BK at a
  change List BK at b
  have hl:a.length<=maxLen:=(hw (.imm Y4 a) (by simp)).2
  unfold maxLen at hl
  clear hw ho
  repeat'(intro t ht;first|(cases t<;>first|(cases ht;done)|(try simp only[zh_]at ht))|((first|refine zb_ ht ?_|refine ht ?_ ?_|refine ht.1 ?_ ?_|refine ht ?_)<;>clear ht))
  all_goals first
   | (have hne:a ≠ b:=fun h=>(by assumption:¬ (a.length:Int)=b.length) (by rw [h])
      refine ⟨?_,rfl⟩;rw [decide_eq_false hne];done)
   | (intro r h1 h2;clear h1;refine h2 ⟨[],[1,2,15,16,17],Nat,(fun i=>i<=a.length/\a.take i=b.take i),fun i=>[.imm Y4 b,.fn 58 [] [],.imm Y4 a,.int .i64 a.length,.int .i64 i],fun _=>[],fun i=>a.length - i,⟨0,⟨Nat.zero_le _,rfl⟩,rfl,rfl⟩,?_⟩;clear h2)
  rintro i ⟨hi,he⟩
  have hl2:a.length=b.length:=by omega
  repeat'(intro t ht;first|(cases t<;>first|(cases ht;done)|(try simp only[zh_]at ht;try(exfalso;first|contradiction|omega)))|((first|refine zb_ ht ?_|refine ht ?_ ?_|refine ht.1 ?_ ?_|refine ht ?_)<;>clear ht))
  all_goals (try generalize (Ty.dflt Y4)=od at*)
  all_goals first
   | exact True.intro
   | ((try simp only [zl_,zp_,zm_] at*);omega)
   | (have e:=UL_ he (by omega) hl2
      refine ⟨?_,rfl⟩;rw [decide_eq_true e];done)
   | (have hne:a ≠ b:=br_ (d:=od) (i:=i) (by assumption)
      refine ⟨?_,rfl⟩;rw [decide_eq_false hne];done)
   | exact ⟨i+1,⟨by omega,yG_ he (by omega) hl2 (d:=od) (by assumption)⟩,by (try simp only [zl_,zp_,zm_] at*);omega,rfl,rfl⟩
   | skip
 ·cases e
def YL_:IR:=
(sq (kr [0,1] [oD 4 (.mov cF)])
(sq (.reg [oM 5 0,
oM 6 1,
oC 7 57 [5,6,.f 58],
oM 4 7])
.ret))
def y7_:List RD:=[.tmp 4 true none]
theorem Yq_:zo_ Tryz.prog Tryz.f18 YL_ y7_=true:=by kernel_rfl
def Ko_:List AV->List Obj->Option (Prop × AV)
 | [.imm ty0 a,.imm ty1 b],[]=>Zw_ ty0 Y4 a fun a=>Zw_ ty1 Y4 b fun b=>some ((True,.bool (decide ((a:List BK)=b))))
 | _,_=>none
theorem X4_:ze_ Tryz.prog 18 (RoF Ko_).sum:=by
 refine zk_ Tryz.func18 Yq_ (za_ (s:=RoF zn_) Za_ (za_ (s:=RoF q3_) k2_ (zf_ _))) fun args objs p v e=>?_
 unfold Ko_ at e
 split at e
 ·rename_i ty0 a ty1 b
  obtain rfl:=zz_ e
  replace e:=zA_ e
  obtain rfl:=zz_ e
  replace e:=zA_ e
  cases e
  refine ⟨rfl,fun hw ho hp=>?_⟩
  clear hw ho
  repeat'(intro t ht;first|(cases t<;>first|(cases ht;done)|(try simp only[zh_]at ht;try(exfalso;first|contradiction|omega)))|((first|refine zb_ ht ?_|refine ht ?_ ?_|refine ht.1 ?_ ?_|refine ht ?_)<;>clear ht))
  all_goals first
   | exact True.intro
   | exact ⟨rfl,rfl⟩
   | exact rfl
 ·cases e
structure WrOk (room:Int) (f:List Int->Int->List Int × Int) (v:Option (List Int)):Prop where
 ok:∀ y,v=some y->∀ l:List Int,(l.length:Int)+y.length<=room->f l 0=(l++y,0)
 full:∀ y,v=some y->∀ l:List Int,(l.length:Int)<=room->¬ (l.length:Int)+y.length<=room->(f l 0).2 ≠ 0
 bad:v=none->∀ l:List Int,(f l 0).2 ≠ 0
 ne:∀ (l:List Int) (e:Int),e ≠ 0->(f l e).2 ≠ 0
def Wt_ (a b:Option (List Int)):Option (List Int):=match a,b with | some x,some y=>some (x++y) | _,_=>none
theorem WrOk.seq {room:Int} {f g:List Int->Int->List Int × Int} {v w:Option (List Int)} (hf:WrOk room f v) (hg:WrOk room g w):WrOk room (fun l e=>g (f l e).1 (f l e).2) (Wt_ v w):=by
 cases v with
 | none=>exact ⟨fun y h=>(by cases h),fun y h=>(by cases h),fun _ l=>hg.ne _ _ (hf.bad rfl l),fun l e h=>hg.ne _ _ (hf.ne l e h)⟩
 | some x=>
   cases w with
   | none=>
     refine ⟨fun y h=>(by cases h),fun y h=>(by cases h),fun _ l=>?_,fun l e h=>hg.ne _ _ (hf.ne l e h)⟩
     show (g (f l 0).1 (f l 0).2).2 ≠ 0
     by_cases h0:(f l 0).2=0
     ·rw [h0];exact hg.bad rfl _
     ·exact hg.ne _ _ h0
   | some z=>
     refine ⟨fun y h l hl=>?_,fun y h l h0 hl=>?_,fun h=>(by cases h),fun l e h=>hg.ne _ _ (hf.ne l e h)⟩
     ·cases h
      rw [List.length_append] at hl
      show g (f l 0).1 (f l 0).2=_
      rw [hf.ok x rfl l (by omega)]
      show g (l++x) 0=_
      rw [hg.ok z rfl _ (by rw [List.length_append];omega),List.append_assoc]
     ·cases h
      rw [List.length_append] at hl
      show (g (f l 0).1 (f l 0).2).2 ≠ 0
      by_cases c:(l.length:Int)+x.length<=room
      ·rw [hf.ok x rfl l c]
       exact hg.full z rfl _ (by rw [List.length_append];omega) (by rw [List.length_append];omega)
      ·exact hg.ne _ _ (hf.full x rfl l h0 c)
theorem WrOk.fin {room:Int} {f:List Int->Int->List Int × Int} {v:Option (List Int)} (h:WrOk room f v) (h0:0<=room):(∀ y,v=some y->(y.length:Int)<=room->f [] 0=(y,0))/\((∀ y,v=some y->room < (y.length:Int))->(f [] 0).2 ≠ 0):=by
 refine ⟨fun y e hl=>h.ok y e [] (by simpa using hl),fun hy=>?_⟩
 cases v with
 | none=>exact h.bad rfl []
 | some y=>have:=hy y rfl;exact h.full y rfl [] (by simpa using h0) (by simp;omega)
theorem xu_ {a b:Option (List Int)} {y:List Int} (h:Wt_ a b=some y):∃ p q,a=some p/\b=some q/\y=p++q:=by
 cases a with
 | none=>cases h
 | some p=>cases b with
   | none=>cases h
   | some q=>cases h;exact ⟨p,q,rfl,rfl,rfl⟩
theorem B9_ {a b:List Int}:Wt_ (some a) (some b)=some (a++b):=rfl
abbrev mT (m:VMs):=m.1
def n8 (q:P8):List Int:=[q.1,q.2.1,q.2.2.1,q.2.2.2.1,q.2.2.2.2.1,q.2.2.2.2.2.1,q.2.2.2.2.2.2.1,q.2.2.2.2.2.2.2.1]
theorem zan_ {a:AC} (h:rgA a=true):Bd_ a:=by
 by_cases h25:a.1=25
 ·obtain ⟨_,_,hd,_,_,_,hR⟩:=we_ h25 h
  have hn:=qy_ hR
  unfold Bd_;rw [hd]
  refine ⟨?_,?_,by decide⟩<;>omega
 ·obtain ⟨k1,k2,k3,k4,k5,k6,k7⟩:=kO_ h25 h
  obtain ⟨_,_,_,_,e5,e6⟩:=Vt_ k2
  unfold Bd_;rw [e5,e6]
  refine ⟨by decide,by decide,?_⟩
  rcases k7 with ⟨_,_,k⟩ | ⟨_,k⟩
  ·omega
  ·rw [k];decide
theorem zby_ {l:List AC} (h:rgL l=true):okL l:=by
 obtain ⟨h1,h2,_⟩:=QA_ h
 exact ⟨fun o ho=>zan_ (List.all_eq_true.1 h1 o ho),by omega⟩
theorem BS_ (l:List BK):(bkE l=0/\(bkL l).length<=65528)\/(bkE l=10001/\bkL l=[]):=by
 cases hb:bbA l [] with
 | none=>obtain ⟨h1,h2⟩:=Uq_ hb;exact .inr ⟨h2,h1⟩
 | some r=>
   obtain ⟨h1,h2⟩:=wq_ hb
   by_cases hr:r.length<=65528
   ·obtain ⟨g1,g2⟩:=h1 hr;exact .inl ⟨g2,by rw [g1];exact hr⟩
   ·obtain ⟨g1,g2⟩:=h2 hr;exact .inr ⟨g2,g1⟩
def S16:List Int:=[0,16,0,1,0,0,0,0,0,0,0,0,0,0,0,0]
def xj_:BK:=(1,0,0,[],())
theorem ad0:adL []=[]/\adE []=0:=(Xm_ (ws_ rfl)).2 (by decide)
theorem s16k:btK S16=true/\btN S16=16/\btA S16=[]/\zM_ ((S16.drop 2).take 2)=1/\zM_ ((S16.drop 4).take 4)=0/\zM_ ((S16.drop 8).take 4)=0/\btK (S16.take 15)=false/\rgL []=true/\Qd_ w5 (bkN xj_)=true/\ZD_ w5 (bkN xj_)=S16/\chR [xj_] 5=0/\chR [] 5=-1:=by decide+kernel
theorem s16d:bdE S16=0/\bdL S16=[xj_]/\bdE (S16.take 15)=1549/\bkL [xj_]=S16/\bkE [xj_]=0/\chR [xj_] 5=0/\chR [] 5=-1/\okB [xj_]:=by
 obtain ⟨k1,k2,k3,k4,k5,k6,k7,k8,k9,ka,kb,kc⟩:=s16k
 have e1:btE S16=0:=by unfold btE;rw [if_pos k1,k3];exact ad0.2
 have e2:btV S16=xj_:=by unfold btV;rw [if_pos k1,k3,k4,k5,k6,ad0.1];rfl
 have hl:¬ S16.length=0:=by decide
 have hb:=Hp_ hl e1
 rw [k2,e2] at hb
 have hn:bG (S16.drop (Int.toNat 16))=([],0,0):=Ur_ rfl
 rw [hn] at hb
 obtain ⟨g1,g2⟩:=(zb6_ (b:=S16) (acc:=[xj_]) (by rw [hb]) (by rw [hb])).2 (by decide)
 have e3:btE (S16.take 15)=1549:=if_neg (by rw [k7];decide)
 have hb2:=Us_ (y:=S16.take 15) (by decide) (by rw [e3];decide)
 rw [e3] at hb2
 obtain ⟨_,g4⟩:=zb7_ (b:=S16.take 15) (e:=1549) (by rw [hb2]) (by decide)
 have hbf:bbF xj_=some S16:=by
  unfold bbF
  have h1:rgL xj_.2.2.2.1=true:=k8
  rw [if_pos ⟨h1,k9⟩,ka];rfl
 have hba:bbA [xj_] []=some S16:=by
  show (match bbF xj_ with | some y=>bbA [] ([]++y) | none=>none)=_
  rw [hbf];rfl
 obtain ⟨g5,g6⟩:=(wq_ hba).1 (by decide)
 exact ⟨g2,g1,g4,g5,g6,kb,kc,⟨fun o ho=>by rw [List.mem_singleton.1 ho];exact ⟨fun a ha=>(by cases ha),by decide⟩,by decide⟩⟩
def pre (l:List BK) (i:Nat):Int:=((l.take i).map (·.1)).sum
structure smW (l:List BK):Prop where
 w:∀ o ∈ l,0<=o.1/\o.1<=11
 n:l.length<=12
def gX_:IR:=
(sq (kr [] [oD 0 (.mov cF)])
(sq (.reg [oD 8 (.sliceAll (.int .u8) 16 [(0,1,(.c (.int .u8 0))),(1,1,(.c (.int .u8 16))),(2,1,(.c (.int .u8 0))),(3,1,(.c (.int .u8 1))),(4,1,(.c (.int .u8 0))),(5,1,(.c (.int .u8 0))),(6,1,(.c (.int .u8 0))),(7,1,(.c (.int .u8 0))),(8,1,(.c (.int .u8 0))),(9,1,(.c (.int .u8 0))),(10,1,(.c (.int .u8 0))),(11,1,(.c (.int .u8 0))),(12,1,(.c (.int .u8 0))),(13,1,(.c (.int .u8 0))),(14,1,(.c (.int .u8 0))),(15,1,(.c (.int .u8 0)))]),
oM 1 8])
(sq (kr [1] [oM 10 1,
oC 11 15 [10],
oM 9 11,
oX 12 9 0,
oX 13 9 1,
oM 2 12,
oM 3 13])
(sq (kr [1,2,3] [oM 15 1,
oD 16 (.slice 1 15 none (some (cI 15)) none),
oC 17 15 [16],
oM 14 17,
oX 18 14 0,
oX 19 14 1,
oM 4 18,
oM 5 19])
(sq (kr [1,2,3,5] [oM 21 2,
oC 22 14 [21],
oM 20 22,
oX 23 20 0,
oX 24 20 1,
oM 6 23,
oM 7 24])
(sq (kr [1,2,3,5,6,7] [oM 25 3,
oB 26 .eql 25 (cI 0),
oM 27 26,
oT 27 28 (.mov 2),
oT 27 29 (.len 28),
oT 27 30 (.bin .eql 29 (cI 1)),
oP 31 27 30 cF,
oM 32 31,
oT 32 33 (.mov 2),
oT 32 34 (.indexSl 4 33 (cI 0)),
oT 32 35 (.fieldAddr 0 34),
oT 32 36 (.load none 35),
oT 32 37 (.bin .eql 36 (.c (.int .u64 1))),
oP 38 32 37 cF,
oM 39 38,
oT 39 40 (.mov 5),
oT 39 41 (.bin .eql 40 (cI 1549)),
oP 42 39 41 cF,
oM 43 42,
oT 43 44 (.mov 7),
oT 43 45 (.bin .eql 44 (cI 0)),
oP 46 43 45 cF,
oM 47 46,
oT 47 48 (.mov 6),
oT 47 49 (.mov 1),
oT 47 50 (.call false (.f 20) [48,49]),
oP 51 47 50 cF,
oM 52 51,
oT 52 53 (.mov 2),
oT 52 54 (.call false (.f 47) [53,(.c (.int .u64 5))]),
oT 52 55 (.bin .eql 54 (cI 0)),
oP 56 52 55 cF,
oM 57 56,
oT 57 58 (.call false (.f 47) [(.c (.imm Y4 [])),(.c (.int .u64 5))]),
oT 57 59 (.bin .eql 58 (cI (-1))),
oP 60 57 59 cF,
oM 0 60])
.ret))))))
def gf_:List RD:=[.tmp 0 true none]
theorem gx_:zo_ Tryz.prog Tryz.f13 gX_ gf_=true:=by kernel_rfl
def Wm_:List AV->List Obj->Option (Prop × AV)
 | [],[]=>some ((True,.bool true))
 | _,_=>none
theorem ug_:ze_ Tryz.prog 13 (RoF Wm_).sum:=by
 refine zk_ Tryz.func13 gx_ (za_ (s:=RoF q4_) k3_ (za_ (s:=RoF qe_) Qe_ (za_ (s:=RoF Qa_) QT_ (za_ (s:=RoF kk_) WB_ (zf_ _))))) fun args objs p v e=>?_
 unfold Wm_ at e
 split at e
 ·cases e
  refine ⟨rfl,fun hw ho hp=>?_⟩
  clear hw ho
  obtain ⟨e1,e2,e3,e4,e5,e6,e7,e8⟩:=s16d
  unfold S16 at e1 e2 e3 e4
  repeat'(intro t ht;first|(cases t<;>first|(cases ht;done)|(try simp only[zh_]at ht))|((first|refine zb_ ht ?_|refine ht ?_ ?_|refine ht.1 ?_ ?_|refine ht ?_)<;>clear ht))
  all_goals (try simp only [e1,e2,e3,e4,e5,e6,e7,show Int.toNat 15=15 from rfl] at*)
  all_goals first
   | exact True.intro
   | exact e8
   | exact (by decide)
   | contradiction
   | exact ⟨rfl,by first | rfl | exact True.intro⟩
   | skip
 ·cases e
def Uu_ {α:Type} (o:α->Option (List Int)):List α->Option (List Int)
 | []=>some []
 | x :: r=>Wt_ (o x) (Uu_ o r)
theorem Ws_ (v:Option (List Int)):Wt_ (some []) v=v:=by cases v<;>rfl
theorem GD_ (a b c:Option (List Int)):Wt_ (Wt_ a b) c=Wt_ a (Wt_ b c):=by
 cases a<;>cases b<;>cases c<;>simp [Wt_]
def gG {α:Type} (E N P:List Int->Int) (V:List Int->α) (y:List Int):List α × Int × Int:=
 if y.length=0 then ([],0,0) else if E y=0 then (V y :: (gG E N P V (y.drop (max 1 (N y).toNat))).1,(gG E N P V (y.drop (max 1 (N y).toNat))).2.1,N y+(gG E N P V (y.drop (max 1 (N y).toNat))).2.2) else ([],E y,P y)
termination_by y.length
decreasing_by all_goals (rw [List.length_drop];omega)
section
variable {α:Type} {E N P:List Int->Int} {V:List Int->α}
theorem YW_ {y:List Int} (h:y.length=0):gG E N P V y=([],0,0):=by rw [gG,if_pos h]
theorem Bv_ {y:List Int} (h:¬ y.length=0) (h1:E y=0) (h2:1<=N y):gG E N P V y=(V y :: (gG E N P V (y.drop (N y).toNat)).1,(gG E N P V (y.drop (N y).toNat)).2.1,N y+(gG E N P V (y.drop (N y).toNat)).2.2):=by
 rw [gG,if_neg h,if_pos h1,show max 1 (N y).toNat=(N y).toNat by omega]
theorem Bw_ {y:List Int} (h:¬ y.length=0) (h1:¬ E y=0):gG E N P V y=([],E y,P y):=by rw [gG,if_neg h,if_neg h1]
end
theorem bB_ {α:Type} {W:α->Prop} {o:α->Option (List Int)} {E N P:List Int->Int} {V:List Int->α} (h:∀ x y rest,W x->o x=some y->¬ y.length=0/\E (y++rest)=0/\V (y++rest)=x/\N (y++rest)=(y.length:Int)):∀ (l:List α) (y:List Int),(∀ x ∈ l,W x)->Uu_ o l=some y->gG E N P V y=(l,0,(y.length:Int))
 | [],y,_,hy=>by cases hy;exact YW_ rfl
 | x :: r,y,hw,hy=>by
   obtain ⟨p,q,h1,h2,h3⟩:=xu_ hy
   obtain ⟨a1,a2,a3,a4⟩:=h x p q (hw x (List.mem_cons_self ..)) h1
   subst h3
   have ih:=bB_ (P:=P) h r q (fun z hz=>hw z (List.mem_cons_of_mem _ hz)) h2
   rw [Bv_ (by rw [List.length_append];omega) a2 (by omega),a3,a4,Int.toNat_natCast,List.drop_left,ih]
   refine Prod.ext rfl (Prod.ext rfl ?_)
   show (p.length:Int)+(q.length:Int)=((p++q).length:Nat)
   rw [List.length_append];omega
theorem bC_ {α:Type} {o:α->Option (List Int)} {E N P:List Int->Int} {V:List Int->α} (h:∀ y:List Int,(∀ x ∈ y,0<=x/\x<=255)->¬ y.length=0->E y=0->1<=N y/\N y<=y.length/\o (V y)=some (y.take (N y).toNat)):∀ (n:Nat) (y:List Int),y.length<=n->(∀ x ∈ y,0<=x/\x<=255)->(gG E N P V y).2.1=0->Uu_ o (gG E N P V y).1=some y
 | 0,y,hn,_,_=>by
   have e:y=[]:=List.eq_nil_of_length_eq_zero (by omega)
   subst e;rw [YW_ rfl];rfl
 | n+1,y,hn,hb,h0=>by
   by_cases hz:y.length=0
   ·have e:y=[]:=List.eq_nil_of_length_eq_zero hz
    subst e;rw [YW_ rfl];rfl
   ·by_cases he:E y=0
    ·obtain ⟨h1,h2,h3⟩:=h y hb hz he
     rw [Bv_ hz he h1] at h0 ⊢
     have ih:=bC_ (P:=P) h n (y.drop (N y).toNat) (by rw [List.length_drop];omega) (fun x hx=>hb x (List.mem_of_mem_drop hx)) h0
     show Wt_ (o (V y)) (Uu_ o _)=_
     rw [h3,ih,B9_,List.take_append_drop]
    ·rw [Bw_ hz he] at h0;exact absurd h0 he
theorem BW_:∀ (n:Nat) (y:List Int),y.length<=n->bG y=gG btE btN btP btV y
 | 0,y,hn=>by rw [Ur_ (by omega),YW_ (by omega)]
 | n+1,y,hn=>by
   by_cases hz:y.length=0
   ·rw [Ur_ hz,YW_ hz]
   ·by_cases h1:btE y=0
    ·have hk:=QG_ (VS_ h1)
     rw [Hp_ hz h1,Bv_ hz h1 (by omega),BW_ n (y.drop (btN y).toNat) (by rw [List.length_drop];omega)]
    ·rw [Us_ hz h1,Bw_ hz h1]
theorem xd_:∀ (l:List BK) (o:List Int),bbA l o=Wt_ (some o) (Uu_ bbF l)
 | [],o=>by show some o=some (o++[]);rw [List.append_nil]
 | x :: r,o=>by
   show (match bbF x with | some y=>bbA r (o++y) | none=>none)=Wt_ (some o) (Wt_ (bbF x) (Uu_ bbF r))
   cases bbF x with
   | none=>rfl
   | some y=>
     show bbA r (o++y)=_
     rw [xd_ r (o++y),<- GD_];rfl
structure wfBk (x:BK):Prop where
 n:(0<=x.1/\x.1<=18446744073709551615)/\(0<=x.2.1/\x.2.1<=18446744073709551615)/\(0<=x.2.2.1/\x.2.2.1<=18446744073709551615)
 a:∀ a ∈ x.2.2.2.1,bysU a
theorem zaY_ (x:BK) (y rest:List Int) (hw:wfBk x) (h:bbF x=some y):¬ y.length=0/\btE (y++rest)=0/\btV (y++rest)=x/\btN (y++rest)=(y.length:Int):=by
 have hr:rgL x.2.2.2.1=true:=by
  unfold bbF at h;split at h
  ·rename_i c;exact c.1
  ·cases h
 obtain ⟨a1,a2,a3,a4⟩:=zb2_ (r:=rest) h hw.n (zca_ hr hw.a)
 exact ⟨by omega,a1,a2,a3⟩
theorem zb3_ (y:List Int) (hb:∀ x ∈ y,0<=x/\x<=255) (_:¬ y.length=0) (h:btE y=0):1<=btN y/\btN y<=y.length/\bbF (btV y)=some (y.take (btN y).toNat):=by
 have hk:=VS_ h
 obtain ⟨c1,c2,c3,c4,c5⟩:=QG_ hk
 have hA:adE (btA y)=0:=by unfold btE at h;rw [if_pos hk] at h;exact h
 have hAb:∀ x ∈ btA y,0<=x/\x<=255:=fun x hx=>hb x (List.mem_of_mem_take (List.mem_of_mem_drop hx))
 obtain ⟨d1,d2,d3⟩:=zcb_ hAb hA
 obtain ⟨_,_,_,p4⟩:=QA_ d1
 have hl:16<=(y.take 16).length:=by rw [List.length_take];omega
 have g:=get5 hl
 have e1:((y.take 16).drop 12).take 4=(y.drop 12).take 4:=by rw [List.drop_take,List.take_take];rfl
 have e2:(y.take 16).take 2=y.take 2:=by rw [List.take_take];rfl
 have e3:((y.take 16).drop 2).take 2=(y.drop 2).take 2:=by rw [List.drop_take,List.take_take];rfl
 have e4:((y.take 16).drop 4).take 4=(y.drop 4).take 4:=by rw [List.drop_take,List.take_take];rfl
 have e5:((y.take 16).drop 8).take 4=(y.drop 8).take 4:=by rw [List.drop_take,List.take_take];rfl
 rw [e1,e2,e3,e4,e5,c2,if_pos rfl] at g
 obtain ⟨q1,q2,_⟩:=wk_ (fun x hx=>hb x (List.mem_of_mem_take hx)) g
 rw [show (zY_ w5).toNat=16 by decide,List.take_take,Nat.min_self] at q2
 have hv:btV y=(zM_ ((y.drop 2).take 2),zM_ ((y.drop 4).take 4),zM_ ((y.drop 8).take 4),adL (btA y),()):=if_pos hk
 have hal:(btA y).length=(btN y).toNat - 16:=by unfold btA;rw [List.length_drop,List.length_take];omega
 have hM:bkN (btV y)=[zM_ (y.take 2),zM_ ((y.drop 2).take 2),zM_ ((y.drop 4).take 4),zM_ ((y.drop 8).take 4)]:=by
  rw [hv]
  show [16+szL (adL (btA y)),_,_,_]=_
  rw [p4,d2,hal,show 16+(((btN y).toNat - 16:Nat):Int)=btN y by omega];rfl
 refine ⟨by omega,c5,?_⟩
 unfold bbF
 rw [hM,show (btV y).2.2.2.1=adL (btA y) by rw [hv],if_pos ⟨d1,q1⟩,q2,d2]
 unfold btA
 have e6:y.take 16=(y.take (btN y).toNat).take 16:=by rw [List.take_take,Nat.min_eq_left (by omega)]
 rw [e6,List.take_append_drop]
theorem zcG_ {l:List BK} (hw:∀ x ∈ l,wfBk x) (h:bkE l=0):bdE (bkL l)=0/\bdL (bkL l)=l:=by
 cases hr:bbA l [] with
 | none=>rw [(Uq_ hr).2] at h;cases h
 | some r=>
   by_cases hl:r.length<=65528
   ·obtain ⟨b1,b2⟩:=(wq_ hr).1 hl
    rw [b1]
    have ha:Uu_ bbF l=some r:=by rw [xd_,Ws_] at hr;exact hr
    have hg:=bB_ (P:=btP) zaY_ l r hw ha
    rw [<- BW_ r.length r (Nat.le_refl _)] at hg
    have hE:bdE r=0:=by unfold bdE;rw [hg];dsimp only;rw [if_neg (not_not_intro rfl),if_neg (by omega)]
    exact ⟨hE,by unfold bdL;rw [if_pos hE,hg]⟩
   ·rw [((wq_ hr).2 hl).2] at h;cases h
theorem BQ_ {y:List Int} (hb:∀ x ∈ y,0<=x/\x<=255) (h:bdE y=0):bkE (bdL y)=0/\bkL (bdL y)=y:=by
 have hL:bdL y=(bG y).1:=if_pos h
 unfold bdE at h
 split at h
 ·rename_i c;exact absurd h c
 ·rename_i c
  have c:(bG y).2.1=0:=Classical.byContradiction c
  split at h
  ·cases h
  ·rename_i hl
   rw [hL]
   rw [BW_ y.length y (Nat.le_refl _)] at c ⊢
   have ha:=bC_ (P:=btP) zb3_ y.length y (Nat.le_refl _) hb c
   have hr:bbA (gG btE btN btP btV y).1 []=some y:=by rw [xd_,Ws_];exact ha
   obtain ⟨b1,b2⟩:=(wq_ hr).1 (by omega)
   exact ⟨b2,b1⟩
theorem Gq_ {α:Type} {o:α->Option (List Int)}:∀ {l:List α} {y:List Int},Uu_ o l=some y->∀ x ∈ l,∃ z,o x=some z/\z.length<=y.length
 | [],_,_,x,hx=>by cases hx
 | a :: r,y,h,x,hx=>by
   obtain ⟨p,q,h1,h2,h3⟩:=xu_ h
   have hl:y.length=p.length+q.length:=by rw [h3,List.length_append]
   rcases List.mem_cons.1 hx with rfl | hx
   ·exact ⟨p,h1,by omega⟩
   ·obtain ⟨z,z1,z2⟩:=Gq_ h2 x hx
    exact ⟨z,z1,by omega⟩
theorem B0_ {α:Type} {o:α->Option (List Int)} (h16:∀ x z,o x=some z->16<=z.length):∀ {l:List α} {y:List Int},Uu_ o l=some y->16*l.length<=y.length
 | [],_,_=>by simp
 | a :: r,y,h=>by
   obtain ⟨p,q,h1,h2,h3⟩:=xu_ h
   have hl:y.length=p.length+q.length:=by rw [h3,List.length_append]
   have:=h16 a p h1
   have:=B0_ h16 h2
   rw [List.length_cons];omega
theorem BU_ {x:BK} {z:List Int} (h:bbF x=some z):okL x.2.2.2.1/\16<=z.length:=by
 unfold bbF at h;split at h
 ·rename_i c
  cases h
  have hs:=wf_ c.2
  rw [show zY_ w5=16 by decide] at hs
  exact ⟨zby_ c.1,by rw [List.length_append];omega⟩
 ·cases h
theorem GF_ {n:Int} (hn:Ty.wf (.int .u64) n):0<=n/\n<=18446744073709551615:=by
 unfold Ty.wf inK at hn;rw [uX_,uY_] at hn;exact hn
theorem zb5_ {l:List BK} (h:Ty.wf (.sl Y4) l):∀ x ∈ l,wfBk x:=fun x hx=>by
 obtain ⟨h1,h2,h3,h4,_⟩:=h.1 x hx
 have ha:=zcc_ (l:=x.2.2.2.1) h4
 exact ⟨⟨GF_ h1,GF_ h2,GF_ h3⟩,fun o ho=>⟨(ha o ho).1,(ha o ho).2.2.2.2.1,(ha o ho).2.2.2.2.2⟩⟩
def v5_:IR:=
(sq (kr [0] [oD 1 (.boxv 0),
oD 2 (.box [.int .i64 0,.int .i64 0,.kb false,.int .u64 0,.imm (.int .u8) [],.imm (.int .u8) []])])
(sq (kr [1,2] [oA 5 4 1,
oL 6 5,
oE 7 6,
oA 8 5 1,
oL 9 8,
oE 10 9,
oB 11 .add 7 10,
oD 12 (.mkrow (.int .u8) 1 (0:Int) 11 11),
oM 3 12])
(sq (kr [1,2,3] [oM 13 3,
oA 14 4 1,
oL 15 14,
oD 16 (.copy (.int .u8) 13 15),
oM 4 16])
(sq (kd [1,2,3,4] [(oM 17 3,[]),
(oM 18 4,[0]),
(oD 19 (.slice 1 17 (some 18) none none),[]),
(oA 20 5 1,[0,0,0]),
(oL 21 20,[1,0,0]),
(oD 22 (.copy (.int .u8) 19 21),[])])
(sq (kd [1,2,3,4] [(oM 23 3,[]),
(oM 24 4,[0]),
(oM 25 4,[0,0]),
(oD 26 (.slice 1 23 none (some 24) (some 25)),[]),
(oM 27 3,[0,0,0,0]),
(oM 28 4,[0,0,0,0,0]),
(oD 29 (.slice 1 27 (some 28) none none),[2,0,0,0]),
(oA 30 4 1,[0,0,0]),
(oS 1 30 26,[1,0,0]),
(oA 31 5 1,[]),
(oS 1 31 29,[])])
(sq (kr [1,2] [oK 32 6 1,
oS 6 2 32])
.ret))))))
def vA_:List RD:=[.cell 2 (some 6) false []]
theorem vP_:zo_ Tryz.prog Tryz.f42 v5_ vA_=true:=by kernel_rfl
def jo_:List AV->List Obj->Option (Prop × AV × List Obj)
 | [.agg [.int .i64 c,.int .i64 f,.bool h,.int .u64 x,.jsl 0 (.int .u8) v,.jsl 0 (.int .u8) m]],[.reg false true]=>some ((v.length<=1000000/\m.length<=1000000,.agg [.int .i64 c,.int .i64 f,.bool h,.int .u64 x,.view 1 0 v.length,.view 1 v.length m.length],[.reg false true,.row false (.int .u8) (v++m)]))
 | _,_=>none
theorem yQ_:ze_ Tryz.prog 42 (RwF jo_).sum:=by
 refine qv_ Tryz.func42 vP_ (zf_ _) fun args objs p v o e=>?_
 unfold jo_ at e
 split at e
 ·rename_i c f h x v m
  cases e
  refine ⟨rfl,fun hw ho hp=>?_⟩
  change List Int at v
  change List Int at m
  have k1:((v.length:Int)+m.length).toNat=v.length+m.length:=by omega
  have k2:(List.replicate (v.length+m.length) (0:Int)).length=v.length+m.length:=List.length_replicate
  have k3:v.take (v.length+m.length)=v:=List.take_of_length_le (by omega)
  have k4:(List.replicate (v.length+m.length) (0:Int)).drop v.length=List.replicate m.length 0:=by rw [List.drop_replicate];congr 1;omega
  have k5:min v.length (v.length+m.length)=v.length:=Nat.min_eq_left (by omega)
  have k6:(v++List.replicate m.length (0:Int)).length=v.length+m.length:=by simp
  have k7:(((v.length+m.length:Nat):Int) - (v.length:Int)).toNat=m.length:=by omega
  have k8:(v++List.replicate m.length (0:Int)).take v.length=v:=List.take_left
  have k9:m.take m.length=m:=List.take_length
  have k10:min m.length m.length=m.length:=Nat.min_self _
  have k11:(v++List.replicate m.length (0:Int)).drop (v.length+m.length)=[]:=List.drop_of_length_le (by simp)
  have k12:(v++m).length=v.length+m.length:=List.length_append
  have k13:((v.length:Int) - 0).toNat=v.length:=by omega
  repeat'(intro t ht;first|(cases t<;>first|(cases ht;done)|(try simp only[zh_]at ht))|((first|refine zb_ ht ?_|refine ht ?_ ?_|refine ht.1 ?_ ?_|refine ht ?_)<;>clear ht))
  all_goals first
   | exact True.intro
   | (simp only [qF_,k1,k2,k3,k4,k5,k6,k7,k8,k9,k10,k11,k12,k13,List.append_nil,Int.toNat_natCast];first | omega | exact ⟨rfl,by first | rfl | exact True.intro⟩ | (refine ⟨?_,?_,?_,?_⟩<;>first | exact True.intro | omega))
   | omega
   | ((try simp only [zl_,zp_,zm_] at*);omega)
   | exact ⟨rfl,by first | rfl | exact True.intro⟩
 ·cases e
def x7_:IR:=
(sq (kr [0] [oD 1 (.boxv 0),
oD 2 (.box [.int .i64 0,.int .u64 0,.int .u64 0,.int .i64 0,.int .i64 0,.kb false,.int .u64 0,.imm (.int .u8) [],.imm (.int .u8) [],.imm (.int .u8) []])])
(sq (kr [1,2] [oA 4 9 1,
oL 5 4,
oE 6 5,
oD 7 (.mkrow (.int .u8) 1 (0:Int) 6 6),
oM 3 7])
(sq (.reg [oM 8 3,
oA 9 9 1,
oL 10 9,
oD 11 (.copy (.int .u8) 8 10)])
(sq (kr [1,2,3] [oM 12 3,
oA 13 3 1,
oK 14 6 13,
oC 15 42 [14],
oA 16 9 1,
oS 1 16 12,
oA 17 3 1,
oS 6 17 15])
(sq (.reg [oK 18 10 1,
oS 10 2 18])
.ret)))))
def xK_:List RD:=[.cell 2 (some 10) false []]
theorem xU_:zo_ Tryz.prog Tryz.f113 x7_ xK_=true:=by kernel_rfl
def kn_:List AV->List Obj->Option (Prop × AV × List Obj)
 | [.agg [.int .i64 q,.int .u64 a,.int .u64 b,.int .i64 c,.int .i64 f,.bool h,.int .u64 x,.jsl 0 (.int .u8) v,.jsl 0 (.int .u8) m,.jsl 0 (.int .u8) d]],[.reg false true]=>some ((d.length<=1000000/\v.length<=1000000/\m.length<=1000000,.agg [.int .i64 q,.int .u64 a,.int .u64 b,.int .i64 c,.int .i64 f,.bool h,.int .u64 x,.view 1 0 v.length,.view 1 v.length m.length,.own 2],[.reg false true,.row false (.int .u8) (v++m),.row false (.int .u8) d]))
 | _,_=>none
theorem WE_:ze_ Tryz.prog 113 (RwF kn_).sum:=by
 refine qv_ Tryz.func113 xU_ (za_ (s:=RwF jo_) yQ_ (zf_ _)) fun args objs p v o e=>?_
 unfold kn_ at e
 split at e
 ·rename_i q a b c f h x v m d
  cases e
  refine ⟨rfl,fun hw ho hp=>?_⟩
  change List Int at v
  change List Int at m
  change List Int at d
  clear hw ho
  have k1:(List.replicate d.length (0:Int)).length=d.length:=List.length_replicate
  have k2:d.take d.length=d:=List.take_length
  repeat'(intro t ht;first|(cases t<;>first|(cases ht;done)|(try simp only[zh_]at ht;try(exfalso;first|contradiction|omega)))|((first|refine zb_ ht ?_|refine ht ?_ ?_|refine ht.1 ?_ ?_|refine ht ?_)<;>clear ht))
  all_goals first
   | exact True.intro
   | exact hp.2
   | exact ⟨hp.2.1,hp.2.2⟩
   | omega
   | ((try simp only [zl_,zp_,zm_] at*);omega)
   | (simp only [qF_,Int.toNat_natCast,k1,k2,List.drop_of_length_le (Nat.le_of_eq k1),List.append_nil,Nat.min_self];first | omega | exact ⟨rfl,by first | rfl | exact True.intro⟩)
 ·cases e
theorem zbY_ (a:AC):((a.1,a.2.1,a.2.2.1,(a.2.2.2.1.1,a.2.2.2.1.2.1,a.2.2.2.1.2.2.1,a.2.2.2.1.2.2.2.1,((a.2.2.2.1.2.2.2.2.1++a.2.2.2.1.2.2.2.2.2.1).drop 0).take a.2.2.2.1.2.2.2.2.1.length,((a.2.2.2.1.2.2.2.2.1++a.2.2.2.1.2.2.2.2.2.1).drop a.2.2.2.1.2.2.2.2.1.length).take a.2.2.2.1.2.2.2.2.2.1.length,()),a.2.2.2.2.1,()):AC)=a:=by
 rw [List.drop_zero,List.take_left,List.drop_left,List.take_length]
def YN_:IR:=
(sq (kr [0] [oD 2 (.mov (.c (.imm Y2 [])))])
(sq (.reg [oM 6 0,
oE 7 6,
oD 8 (.mkrow Y2 128 ((0:Int),((0:Int),((0:Int),(((0:Int),((0:Int),(false,((0:Int),(([]:List (Ty.den (.int .u8))),(([]:List (Ty.den (.int .u8))),())))))),(([]:List (Ty.den (.int .u8))),()))))) (cI 0) 7),
oM 3 8])
(sq (sq (.reg [oM 9 0,
oE 10 9,
oD 11 (.mov (cI 0))])
(.block 0
(.loop
(sq (kr [3,9,10,11] [oB 12 .lss 11 10])
(sq (.cond 12
.skip
(.exit 0))
(sq (.block 1
(sq (.reg [oI 13 10 9 11,
oK 14 10 13,
oD 5 (.box [.int .i64 0,.int .u64 0,.int .u64 0,.int .i64 0,.int .i64 0,.kb false,.int .u64 0,.imm (.int .u8) [],.imm (.int .u8) [],.imm (.int .u8) []]),
oS 10 5 14])
(kr [3,5,9,10,11] [oM 15 3,
oK 16 10 5,
oC 17 113 [16],
oD 18 (.sliceAll Y2 1 [(0,10,17)]),
oD 19 (.append Y2 128 15 18),
oM 3 19])))
(kr [3,9,10,11] [oB 20 .add 11 (cI 1),
oM 11 20])))))))
(sq (kr [3] [oM 21 3,
oM 2 21])
.ret))))
def y9_:List RD:=[.tmp 2 true (some Y2)]
theorem Ys_:zo_ Tryz.prog Tryz.f56 YN_ y9_=true:=by kernel_rfl
def Kq_:List AV->List Obj->Option (Prop × AV)
 | [.jsl 0 ty0 l],[.reg false true]=>Zw_ ty0 Y2 l fun l=>some ((okL l,.imm Y2 l))
 | _,_=>none
theorem X6_:ze_ Tryz.prog 56 (RoF Kq_).sum:=by
 refine zk_ Tryz.func56 Ys_ (za_ (s:=RwF kn_) WE_ (zf_ _)) fun args objs p v e=>?_
 unfold Kq_ at e
 split at e
 ·rename_i ty0 l
  obtain rfl:=zz_ e
  replace e:=zA_ e
  cases e
  refine ⟨rfl,fun hw ho hp=>?_⟩
  change List AC at l
  clear hw ho
  have hn:=hp.n
  repeat'(intro t ht;first|(cases t<;>first|(cases ht;done)|(try simp only[zh_]at ht))|((first|refine zb_ ht ?_|refine ht ?_ ?_|refine ht.1 ?_ ?_|refine ht ?_)<;>clear ht))
  all_goals first
   | exact True.intro
   | ((try simp only [zl_,zp_,zm_] at*);omega)
   | (intro r h1 h2;clear h1;refine h2 ⟨[],[3,9,10,11],Nat,(fun i=>i<=l.length),fun i=>[.own 1,.jsl 0 Y2 l,.int .i64 l.length,.int .i64 i],fun i=>[.reg false true,.row false Y2 (l.take i)],fun i=>l.length - i,⟨0,Nat.zero_le _,rfl,rfl⟩,?_⟩;clear h2)
  rintro i hi
  repeat'(intro t ht;first|(cases t<;>first|(cases ht;done)|(try simp only[zh_]at ht;try(exfalso;first|contradiction|omega)))|((first|refine zb_ ht ?_|refine ht ?_ ?_|refine ht.1 ?_ ?_|refine ht ?_)<;>clear ht))
  all_goals (try generalize (Ty.dflt Y2)=od at*)
  all_goals first
   | exact True.intro
   | ((try simp only [zl_,zp_,zm_] at*);omega)
   | (rw [List.take_of_length_le (show l.length<=i by omega)];exact ⟨rfl,rfl⟩)
   | (have hlt:i < l.length:=by omega
      have hln:=hp.a _ (ZI_ hlt od)
      have htk:(l.take i).length=i:=bs_ hi
      first
       | exact ⟨Nat.le_trans hln.2.2 (by decide),Nat.le_trans hln.1 (by decide),Nat.le_trans hln.2.1 (by decide)⟩
       | (simp only [qF_,List.length_cons,List.length_nil];constructor<;>omega)
       | (simp only [List.length_append,Int.toNat_natCast];omega)
       | (refine ⟨i+1,by omega,by dsimp only;omega,rfl,?_⟩
          dsimp only
          rw [<- HB_ (d:=od) hlt]
          simp only [qF_,Int.toNat_natCast,zbY_]))
 ·cases e
theorem UW_ {α:Type} {l:List α} {i:Nat} {d:α} (h:i < l.length):l.set i (l.getD i d)=l:=by
 rw [List.getD_eq_getElem?_getD,List.getElem?_eq_getElem h]
 exact List.set_getElem_self h
def qq_:IR:=
(sq (kr [0] [oD 2 (.nilrow Y4)])
(sq (sq (.reg [oM 3 0,
oD 4 (.isnil false 3)])
(.cond 4
(sq (.reg [oD 2 (.nilrow Y4)])
.ret)
.skip))
(sq (.reg [oD 5 (.slice0 Y4),
oM 6 0,
oD 7 (.appendJ Y4 48 5 6),
oM 2 7])
.ret)))
def qo_:List RD:=[.tmp 2 false none]
theorem qp_:zo_ Tryz.prog Tryz.f55 qq_ qo_=true:=by kernel_rfl
def zU_:List AV->List Obj->Option (Prop × AV × List Obj)
 | [.jsl 0 ty0 l],[.reg false true]=>Zw_ ty0 Y4 l fun l=>match l with
   | []=>some (True,.own 1,[.reg false true,.row false Y4 []])
   | x :: q=>some ((x :: q).length<=1000000,.own 1,[.reg false true,.rowm Y4 (x :: q) 0 [.jsl 0 Y4 [],.int .u64 (x).1,.int .u64 (x).2.1,.int .u64 (x).2.2.1,.jsl 0 Y2 (x).2.2.2.1]])
 | _,_=>none
theorem qh_:ze_ Tryz.prog 55 (RwF zU_).sum:=by
 refine qv_ Tryz.func55 qp_ (zf_ _) fun args objs p v o e=>?_
 unfold zU_ at e
 split at e
 ·rename_i ty0 l
  obtain rfl:=zz_ e
  replace e:=zA_ e
  cases l with
  | nil=>
    cases e
    refine ⟨rfl,fun hw ho hp=>?_⟩
    clear hw ho
    repeat'(intro t ht;first|(cases t<;>first|(cases ht;done)|(try simp only[zh_]at ht;try(exfalso;first|contradiction|omega)))|((first|refine zb_ ht ?_|refine ht ?_ ?_|refine ht.1 ?_ ?_|refine ht ?_)<;>clear ht))
    all_goals first
     | exact True.intro
     | exact ⟨rfl,rfl⟩
     | exact ⟨rfl,by decide,by decide⟩
  | cons x q=>
    cases e
    refine ⟨rfl,fun hw ho hp=>?_⟩
    clear hw ho
    repeat'(intro t ht;first|(cases t<;>first|(cases ht;done)|(try simp only[zh_]at ht;try(exfalso;first|contradiction|omega)))|((first|refine zb_ ht ?_|refine ht ?_ ?_|refine ht.1 ?_ ?_|refine ht ?_)<;>clear ht))
    all_goals first
     | exact True.intro
     | exact ⟨rfl,rfl⟩
     | (refine ⟨rfl,?_,?_⟩<;>first | omega | (simp only [qF_] at*;omega))
     | (exfalso;have h1:True->x :: q=[]:=by assumption
        cases h1 True.intro;done)
     | (exfalso;simp_all;done)
     | (exfalso;simp at*;done)
 ·cases e
def x3_:IR:=
(sq (kr [0] [oD 2 (.mov (.c (.imm Y4 [])))])
(sq (.reg [oM 5 0,
oC 6 55 [5],
oM 3 6])
(sq (sq (.reg [oM 7 3,
oE 8 7,
oD 9 (.mov (cI 0))])
(.block 0
(.loop
(sq (kr [3,8,9] [oB 10 .lss 9 8])
(sq (.cond 10
.skip
(.exit 0))
(sq (.block 1
(sq (.reg [oM 11 9,
oM 4 11])
(kr [3,4,8,9] [oM 12 3,
oM 13 4,
oM 14 3,
oM 15 4,
oI 16 4 14 15,
oA 17 3 16,
oL 18 17,
oC 19 56 [18],
oI 20 4 12 13,
oA 21 3 20,
oS 1 21 19])))
(kr [3,8,9] [oB 22 .add 9 (cI 1),
oM 9 22])))))))
(sq (kr [3] [oM 23 3,
oM 2 23])
.ret))))
def xG_:List RD:=[.tmp 2 true (some Y4)]
theorem xQ_:zo_ Tryz.prog Tryz.f17 x3_ xG_=true:=by kernel_rfl
def kj_:List AV->List Obj->Option (Prop × AV)
 | [.jsl 0 ty0 l],[.reg false true]=>Zw_ ty0 Y4 l fun l=>some ((okB l,.imm Y4 l))
 | _,_=>none
theorem WA_:ze_ Tryz.prog 17 (RoF kj_).sum:=by
 refine zk_ Tryz.func17 xQ_ (za_ (s:=RwF zU_) qh_ (za_ (s:=RoF Kq_) X6_ (zf_ _))) fun args objs p v e=>?_
 unfold kj_ at e
 split at e
 ·rename_i ty0 l
  obtain rfl:=zz_ e
  replace e:=zA_ e
  cases e
  refine ⟨rfl,fun hw ho hp=>?_⟩
  change List BK at l
  clear hw ho
  have hn:=hp.n
  have ha:=hp.a
  clear hp
  cases l with
  | nil=>
    clear ha hn
    repeat'(intro t ht;first|(cases t<;>first|(cases ht;done)|(try simp only[zh_]at ht;try(exfalso;first|contradiction|omega)))|((first|refine zb_ ht ?_|refine ht ?_ ?_|refine ht.1 ?_ ?_|refine ht ?_)<;>clear ht))
    all_goals first
     | exact True.intro
     | (intro r h1 h2;clear h1;refine h2 ⟨[],[3,8,9],Nat,(fun i=>i=0),fun i=>[.own 1,.int .i64 ([]:List BK).length,.int .i64 0],fun i=>[.reg false true,.row false Y4 []],fun i=>0,⟨0,rfl,rfl,rfl⟩,?_⟩;clear h2)
    all_goals
     intro i hi
     repeat'(intro t ht;first|(cases t<;>first|(cases ht;done)|(try simp only[zh_]at ht;try(exfalso;first|contradiction|omega)))|((first|refine zb_ ht ?_|refine ht ?_ ?_|refine ht.1 ?_ ?_|refine ht ?_)<;>clear ht))
    all_goals first
     | exact True.intro
     | exact ⟨rfl,rfl⟩
  | cons x q=>
    repeat'(intro t ht;first|(cases t<;>first|(cases ht;done)|(try simp only[zh_]at ht;try(exfalso;first|contradiction|omega)))|((first|refine zb_ ht ?_|refine ht ?_ ?_|refine ht.1 ?_ ?_|refine ht ?_)<;>clear ht))
    all_goals first
     | exact True.intro
     | exact hn
     | (intro r h1 h2;clear h1;refine h2 ⟨[],[3,8,9],Bool × Nat,(fun a=>a.2<=(x :: q).length/\(a.1=true ↔ a.2 < (x :: q).length)),fun a=>[.own 1,.int .i64 (x :: q).length,.int .i64 a.2],fun a=>match a.1 with | true=>[.reg false true,.rowm Y4 (x :: q) a.2 [.jsl 0 Y4 [],.int .u64 (((x :: q).getD a.2 (Ty.dflt Y4))).1,.int .u64 (((x :: q).getD a.2 (Ty.dflt Y4))).2.1,.int .u64 (((x :: q).getD a.2 (Ty.dflt Y4))).2.2.1,.jsl 0 Y2 (((x :: q).getD a.2 (Ty.dflt Y4))).2.2.2.1]] | false=>[.reg false true,.row false Y4 (x :: q)],fun a=>(x :: q).length - a.2,⟨(true,0),⟨Nat.zero_le _,⟨fun _=>Nat.succ_pos _,fun _=>rfl⟩⟩,rfl,rfl⟩,?_⟩;clear h2)
    all_goals
     rintro ⟨b,i⟩ ⟨hi,hb⟩
     replace hi:i<=(x :: q).length:=hi
     generalize hll:x :: q=l at*
     cases b
    ·have hlt:¬ i < l.length:=fun h=>by have:=hb.2 h;cases this
     repeat'(intro t ht;first|(cases t<;>first|(cases ht;done)|(try simp only[zh_]at ht;try(exfalso;first|contradiction|omega)))|((first|refine zb_ ht ?_|refine ht ?_ ?_|refine ht.1 ?_ ?_|refine ht ?_)<;>clear ht))
     all_goals first
      | exact True.intro
      | exact ⟨rfl,rfl⟩
      | ((try simp only [zl_,zp_,zm_] at*);omega)
    ·have hlt:i < l.length:=hb.1 rfl
     repeat'(intro t ht;first|(cases t<;>first|(cases ht;done)|(try simp only[zh_]at ht;try(exfalso;first|contradiction|omega)))|((first|refine zb_ ht ?_|refine ht ?_ ?_|refine ht.1 ?_ ?_|refine ht ?_)<;>clear ht))
     all_goals (try generalize (Ty.dflt Y4)=od at*)
     all_goals first
      | exact True.intro
      | exact ha _ (ZI_ hlt od)
      | (simp only [Int.toNat_natCast];omega)
      | omega
      | ((try simp only [zl_,zp_,zm_] at*);omega)
      | (refine ⟨(true,i+1),⟨by dsimp only;omega,⟨fun _=>by dsimp only;omega,fun _=>rfl⟩⟩,by dsimp only;omega,rfl,?_⟩
         have hs:=UW_ (d:=od) hlt
         dsimp only
         rw [show l.set i ((l.getD i od).1,(l.getD i od).2.1,(l.getD i od).2.2.1,(l.getD i od).2.2.2.1,())=l from hs]
         done)
      | (refine ⟨(false,i+1),⟨by dsimp only;omega,⟨fun h=>(by cases h),fun h=>by exfalso;dsimp only at h;omega⟩⟩,by dsimp only;omega,rfl,?_⟩
         have hs:=UW_ (d:=od) hlt
         dsimp only
         rw [show l.set i ((l.getD i od).1,(l.getD i od).2.1,(l.getD i od).2.2.1,(l.getD i od).2.2.2.1,())=l from hs]
         done)
 ·cases e
theorem bG_8:∀ (n:Nat) (y:List Int),y.length<=n->(bG y).2.1=0->y.length % 8=0
 | 0,y,hn,_=>by omega
 | n+1,y,hn,h=>by
   by_cases h0:y.length=0
   ·omega
   ·by_cases h1:btE y=0
    ·obtain ⟨k1,k2,k3,k4,k5⟩:=QG_ (VS_ h1)
     rw [Hp_ h0 h1] at h
     have ih:=bG_8 n (y.drop (btN y).toNat) (by rw [List.length_drop];omega) h
     rw [List.length_drop] at ih
     rw [Int.tmod_eq_emod_of_nonneg (by omega)] at k4
     omega
    ·rw [Us_ h0 h1] at h;exact absurd h h1
theorem bd_8 {y:List Int} (h:bdE y=0):y.length % 8=0/\y.length<=65528:=by
 unfold bdE at h
 split at h
 ·rename_i c;exact absurd h c
 ·rename_i c
  split at h
  ·cases h
  ·exact ⟨bG_8 y.length y (Nat.le_refl _) (Classical.byContradiction c),by omega⟩
theorem zaX_ {y:List Int} (h:bdE y=0) (h0:0 < y.length):¬ bdE (y.take ((y.length:Int) - 1).toNat)=0:=fun h2=>by
 have h3:=(bd_8 h).1
 have h4:=(bd_8 h2).1
 rw [List.length_take] at h4
 omega
theorem zcH_ {y:List Int} (hb:∀ x ∈ y,0<=x/\x<=255) (h:bdE y=0):okB (bdL y):=by
 obtain ⟨h1,h2⟩:=BQ_ hb h
 have h3:=(bd_8 h).2
 cases hr:bbA (bdL y) [] with
 | none=>rw [(Uq_ hr).2] at h1;cases h1
 | some r=>
   rw [xd_,Ws_] at hr
   have hl:r.length<=65528:=by
    by_cases hl:r.length<=65528
    ·exact hl
    ·have hr2:bbA (bdL y) []=some r:=by rw [xd_,Ws_];exact hr
     rw [((wq_ hr2).2 hl).2] at h1;cases h1
   refine ⟨fun o ho=>?_,?_⟩
   ·obtain ⟨z,hz,_⟩:=Gq_ hr o ho
    exact (BU_ hz).1
   ·have:=B0_ (fun x z hz=>(BU_ hz).2) hr
    omega
def W1_:IR:=
(sq (kr [0,1,2] [oD 6 (.mov cF)])
(sq (sq (kr [0,1,2] [oM 21 0,
oC 22 12 [21],
oD 23 (.un .not 22),
oM 24 23,
oF 24 25 (.mov 1),
oF 24 26 (.call false (.f 12) [25]),
oF 24 27 (.un .not 26),
oP 28 24 cT 27,
oM 29 28,
oF 29 30 (.mov 2),
oF 29 31 (.len 30),
oF 29 32 (.bin .gtr 31 (cI 1500)),
oP 33 29 cT 32])
(.cond 33
(sq (kr [] [oC 34 13 [],
oM 6 34])
.ret)
.skip))
(sq (sq (kr [0,1,2] [oM 36 0,
oC 37 14 [36],
oM 35 37,
oX 38 35 0,
oX 39 35 1,
oM 7 38,
oM 8 39])
(sq (kr [0,1,2,7,8] [oM 40 8,
oB 41 .eql 40 (cI 0)])
(.cond 41
(sq (kr [0,1,2,7] [oM 43 7,
oC 44 15 [43],
oM 42 44,
oX 45 42 0,
oX 46 42 1,
oM 9 45,
oM 10 46])
(sq (sq (kr [0,1,2,7,9,10] [oM 47 10,
oB 48 .neq 47 (cI 0),
oM 49 48,
oF 49 50 (.mov 9),
oF 49 51 (.mov 0),
oF 49 52 (.callL (.f 16) [50,51]),
oF 49 53 (.un .not 52),
oP 54 49 cT 53])
(.cond 54
(sq (kr [] [oD 6 (.mov cF)])
.ret)
.skip))
(sq (kr [0,1,2,7] [oM 55 7,
oE 56 55,
oB 57 .gtr 56 (cI 0)])
(.cond 57
(sq (kr [0,1,2,7] [oM 59 7,
oM 60 7,
oE 61 60,
oB 62 .sub 61 (cI 1),
oD 63 (.slice 1 59 none (some 62) none),
oC 64 15 [63],
oM 58 64,
oX 65 58 0,
oX 66 58 1,
oM 11 65,
oM 12 66])
(sq (kr [0,1,2,12] [oM 67 12,
oB 68 .eql 67 (cI 0)])
(.cond 68
(sq (.reg [oD 6 (.mov cF)])
.ret)
.skip)))
.skip))))
.skip)))
(sq (.reg [oM 69 0,
oD 70 (.callF (.f 17) [69]),
oM 13 70])
(sq (sq (kr [0,1,2,13] [oM 71 13,
oM 72 0,
oD 73 (.callL (.f 16) [71,72]),
oD 74 (.un .not 73),
oM 75 74,
oF 75 76 (.mov 13),
oF 75 77 (.mov 0),
oF 75 78 (.callL (.f 18) [76,77]),
oF 75 79 (.un .not 78),
oP 80 75 cT 79,
oM 81 80,
oF 81 82 (.mov 0),
oF 81 83 (.mov 1),
oF 81 84 (.callL (.f 18) [82,83]),
oF 81 85 (.mov 0),
oF 81 86 (.mov 1),
oF 81 87 (.callL (.f 16) [85,86]),
oF 81 88 (.eqb true 84 87),
oP 89 81 cT 88])
(.cond 89
(sq (kr [] [oD 6 (.mov cF)])
.ret)
.skip))
(sq (kr [0,2,13] [oM 90 0,
oD 91 (.callF (.f 17) [90]),
oM 14 91])
(sq (sq (.reg [oD 15 (.mov (cI 0))])
(.block 0
(.loop
(sq (sq (kr [0,2,13,14,15] [oM 92 15,
oM 93 13,
oE 94 93,
oB 95 .lss 92 94])
(.cond 95
.skip
(.exit 0)))
(sq (.block 1
(sq (.reg [oM 98 13,
oM 99 15,
oI 100 4 98 99,
oA 101 0 100,
oN (.store 1 101 (.c (.int .u64 77777)))])
(sq (kr [0,2,13,14,15] [oD 16 (.mov (cI 0))])
(.block 2
(.loop
(sq (sq (kr [0,2,13,14,15,16] [oM 102 16,
oM 103 13,
oM 104 15,
oI 105 4 103 104,
oA 106 3 105,
oL 107 106,
oE 108 107,
oB 109 .lss 102 108])
(.cond 109
.skip
(.exit 2)))
(sq (.block 3
(kr [0,2,13,14,15,16] [oM 112 13,
oM 113 15,
oI 114 4 112 113,
oA 115 3 114,
oL 116 115,
oM 117 16,
oI 118 10 116 117,
oA 119 0 118,
oN (.store 1 119 (cI (-1)))]))
(kr [0,2,13,14,15,16] [oM 110 16,
oB 111 .add 110 (cI 1),
oM 16 111]))))))))
(kr [0,2,13,14,15] [oM 96 15,
oB 97 .add 96 (cI 1),
oM 15 97]))))))
(sq (sq (kr [0,2,14] [oM 120 14,
oM 121 0,
oD 122 (.callL (.f 16) [120,121]),
oD 123 (.un .not 122)])
(.cond 123
(sq (.reg [oD 6 (.mov cF)])
.ret)
.skip))
(sq (kr [2] [oM 125 2,
oC 126 15 [125],
oM 124 126,
oX 127 124 0,
oX 128 124 1,
oM 17 127,
oM 18 128])
(sq (sq (kr [2,17,18] [oM 129 18,
oB 130 .neq 129 (cI 0)])
(.cond 130
(sq (kr [17] [oM 131 17,
oE 132 131,
oB 133 .eql 132 (cI 0),
oM 134 133,
oT 134 135 (.call false (.f 13) []),
oP 136 134 135 cF,
oM 6 136])
.ret)
.skip))
(sq (kr [2,17] [oM 138 17,
oC 139 14 [138],
oM 137 139,
oX 140 137 0,
oX 141 137 1,
oM 19 140,
oM 20 141])
(sq (kr [2,17,19,20] [oM 142 20,
oB 143 .eql 142 (cI 0),
oM 144 143,
oT 144 145 (.mov 17),
oT 144 146 (.call false (.f 19) [145]),
oP 147 144 146 cF,
oM 148 147,
oT 148 149 (.mov 19),
oT 148 150 (.mov 2),
oT 148 151 (.call false (.f 20) [149,150]),
oP 152 148 151 cF,
oM 153 152,
oT 153 154 (.call false (.f 13) []),
oP 155 153 154 cF,
oM 6 155])
.ret))))))))))))
def WI_:List RD:=[.tmp 6 true none]
theorem WS_:zo_ Tryz.prog Tryz.f4 W1_ WI_=true:=by kernel_rfl
def QL_:List AV->List Obj->Option (Prop × AV)
 | [.imm ty0 l,.imm ty1 m,.imm (.int .u8) b],[]=>Zw_ ty0 Y4 l fun l=>Zw_ ty1 Y4 m fun m=>some ((True,.bool true))
 | _,_=>none
theorem wN_:ze_ Tryz.prog 4 (RoF QL_).sum:=by
 refine zk_ Tryz.func4 WS_ (za_ (s:=RoF Xq_) UR_ (za_ (s:=RoF Wm_) ug_ (za_ (s:=RoF qe_) Qe_ (za_ (s:=RoF q4_) k3_ (za_ (s:=RoF Wg_) ua_ (za_ (s:=RoF kj_) WA_ (za_ (s:=RoF Ko_) X4_ (za_ (s:=RoF kW_) xz_ (za_ (s:=RoF Qa_) QT_ (zf_ _)))))))))) fun args objs p v e=>?_
 unfold QL_ at e
 split at e
 ·rename_i ty0 l ty1 m b
  obtain rfl:=zz_ e
  replace e:=zA_ e
  obtain rfl:=zz_ e
  replace e:=zA_ e
  cases e
  refine ⟨rfl,fun hw ho hp=>?_⟩
  change List Int at b
  change List BK at l
  change List BK at m
  have hwl:=zb5_ (l:=l) (hw (.imm Y4 l) (by simp))
  have hbb:∀ x ∈ b,0<=x/\x<=255:=fun x hx=>by
   have:=(hw (.imm (.int .u8) b) (by simp)).1 x hx
   unfold Ty.wf inK at this;simpa [IntKind.min,IntKind.max,IntKind.signed,IntKind.bits] using this
  have hla:∀ o ∈ l,o.2.2.2.1.length<=maxLen:=fun o ho=>((hw (.imm Y4 l) (by simp)).1 o ho).2.2.2.1.2
  unfold maxLen at hla
  clear hw ho
  by_cases hc:(Vi_ l=true/\Vi_ m=true)/\b.length<=1500
  ·obtain ⟨⟨h1,h2⟩,h3⟩:=hc
   obtain ⟨hok,hn⟩:=zaL_ h1
   have hd:decide ((l:List BK)=l)=true:=decide_eq_true rfl
   have r0:bkE l=0->bdE (bkL l)=0/\bdL (bkL l)=l:=zcG_ hwl
   have r1:bkE l=0->0 < (bkL l).length->¬ bdE ((bkL l).take (((bkL l).length:Int) - 1).toNat)=0:=fun h h0=>zaX_ (r0 h).1 h0
   have hll:(bkL l).length<=65528:=by
    rcases BS_ l with ⟨_,h⟩ | ⟨_,h⟩
    ·exact h
    ·rw [h];exact Nat.zero_le _
   have q0:bdE b=0->okB (bdL b)/\bkE (bdL b)=0/\bkL (bdL b)=b:=fun h=>⟨zcH_ hbb h,BQ_ hbb h⟩
   have q1:¬ bdE b=0->bdL b=[]:=fun h=>if_neg h
   have TB:(bdE b=0/\okB (bdL b)/\bkE (bdL b)=0/\bkL (bdL b)=b)\/(¬ bdE b=0/\bdL b=[]):=by
    by_cases h:bdE b=0
    ·exact .inl ⟨h,q0 h⟩
    ·exact .inr ⟨h,q1 h⟩
   have he:∀ x:Bool,¬ (x == x)=false:=fun x=>by cases x<;>decide
   have htl:∀ n:Nat,((bkL l).take n).length<=65528:=fun n=>by rw [List.length_take];omega
   repeat'(intro t ht;first|(cases t<;>first|(cases ht;done)|(try simp only[zh_]at ht;try(exfalso;first|contradiction|omega)))|((first|refine zb_ ht ?_|refine ht ?_ ?_|refine ht.1 ?_ ?_|refine ht ?_)<;>clear ht))
   all_goals first
    | exact True.intro
    | contradiction
    | exact hok
    | exact hll
    | (exfalso;exact he _ (by assumption))
    | ((try simp only [zl_,zp_,zm_] at*);omega)
    | exact htl _
    | (exfalso;have g:=r0 (by assumption);simp_all;done)
    | (exfalso;have g:=r1 (by assumption) (by omega);simp_all;done)
    | (intro r h1 h2;clear h1;refine h2 ⟨[],[0,2,13,14,15],Bool × Nat,(fun a=>a.2<=l.length),fun a=>[.imm Y4 l,.imm (.int .u8) b,.jsl 0 Y4 l,.jsl 1 Y4 l,.int .i64 a.2],fun a=>[.reg true a.1,.reg true true],fun a=>l.length - a.2,⟨(true,0),Nat.zero_le _,rfl,rfl⟩,?_⟩;clear h2)
    | (exfalso;simp_all;done)
   all_goals
    rintro ⟨kn,i⟩ hi
    replace hi:i<=l.length:=hi
    cases kn
   all_goals repeat'(intro t ht;first|(cases t<;>first|(cases ht;done)|(try simp only[zh_]at ht;try(exfalso;first|contradiction|omega)))|((first|refine zb_ ht ?_|refine ht ?_ ?_|refine ht.1 ?_ ?_|refine ht ?_)<;>clear ht))
   all_goals (try generalize hod:(Ty.dflt Y4)=od at*)
   all_goals first
    | exact True.intro
    | contradiction
    | exact ⟨rfl,rfl⟩
    | exact ⟨True.intro,True.intro⟩
    | ((try simp only [zl_,zp_,zm_] at*);omega)
    | omega
    | exact (q0 (by assumption)).1
    | (simp only [Int.toNat_natCast];omega)
    | (rcases TB with ⟨g0,g1,g2,g3⟩ | ⟨g0,g1⟩<;>first | contradiction | (simp_all;done))
    | (intro r h1 h2;clear h1;refine h2 ⟨[],[0,2,13,14,15,16],Bool × Nat,(fun a=>a.2<=(l.getD i od).2.2.2.1.length),fun a=>[.imm Y4 l,.imm (.int .u8) b,.jsl 0 Y4 l,.jsl 1 Y4 l,.int .i64 i,.int .i64 a.2],fun a=>[.reg true a.1,.reg true true],fun a=>(l.getD i od).2.2.2.1.length - a.2,⟨(false,0),Nat.zero_le _,rfl,rfl⟩,?_⟩;clear h2)
   all_goals
    rintro ⟨kn2,k⟩ hk
    replace hk:k<=(l.getD i od).2.2.2.1.length:=hk
    have hlt:i < l.length:=by omega
    have hln:=hla _ (ZI_ hlt od)
    cases kn2
   all_goals repeat'(intro t ht;first|(cases t<;>first|(cases ht;done)|(try simp only[zh_]at ht;try(exfalso;first|contradiction|omega)))|((first|refine zb_ ht ?_|refine ht ?_ ?_|refine ht.1 ?_ ?_|refine ht ?_)<;>clear ht))
   all_goals (try simp only [hod,Int.toNat_natCast] at ht ⊢)
   all_goals first
    | exact True.intro
    | contradiction
    | ((try simp only [zl_,zp_,zm_] at*);omega)
    | (simp only [Int.toNat_natCast];omega)
    | (dsimp only;omega)
    | omega
    | (refine ⟨(false,k+1),by dsimp only;omega,by dsimp only;omega,rfl,rfl⟩;done)
    | (refine ⟨(false,i+1),by dsimp only;omega,by dsimp only;omega,rfl,rfl⟩;done)
    | (refine ⟨(true,i+1),by dsimp only;omega,by dsimp only;omega,rfl,rfl⟩;done)
  ·by_cases h1:Vi_ l=true
   ·by_cases h2:Vi_ m=true
    ·have h3:¬ b.length<=1500:=fun h=>hc ⟨⟨h1,h2⟩,h⟩
     repeat'(intro t ht;first|(cases t<;>first|(cases ht;done)|(try simp only[zh_]at ht;try(exfalso;first|contradiction|omega)))|((first|refine zb_ ht ?_|refine ht ?_ ?_|refine ht.1 ?_ ?_|refine ht ?_)<;>clear ht))
     all_goals first
      | exact True.intro
      | contradiction
      | exact ⟨rfl,rfl⟩
      | (exfalso;omega)
      | (exfalso;simp_all;done)
    ·repeat'(intro t ht;first|(cases t<;>first|(cases ht;done)|(try simp only[zh_]at ht;try(exfalso;first|contradiction|omega)))|((first|refine zb_ ht ?_|refine ht ?_ ?_|refine ht.1 ?_ ?_|refine ht ?_)<;>clear ht))
     all_goals first
      | exact True.intro
      | contradiction
      | exact ⟨rfl,rfl⟩
      | (exfalso;simp_all;done)
   ·repeat'(intro t ht;first|(cases t<;>first|(cases ht;done)|(try simp only[zh_]at ht;try(exfalso;first|contradiction|omega)))|((first|refine zb_ ht ?_|refine ht ?_ ?_|refine ht.1 ?_ ?_|refine ht ?_)<;>clear ht))
    all_goals first
     | exact True.intro
     | contradiction
     | exact ⟨rfl,rfl⟩
     | (exfalso;simp_all;done)
 ·cases e
end Go.Eng
