/- Parts of the proof: V1, V3, V6. No condition. -/
import Derived.Test.YtiejmanmofemeaaGreatDoorProg
import Derived.Test.YtiejmanmofemeaaGreatDoorWB10
import Derived.KernelRfl
import Derived.Test.YtiejmanmofemeaaGreatDoorWB19
namespace Go.Eng
open Go.Proofs
set_option linter.unusedVariables false
set_option linter.unusedSimpArgs false
set_option maxRecDepth 100000
set_option maxHeartbeats 1000000
abbrev VIn:=Int × Int × Int × List AC × List Int × Unit
instance:DecidableEq (List Int × Unit):=inferInstance
instance:DecidableEq (List AC × List Int × Unit):=inferInstance
instance:DecidableEq (Int × List AC × List Int × Unit):=inferInstance
instance:DecidableEq (Int × Int × List AC × List Int × Unit):=inferInstance
instance:DecidableEq VIn:=inferInstance
theorem zkn_ {x y:VIn} (h:¬ (x.1=y.1/\x.2.1=y.2.1/\x.2.2.1=y.2.2.1/\x.2.2.2.1=y.2.2.2.1/\x.2.2.2.2.1=y.2.2.2.2.1)):¬ x=y:=fun e=>h (by rw [e];exact ⟨rfl,rfl,rfl,rfl,rfl⟩)
theorem zkN_ {x y:VIn} (h:x.1=y.1/\x.2.1=y.2.1/\x.2.2.1=y.2.2.1/\x.2.2.2.1=y.2.2.2.1/\x.2.2.2.2.1=y.2.2.2.2.1):x=y:=by
 obtain ⟨a0,a1,a2,a3,a4,_⟩:=x
 obtain ⟨b0,b1,b2,b3,b4,_⟩:=y
 simpa only [Prod.mk.injEq,and_true] using h
abbrev VBd:=Int × Int × Int × Int × List Int × Unit
instance:DecidableEq (List Int × Unit):=inferInstance
instance:DecidableEq (Int × List Int × Unit):=inferInstance
instance:DecidableEq (Int × Int × List Int × Unit):=inferInstance
instance:DecidableEq (Int × Int × Int × List Int × Unit):=inferInstance
instance:DecidableEq VBd:=inferInstance
theorem zkq_ {x y:VBd} (h:¬ (x.1=y.1/\x.2.1=y.2.1/\x.2.2.1=y.2.2.1/\x.2.2.2.1=y.2.2.2.1/\x.2.2.2.2.1=y.2.2.2.2.1)):¬ x=y:=fun e=>h (by rw [e];exact ⟨rfl,rfl,rfl,rfl,rfl⟩)
theorem zkQ_ {x y:VBd} (h:x.1=y.1/\x.2.1=y.2.1/\x.2.2.1=y.2.2.1/\x.2.2.2.1=y.2.2.2.1/\x.2.2.2.2.1=y.2.2.2.2.1):x=y:=by
 obtain ⟨a0,a1,a2,a3,a4,_⟩:=x
 obtain ⟨b0,b1,b2,b3,b4,_⟩:=y
 simpa only [Prod.mk.injEq,and_true] using h
abbrev VPr:=Int × Int × List Int × Unit
instance:DecidableEq (List Int × Unit):=inferInstance
instance:DecidableEq (Int × List Int × Unit):=inferInstance
instance:DecidableEq VPr:=inferInstance
theorem zkm_ {x y:VPr} (h:¬ (x.1=y.1/\x.2.1=y.2.1/\x.2.2.1=y.2.2.1)):¬ x=y:=fun e=>h (by rw [e];exact ⟨rfl,rfl,rfl⟩)
theorem zkM_ {x y:VPr} (h:x.1=y.1/\x.2.1=y.2.1/\x.2.2.1=y.2.2.1):x=y:=by
 obtain ⟨a0,a1,a2,_⟩:=x
 obtain ⟨b0,b1,b2,_⟩:=y
 simpa only [Prod.mk.injEq,and_true] using h
abbrev VQu:=Int × Int × List VPr × Unit
instance:DecidableEq (List VPr × Unit):=inferInstance
instance:DecidableEq (Int × List VPr × Unit):=inferInstance
instance:DecidableEq VQu:=inferInstance
theorem zkl_ {x y:VQu} (h:¬ (x.1=y.1/\x.2.1=y.2.1/\x.2.2.1=y.2.2.1)):¬ x=y:=fun e=>h (by rw [e];exact ⟨rfl,rfl,rfl⟩)
theorem zkL_ {x y:VQu} (h:x.1=y.1/\x.2.1=y.2.1/\x.2.2.1=y.2.2.1):x=y:=by
 obtain ⟨a0,a1,a2,_⟩:=x
 obtain ⟨b0,b1,b2,_⟩:=y
 simpa only [Prod.mk.injEq,and_true] using h
abbrev VFe:=Int × List Int × List Int × Unit
instance:DecidableEq (List Int × Unit):=inferInstance
instance:DecidableEq (List Int × List Int × Unit):=inferInstance
instance:DecidableEq VFe:=inferInstance
theorem zko_ {x y:VFe} (h:¬ (x.1=y.1/\x.2.1=y.2.1/\x.2.2.1=y.2.2.1)):¬ x=y:=fun e=>h (by rw [e];exact ⟨rfl,rfl,rfl⟩)
theorem zkO_ {x y:VFe} (h:x.1=y.1/\x.2.1=y.2.1/\x.2.2.1=y.2.2.1):x=y:=by
 obtain ⟨a0,a1,a2,_⟩:=x
 obtain ⟨b0,b1,b2,_⟩:=y
 simpa only [Prod.mk.injEq,and_true] using h
abbrev VTb:=Int × List Int × Int × Int × Int × Int × List VFe × Unit
instance:DecidableEq (List VFe × Unit):=inferInstance
instance:DecidableEq (Int × List VFe × Unit):=inferInstance
instance:DecidableEq (Int × Int × List VFe × Unit):=inferInstance
instance:DecidableEq (Int × Int × Int × List VFe × Unit):=inferInstance
instance:DecidableEq (Int × Int × Int × Int × List VFe × Unit):=inferInstance
instance:DecidableEq (List Int × Int × Int × Int × Int × List VFe × Unit):=inferInstance
instance:DecidableEq VTb:=inferInstance
theorem zkk_ {x y:VTb} (h:¬ (x.1=y.1/\x.2.1=y.2.1/\x.2.2.1=y.2.2.1/\x.2.2.2.1=y.2.2.2.1/\x.2.2.2.2.1=y.2.2.2.2.1/\x.2.2.2.2.2.1=y.2.2.2.2.2.1/\x.2.2.2.2.2.2.1=y.2.2.2.2.2.2.1)):¬ x=y:=fun e=>h (by rw [e];exact ⟨rfl,rfl,rfl,rfl,rfl,rfl,rfl⟩)
theorem zkK_ {x y:VTb} (h:x.1=y.1/\x.2.1=y.2.1/\x.2.2.1=y.2.2.1/\x.2.2.2.1=y.2.2.2.1/\x.2.2.2.2.1=y.2.2.2.2.1/\x.2.2.2.2.2.1=y.2.2.2.2.2.1/\x.2.2.2.2.2.2.1=y.2.2.2.2.2.2.1):x=y:=by
 obtain ⟨a0,a1,a2,a3,a4,a5,a6,_⟩:=x
 obtain ⟨b0,b1,b2,b3,b4,b5,b6,_⟩:=y
 simpa only [Prod.mk.injEq,and_true] using h
abbrev VEl:=Int × List Int × Unit
instance:DecidableEq (List Int × Unit):=inferInstance
instance:DecidableEq VEl:=inferInstance
theorem zkp_ {x y:VEl} (h:¬ (x.1=y.1/\x.2.1=y.2.1)):¬ x=y:=fun e=>h (by rw [e];exact ⟨rfl,rfl⟩)
theorem zkP_ {x y:VEl} (h:x.1=y.1/\x.2.1=y.2.1):x=y:=by
 obtain ⟨a0,a1,_⟩:=x
 obtain ⟨b0,b1,_⟩:=y
 simpa only [Prod.mk.injEq,and_true] using h
abbrev VPa:=List Int × List (List Int) × List OV × List VIn × List BK × List VBd × List (List Int) × List PV × List VTb × List Int × Unit
instance:DecidableEq (List Int × Unit):=inferInstance
instance:DecidableEq (List VTb × List Int × Unit):=inferInstance
instance:DecidableEq (List PV × List VTb × List Int × Unit):=inferInstance
instance:DecidableEq (List (List Int) × List PV × List VTb × List Int × Unit):=inferInstance
instance:DecidableEq (List VBd × List (List Int) × List PV × List VTb × List Int × Unit):=inferInstance
instance:DecidableEq (List BK × List VBd × List (List Int) × List PV × List VTb × List Int × Unit):=inferInstance
instance:DecidableEq (List VIn × List BK × List VBd × List (List Int) × List PV × List VTb × List Int × Unit):=inferInstance
instance:DecidableEq (List OV × List VIn × List BK × List VBd × List (List Int) × List PV × List VTb × List Int × Unit):=inferInstance
instance:DecidableEq (List (List Int) × List OV × List VIn × List BK × List VBd × List (List Int) × List PV × List VTb × List Int × Unit):=inferInstance
instance:DecidableEq VPa:=inferInstance
abbrev VMs:=Int × Int × List Int × List Int × List VEl × List OV × List AC × List VIn × List BK × List VBd × List VQu × List PV × Int × Int × List VPa × Unit
instance:DecidableEq (List VPa × Unit):=inferInstance
instance:DecidableEq (Int × List VPa × Unit):=inferInstance
instance:DecidableEq (Int × Int × List VPa × Unit):=inferInstance
instance:DecidableEq (List PV × Int × Int × List VPa × Unit):=inferInstance
instance:DecidableEq (List VQu × List PV × Int × Int × List VPa × Unit):=inferInstance
instance:DecidableEq (List VBd × List VQu × List PV × Int × Int × List VPa × Unit):=inferInstance
instance:DecidableEq (List BK × List VBd × List VQu × List PV × Int × Int × List VPa × Unit):=inferInstance
instance:DecidableEq (List VIn × List BK × List VBd × List VQu × List PV × Int × Int × List VPa × Unit):=inferInstance
instance:DecidableEq (List AC × List VIn × List BK × List VBd × List VQu × List PV × Int × Int × List VPa × Unit):=inferInstance
instance:DecidableEq (List OV × List AC × List VIn × List BK × List VBd × List VQu × List PV × Int × Int × List VPa × Unit):=inferInstance
instance:DecidableEq (List VEl × List OV × List AC × List VIn × List BK × List VBd × List VQu × List PV × Int × Int × List VPa × Unit):=inferInstance
instance:DecidableEq (List Int × List VEl × List OV × List AC × List VIn × List BK × List VBd × List VQu × List PV × Int × Int × List VPa × Unit):=inferInstance
instance:DecidableEq (List Int × List Int × List VEl × List OV × List AC × List VIn × List BK × List VBd × List VQu × List PV × Int × Int × List VPa × Unit):=inferInstance
instance:DecidableEq (Int × List Int × List Int × List VEl × List OV × List AC × List VIn × List BK × List VBd × List VQu × List PV × Int × Int × List VPa × Unit):=inferInstance
instance:DecidableEq VMs:=inferInstance
def zbJ_:IR:=
(sq (kr [0,1] [oD 4 (.mov cF)])
(sq (sq (kr [0,1] [oM 6 0,
oE 7 6,
oM 8 1,
oE 9 8,
oB 10 .neq 7 9])
(.cond 10
(sq (.reg [oD 4 (.mov cF)])
.ret)
.skip))
(sq (sq (kr [0,1] [oD 5 (.mov (cI 0))])
(.block 0
(.loop
(sq (sq (kr [0,1,5] [oM 11 5,
oM 12 0,
oE 13 12,
oB 14 .lss 11 13])
(.cond 14
.skip
(.exit 0)))
(sq (.block 1
(sq (kd [0,1,5] [(oM 17 0,[]),
(oM 18 5,[0]),
(oI 19 1 17 18,[]),
(oL 20 19,[]),
(oM 21 1,[0,0,0,0]),
(oM 22 5,[0,0,0,0,0]),
(oI 23 1 21 22,[2,0,0,0]),
(oL 24 23,[3,0,0,0]),
(oB 25 .neq 20 24,[])])
(.cond 25
(sq (kr [] [oD 4 (.mov cF)])
.ret)
.skip)))
(kr [0,1,5] [oM 15 5,
oB 16 .add 15 (cI 1),
oM 5 16]))))))
(sq (kr [] [oD 4 (.mov cT)])
.ret))))
def zal_:List RD:=[.tmp 4 true none]
theorem zaW_:zn_ Tryz.prog Tryz.f90 zbJ_ zal_=true:=by kernel_rfl
def K9_:List AV->List Obj->Option (Prop × AV)
 | [.imm (.int .u64) a,.imm (.int .u64) b],[]=>some ((True,.bool (decide ((a:List Int)=b))))
 | _,_=>none
theorem JC_:zd_ Tryz.prog 90 (RoF K9_).sum:=by
 refine zi_ Tryz.func90 zaW_ (zc_ _) fun args objs p v e=>?_
 unfold K9_ at e
 split at e
 ·rename_i a b
  cases e
  refine ⟨rfl,fun hw ho hp=>?_⟩
  change List Int at a
  change List Int at b
  change List Int at a
  change List Int at b
  have hl:a.length<=maxLen:=(hw (.imm (.int .u64) a) (by simp)).2
  unfold maxLen at hl
  clear hw ho
  repeat'(intro t ht;first|(cases t<;>first|(cases ht;done)|(try simp only[zg_]at ht))|((first|refine zb_ ht ?_|refine ht ?_ ?_|refine ht.1 ?_ ?_|refine ht ?_)<;>clear ht))
  all_goals first
   | (have hne:a ≠ b:=fun h=>(by assumption:¬ (a.length:Int)=b.length) (by rw [h])
      refine ⟨?_,rfl⟩;rw [decide_eq_false hne];done)
   | (intro r h1 h2;clear h1;refine h2 ⟨[0,1,5],Nat,(fun i=>i<=a.length/\a.take i=b.take i),fun i=>[.imm (.int .u64) a,.imm (.int .u64) b,.int .i64 i],fun _=>[],fun i=>a.length - i,⟨0,⟨Nat.zero_le _,rfl⟩,rfl,rfl⟩,?_⟩;clear h2)
  rintro i ⟨hi,he⟩
  have hl2:a.length=b.length:=by omega
  repeat'(intro t ht;first|(cases t<;>first|(cases ht;done)|(try simp only[zg_]at ht;try(exfalso;first|contradiction|omega)))|((first|refine zb_ ht ?_|refine ht ?_ ?_|refine ht.1 ?_ ?_|refine ht ?_)<;>clear ht))
  all_goals first
   | exact True.intro
   | ((try simp only [zk_,zl_,zj_] at*);omega)
   | (have e:=Kn_ he (by omega) hl2
      refine ⟨?_,rfl⟩;rw [decide_eq_true e];done)
   | (have hne:a ≠ b:=Xs_ (d:=0) (i:=i) (by assumption)
      refine ⟨?_,rfl⟩;rw [decide_eq_false hne];done)
   | exact ⟨i+1,⟨by omega,Qg_ he (by omega) hl2 (d:=0) (by assumption)⟩,by (try simp only [zk_,zl_,zj_] at*);omega,rfl,rfl⟩
   | skip
 ·cases e
def zby_:IR:=
(sq (kr [0,1] [oD 4 (.mov cF)])
(sq (sq (kr [0,1] [oM 8 0,
oE 9 8,
oM 10 1,
oE 11 10,
oB 12 .neq 9 11])
(.cond 12
(sq (.reg [oD 4 (.mov cF)])
.ret)
.skip))
(sq (sq (kr [0,1] [oD 5 (.mov (cI 0))])
(.block 0
(.loop
(sq (sq (kr [0,1,5] [oM 13 5,
oM 14 0,
oE 15 14,
oB 16 .lss 13 15])
(.cond 16
.skip
(.exit 0)))
(sq (.block 1
(sq (kd [0,1,5] [(oM 19 0,[]),
(oM 20 5,[0]),
(oI 21 5 19 20,[]),
(oK 22 5 21,[]),
(oM 23 1,[0,0,0,0]),
(oM 24 5,[0,0,0,0,0]),
(oI 25 5 23 24,[2,0,0,0]),
(oK 26 5 25,[3,0,0,0]),
(oD 6 (.box [.int .i64 0,.int .u64 0,.int .u64 0,.int .u64 0,.imm (.int .u8) []]),[0,0,0,0,0,0,0,0]),
(oD 7 (.box [.int .i64 0,.int .u64 0,.int .u64 0,.int .u64 0,.imm (.int .u8) []]),[0,0,0,0,0,0,0,0,0]),
(oS 5 6 22,[2,0,0,0]),
(oS 5 7 26,[])])
(sq (kr [0,1,5,6,7] [oA 27 0 6,
oL 28 27,
oA 29 0 7,
oL 30 29,
oB 31 .eql 28 30,
oM 32 31,
oT 32 33 (.fieldAddr 1 6),
oT 32 34 (.load none 33),
oT 32 35 (.fieldAddr 1 7),
oT 32 36 (.load none 35),
oT 32 37 (.bin .eql 34 36),
oP 38 32 37 cF,
oM 39 38,
oT 39 40 (.fieldAddr 2 6),
oT 39 41 (.load none 40),
oT 39 42 (.fieldAddr 2 7),
oT 39 43 (.load none 42),
oT 39 44 (.bin .eql 41 43),
oP 45 39 44 cF,
oM 46 45,
oT 46 47 (.fieldAddr 3 6),
oT 46 48 (.load none 47),
oT 46 49 (.fieldAddr 3 7),
oT 46 50 (.load none 49),
oT 46 51 (.bin .eql 48 50),
oP 52 46 51 cF,
oM 53 52,
oT 53 54 (.fieldAddr 4 6),
oT 53 55 (.load none 54),
oT 53 56 (.fieldAddr 4 7),
oT 53 57 (.load none 56),
oT 53 58 (.call false (.f 27) [55,57]),
oP 59 53 58 cF,
oD 60 (.un .not 59)])
(.cond 60
(sq (kr [] [oD 4 (.mov cF)])
.ret)
.skip))))
(kr [0,1,5] [oM 17 5,
oB 18 .add 17 (cI 1),
oM 5 18]))))))
(sq (kr [] [oD 4 (.mov cT)])
.ret))))
def zaa_:List RD:=[.tmp 4 true none]
theorem zaL_:zn_ Tryz.prog Tryz.f95 zby_ zaa_=true:=by kernel_rfl
def wu_:List AV->List Obj->Option (Prop × AV)
 | [.imm (.cons (.int .i64) (.cons (.int .u64) (.cons (.int .u64) (.cons (.int .u64) (.cons (.sl (.int .u8)) .nil))))) a,.imm (.cons (.int .i64) (.cons (.int .u64) (.cons (.int .u64) (.cons (.int .u64) (.cons (.sl (.int .u8)) .nil))))) b],[]=>some ((True,.bool (decide ((a:List VBd)=b))))
 | _,_=>none
theorem yU_:zd_ Tryz.prog 95 (RoF wu_).sum:=by
 refine zi_ Tryz.func95 zaL_ (za_ (s:=RoF z1_) zQ_ (zc_ _)) fun args objs p v e=>?_
 unfold wu_ at e
 split at e
 ·rename_i a b
  cases e
  refine ⟨rfl,fun hw ho hp=>?_⟩
  change List VBd at a
  change List VBd at b
  have hl:a.length<=maxLen:=(hw (.imm Y5 a) (by simp)).2
  unfold maxLen at hl
  clear hw ho
  repeat'(intro t ht;first|(cases t<;>first|(cases ht;done)|(try simp only[zg_]at ht))|((first|refine zb_ ht ?_|refine ht ?_ ?_|refine ht.1 ?_ ?_|refine ht ?_)<;>clear ht))
  all_goals first
   | (have hne:a ≠ b:=fun h=>(by assumption:¬ (a.length:Int)=b.length) (by rw [h])
      refine ⟨?_,rfl⟩;rw [decide_eq_false hne];done)
   | (intro r h1 h2;clear h1;refine h2 ⟨[0,1,5],Nat,(fun i=>i<=a.length/\a.take i=b.take i),fun i=>[.imm Y5 a,.imm Y5 b,.int .i64 i],fun _=>[],fun i=>a.length - i,⟨0,⟨Nat.zero_le _,rfl⟩,rfl,rfl⟩,?_⟩;clear h2)
  rintro i ⟨hi,he⟩
  have hl2:a.length=b.length:=by omega
  repeat'(intro t ht;first|(cases t<;>first|(cases ht;done)|(try simp only[zg_]at ht;try(exfalso;first|contradiction|omega)))|((first|refine zb_ ht ?_|refine ht ?_ ?_|refine ht.1 ?_ ?_|refine ht ?_)<;>clear ht))
  all_goals (try generalize (Ty.dflt Y5)=od at*)
  all_goals first
   | exact True.intro
   | ((try simp only [zk_,zl_,zj_] at*);omega)
   | (have e:=Kn_ he (by omega) hl2
      refine ⟨?_,rfl⟩;rw [decide_eq_true e];done)
   | (have hne:a ≠ b:=Xs_ (d:=od) (i:=i) (zkq_ fun h=>by simp_all)
      refine ⟨?_,rfl⟩;rw [decide_eq_false hne];done)
   | exact ⟨i+1,⟨by omega,Qg_ he (by omega) hl2 (d:=od) (zkQ_ (by simp_all))⟩,by (try simp only [zk_,zl_,zj_] at*);omega,rfl,rfl⟩
   | skip
 ·cases e
def zbw_:IR:=
(sq (kr [0,1] [oD 4 (.mov cF)])
(sq (sq (kr [0,1] [oM 6 0,
oE 7 6,
oM 8 1,
oE 9 8,
oB 10 .neq 7 9])
(.cond 10
(sq (.reg [oD 4 (.mov cF)])
.ret)
.skip))
(sq (sq (kr [0,1] [oD 5 (.mov (cI 0))])
(.block 0
(.loop
(sq (sq (kr [0,1,5] [oM 11 5,
oM 12 0,
oE 13 12,
oB 14 .lss 11 13])
(.cond 14
.skip
(.exit 0)))
(sq (.block 1
(sq (kd [0,1,5] [(oM 17 0,[]),
(oM 18 5,[0]),
(oI 19 3 17 18,[]),
(oA 20 0 19,[]),
(oL 21 20,[]),
(oM 22 1,[0,0,0,0,0]),
(oM 23 5,[0,0,0,0,0,0]),
(oI 24 3 22 23,[2,0,0,0,0]),
(oA 25 0 24,[3,0,0,0,0]),
(oL 26 25,[4,0,0,0,0]),
(oB 27 .neq 21 26,[]),
(oM 28 27,[]),
(oF 28 29 (.mov 0),[]),
(oF 28 30 (.mov 5),[0]),
(oF 28 31 (.indexSl 3 29 30),[]),
(oF 28 32 (.fieldAddr 1 31),[]),
(oF 28 33 (.load none 32),[]),
(oF 28 34 (.mov 1),[0,0,0,0,0]),
(oF 28 35 (.mov 5),[0,0,0,0,0,0]),
(oF 28 36 (.indexSl 3 34 35),[2,0,0,0,0]),
(oF 28 37 (.fieldAddr 1 36),[3,0,0,0,0]),
(oF 28 38 (.load none 37),[4,0,0,0,0]),
(oF 28 39 (.bin .neq 33 38),[]),
(oP 40 28 cT 39,[]),
(oM 41 40,[]),
(oF 41 42 (.mov 0),[]),
(oF 41 43 (.mov 5),[0]),
(oF 41 44 (.indexSl 3 42 43),[]),
(oF 41 45 (.fieldAddr 2 44),[]),
(oF 41 46 (.load none 45),[]),
(oF 41 47 (.mov 1),[0,0,0,0,0]),
(oF 41 48 (.mov 5),[0,0,0,0,0,0]),
(oF 41 49 (.indexSl 3 47 48),[2,0,0,0,0]),
(oF 41 50 (.fieldAddr 2 49),[3,0,0,0,0]),
(oF 41 51 (.load none 50),[4,0,0,0,0]),
(oF 41 52 (.call false (.f 27) [46,51]),[]),
(oF 41 53 (.un .not 52),[]),
(oP 54 41 cT 53,[])])
(.cond 54
(sq (kr [] [oD 4 (.mov cF)])
.ret)
.skip)))
(kr [0,1,5] [oM 15 5,
oB 16 .add 15 (cI 1),
oM 5 16]))))))
(sq (kr [] [oD 4 (.mov cT)])
.ret))))
def B8_:List RD:=[.tmp 4 true none]
theorem zaJ_:zn_ Tryz.prog Tryz.f154 zbw_ B8_=true:=by kernel_rfl
def yt_:List AV->List Obj->Option (Prop × AV)
 | [.imm (.cons (.int .i64) (.cons (.int .u64) (.cons (.sl (.int .u8)) .nil))) a,.imm (.cons (.int .i64) (.cons (.int .u64) (.cons (.sl (.int .u8)) .nil))) b],[]=>some ((True,.bool (decide ((a:List VPr)=b))))
 | _,_=>none
theorem h9_:zd_ Tryz.prog 154 (RoF yt_).sum:=by
 refine zi_ Tryz.func154 zaJ_ (za_ (s:=RoF z1_) zQ_ (zc_ _)) fun args objs p v e=>?_
 unfold yt_ at e
 split at e
 ·rename_i a b
  cases e
  refine ⟨rfl,fun hw ho hp=>?_⟩
  change List VPr at a
  change List VPr at b
  have hl:a.length<=maxLen:=(hw (.imm Y6 a) (by simp)).2
  unfold maxLen at hl
  clear hw ho
  repeat'(intro t ht;first|(cases t<;>first|(cases ht;done)|(try simp only[zg_]at ht))|((first|refine zb_ ht ?_|refine ht ?_ ?_|refine ht.1 ?_ ?_|refine ht ?_)<;>clear ht))
  all_goals first
   | (have hne:a ≠ b:=fun h=>(by assumption:¬ (a.length:Int)=b.length) (by rw [h])
      refine ⟨?_,rfl⟩;rw [decide_eq_false hne];done)
   | (intro r h1 h2;clear h1;refine h2 ⟨[0,1,5],Nat,(fun i=>i<=a.length/\a.take i=b.take i),fun i=>[.imm Y6 a,.imm Y6 b,.int .i64 i],fun _=>[],fun i=>a.length - i,⟨0,⟨Nat.zero_le _,rfl⟩,rfl,rfl⟩,?_⟩;clear h2)
  rintro i ⟨hi,he⟩
  have hl2:a.length=b.length:=by omega
  repeat'(intro t ht;first|(cases t<;>first|(cases ht;done)|(try simp only[zg_]at ht;try(exfalso;first|contradiction|omega)))|((first|refine zb_ ht ?_|refine ht ?_ ?_|refine ht.1 ?_ ?_|refine ht ?_)<;>clear ht))
  all_goals (try generalize (Ty.dflt Y6)=od at*)
  all_goals first
   | exact True.intro
   | ((try simp only [zk_,zl_,zj_] at*);omega)
   | (have e:=Kn_ he (by omega) hl2
      refine ⟨?_,rfl⟩;rw [decide_eq_true e];done)
   | (have hne:a ≠ b:=Xs_ (d:=od) (i:=i) (zkm_ fun h=>by simp_all)
      refine ⟨?_,rfl⟩;rw [decide_eq_false hne];done)
   | exact ⟨i+1,⟨by omega,Qg_ he (by omega) hl2 (d:=od) (zkM_ (by simp_all))⟩,by (try simp only [zk_,zl_,zj_] at*);omega,rfl,rfl⟩
   | skip
 ·cases e
def zbx_:IR:=
(sq (kr [0,1] [oD 4 (.mov cF)])
(sq (sq (kr [0,1] [oM 8 0,
oE 9 8,
oM 10 1,
oE 11 10,
oB 12 .neq 9 11])
(.cond 12
(sq (.reg [oD 4 (.mov cF)])
.ret)
.skip))
(sq (sq (kr [0,1] [oD 5 (.mov (cI 0))])
(.block 0
(.loop
(sq (sq (kr [0,1,5] [oM 13 5,
oM 14 0,
oE 15 14,
oB 16 .lss 13 15])
(.cond 16
.skip
(.exit 0)))
(sq (.block 1
(sq (kd [0,1,5] [(oM 19 0,[]),
(oM 20 5,[0]),
(oI 21 3 19 20,[]),
(oK 22 3 21,[]),
(oM 23 1,[0,0,0,0]),
(oM 24 5,[0,0,0,0,0]),
(oI 25 3 23 24,[2,0,0,0]),
(oK 26 3 25,[3,0,0,0]),
(oD 6 (.box [.int .u64 0,.int .u64 0,.imm Y6 []]),[0,0,0,0,0,0,0,0]),
(oD 7 (.box [.int .u64 0,.int .u64 0,.imm Y6 []]),[0,0,0,0,0,0,0,0,0]),
(oS 3 6 22,[2,0,0,0]),
(oS 3 7 26,[])])
(sq (kr [0,1,5,6,7] [oA 27 0 6,
oL 28 27,
oA 29 0 7,
oL 30 29,
oB 31 .eql 28 30,
oM 32 31,
oT 32 33 (.fieldAddr 1 6),
oT 32 34 (.load none 33),
oT 32 35 (.fieldAddr 1 7),
oT 32 36 (.load none 35),
oT 32 37 (.bin .eql 34 36),
oP 38 32 37 cF,
oM 39 38,
oT 39 40 (.fieldAddr 2 6),
oT 39 41 (.load none 40),
oT 39 42 (.fieldAddr 2 7),
oT 39 43 (.load none 42),
oT 39 44 (.call false (.f 154) [41,43]),
oP 45 39 44 cF,
oD 46 (.un .not 45)])
(.cond 46
(sq (kr [] [oD 4 (.mov cF)])
.ret)
.skip))))
(kr [0,1,5] [oM 17 5,
oB 18 .add 17 (cI 1),
oM 5 18]))))))
(sq (kr [] [oD 4 (.mov cT)])
.ret))))
def B9_:List RD:=[.tmp 4 true none]
theorem zaK_:zn_ Tryz.prog Tryz.f96 zbx_ B9_=true:=by kernel_rfl
def yu_:List AV->List Obj->Option (Prop × AV)
 | [.imm (.cons (.int .u64) (.cons (.int .u64) (.cons (.sl (.cons (.int .i64) (.cons (.int .u64) (.cons (.sl (.int .u8)) .nil)))) .nil))) a,.imm (.cons (.int .u64) (.cons (.int .u64) (.cons (.sl (.cons (.int .i64) (.cons (.int .u64) (.cons (.sl (.int .u8)) .nil)))) .nil))) b],[]=>some ((True,.bool (decide ((a:List VQu)=b))))
 | _,_=>none
theorem Ha_:zd_ Tryz.prog 96 (RoF yu_).sum:=by
 refine zi_ Tryz.func96 zaK_ (za_ (s:=RoF yt_) h9_ (zc_ _)) fun args objs p v e=>?_
 unfold yu_ at e
 split at e
 ·rename_i a b
  cases e
  refine ⟨rfl,fun hw ho hp=>?_⟩
  change List VQu at a
  change List VQu at b
  have hl:a.length<=maxLen:=(hw (.imm Y7 a) (by simp)).2
  unfold maxLen at hl
  clear hw ho
  repeat'(intro t ht;first|(cases t<;>first|(cases ht;done)|(try simp only[zg_]at ht))|((first|refine zb_ ht ?_|refine ht ?_ ?_|refine ht.1 ?_ ?_|refine ht ?_)<;>clear ht))
  all_goals first
   | (have hne:a ≠ b:=fun h=>(by assumption:¬ (a.length:Int)=b.length) (by rw [h])
      refine ⟨?_,rfl⟩;rw [decide_eq_false hne];done)
   | (intro r h1 h2;clear h1;refine h2 ⟨[0,1,5],Nat,(fun i=>i<=a.length/\a.take i=b.take i),fun i=>[.imm Y7 a,.imm Y7 b,.int .i64 i],fun _=>[],fun i=>a.length - i,⟨0,⟨Nat.zero_le _,rfl⟩,rfl,rfl⟩,?_⟩;clear h2)
  rintro i ⟨hi,he⟩
  have hl2:a.length=b.length:=by omega
  repeat'(intro t ht;first|(cases t<;>first|(cases ht;done)|(try simp only[zg_]at ht;try(exfalso;first|contradiction|omega)))|((first|refine zb_ ht ?_|refine ht ?_ ?_|refine ht.1 ?_ ?_|refine ht ?_)<;>clear ht))
  all_goals (try generalize (Ty.dflt Y7)=od at*)
  all_goals first
   | exact True.intro
   | ((try simp only [zk_,zl_,zj_] at*);omega)
   | (have e:=Kn_ he (by omega) hl2
      refine ⟨?_,rfl⟩;rw [decide_eq_true e];done)
   | (have hne:a ≠ b:=Xs_ (d:=od) (i:=i) (zkl_ fun h=>by simp_all)
      refine ⟨?_,rfl⟩;rw [decide_eq_false hne];done)
   | exact ⟨i+1,⟨by omega,Qg_ he (by omega) hl2 (d:=od) (zkL_ (by simp_all))⟩,by (try simp only [zk_,zl_,zj_] at*);omega,rfl,rfl⟩
   | skip
 ·cases e
def bQ_:IR:=
(sq (kr [0,1] [oD 4 (.mov cF)])
(sq (sq (kr [0,1] [oM 6 0,
oE 7 6,
oM 8 1,
oE 9 8,
oB 10 .neq 7 9])
(.cond 10
(sq (.reg [oD 4 (.mov cF)])
.ret)
.skip))
(sq (sq (kr [0,1] [oD 5 (.mov (cI 0))])
(.block 0
(.loop
(sq (sq (kr [0,1,5] [oM 11 5,
oM 12 0,
oE 13 12,
oB 14 .lss 11 13])
(.cond 14
.skip
(.exit 0)))
(sq (.block 1
(sq (kd [0,1,5] [(oM 17 0,[]),
(oM 18 5,[0]),
(oI 19 3 17 18,[]),
(oA 20 0 19,[]),
(oL 21 20,[]),
(oM 22 1,[0,0,0,0,0]),
(oM 23 5,[0,0,0,0,0,0]),
(oI 24 3 22 23,[2,0,0,0,0]),
(oA 25 0 24,[3,0,0,0,0]),
(oL 26 25,[4,0,0,0,0]),
(oB 27 .neq 21 26,[]),
(oM 28 27,[]),
(oF 28 29 (.mov 0),[]),
(oF 28 30 (.mov 5),[0]),
(oF 28 31 (.indexSl 3 29 30),[]),
(oF 28 32 (.fieldAddr 1 31),[]),
(oF 28 33 (.load none 32),[]),
(oF 28 34 (.mov 1),[0,0,0,0,0]),
(oF 28 35 (.mov 5),[0,0,0,0,0,0]),
(oF 28 36 (.indexSl 3 34 35),[2,0,0,0,0]),
(oF 28 37 (.fieldAddr 1 36),[3,0,0,0,0]),
(oF 28 38 (.load none 37),[4,0,0,0,0]),
(oF 28 39 (.call false (.f 90) [33,38]),[]),
(oF 28 40 (.un .not 39),[]),
(oP 41 28 cT 40,[]),
(oM 42 41,[]),
(oF 42 43 (.mov 0),[]),
(oF 42 44 (.mov 5),[0]),
(oF 42 45 (.indexSl 3 43 44),[]),
(oF 42 46 (.fieldAddr 2 45),[]),
(oF 42 47 (.load none 46),[]),
(oF 42 48 (.mov 1),[0,0,0,0,0]),
(oF 42 49 (.mov 5),[0,0,0,0,0,0]),
(oF 42 50 (.indexSl 3 48 49),[2,0,0,0,0]),
(oF 42 51 (.fieldAddr 2 50),[3,0,0,0,0]),
(oF 42 52 (.load none 51),[4,0,0,0,0]),
(oF 42 53 (.call false (.f 27) [47,52]),[]),
(oF 42 54 (.un .not 53),[]),
(oP 55 42 cT 54,[])])
(.cond 55
(sq (kr [] [oD 4 (.mov cF)])
.ret)
.skip)))
(kr [0,1,5] [oM 15 5,
oB 16 .add 15 (cI 1),
oM 5 16]))))))
(sq (kr [] [oD 4 (.mov cT)])
.ret))))
def HA_:List RD:=[.tmp 4 true none]
theorem H8_:zn_ Tryz.prog Tryz.f182 bQ_ HA_=true:=by kernel_rfl
def xI_:List AV->List Obj->Option (Prop × AV)
 | [.imm (.cons (.int .i64) (.cons (.sl (.int .u64)) (.cons (.sl (.int .u8)) .nil))) a,.imm (.cons (.int .i64) (.cons (.sl (.int .u64)) (.cons (.sl (.int .u8)) .nil))) b],[]=>some ((True,.bool (decide ((a:List VFe)=b))))
 | _,_=>none
theorem gp_:zd_ Tryz.prog 182 (RoF xI_).sum:=by
 refine zi_ Tryz.func182 H8_ (za_ (s:=RoF K9_) JC_ (za_ (s:=RoF z1_) zQ_ (zc_ _))) fun args objs p v e=>?_
 unfold xI_ at e
 split at e
 ·rename_i a b
  cases e
  refine ⟨rfl,fun hw ho hp=>?_⟩
  change List VFe at a
  change List VFe at b
  have hl:a.length<=maxLen:=(hw (.imm Y9 a) (by simp)).2
  unfold maxLen at hl
  clear hw ho
  repeat'(intro t ht;first|(cases t<;>first|(cases ht;done)|(try simp only[zg_]at ht))|((first|refine zb_ ht ?_|refine ht ?_ ?_|refine ht.1 ?_ ?_|refine ht ?_)<;>clear ht))
  all_goals first
   | (have hne:a ≠ b:=fun h=>(by assumption:¬ (a.length:Int)=b.length) (by rw [h])
      refine ⟨?_,rfl⟩;rw [decide_eq_false hne];done)
   | (intro r h1 h2;clear h1;refine h2 ⟨[0,1,5],Nat,(fun i=>i<=a.length/\a.take i=b.take i),fun i=>[.imm Y9 a,.imm Y9 b,.int .i64 i],fun _=>[],fun i=>a.length - i,⟨0,⟨Nat.zero_le _,rfl⟩,rfl,rfl⟩,?_⟩;clear h2)
  rintro i ⟨hi,he⟩
  have hl2:a.length=b.length:=by omega
  repeat'(intro t ht;first|(cases t<;>first|(cases ht;done)|(try simp only[zg_]at ht;try(exfalso;first|contradiction|omega)))|((first|refine zb_ ht ?_|refine ht ?_ ?_|refine ht.1 ?_ ?_|refine ht ?_)<;>clear ht))
  all_goals (try generalize (Ty.dflt Y9)=od at*)
  all_goals first
   | exact True.intro
   | ((try simp only [zk_,zl_,zj_] at*);omega)
   | (have e:=Kn_ he (by omega) hl2
      refine ⟨?_,rfl⟩;rw [decide_eq_true e];done)
   | (have hne:a ≠ b:=Xs_ (d:=od) (i:=i) (zko_ fun h=>by simp_all)
      refine ⟨?_,rfl⟩;rw [decide_eq_false hne];done)
   | exact ⟨i+1,⟨by omega,Qg_ he (by omega) hl2 (d:=od) (zkO_ (by simp_all))⟩,by (try simp only [zk_,zl_,zj_] at*);omega,rfl,rfl⟩
   | skip
 ·cases e
def zbu_:IR:=
(sq (kr [0,1] [oD 4 (.mov cF)])
(sq (sq (kr [0,1] [oM 8 0,
oE 9 8,
oM 10 1,
oE 11 10,
oB 12 .neq 9 11])
(.cond 12
(sq (.reg [oD 4 (.mov cF)])
.ret)
.skip))
(sq (sq (kr [0,1] [oD 5 (.mov (cI 0))])
(.block 0
(.loop
(sq (sq (kr [0,1,5] [oM 13 5,
oM 14 0,
oE 15 14,
oB 16 .lss 13 15])
(.cond 16
.skip
(.exit 0)))
(sq (.block 1
(sq (kd [0,1,5] [(oM 19 0,[]),
(oM 20 5,[0]),
(oI 21 7 19 20,[]),
(oK 22 7 21,[]),
(oM 23 1,[0,0,0,0]),
(oM 24 5,[0,0,0,0,0]),
(oI 25 7 23 24,[2,0,0,0]),
(oK 26 7 25,[3,0,0,0]),
(oD 6 (.box [.int .u64 0,.str [],.int .u64 0,.int .u64 0,.int .u64 0,.int .u64 0,.imm Y9 []]),[0,0,0,0,0,0,0,0]),
(oD 7 (.box [.int .u64 0,.str [],.int .u64 0,.int .u64 0,.int .u64 0,.int .u64 0,.imm Y9 []]),[0,0,0,0,0,0,0,0,0]),
(oS 7 6 22,[2,0,0,0]),
(oS 7 7 26,[])])
(sq (kr [0,1,5,6,7] [oA 27 0 6,
oL 28 27,
oA 29 0 7,
oL 30 29,
oB 31 .eql 28 30,
oM 32 31,
oT 32 33 (.fieldAddr 1 6),
oT 32 34 (.load none 33),
oT 32 35 (.fieldAddr 1 7),
oT 32 36 (.load none 35),
oT 32 37 (.bin .eql 34 36),
oP 38 32 37 cF,
oM 39 38,
oT 39 40 (.fieldAddr 2 6),
oT 39 41 (.load none 40),
oT 39 42 (.fieldAddr 2 7),
oT 39 43 (.load none 42),
oT 39 44 (.bin .eql 41 43),
oP 45 39 44 cF,
oM 46 45,
oT 46 47 (.fieldAddr 3 6),
oT 46 48 (.load none 47),
oT 46 49 (.fieldAddr 3 7),
oT 46 50 (.load none 49),
oT 46 51 (.bin .eql 48 50),
oP 52 46 51 cF,
oM 53 52,
oT 53 54 (.fieldAddr 4 6),
oT 53 55 (.load none 54),
oT 53 56 (.fieldAddr 4 7),
oT 53 57 (.load none 56),
oT 53 58 (.bin .eql 55 57),
oP 59 53 58 cF,
oM 60 59,
oT 60 61 (.fieldAddr 5 6),
oT 60 62 (.load none 61),
oT 60 63 (.fieldAddr 5 7),
oT 60 64 (.load none 63),
oT 60 65 (.bin .eql 62 64),
oP 66 60 65 cF,
oM 67 66,
oT 67 68 (.fieldAddr 6 6),
oT 67 69 (.load none 68),
oT 67 70 (.fieldAddr 6 7),
oT 67 71 (.load none 70),
oT 67 72 (.call false (.f 182) [69,71]),
oP 73 67 72 cF,
oD 74 (.un .not 73)])
(.cond 74
(sq (kr [] [oD 4 (.mov cF)])
.ret)
.skip))))
(kr [0,1,5] [oM 17 5,
oB 18 .add 17 (cI 1),
oM 5 18]))))))
(sq (kr [] [oD 4 (.mov cT)])
.ret))))
def B6_:List RD:=[.tmp 4 true none]
theorem zaH_:zn_ Tryz.prog Tryz.f152 zbu_ B6_=true:=by kernel_rfl
def ys_:List AV->List Obj->Option (Prop × AV)
 | [.imm ty0 a,.imm ty1 b],[]=>qb_ ty0 YA a fun a=>qb_ ty1 YA b fun b=>some ((True,.bool (decide ((a:List VTb)=b))))
 | _,_=>none
theorem h8_:zd_ Tryz.prog 152 (RoF ys_).sum:=by
 refine zi_ Tryz.func152 zaH_ (za_ (s:=RoF xI_) gp_ (zc_ _)) fun args objs p v e=>?_
 unfold ys_ at e
 split at e
 ·rename_i ty0 a ty1 b
  obtain rfl:=zZ_ e
  replace e:=z0_ e
  obtain rfl:=zZ_ e
  replace e:=z0_ e
  cases e
  refine ⟨rfl,fun hw ho hp=>?_⟩
  change List VTb at a
  change List VTb at b
  have hl:a.length<=maxLen:=(hw (.imm YA a) (by simp)).2
  unfold maxLen at hl
  clear hw ho
  repeat'(intro t ht;first|(cases t<;>first|(cases ht;done)|(try simp only[zg_]at ht))|((first|refine zb_ ht ?_|refine ht ?_ ?_|refine ht.1 ?_ ?_|refine ht ?_)<;>clear ht))
  all_goals first
   | (have hne:a ≠ b:=fun h=>(by assumption:¬ (a.length:Int)=b.length) (by rw [h])
      refine ⟨?_,rfl⟩;rw [decide_eq_false hne];done)
   | (intro r h1 h2;clear h1;refine h2 ⟨[0,1,5],Nat,(fun i=>i<=a.length/\a.take i=b.take i),fun i=>[.imm YA a,.imm YA b,.int .i64 i],fun _=>[],fun i=>a.length - i,⟨0,⟨Nat.zero_le _,rfl⟩,rfl,rfl⟩,?_⟩;clear h2)
  rintro i ⟨hi,he⟩
  have hl2:a.length=b.length:=by omega
  repeat'(intro t ht;first|(cases t<;>first|(cases ht;done)|(try simp only[zg_]at ht;try(exfalso;first|contradiction|omega)))|((first|refine zb_ ht ?_|refine ht ?_ ?_|refine ht.1 ?_ ?_|refine ht ?_)<;>clear ht))
  all_goals (try generalize (Ty.dflt YA)=od at*)
  all_goals first
   | exact True.intro
   | ((try simp only [zk_,zl_,zj_] at*);omega)
   | (have e:=Kn_ he (by omega) hl2
      refine ⟨?_,rfl⟩;rw [decide_eq_true e];done)
   | (have hne:a ≠ b:=Xs_ (d:=od) (i:=i) (zkk_ fun h=>by simp_all)
      refine ⟨?_,rfl⟩;rw [decide_eq_false hne];done)
   | exact ⟨i+1,⟨by omega,Qg_ he (by omega) hl2 (d:=od) (zkK_ (by simp_all))⟩,by (try simp only [zk_,zl_,zj_] at*);omega,rfl,rfl⟩
   | skip
 ·cases e
def zbA_:IR:=
(sq (kr [0,1] [oD 4 (.mov cF)])
(sq (sq (kr [0,1] [oM 8 0,
oE 9 8,
oM 10 1,
oE 11 10,
oB 12 .neq 9 11])
(.cond 12
(sq (.reg [oD 4 (.mov cF)])
.ret)
.skip))
(sq (sq (kr [0,1] [oD 5 (.mov (cI 0))])
(.block 0
(.loop
(sq (sq (kr [0,1,5] [oM 13 5,
oM 14 0,
oE 15 14,
oB 16 .lss 13 15])
(.cond 16
.skip
(.exit 0)))
(sq (.block 1
(sq (kd [0,1,5] [(oM 19 0,[]),
(oM 20 5,[0]),
(oI 21 5 19 20,[]),
(oK 22 5 21,[]),
(oM 23 1,[0,0,0,0]),
(oM 24 5,[0,0,0,0,0]),
(oI 25 5 23 24,[2,0,0,0]),
(oK 26 5 25,[3,0,0,0]),
(oD 6 (.box [.int .i64 0,.int .u64 0,.int .u64 0,.imm Y2 [],.imm (.int .u8) []]),[0,0,0,0,0,0,0,0]),
(oD 7 (.box [.int .i64 0,.int .u64 0,.int .u64 0,.imm Y2 [],.imm (.int .u8) []]),[0,0,0,0,0,0,0,0,0]),
(oS 5 6 22,[2,0,0,0]),
(oS 5 7 26,[])])
(sq (kr [0,1,5,6,7] [oA 27 0 6,
oL 28 27,
oA 29 0 7,
oL 30 29,
oB 31 .neq 28 30,
oM 32 31,
oF 32 33 (.fieldAddr 1 6),
oF 32 34 (.load none 33),
oF 32 35 (.fieldAddr 1 7),
oF 32 36 (.load none 35),
oF 32 37 (.bin .neq 34 36),
oP 38 32 cT 37,
oM 39 38,
oF 39 40 (.fieldAddr 2 6),
oF 39 41 (.load none 40),
oF 39 42 (.fieldAddr 2 7),
oF 39 43 (.load none 42),
oF 39 44 (.bin .neq 41 43),
oP 45 39 cT 44,
oM 46 45,
oF 46 47 (.fieldAddr 3 6),
oF 46 48 (.load none 47),
oF 46 49 (.fieldAddr 3 7),
oF 46 50 (.load none 49),
oF 46 51 (.call false (.f 59) [48,50]),
oF 46 52 (.un .not 51),
oP 53 46 cT 52,
oM 54 53,
oF 54 55 (.fieldAddr 4 6),
oF 54 56 (.load none 55),
oF 54 57 (.fieldAddr 4 7),
oF 54 58 (.load none 57),
oF 54 59 (.call false (.f 27) [56,58]),
oF 54 60 (.un .not 59),
oP 61 54 cT 60])
(.cond 61
(sq (kr [] [oD 4 (.mov cF)])
.ret)
.skip))))
(kr [0,1,5] [oM 17 5,
oB 18 .add 17 (cI 1),
oM 5 18]))))))
(sq (kr [] [oD 4 (.mov cT)])
.ret))))
def zac_:List RD:=[.tmp 4 true none]
theorem zaN_:zn_ Tryz.prog Tryz.f19 zbA_ zac_=true:=by kernel_rfl
def ww_:List AV->List Obj->Option (Prop × AV)
 | [.imm ty0 a,.imm ty1 b],[]=>qb_ ty0 Y3 a fun a=>qb_ ty1 Y3 b fun b=>some ((True,.bool (decide ((a:List VIn)=b))))
 | _,_=>none
theorem yW_:zd_ Tryz.prog 19 (RoF ww_).sum:=by
 refine zi_ Tryz.func19 zaN_ (za_ (s:=RoF K5_) JA_ (za_ (s:=RoF z1_) zQ_ (zc_ _))) fun args objs p v e=>?_
 unfold ww_ at e
 split at e
 ·rename_i ty0 a ty1 b
  obtain rfl:=zZ_ e
  replace e:=z0_ e
  obtain rfl:=zZ_ e
  replace e:=z0_ e
  cases e
  refine ⟨rfl,fun hw ho hp=>?_⟩
  change List VIn at a
  change List VIn at b
  have hl:a.length<=maxLen:=(hw (.imm Y3 a) (by simp)).2
  unfold maxLen at hl
  clear hw ho
  repeat'(intro t ht;first|(cases t<;>first|(cases ht;done)|(try simp only[zg_]at ht))|((first|refine zb_ ht ?_|refine ht ?_ ?_|refine ht.1 ?_ ?_|refine ht ?_)<;>clear ht))
  all_goals first
   | (have hne:a ≠ b:=fun h=>(by assumption:¬ (a.length:Int)=b.length) (by rw [h])
      refine ⟨?_,rfl⟩;rw [decide_eq_false hne];done)
   | (intro r h1 h2;clear h1;refine h2 ⟨[0,1,5],Nat,(fun i=>i<=a.length/\a.take i=b.take i),fun i=>[.imm Y3 a,.imm Y3 b,.int .i64 i],fun _=>[],fun i=>a.length - i,⟨0,⟨Nat.zero_le _,rfl⟩,rfl,rfl⟩,?_⟩;clear h2)
  rintro i ⟨hi,he⟩
  have hl2:a.length=b.length:=by omega
  repeat'(intro t ht;first|(cases t<;>first|(cases ht;done)|(try simp only[zg_]at ht;try(exfalso;first|contradiction|omega)))|((first|refine zb_ ht ?_|refine ht ?_ ?_|refine ht.1 ?_ ?_|refine ht ?_)<;>clear ht))
  all_goals (try generalize (Ty.dflt Y3)=od at*)
  all_goals first
   | exact True.intro
   | ((try simp only [zk_,zl_,zj_] at*);omega)
   | (have e:=Kn_ he (by omega) hl2
      refine ⟨?_,rfl⟩;rw [decide_eq_true e];done)
   | (have hne:a ≠ b:=Xs_ (d:=od) (i:=i) (zkn_ fun h=>by simp_all)
      refine ⟨?_,rfl⟩;rw [decide_eq_false hne];done)
   | exact ⟨i+1,⟨by omega,Qg_ he (by omega) hl2 (d:=od) (zkN_ (by simp_all))⟩,by (try simp only [zk_,zl_,zj_] at*);omega,rfl,rfl⟩
   | skip
 ·cases e
def bP_:IR:=
(sq (kr [0,1] [oD 4 (.mov cF)])
(sq (sq (kr [0,1] [oM 6 0,
oE 7 6,
oM 8 1,
oE 9 8,
oB 10 .neq 7 9])
(.cond 10
(sq (.reg [oD 4 (.mov cF)])
.ret)
.skip))
(sq (sq (kr [0,1] [oD 5 (.mov (cI 0))])
(.block 0
(.loop
(sq (sq (kr [0,1,5] [oM 11 5,
oM 12 0,
oE 13 12,
oB 14 .lss 11 13])
(.cond 14
.skip
(.exit 0)))
(sq (.block 1
(sq (kd [0,1,5] [(oM 17 0,[]),
(oM 18 5,[0]),
(oI 19 2 17 18,[]),
(oA 20 0 19,[]),
(oL 21 20,[]),
(oM 22 1,[0,0,0,0,0]),
(oM 23 5,[0,0,0,0,0,0]),
(oI 24 2 22 23,[2,0,0,0,0]),
(oA 25 0 24,[3,0,0,0,0]),
(oL 26 25,[4,0,0,0,0]),
(oB 27 .neq 21 26,[]),
(oM 28 27,[]),
(oF 28 29 (.mov 0),[]),
(oF 28 30 (.mov 5),[0]),
(oF 28 31 (.indexSl 2 29 30),[]),
(oF 28 32 (.fieldAddr 1 31),[]),
(oF 28 33 (.load none 32),[]),
(oF 28 34 (.mov 1),[0,0,0,0,0]),
(oF 28 35 (.mov 5),[0,0,0,0,0,0]),
(oF 28 36 (.indexSl 2 34 35),[2,0,0,0,0]),
(oF 28 37 (.fieldAddr 1 36),[3,0,0,0,0]),
(oF 28 38 (.load none 37),[4,0,0,0,0]),
(oF 28 39 (.call false (.f 27) [33,38]),[]),
(oF 28 40 (.un .not 39),[]),
(oP 41 28 cT 40,[])])
(.cond 41
(sq (kr [] [oD 4 (.mov cF)])
.ret)
.skip)))
(kr [0,1,5] [oM 15 5,
oB 16 .add 15 (cI 1),
oM 5 16]))))))
(sq (kr [] [oD 4 (.mov cT)])
.ret))))
def Hz_:List RD:=[.tmp 4 true none]
theorem H7_:zn_ Tryz.prog Tryz.f92 bP_ Hz_=true:=by kernel_rfl
def xH_:List AV->List Obj->Option (Prop × AV)
 | [.imm (.cons (.int .i64) (.cons (.sl (.int .u8)) .nil)) a,.imm (.cons (.int .i64) (.cons (.sl (.int .u8)) .nil)) b],[]=>some ((True,.bool (decide ((a:List VEl)=b))))
 | _,_=>none
theorem go_:zd_ Tryz.prog 92 (RoF xH_).sum:=by
 refine zi_ Tryz.func92 H7_ (za_ (s:=RoF z1_) zQ_ (zc_ _)) fun args objs p v e=>?_
 unfold xH_ at e
 split at e
 ·rename_i a b
  cases e
  refine ⟨rfl,fun hw ho hp=>?_⟩
  change List VEl at a
  change List VEl at b
  have hl:a.length<=maxLen:=(hw (.imm YB a) (by simp)).2
  unfold maxLen at hl
  clear hw ho
  repeat'(intro t ht;first|(cases t<;>first|(cases ht;done)|(try simp only[zg_]at ht))|((first|refine zb_ ht ?_|refine ht ?_ ?_|refine ht.1 ?_ ?_|refine ht ?_)<;>clear ht))
  all_goals first
   | (have hne:a ≠ b:=fun h=>(by assumption:¬ (a.length:Int)=b.length) (by rw [h])
      refine ⟨?_,rfl⟩;rw [decide_eq_false hne];done)
   | (intro r h1 h2;clear h1;refine h2 ⟨[0,1,5],Nat,(fun i=>i<=a.length/\a.take i=b.take i),fun i=>[.imm YB a,.imm YB b,.int .i64 i],fun _=>[],fun i=>a.length - i,⟨0,⟨Nat.zero_le _,rfl⟩,rfl,rfl⟩,?_⟩;clear h2)
  rintro i ⟨hi,he⟩
  have hl2:a.length=b.length:=by omega
  repeat'(intro t ht;first|(cases t<;>first|(cases ht;done)|(try simp only[zg_]at ht;try(exfalso;first|contradiction|omega)))|((first|refine zb_ ht ?_|refine ht ?_ ?_|refine ht.1 ?_ ?_|refine ht ?_)<;>clear ht))
  all_goals (try generalize (Ty.dflt YB)=od at*)
  all_goals first
   | exact True.intro
   | ((try simp only [zk_,zl_,zj_] at*);omega)
   | (have e:=Kn_ he (by omega) hl2
      refine ⟨?_,rfl⟩;rw [decide_eq_true e];done)
   | (have hne:a ≠ b:=Xs_ (d:=od) (i:=i) (zkp_ fun h=>by simp_all)
      refine ⟨?_,rfl⟩;rw [decide_eq_false hne];done)
   | exact ⟨i+1,⟨by omega,Qg_ he (by omega) hl2 (d:=od) (zkP_ (by simp_all))⟩,by (try simp only [zk_,zl_,zj_] at*);omega,rfl,rfl⟩
   | skip
 ·cases e
def fwBd (x:VBd):Bool:=decide (x.2.2.2.2.1.length<=500)
def vp_ (l:List VBd):Bool:=l.all fwBd && decide (l.length<=20)
def zdX_:IR:=
(sq (kr [0] [oD 2 (.mov cF)])
(sq (sq (.reg [oD 3 (.mov (cI 0))])
(.block 0
(.loop
(sq (sq (kr [0,3] [oM 4 3,
oM 5 0,
oE 6 5,
oB 7 .lss 4 6])
(.cond 7
.skip
(.exit 0)))
(sq (.block 1
(sq (kr [0,3] [oM 10 0,
oM 11 3,
oI 12 5 10 11,
oA 13 4 12,
oL 14 13,
oE 15 14,
oB 16 .gtr 15 (cI 500)])
(.cond 16
(sq (kr [] [oD 2 (.mov cF)])
.ret)
.skip)))
(kr [0,3] [oM 8 3,
oB 9 .add 8 (cI 1),
oM 3 9]))))))
(sq (kr [0] [oM 17 0,
oE 18 17,
oB 19 .leq 18 (cI 20),
oM 2 19])
.ret)))
def zc1_:List RD:=[.tmp 2 true none]
theorem zdr_:zn_ Tryz.prog Tryz.f74 zdX_ zc1_=true:=by kernel_rfl
def Xk_:List AV->List Obj->Option (Prop × AV)
 | [.imm (.cons (.int .i64) (.cons (.int .u64) (.cons (.int .u64) (.cons (.int .u64) (.cons (.sl (.int .u8)) .nil))))) l],[]=>some ((True,.bool (vp_ l)))
 | _,_=>none
theorem vY_:zd_ Tryz.prog 74 (RoF Xk_).sum:=by
 refine zi_ Tryz.func74 zdr_ (zc_ _) fun args objs p v e=>?_
 unfold Xk_ at e
 split at e
 ·rename_i l
  cases e
  refine ⟨rfl,fun hw ho hp=>?_⟩
  change List VBd at l
  have hl:l.length<=maxLen:=(hw (.imm Y5 l) (by simp)).2
  unfold maxLen at hl
  clear hw ho
  repeat'(intro t ht;first|(cases t<;>first|(cases ht;done)|(try simp only[zg_]at ht))|((first|refine zb_ ht ?_|refine ht ?_ ?_|refine ht.1 ?_ ?_|refine ht ?_)<;>clear ht))
  all_goals first
   | (intro r h1 h2;clear h1;refine h2 ⟨[0,3],Nat,(fun i=>i<=l.length/\(l.take i).all fwBd=true),fun i=>[.imm Y5 l,.int .i64 i],fun _=>[],fun i=>l.length - i,⟨0,⟨Nat.zero_le _,rfl⟩,rfl,rfl⟩,?_⟩;clear h2)
  rintro i ⟨hi,he⟩
  repeat'(intro t ht;first|(cases t<;>first|(cases ht;done)|(try simp only[zg_]at ht;try(exfalso;first|contradiction|omega)))|((first|refine zb_ ht ?_|refine ht ?_ ?_|refine ht.1 ?_ ?_|refine ht ?_)<;>clear ht))
  all_goals (try generalize (Ty.dflt Y5)=od at*)
  all_goals first
   | exact True.intro
   | ((try simp only [zk_,zl_,zj_] at*);omega)
   | (have h:=ZR_ (by omega) he
      refine ⟨?_,rfl⟩;unfold vp_;rw [h,Bool.true_and];congr 1;exact decide_eq_decide.2 (by omega))
   | (have hf:fwBd (l.getD i od)=true:=by unfold fwBd;simp only [Bool.and_eq_true,decide_eq_true_eq];omega
      exact ⟨i+1,⟨by omega,Zp_ (d:=od) (by omega) he hf⟩,by dsimp only;omega,rfl,rfl⟩)
   | (have hf:fwBd (l.getD i od)=false:=by unfold fwBd;simp only [Bool.and_eq_false_iff,decide_eq_false_iff_not];first | omega | (left;assumption) | (right;omega) | (left;left;assumption) | (left;right;omega) | (left;omega)
      have h:vp_ l=false:=by unfold vp_;rw [ZF_ (d:=od) (show i < l.length by omega) hf,Bool.false_and]
      refine ⟨?_,rfl⟩;rw [h];done)
   | skip
 ·cases e
def fwIn (x:VIn):Bool:=Bi_ x.2.2.2.1 && decide (x.2.2.2.2.1.length<=500)
def vo_ (l:List VIn):Bool:=l.all fwIn && decide (l.length<=20)
def zdZ_:IR:=
(sq (kr [0] [oD 2 (.mov cF)])
(sq (sq (.reg [oD 3 (.mov (cI 0))])
(.block 0
(.loop
(sq (sq (kr [0,3] [oM 4 3,
oM 5 0,
oE 6 5,
oB 7 .lss 4 6])
(.cond 7
.skip
(.exit 0)))
(sq (.block 1
(sq (kr [0,3] [oM 10 0,
oM 11 3,
oI 12 5 10 11,
oA 13 3 12,
oL 14 13,
oC 15 44 [14],
oD 16 (.un .not 15),
oM 17 16,
oF 17 18 (.mov 0),
oF 17 19 (.mov 3),
oF 17 20 (.indexSl 5 18 19),
oF 17 21 (.fieldAddr 4 20),
oF 17 22 (.load none 21),
oF 17 23 (.len 22),
oF 17 24 (.bin .gtr 23 (cI 500)),
oP 25 17 cT 24])
(.cond 25
(sq (kr [] [oD 2 (.mov cF)])
.ret)
.skip)))
(kr [0,3] [oM 8 3,
oB 9 .add 8 (cI 1),
oM 3 9]))))))
(sq (kr [0] [oM 26 0,
oE 27 26,
oB 28 .leq 27 (cI 20),
oM 2 28])
.ret)))
def zc3_:List RD:=[.tmp 2 true none]
theorem zdt_:zn_ Tryz.prog Tryz.f13 zdZ_ zc3_=true:=by kernel_rfl
def Xm_:List AV->List Obj->Option (Prop × AV)
 | [.imm ty0 l],[]=>qb_ ty0 Y3 l fun l=>some ((True,.bool (vo_ l)))
 | _,_=>none
theorem v0_:zd_ Tryz.prog 13 (RoF Xm_).sum:=by
 refine zi_ Tryz.func13 zdt_ (za_ (s:=RoF Jr_) WP_ (zc_ _)) fun args objs p v e=>?_
 unfold Xm_ at e
 split at e
 ·rename_i ty0 l
  obtain rfl:=zZ_ e
  replace e:=z0_ e
  cases e
  refine ⟨rfl,fun hw ho hp=>?_⟩
  change List VIn at l
  have hl:l.length<=maxLen:=(hw (.imm Y3 l) (by simp)).2
  unfold maxLen at hl
  clear hw ho
  repeat'(intro t ht;first|(cases t<;>first|(cases ht;done)|(try simp only[zg_]at ht))|((first|refine zb_ ht ?_|refine ht ?_ ?_|refine ht.1 ?_ ?_|refine ht ?_)<;>clear ht))
  all_goals first
   | (intro r h1 h2;clear h1;refine h2 ⟨[0,3],Nat,(fun i=>i<=l.length/\(l.take i).all fwIn=true),fun i=>[.imm Y3 l,.int .i64 i],fun _=>[],fun i=>l.length - i,⟨0,⟨Nat.zero_le _,rfl⟩,rfl,rfl⟩,?_⟩;clear h2)
  rintro i ⟨hi,he⟩
  repeat'(intro t ht;first|(cases t<;>first|(cases ht;done)|(try simp only[zg_]at ht;try(exfalso;first|contradiction|omega)))|((first|refine zb_ ht ?_|refine ht ?_ ?_|refine ht.1 ?_ ?_|refine ht ?_)<;>clear ht))
  all_goals (try generalize (Ty.dflt Y3)=od at*)
  all_goals first
   | exact True.intro
   | ((try simp only [zk_,zl_,zj_] at*);omega)
   | (have h:=ZR_ (by omega) he
      refine ⟨?_,rfl⟩;unfold vo_;rw [h,Bool.true_and];congr 1;exact decide_eq_decide.2 (by omega))
   | (have hf:fwIn (l.getD i od)=true:=by unfold fwIn;simp only [Bool.and_eq_true,decide_eq_true_eq];exact ⟨by assumption,by omega⟩
      exact ⟨i+1,⟨by omega,Zp_ (d:=od) (by omega) he hf⟩,by dsimp only;omega,rfl,rfl⟩)
   | (have hf:fwIn (l.getD i od)=false:=by unfold fwIn;simp only [Bool.and_eq_false_iff,decide_eq_false_iff_not];first | omega | (left;assumption) | (right;omega) | (left;left;assumption) | (left;right;omega) | (left;omega)
      have h:vo_ l=false:=by unfold vo_;rw [ZF_ (d:=od) (show i < l.length by omega) hf,Bool.false_and]
      refine ⟨?_,rfl⟩;rw [h];done)
   | skip
 ·cases e
def fwPr (x:VPr):Bool:=decide (x.2.2.1.length<=300)
def fwQu (x:VQu):Bool:=x.2.2.1.all fwPr && (decide (x.2.2.1.length<=20))
def yi_ (l:List VQu):Bool:=l.all fwQu && decide (l.length<=20)
def zdW_:IR:=
(sq (kr [0] [oD 2 (.mov cF)])
(sq (sq (.reg [oD 3 (.mov (cI 0))])
(.block 0
(.loop
(sq (sq (kr [0,3] [oM 5 3,
oM 6 0,
oE 7 6,
oB 8 .lss 5 7])
(.cond 8
.skip
(.exit 0)))
(sq (.block 1
(sq (sq (.reg [oD 4 (.mov (cI 0))])
(.block 2
(.loop
(sq (sq (kr [0,3,4] [oM 11 4,
oM 12 0,
oM 13 3,
oI 14 3 12 13,
oA 15 2 14,
oL 16 15,
oE 17 16,
oB 18 .lss 11 17])
(.cond 18
.skip
(.exit 2)))
(sq (.block 3
(sq (kr [0,3,4] [oM 21 0,
oM 22 3,
oI 23 3 21 22,
oA 24 2 23,
oL 25 24,
oM 26 4,
oI 27 3 25 26,
oA 28 2 27,
oL 29 28,
oE 30 29,
oB 31 .gtr 30 (cI 300)])
(.cond 31
(sq (kr [] [oD 2 (.mov cF)])
.ret)
.skip)))
(kr [0,3,4] [oM 19 4,
oB 20 .add 19 (cI 1),
oM 4 20]))))))
(sq (kr [0,3] [oM 32 0,
oM 33 3,
oI 34 3 32 33,
oA 35 2 34,
oL 36 35,
oE 37 36,
oB 38 .gtr 37 (cI 20)])
(.cond 38
(sq (kr [] [oD 2 (.mov cF)])
.ret)
.skip))))
(kr [0,3] [oM 9 3,
oB 10 .add 9 (cI 1),
oM 3 10]))))))
(sq (kr [0] [oM 39 0,
oE 40 39,
oB 41 .leq 40 (cI 20),
oM 2 41])
.ret)))
def zc0_:List RD:=[.tmp 2 true none]
theorem zdq_:zn_ Tryz.prog Tryz.f75 zdW_ zc0_=true:=by kernel_rfl
def vG_:List AV->List Obj->Option (Prop × AV)
 | [.imm (.cons (.int .u64) (.cons (.int .u64) (.cons (.sl (.cons (.int .i64) (.cons (.int .u64) (.cons (.sl (.int .u8)) .nil)))) .nil))) l],[]=>some ((True,.bool (yi_ l)))
 | _,_=>none
theorem BM_:zd_ Tryz.prog 75 (RoF vG_).sum:=by
 refine zi_ Tryz.func75 zdq_ (zc_ _) fun args objs p v e=>?_
 unfold vG_ at e
 split at e
 ·rename_i l
  cases e
  refine ⟨rfl,fun hw ho hp=>?_⟩
  change List VQu at l
  have hl:l.length<=maxLen:=(hw (.imm Y7 l) (by simp)).2
  have hi2:∀ i,i < l.length->(l.getD i (Ty.dflt Y7)).2.2.1.length<=maxLen:=fun i h=>by have h2:=(hw (.imm Y7 l) (by simp)).1 _ (zD_ h (Ty.dflt Y7));simp only [Ty.wf] at h2;simp_all
  unfold maxLen at hl hi2
  clear hw ho
  repeat'(intro t ht;first|(cases t<;>first|(cases ht;done)|(try simp only[zg_]at ht))|((first|refine zb_ ht ?_|refine ht ?_ ?_|refine ht.1 ?_ ?_|refine ht ?_)<;>clear ht))
  all_goals first
   | (intro r h1 h2;clear h1;refine h2 ⟨[0,3],Nat,(fun i=>i<=l.length/\(l.take i).all fwQu=true),fun i=>[.imm Y7 l,.int .i64 i],fun _=>[],fun i=>l.length - i,⟨0,⟨Nat.zero_le _,rfl⟩,rfl,rfl⟩,?_⟩;clear h2)
  rintro i ⟨hi,he⟩
  repeat'(intro t ht;first|(cases t<;>first|(cases ht;done)|(try simp only[zg_]at ht;try(exfalso;first|contradiction|omega)))|((first|refine zb_ ht ?_|refine ht ?_ ?_|refine ht.1 ?_ ?_|refine ht ?_)<;>clear ht))
  all_goals first
   | exact True.intro
   | ((try simp only [zk_,zl_,zj_] at*);omega)
   | (have h:=ZR_ (by omega) he
      refine ⟨?_,rfl⟩;unfold yi_;rw [h,Bool.true_and];congr 1;exact decide_eq_decide.2 (by omega))
   | (intro r h1 h2;clear h1;refine h2 ⟨[0,3,4],Nat,(fun k=>k<=(l.getD i (Ty.dflt Y7)).2.2.1.length/\((l.getD i (Ty.dflt Y7)).2.2.1.take k).all fwPr=true),fun k=>[.imm Y7 l,.int .i64 i,.int .i64 k],fun _=>[],fun k=>(l.getD i (Ty.dflt Y7)).2.2.1.length - k,⟨0,⟨Nat.zero_le _,rfl⟩,rfl,rfl⟩,?_⟩;clear h2)
   | skip
  have hi3:i < l.length:=by omega
  have hi4:=hi2 i hi3
  rintro k ⟨hk,hke⟩
  repeat'(intro t ht;first|(cases t<;>first|(cases ht;done)|(try simp only[zg_]at ht;try(exfalso;first|contradiction|omega)))|((first|refine zb_ ht ?_|refine ht ?_ ?_|refine ht.1 ?_ ?_|refine ht ?_)<;>clear ht))
  all_goals (try generalize (Ty.dflt Y7)=od at*)
  all_goals (try generalize (Ty.dflt Y6)=pd at*)
  all_goals first
   | exact True.intro
   | ((try simp only [zk_,zl_,zj_] at*);omega)
   | (have hf:fwPr ((l.getD i od).2.2.1.getD k pd)=true:=by unfold fwPr;simp only [Bool.and_eq_true,decide_eq_true_eq];omega
      exact ⟨k+1,⟨by omega,Zp_ (d:=pd) (by omega) hke hf⟩,by dsimp only;omega,rfl,rfl⟩)
   | (have hf:fwPr ((l.getD i od).2.2.1.getD k pd)=false:=by unfold fwPr;simp only [Bool.and_eq_false_iff,decide_eq_false_iff_not];omega
      have hg:fwQu (l.getD i od)=false:=by unfold fwQu;rw [ZF_ (d:=pd) (by omega) hf,Bool.false_and]
      have h:yi_ l=false:=by unfold yi_;rw [ZF_ (d:=od) hi3 hg,Bool.false_and]
      refine ⟨?_,rfl⟩;rw [h];done)
   | (have ha:=ZR_ (by omega) hke
      have hg:fwQu (l.getD i od)=true:=by unfold fwQu;rw [ha,Bool.true_and];simp only [Bool.and_eq_true,decide_eq_true_eq];omega
      exact ⟨i+1,⟨by omega,Zp_ (d:=od) hi3 he hg⟩,by dsimp only;omega,rfl,rfl⟩)
   | (have hg:fwQu (l.getD i od)=false:=by unfold fwQu;rw [Bool.and_eq_false_iff];right;simp only [Bool.and_eq_false_iff,decide_eq_false_iff_not];omega
      have h:yi_ l=false:=by unfold yi_;rw [ZF_ (d:=od) hi3 hg,Bool.false_and]
      refine ⟨?_,rfl⟩;rw [h];done)
   | skip
 ·cases e
def fwFe (x:VFe):Bool:=decide (x.2.1.length<=100) && decide (x.2.2.1.length<=300)
def fwTb (x:VTb):Bool:=x.2.2.2.2.2.2.1.all fwFe && (decide (x.2.2.2.2.2.2.1.length<=20) && decide (x.2.1.length<=100))
def yh_ (l:List VTb):Bool:=l.all fwTb && decide (l.length<=12)
def zdU_:IR:=
(sq (kr [0] [oD 2 (.mov cF)])
(sq (sq (.reg [oD 3 (.mov (cI 0))])
(.block 0
(.loop
(sq (sq (kr [0,3] [oM 5 3,
oM 6 0,
oE 7 6,
oB 8 .lss 5 7])
(.cond 8
.skip
(.exit 0)))
(sq (.block 1
(sq (sq (.reg [oD 4 (.mov (cI 0))])
(.block 2
(.loop
(sq (sq (kr [0,3,4] [oM 11 4,
oM 12 0,
oM 13 3,
oI 14 7 12 13,
oA 15 6 14,
oL 16 15,
oE 17 16,
oB 18 .lss 11 17])
(.cond 18
.skip
(.exit 2)))
(sq (.block 3
(sq (kr [0,3,4] [oM 21 0,
oM 22 3,
oI 23 7 21 22,
oA 24 6 23,
oL 25 24,
oM 26 4,
oI 27 3 25 26,
oA 28 1 27,
oL 29 28,
oE 30 29,
oB 31 .gtr 30 (cI 100),
oM 32 31,
oF 32 33 (.mov 0),
oF 32 34 (.mov 3),
oF 32 35 (.indexSl 7 33 34),
oF 32 36 (.fieldAddr 6 35),
oF 32 37 (.load none 36),
oF 32 38 (.mov 4),
oF 32 39 (.indexSl 3 37 38),
oF 32 40 (.fieldAddr 2 39),
oF 32 41 (.load none 40),
oF 32 42 (.len 41),
oF 32 43 (.bin .gtr 42 (cI 300)),
oP 44 32 cT 43])
(.cond 44
(sq (kr [] [oD 2 (.mov cF)])
.ret)
.skip)))
(kr [0,3,4] [oM 19 4,
oB 20 .add 19 (cI 1),
oM 4 20]))))))
(sq (kr [0,3] [oM 45 0,
oM 46 3,
oI 47 7 45 46,
oA 48 6 47,
oL 49 48,
oE 50 49,
oB 51 .gtr 50 (cI 20),
oM 52 51,
oF 52 53 (.mov 0),
oF 52 54 (.mov 3),
oF 52 55 (.indexSl 7 53 54),
oF 52 56 (.fieldAddr 1 55),
oF 52 57 (.load none 56),
oF 52 58 (.slen 57),
oF 52 59 (.bin .gtr 58 (cI 100)),
oP 60 52 cT 59])
(.cond 60
(sq (kr [] [oD 2 (.mov cF)])
.ret)
.skip))))
(kr [0,3] [oM 9 3,
oB 10 .add 9 (cI 1),
oM 3 10]))))))
(sq (kr [0] [oM 61 0,
oE 62 61,
oB 63 .leq 62 (cI 12),
oM 2 63])
.ret)))
def zcY_:List RD:=[.tmp 2 true none]
theorem zdo_:zn_ Tryz.prog Tryz.f131 zdU_ zcY_=true:=by kernel_rfl
def vF_:List AV->List Obj->Option (Prop × AV)
 | [.imm ty0 l],[]=>qb_ ty0 YA l fun l=>some ((True,.bool (yh_ l)))
 | _,_=>none
theorem BL_:zd_ Tryz.prog 131 (RoF vF_).sum:=by
 refine zi_ Tryz.func131 zdo_ (zc_ _) fun args objs p v e=>?_
 unfold vF_ at e
 split at e
 ·rename_i ty0 l
  obtain rfl:=zZ_ e
  replace e:=z0_ e
  cases e
  refine ⟨rfl,fun hw ho hp=>?_⟩
  change List VTb at l
  have hl:l.length<=maxLen:=(hw (.imm YA l) (by simp)).2
  have hi2:∀ i,i < l.length->(l.getD i (Ty.dflt YA)).2.2.2.2.2.2.1.length<=maxLen:=fun i h=>by have h2:=(hw (.imm YA l) (by simp)).1 _ (zD_ h (Ty.dflt YA));simp only [Ty.wf] at h2;simp_all
  unfold maxLen at hl hi2
  clear hw ho
  repeat'(intro t ht;first|(cases t<;>first|(cases ht;done)|(try simp only[zg_]at ht))|((first|refine zb_ ht ?_|refine ht ?_ ?_|refine ht.1 ?_ ?_|refine ht ?_)<;>clear ht))
  all_goals first
   | (intro r h1 h2;clear h1;refine h2 ⟨[0,3],Nat,(fun i=>i<=l.length/\(l.take i).all fwTb=true),fun i=>[.imm YA l,.int .i64 i],fun _=>[],fun i=>l.length - i,⟨0,⟨Nat.zero_le _,rfl⟩,rfl,rfl⟩,?_⟩;clear h2)
  rintro i ⟨hi,he⟩
  repeat'(intro t ht;first|(cases t<;>first|(cases ht;done)|(try simp only[zg_]at ht;try(exfalso;first|contradiction|omega)))|((first|refine zb_ ht ?_|refine ht ?_ ?_|refine ht.1 ?_ ?_|refine ht ?_)<;>clear ht))
  all_goals first
   | exact True.intro
   | ((try simp only [zk_,zl_,zj_] at*);omega)
   | (have h:=ZR_ (by omega) he
      refine ⟨?_,rfl⟩;unfold yh_;rw [h,Bool.true_and];congr 1;exact decide_eq_decide.2 (by omega))
   | (intro r h1 h2;clear h1;refine h2 ⟨[0,3,4],Nat,(fun k=>k<=(l.getD i (Ty.dflt YA)).2.2.2.2.2.2.1.length/\((l.getD i (Ty.dflt YA)).2.2.2.2.2.2.1.take k).all fwFe=true),fun k=>[.imm YA l,.int .i64 i,.int .i64 k],fun _=>[],fun k=>(l.getD i (Ty.dflt YA)).2.2.2.2.2.2.1.length - k,⟨0,⟨Nat.zero_le _,rfl⟩,rfl,rfl⟩,?_⟩;clear h2)
   | skip
  have hi3:i < l.length:=by omega
  have hi4:=hi2 i hi3
  rintro k ⟨hk,hke⟩
  repeat'(intro t ht;first|(cases t<;>first|(cases ht;done)|(try simp only[zg_]at ht;try(exfalso;first|contradiction|omega)))|((first|refine zb_ ht ?_|refine ht ?_ ?_|refine ht.1 ?_ ?_|refine ht ?_)<;>clear ht))
  all_goals (try generalize (Ty.dflt YA)=od at*)
  all_goals (try generalize (Ty.dflt Y9)=pd at*)
  all_goals first
   | exact True.intro
   | ((try simp only [zk_,zl_,zj_] at*);omega)
   | (have hf:fwFe ((l.getD i od).2.2.2.2.2.2.1.getD k pd)=true:=by unfold fwFe;simp only [Bool.and_eq_true,decide_eq_true_eq];omega
      exact ⟨k+1,⟨by omega,Zp_ (d:=pd) (by omega) hke hf⟩,by dsimp only;omega,rfl,rfl⟩)
   | (have hf:fwFe ((l.getD i od).2.2.2.2.2.2.1.getD k pd)=false:=by unfold fwFe;simp only [Bool.and_eq_false_iff,decide_eq_false_iff_not];omega
      have hg:fwTb (l.getD i od)=false:=by unfold fwTb;rw [ZF_ (d:=pd) (by omega) hf,Bool.false_and]
      have h:yh_ l=false:=by unfold yh_;rw [ZF_ (d:=od) hi3 hg,Bool.false_and]
      refine ⟨?_,rfl⟩;rw [h];done)
   | (have ha:=ZR_ (by omega) hke
      have hg:fwTb (l.getD i od)=true:=by unfold fwTb;rw [ha,Bool.true_and];simp only [Bool.and_eq_true,decide_eq_true_eq];omega
      exact ⟨i+1,⟨by omega,Zp_ (d:=od) hi3 he hg⟩,by dsimp only;omega,rfl,rfl⟩)
   | (have hg:fwTb (l.getD i od)=false:=by unfold fwTb;rw [Bool.and_eq_false_iff];right;simp only [Bool.and_eq_false_iff,decide_eq_false_iff_not];omega
      have h:yh_ l=false:=by unfold yh_;rw [ZF_ (d:=od) hi3 hg,Bool.false_and]
      refine ⟨?_,rfl⟩;rw [h];done)
   | skip
 ·cases e
def bI_ (x:List Int):Bool:=decide (x.length<=400)
def ze3_ (x:List Int):Bool:=decide (x.length<=30)
def fwPa (p:VPa):Bool:=p.2.1.all bI_ && (p.2.2.2.2.2.2.1.all ze3_ && (decide (p.1.length<=60) && decide (p.2.1.length<=20) && decide (p.2.2.2.2.2.2.1.length<=40) && decide (p.2.2.2.2.2.2.2.2.2.1.length<=2000) && fewO p.2.2.1 && vo_ p.2.2.2.1 && fewB p.2.2.2.2.1 && vp_ p.2.2.2.2.2.1 && fewP p.2.2.2.2.2.2.2.1 && yh_ p.2.2.2.2.2.2.2.2.1))
def Uz_:IR:=
(sq (kr [0] [oD 1 (.boxv 0),
oD 2 (.mov cF)])
(sq (sq (.reg [oD 3 (.mov (cI 0))])
(.block 0
(.loop
(sq (sq (kr [1,3] [oM 5 3,
oA 6 1 1,
oL 7 6,
oE 8 7,
oB 9 .lss 5 8])
(.cond 9
.skip
(.exit 0)))
(sq (.block 1
(sq (kr [1,3] [oA 12 1 1,
oL 13 12,
oM 14 3,
oI 15 1 13 14,
oL 16 15,
oD 17 (.slen 16),
oB 18 .gtr 17 (cI 400)])
(.cond 18
(sq (kr [] [oD 2 (.mov cF)])
.ret)
.skip)))
(kr [1,3] [oM 10 3,
oB 11 .add 10 (cI 1),
oM 3 11]))))))
(sq (sq (kr [1] [oD 4 (.mov (cI 0))])
(.block 2
(.loop
(sq (sq (kr [1,4] [oM 19 4,
oA 20 6 1,
oL 21 20,
oE 22 21,
oB 23 .lss 19 22])
(.cond 23
.skip
(.exit 2)))
(sq (.block 3
(sq (kr [1,4] [oA 26 6 1,
oL 27 26,
oM 28 4,
oI 29 1 27 28,
oL 30 29,
oE 31 30,
oB 32 .gtr 31 (cI 30)])
(.cond 32
(sq (kr [] [oD 2 (.mov cF)])
.ret)
.skip)))
(kr [1,4] [oM 24 4,
oB 25 .add 24 (cI 1),
oM 4 25]))))))
(sq (kr [1] [oA 33 0 1,
oL 34 33,
oE 35 34,
oB 36 .leq 35 (cI 60),
oM 37 36,
oT 37 38 (.fieldAddr 1 1),
oT 37 39 (.load none 38),
oT 37 40 (.len 39),
oT 37 41 (.bin .leq 40 (cI 20)),
oP 42 37 41 cF,
oM 43 42,
oT 43 44 (.fieldAddr 6 1),
oT 43 45 (.load none 44),
oT 43 46 (.len 45),
oT 43 47 (.bin .leq 46 (cI 40)),
oP 48 43 47 cF,
oM 49 48,
oT 49 50 (.fieldAddr 9 1),
oT 49 51 (.load none 50),
oT 49 52 (.len 51),
oT 49 53 (.bin .leq 52 (cI 2000)),
oP 54 49 53 cF,
oM 55 54,
oT 55 56 (.fieldAddr 2 1),
oT 55 57 (.load none 56),
oT 55 58 (.call false (.f 72) [57]),
oP 59 55 58 cF,
oM 60 59,
oT 60 61 (.fieldAddr 3 1),
oT 60 62 (.load none 61),
oT 60 63 (.call false (.f 13) [62]),
oP 64 60 63 cF,
oM 65 64,
oT 65 66 (.fieldAddr 4 1),
oT 65 67 (.load none 66),
oT 65 68 (.call false (.f 73) [67]),
oP 69 65 68 cF,
oM 70 69,
oT 70 71 (.fieldAddr 5 1),
oT 70 72 (.load none 71),
oT 70 73 (.call false (.f 74) [72]),
oP 74 70 73 cF,
oM 75 74,
oT 75 76 (.fieldAddr 7 1),
oT 75 77 (.load none 76),
oT 75 78 (.call false (.f 76) [77]),
oP 79 75 78 cF,
oM 80 79,
oT 80 81 (.fieldAddr 8 1),
oT 80 82 (.load none 81),
oT 80 83 (.call false (.f 131) [82]),
oP 84 80 83 cF,
oM 2 84])
.ret))))
def uP_:List RD:=[.tmp 2 true none]
theorem Uc_:zn_ Tryz.prog Tryz.f71 Uz_ uP_=true:=by kernel_rfl
def jS_:List AV->List Obj->Option (Prop × AV)
 | [.agg zz0],[]=>K1_ YC zz0 fun ⟨a0,a1,a2,a3,a4,a5,a6,a7,a8,a9,_⟩=>some ((True,.bool (fwPa (a0,a1,a2,a3,a4,a5,a6,a7,a8,a9,()))))
 | _,_=>none
theorem Vv_:zd_ Tryz.prog 71 (RoF jS_).sum:=by
 refine zi_ Tryz.func71 Uc_ (za_ (s:=RoF Xn_) v1_ (za_ (s:=RoF Xm_) v0_ (za_ (s:=RoF Xl_) vZ_ (za_ (s:=RoF Xk_) vY_ (za_ (s:=RoF Xj_) vX_ (za_ (s:=RoF vF_) BL_ (zc_ _))))))) fun args objs p v e=>?_
 unfold jS_ at e
 split at e
 ·rename_i zz0
  replace e:=qk_ e
  obtain ⟨⟨a0,a1,a2,a3,a4,a5,a6,a7,a8,a9,_⟩,hz,e⟩:=e
  replace hz:zz0=[.imm (.int .u64) a0,.imm .str a1,.imm Y1 a2,.imm Y3 a3,.imm Y4 a4,.imm Y5 a5,.imm (.sl (.int .u64)) a6,.imm Y8 a7,.imm YA a8,.imm (.int .u8) a9]:=hz
  subst hz
  cases e
  refine ⟨rfl,fun hw ho hp=>?_⟩
  change List Int at a0
  change List Int at a9
  change List (List Int) at a1
  change List (List Int) at a6
  have hl1:a1.length<=maxLen:=(hw _ (List.mem_cons_self ..) (.imm .str a1) (by simp)).2
  have hl6:a6.length<=maxLen:=(hw _ (List.mem_cons_self ..) (.imm (.sl (.int .u64)) a6) (by simp)).2
  unfold maxLen at hl1 hl6
  clear hw ho
  repeat'(intro t ht;first|(cases t<;>first|(cases ht;done)|(try simp only[zg_]at ht))|((first|refine zb_ ht ?_|refine ht ?_ ?_|refine ht.1 ?_ ?_|refine ht ?_)<;>clear ht))
  all_goals first
   | (intro r h1 h2;clear h1;refine h2 ⟨[1,3],Nat,(fun i=>i<=a1.length/\(a1.take i).all bI_=true),fun i=>[.ptr 0 0,.int .i64 i],fun _=>[.box [.imm (.int .u64) a0,.imm .str a1,.imm Y1 a2,.imm Y3 a3,.imm Y4 a4,.imm Y5 a5,.imm (.sl (.int .u64)) a6,.imm Y8 a7,.imm YA a8,.imm (.int .u8) a9]],fun i=>a1.length - i,⟨0,⟨Nat.zero_le _,rfl⟩,rfl,rfl⟩,?_⟩;clear h2)
   | skip
  rintro i ⟨hi,he⟩
  repeat'(intro t ht;first|(cases t<;>first|(cases ht;done)|(try simp only[zg_]at ht;try(exfalso;first|contradiction|omega)))|((first|refine zb_ ht ?_|refine ht ?_ ?_|refine ht.1 ?_ ?_|refine ht ?_)<;>clear ht))
  all_goals (try generalize (Ty.dflt .str)=od at*)
  all_goals first
   | exact True.intro
   | ((try simp only [zk_,zl_,zj_] at*);omega)
   | (have hf:bI_ (a1.getD i od)=true:=decide_eq_true (by omega)
      exact ⟨i+1,⟨by omega,Zp_ (d:=od) (by omega) he hf⟩,by dsimp only;omega,rfl,rfl⟩)
   | (have hf:bI_ (a1.getD i od)=false:=decide_eq_false (by omega)
      refine ⟨?_,rfl⟩;unfold fwPa;rw [ZF_ (d:=od) (show i < a1.length by omega) hf,Bool.false_and];done)
   | (intro r h1 h2;clear h1;refine h2 ⟨[1,4],Nat,(fun i=>i<=a6.length/\(a6.take i).all ze3_=true),fun i=>[.ptr 0 0,.int .i64 i],fun _=>[.box [.imm (.int .u64) a0,.imm .str a1,.imm Y1 a2,.imm Y3 a3,.imm Y4 a4,.imm Y5 a5,.imm (.sl (.int .u64)) a6,.imm Y8 a7,.imm YA a8,.imm (.int .u8) a9]],fun i=>a6.length - i,⟨0,⟨Nat.zero_le _,rfl⟩,rfl,rfl⟩,?_⟩;clear h2)
   | skip
  have h1:=ZR_ (by omega) he
  rintro j ⟨hj,hje⟩
  repeat'(intro t ht;first|(cases t<;>first|(cases ht;done)|(try simp only[zg_]at ht;try(exfalso;first|contradiction|omega)))|((first|refine zb_ ht ?_|refine ht ?_ ?_|refine ht.1 ?_ ?_|refine ht ?_)<;>clear ht))
  all_goals (try generalize (Ty.dflt (.sl (.int .u64)))=od at*)
  all_goals first
   | exact True.intro
   | ((try simp only [zk_,zl_,zj_] at*);omega)
   | (have hf:ze3_ (a6.getD j od)=true:=decide_eq_true (by omega)
      exact ⟨j+1,⟨by omega,Zp_ (d:=od) (by omega) hje hf⟩,by dsimp only;omega,rfl,rfl⟩)
   | (have hf:ze3_ (a6.getD j od)=false:=decide_eq_false (by omega)
      refine ⟨?_,rfl⟩;unfold fwPa;rw [h1,ZF_ (d:=od) (show j < a6.length by omega) hf,Bool.false_and,Bool.and_false];done)
   | (have h6:=ZR_ (by omega) hje
      refine ⟨congrArg AV.bool ?_,rfl⟩;unfold fwPa;rw [h1,h6,Bool.true_and,Bool.true_and];dsimp only;first | (rw [decide_eq_false (show ¬ a0.length<=60 by omega)];simp;done) | (rw [decide_eq_false (show ¬ a1.length<=20 by omega)];simp;done) | (rw [decide_eq_false (show ¬ a6.length<=40 by omega)];simp;done) | (rw [decide_eq_false (show ¬ a9.length<=2000 by omega)];simp;done) | (simp_all;done) | (rw [decide_eq_true (show a0.length<=60 by omega),decide_eq_true (show a1.length<=20 by omega),decide_eq_true (show a6.length<=40 by omega),decide_eq_true (show a9.length<=2000 by omega)];simp [zT_, *];done))
   | skip
 ·cases e
def uc_ (x:VEl):Bool:=decide (x.2.1.length<=500)
def fwMs (p:VMs):Bool:=p.2.2.2.2.1.all uc_ && (p.2.2.2.2.2.2.2.2.2.2.2.2.2.2.1.all fwPa && (decide (p.2.2.1.length<=60) && decide (p.2.2.2.1.length<=3000) && decide (p.2.2.2.2.1.length<=20) && decide (p.2.2.2.2.2.2.2.2.2.2.2.2.2.2.1.length<=12) && fewO p.2.2.2.2.2.1 && Bi_ p.2.2.2.2.2.2.1 && vo_ p.2.2.2.2.2.2.2.1 && fewB p.2.2.2.2.2.2.2.2.1 && vp_ p.2.2.2.2.2.2.2.2.2.1 && yi_ p.2.2.2.2.2.2.2.2.2.2.1 && fewP p.2.2.2.2.2.2.2.2.2.2.2.1))
def zdT_:IR:=
(sq (kr [0] [oD 1 (.boxv 0),
oD 2 (.mov cF)])
(sq (sq (.reg [oD 3 (.mov (cI 0))])
(.block 0
(.loop
(sq (sq (kr [1,3] [oM 5 3,
oA 6 4 1,
oL 7 6,
oE 8 7,
oB 9 .lss 5 8])
(.cond 9
.skip
(.exit 0)))
(sq (.block 1
(sq (kr [1,3] [oA 12 4 1,
oL 13 12,
oM 14 3,
oI 15 2 13 14,
oA 16 1 15,
oL 17 16,
oE 18 17,
oB 19 .gtr 18 (cI 500)])
(.cond 19
(sq (kr [] [oD 2 (.mov cF)])
.ret)
.skip)))
(kr [1,3] [oM 10 3,
oB 11 .add 10 (cI 1),
oM 3 11]))))))
(sq (sq (kr [1] [oD 4 (.mov (cI 0))])
(.block 2
(.loop
(sq (sq (kr [1,4] [oM 20 4,
oA 21 14 1,
oL 22 21,
oE 23 22,
oB 24 .lss 20 23])
(.cond 24
.skip
(.exit 2)))
(sq (.block 3
(sq (kr [1,4] [oA 27 14 1,
oL 28 27,
oM 29 4,
oI 30 10 28 29,
oK 31 10 30,
oC 32 71 [31],
oD 33 (.un .not 32)])
(.cond 33
(sq (kr [] [oD 2 (.mov cF)])
.ret)
.skip)))
(kr [1,4] [oM 25 4,
oB 26 .add 25 (cI 1),
oM 4 26]))))))
(sq (kr [1] [oA 34 2 1,
oL 35 34,
oE 36 35,
oB 37 .leq 36 (cI 60),
oM 38 37,
oT 38 39 (.fieldAddr 3 1),
oT 38 40 (.load none 39),
oT 38 41 (.len 40),
oT 38 42 (.bin .leq 41 (cI 3000)),
oP 43 38 42 cF,
oM 44 43,
oT 44 45 (.fieldAddr 4 1),
oT 44 46 (.load none 45),
oT 44 47 (.len 46),
oT 44 48 (.bin .leq 47 (cI 20)),
oP 49 44 48 cF,
oM 50 49,
oT 50 51 (.fieldAddr 14 1),
oT 50 52 (.load none 51),
oT 50 53 (.len 52),
oT 50 54 (.bin .leq 53 (cI 12)),
oP 55 50 54 cF,
oM 56 55,
oT 56 57 (.fieldAddr 5 1),
oT 56 58 (.load none 57),
oT 56 59 (.call false (.f 72) [58]),
oP 60 56 59 cF,
oM 61 60,
oT 61 62 (.fieldAddr 6 1),
oT 61 63 (.load none 62),
oT 61 64 (.call false (.f 44) [63]),
oP 65 61 64 cF,
oM 66 65,
oT 66 67 (.fieldAddr 7 1),
oT 66 68 (.load none 67),
oT 66 69 (.call false (.f 13) [68]),
oP 70 66 69 cF,
oM 71 70,
oT 71 72 (.fieldAddr 8 1),
oT 71 73 (.load none 72),
oT 71 74 (.call false (.f 73) [73]),
oP 75 71 74 cF,
oM 76 75,
oT 76 77 (.fieldAddr 9 1),
oT 76 78 (.load none 77),
oT 76 79 (.call false (.f 74) [78]),
oP 80 76 79 cF,
oM 81 80,
oT 81 82 (.fieldAddr 10 1),
oT 81 83 (.load none 82),
oT 81 84 (.call false (.f 75) [83]),
oP 85 81 84 cF,
oM 86 85,
oT 86 87 (.fieldAddr 11 1),
oT 86 88 (.load none 87),
oT 86 89 (.call false (.f 76) [88]),
oP 90 86 89 cF,
oM 2 90])
.ret))))
def zcX_:List RD:=[.tmp 2 true none]
theorem zdn_:zn_ Tryz.prog Tryz.f28 zdT_ zcX_=true:=by kernel_rfl
def Xi_:List AV->List Obj->Option (Prop × AV)
 | [.agg zz0],[]=>K1_ YD zz0 fun ⟨a0,a1,a2,a3,a4,a5,a6,a7,a8,a9,a10,a11,a12,a13,a14,_⟩=>some ((True,.bool (fwMs (a0,a1,a2,a3,a4,a5,a6,a7,a8,a9,a10,a11,a12,a13,a14,()))))
 | _,_=>none
theorem vW_:zd_ Tryz.prog 28 (RoF Xi_).sum:=by
 refine zi_ Tryz.func28 zdn_ (za_ (s:=RoF jS_) Vv_ (za_ (s:=RoF Xn_) v1_ (za_ (s:=RoF Jr_) WP_ (za_ (s:=RoF Xm_) v0_ (za_ (s:=RoF Xl_) vZ_ (za_ (s:=RoF Xk_) vY_ (za_ (s:=RoF vG_) BM_ (za_ (s:=RoF Xj_) vX_ (zc_ _))))))))) fun args objs p v e=>?_
 unfold Xi_ at e
 split at e
 ·rename_i zz0
  replace e:=qk_ e
  obtain ⟨⟨a0,a1,a2,a3,a4,a5,a6,a7,a8,a9,a10,a11,a12,a13,a14,_⟩,hz,e⟩:=e
  replace hz:zz0=[.int .i64 a0,.int .u32 a1,.imm (.int .u64) a2,.imm (.int .u8) a3,.imm YB a4,.imm Y1 a5,.imm Y2 a6,.imm Y3 a7,.imm Y4 a8,.imm Y5 a9,.imm Y7 a10,.imm Y8 a11,.int .i64 a12,.int .i64 a13,.imm YC a14]:=hz
  subst hz
  change Int at a0
  change Int at a1
  change Int at a12
  change Int at a13
  cases e
  refine ⟨rfl,fun hw ho hp=>?_⟩
  change List Int at a2
  change List Int at a3
  change List VEl at a4
  change List VPa at a14
  have hl1:a4.length<=maxLen:=(hw _ (List.mem_cons_self ..) (.imm YB a4) (by simp)).2
  have hl6:a14.length<=maxLen:=(hw _ (List.mem_cons_self ..) (.imm YC a14) (by simp)).2
  unfold maxLen at hl1 hl6
  clear hw ho
  repeat'(intro t ht;first|(cases t<;>first|(cases ht;done)|(try simp only[zg_]at ht))|((first|refine zb_ ht ?_|refine ht ?_ ?_|refine ht.1 ?_ ?_|refine ht ?_)<;>clear ht))
  all_goals first
   | (intro r h1 h2;clear h1;refine h2 ⟨[1,3],Nat,(fun i=>i<=a4.length/\(a4.take i).all uc_=true),fun i=>[.ptr 0 0,.int .i64 i],fun _=>[.box [.int .i64 a0,.int .u32 a1,.imm (.int .u64) a2,.imm (.int .u8) a3,.imm YB a4,.imm Y1 a5,.imm Y2 a6,.imm Y3 a7,.imm Y4 a8,.imm Y5 a9,.imm Y7 a10,.imm Y8 a11,.int .i64 a12,.int .i64 a13,.imm YC a14]],fun i=>a4.length - i,⟨0,⟨Nat.zero_le _,rfl⟩,rfl,rfl⟩,?_⟩;clear h2)
   | skip
  rintro i ⟨hi,he⟩
  repeat'(intro t ht;first|(cases t<;>first|(cases ht;done)|(try simp only[zg_]at ht;try(exfalso;first|contradiction|omega)))|((first|refine zb_ ht ?_|refine ht ?_ ?_|refine ht.1 ?_ ?_|refine ht ?_)<;>clear ht))
  all_goals (try generalize (Ty.dflt YB)=od at*)
  all_goals first
   | exact True.intro
   | ((try simp only [zk_,zl_,zj_] at*);omega)
   | (have hf:uc_ (a4.getD i od)=true:=decide_eq_true (by omega)
      exact ⟨i+1,⟨by omega,Zp_ (d:=od) (by omega) he hf⟩,by dsimp only;omega,rfl,rfl⟩)
   | (have hf:uc_ (a4.getD i od)=false:=decide_eq_false (by omega)
      refine ⟨?_,rfl⟩;unfold fwMs;rw [ZF_ (d:=od) (show i < a4.length by omega) hf,Bool.false_and];done)
   | (intro r h1 h2;clear h1;refine h2 ⟨[1,4],Nat,(fun i=>i<=a14.length/\(a14.take i).all fwPa=true),fun i=>[.ptr 0 0,.int .i64 i],fun _=>[.box [.int .i64 a0,.int .u32 a1,.imm (.int .u64) a2,.imm (.int .u8) a3,.imm YB a4,.imm Y1 a5,.imm Y2 a6,.imm Y3 a7,.imm Y4 a8,.imm Y5 a9,.imm Y7 a10,.imm Y8 a11,.int .i64 a12,.int .i64 a13,.imm YC a14]],fun i=>a14.length - i,⟨0,⟨Nat.zero_le _,rfl⟩,rfl,rfl⟩,?_⟩;clear h2)
   | skip
  have h1:=ZR_ (by omega) he
  rintro j ⟨hj,hje⟩
  repeat'(intro t ht;first|(cases t<;>first|(cases ht;done)|(try simp only[zg_]at ht;try(exfalso;first|contradiction|omega)))|((first|refine zb_ ht ?_|refine ht ?_ ?_|refine ht.1 ?_ ?_|refine ht ?_)<;>clear ht))
  all_goals (try generalize (Ty.dflt YC)=od at*)
  all_goals first
   | exact True.intro
   | ((try simp only [zk_,zl_,zj_] at*);omega)
   | (have hf:fwPa (a14.getD j od)=true:=by assumption
      exact ⟨j+1,⟨by omega,Zp_ (d:=od) (by omega) hje hf⟩,by dsimp only;omega,rfl,rfl⟩)
   | (have hf:fwPa (a14.getD j od)=false:=by assumption
      refine ⟨?_,rfl⟩;unfold fwMs;rw [h1,ZF_ (d:=od) (show j < a14.length by omega) hf,Bool.false_and,Bool.and_false];done)
   | (have h6:=ZR_ (by omega) hje
      refine ⟨congrArg AV.bool ?_,rfl⟩;unfold fwMs;rw [h1,h6,Bool.true_and,Bool.true_and];dsimp only;first | (rw [decide_eq_false (show ¬ a2.length<=60 by omega)];simp;done) | (rw [decide_eq_false (show ¬ a3.length<=3000 by omega)];simp;done) | (rw [decide_eq_false (show ¬ a4.length<=20 by omega)];simp;done) | (rw [decide_eq_false (show ¬ a14.length<=12 by omega)];simp;done) | (simp_all;done) | (rw [decide_eq_true (show a2.length<=60 by omega),decide_eq_true (show a3.length<=3000 by omega),decide_eq_true (show a4.length<=20 by omega),decide_eq_true (show a14.length<=12 by omega)];simp [zT_, *];done))
   | skip
 ·cases e
end Go.Eng
