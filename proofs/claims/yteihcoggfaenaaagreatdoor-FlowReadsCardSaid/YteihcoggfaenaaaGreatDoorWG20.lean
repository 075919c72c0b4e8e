/- Parts of the proof: V1, V3, V6, V4, V5, M4, M5. No condition. -/
import Derived.Test.YteihcoggfaenaaaGreatDoorProg
import Derived.Test.YteihcoggfaenaaaGreatDoorWG10
import Derived.KernelRfl
import Derived.Test.YteihcoggfaenaaaGreatDoorWG19
import Derived.Test.YteihcoggfaenaaaGreatDoorWG17
namespace Go.Eng
open Go.Proofs
set_option linter.unusedVariables false
set_option linter.unusedSimpArgs false
set_option maxRecDepth 100000
set_option maxHeartbeats 1000000
abbrev VIn:=Int × Int × Int × List AC × List Int × Unit
instance:DecidableEq (List Int × Unit):=inferInstance
instance:DecidableEq (List AC × List Int × Unit):=inferInstance
instance:DecidableEq (Int × List AC × List Int × Unit):=inferInstance
instance:DecidableEq (Int × Int × List AC × List Int × Unit):=inferInstance
instance:DecidableEq VIn:=inferInstance
theorem zlH_ {x y:VIn} (h:¬ (x.1=y.1/\x.2.1=y.2.1/\x.2.2.1=y.2.2.1/\x.2.2.2.1=y.2.2.2.1/\x.2.2.2.2.1=y.2.2.2.2.1)):¬ x=y:=fun e=>h (by rw [e];exact ⟨rfl,rfl,rfl,rfl,rfl⟩)
theorem zl8_ {x y:VIn} (h:x.1=y.1/\x.2.1=y.2.1/\x.2.2.1=y.2.2.1/\x.2.2.2.1=y.2.2.2.1/\x.2.2.2.2.1=y.2.2.2.2.1):x=y:=by
 obtain ⟨a0,a1,a2,a3,a4,_⟩:=x
 obtain ⟨b0,b1,b2,b3,b4,_⟩:=y
 simpa only [Prod.mk.injEq,and_true] using h
abbrev VBd:=Int × Int × Int × Int × List Int × Unit
instance:DecidableEq (List Int × Unit):=inferInstance
instance:DecidableEq (Int × List Int × Unit):=inferInstance
instance:DecidableEq (Int × Int × List Int × Unit):=inferInstance
instance:DecidableEq (Int × Int × Int × List Int × Unit):=inferInstance
instance:DecidableEq VBd:=inferInstance
theorem zlK_ {x y:VBd} (h:¬ (x.1=y.1/\x.2.1=y.2.1/\x.2.2.1=y.2.2.1/\x.2.2.2.1=y.2.2.2.1/\x.2.2.2.2.1=y.2.2.2.2.1)):¬ x=y:=fun e=>h (by rw [e];exact ⟨rfl,rfl,rfl,rfl,rfl⟩)
theorem zmb_ {x y:VBd} (h:x.1=y.1/\x.2.1=y.2.1/\x.2.2.1=y.2.2.1/\x.2.2.2.1=y.2.2.2.1/\x.2.2.2.2.1=y.2.2.2.2.1):x=y:=by
 obtain ⟨a0,a1,a2,a3,a4,_⟩:=x
 obtain ⟨b0,b1,b2,b3,b4,_⟩:=y
 simpa only [Prod.mk.injEq,and_true] using h
abbrev VPr:=Int × Int × List Int × Unit
instance:DecidableEq (List Int × Unit):=inferInstance
instance:DecidableEq (Int × List Int × Unit):=inferInstance
instance:DecidableEq VPr:=inferInstance
theorem zlG_ {x y:VPr} (h:¬ (x.1=y.1/\x.2.1=y.2.1/\x.2.2.1=y.2.2.1)):¬ x=y:=fun e=>h (by rw [e];exact ⟨rfl,rfl,rfl⟩)
theorem zl7_ {x y:VPr} (h:x.1=y.1/\x.2.1=y.2.1/\x.2.2.1=y.2.2.1):x=y:=by
 obtain ⟨a0,a1,a2,_⟩:=x
 obtain ⟨b0,b1,b2,_⟩:=y
 simpa only [Prod.mk.injEq,and_true] using h
abbrev VQu:=Int × Int × List VPr × Unit
instance:DecidableEq (List VPr × Unit):=inferInstance
instance:DecidableEq (Int × List VPr × Unit):=inferInstance
instance:DecidableEq VQu:=inferInstance
theorem zlF_ {x y:VQu} (h:¬ (x.1=y.1/\x.2.1=y.2.1/\x.2.2.1=y.2.2.1)):¬ x=y:=fun e=>h (by rw [e];exact ⟨rfl,rfl,rfl⟩)
theorem zl6_ {x y:VQu} (h:x.1=y.1/\x.2.1=y.2.1/\x.2.2.1=y.2.2.1):x=y:=by
 obtain ⟨a0,a1,a2,_⟩:=x
 obtain ⟨b0,b1,b2,_⟩:=y
 simpa only [Prod.mk.injEq,and_true] using h
abbrev VFe:=Int × List Int × List Int × Unit
instance:DecidableEq (List Int × Unit):=inferInstance
instance:DecidableEq (List Int × List Int × Unit):=inferInstance
instance:DecidableEq VFe:=inferInstance
theorem zlI_ {x y:VFe} (h:¬ (x.1=y.1/\x.2.1=y.2.1/\x.2.2.1=y.2.2.1)):¬ x=y:=fun e=>h (by rw [e];exact ⟨rfl,rfl,rfl⟩)
theorem zl9_ {x y:VFe} (h:x.1=y.1/\x.2.1=y.2.1/\x.2.2.1=y.2.2.1):x=y:=by
 obtain ⟨a0,a1,a2,_⟩:=x
 obtain ⟨b0,b1,b2,_⟩:=y
 simpa only [Prod.mk.injEq,and_true] using h
abbrev VTb:=Int × List Int × Int × Int × Int × Int × List VFe × Unit
instance:DecidableEq (List VFe × Unit):=inferInstance
instance:DecidableEq (Int × List VFe × Unit):=inferInstance
instance:DecidableEq (Int × Int × List VFe × Unit):=inferInstance
instance:DecidableEq (Int × Int × Int × List VFe × Unit):=inferInstance
instance:DecidableEq (Int × Int × Int × Int × List VFe × Unit):=inferInstance
instance:DecidableEq (List Int × Int × Int × Int × Int × List VFe × Unit):=inferInstance
instance:DecidableEq VTb:=inferInstance
theorem zlE_ {x y:VTb} (h:¬ (x.1=y.1/\x.2.1=y.2.1/\x.2.2.1=y.2.2.1/\x.2.2.2.1=y.2.2.2.1/\x.2.2.2.2.1=y.2.2.2.2.1/\x.2.2.2.2.2.1=y.2.2.2.2.2.1/\x.2.2.2.2.2.2.1=y.2.2.2.2.2.2.1)):¬ x=y:=fun e=>h (by rw [e];exact ⟨rfl,rfl,rfl,rfl,rfl,rfl,rfl⟩)
theorem zl5_ {x y:VTb} (h:x.1=y.1/\x.2.1=y.2.1/\x.2.2.1=y.2.2.1/\x.2.2.2.1=y.2.2.2.1/\x.2.2.2.2.1=y.2.2.2.2.1/\x.2.2.2.2.2.1=y.2.2.2.2.2.1/\x.2.2.2.2.2.2.1=y.2.2.2.2.2.2.1):x=y:=by
 obtain ⟨a0,a1,a2,a3,a4,a5,a6,_⟩:=x
 obtain ⟨b0,b1,b2,b3,b4,b5,b6,_⟩:=y
 simpa only [Prod.mk.injEq,and_true] using h
abbrev VEl:=Int × List Int × Unit
instance:DecidableEq (List Int × Unit):=inferInstance
instance:DecidableEq VEl:=inferInstance
theorem zlJ_ {x y:VEl} (h:¬ (x.1=y.1/\x.2.1=y.2.1)):¬ x=y:=fun e=>h (by rw [e];exact ⟨rfl,rfl⟩)
theorem zma_ {x y:VEl} (h:x.1=y.1/\x.2.1=y.2.1):x=y:=by
 obtain ⟨a0,a1,_⟩:=x
 obtain ⟨b0,b1,_⟩:=y
 simpa only [Prod.mk.injEq,and_true] using h
abbrev VPa:=List Int × List (List Int) × List OV × List VIn × List BK × List VBd × List (List Int) × List PV × List VTb × List Int × Unit
instance:DecidableEq (List Int × Unit):=inferInstance
instance:DecidableEq (List VTb × List Int × Unit):=inferInstance
instance:DecidableEq (List PV × List VTb × List Int × Unit):=inferInstance
instance:DecidableEq (List (List Int) × List PV × List VTb × List Int × Unit):=inferInstance
instance:DecidableEq (List VBd × List (List Int) × List PV × List VTb × List Int × Unit):=inferInstance
instance:DecidableEq (List BK × List VBd × List (List Int) × List PV × List VTb × List Int × Unit):=inferInstance
instance:DecidableEq (List VIn × List BK × List VBd × List (List Int) × List PV × List VTb × List Int × Unit):=inferInstance
instance:DecidableEq (List OV × List VIn × List BK × List VBd × List (List Int) × List PV × List VTb × List Int × Unit):=inferInstance
instance:DecidableEq (List (List Int) × List OV × List VIn × List BK × List VBd × List (List Int) × List PV × List VTb × List Int × Unit):=inferInstance
instance:DecidableEq VPa:=inferInstance
abbrev VMs:=Int × Int × List Int × List Int × List VEl × List OV × List AC × List VIn × List BK × List VBd × List VQu × List PV × Int × Int × List VPa × Unit
instance:DecidableEq (List VPa × Unit):=inferInstance
instance:DecidableEq (Int × List VPa × Unit):=inferInstance
instance:DecidableEq (Int × Int × List VPa × Unit):=inferInstance
instance:DecidableEq (List PV × Int × Int × List VPa × Unit):=inferInstance
instance:DecidableEq (List VQu × List PV × Int × Int × List VPa × Unit):=inferInstance
instance:DecidableEq (List VBd × List VQu × List PV × Int × Int × List VPa × Unit):=inferInstance
instance:DecidableEq (List BK × List VBd × List VQu × List PV × Int × Int × List VPa × Unit):=inferInstance
instance:DecidableEq (List VIn × List BK × List VBd × List VQu × List PV × Int × Int × List VPa × Unit):=inferInstance
instance:DecidableEq (List AC × List VIn × List BK × List VBd × List VQu × List PV × Int × Int × List VPa × Unit):=inferInstance
instance:DecidableEq (List OV × List AC × List VIn × List BK × List VBd × List VQu × List PV × Int × Int × List VPa × Unit):=inferInstance
instance:DecidableEq (List VEl × List OV × List AC × List VIn × List BK × List VBd × List VQu × List PV × Int × Int × List VPa × Unit):=inferInstance
instance:DecidableEq (List Int × List VEl × List OV × List AC × List VIn × List BK × List VBd × List VQu × List PV × Int × Int × List VPa × Unit):=inferInstance
instance:DecidableEq (List Int × List Int × List VEl × List OV × List AC × List VIn × List BK × List VBd × List VQu × List PV × Int × Int × List VPa × Unit):=inferInstance
instance:DecidableEq (Int × List Int × List Int × List VEl × List OV × List AC × List VIn × List BK × List VBd × List VQu × List PV × Int × Int × List VPa × Unit):=inferInstance
instance:DecidableEq VMs:=inferInstance
def zcG_:IR:=
(sq (kr [0,1] [oD 4 (.mov cF)])
(sq (sq (kr [0,1] [oM 6 0,
oE 7 6,
oM 8 1,
oE 9 8,
oB 10 .neq 7 9])
(.cond 10
(sq (.reg [oD 4 (.mov cF)])
.ret)
.skip))
(sq (sq (kr [0,1] [oD 5 (.mov (cI 0))])
(.block 0
(.loop
(sq (sq (kr [0,1,5] [oM 11 5,
oM 12 0,
oE 13 12,
oB 14 .lss 11 13])
(.cond 14
.skip
(.exit 0)))
(sq (.block 1
(sq (kd [0,1,5] [(oM 17 0,[]),
(oM 18 5,[0]),
(oI 19 1 17 18,[]),
(oL 20 19,[]),
(oM 21 1,[0,0,0,0]),
(oM 22 5,[0,0,0,0,0]),
(oI 23 1 21 22,[2,0,0,0]),
(oL 24 23,[3,0,0,0]),
(oB 25 .neq 20 24,[])])
(.cond 25
(sq (kr [] [oD 4 (.mov cF)])
.ret)
.skip)))
(kr [0,1,5] [oM 15 5,
oB 16 .add 15 (cI 1),
oM 5 16]))))))
(sq (kr [] [oD 4 (.mov cT)])
.ret))))
def zbf_:List RD:=[.tmp 4 true none]
theorem zbS_:zm_ Tryz.prog Tryz.f25 zcG_ zbf_=true:=by kernel_rfl
def kK_:List AV->List Obj->Option (Prop × AV)
 | [.imm (.int .u64) a,.imm (.int .u64) b],[]=>some ((True,.bool (decide ((a:List Int)=b))))
 | _,_=>none
theorem KB_:zd_ Tryz.prog 25 (RoF kK_).sum:=by
 refine zi_ Tryz.func25 zbS_ (zc_ _) fun args objs p v e=>?_
 unfold kK_ at e
 split at e
 ·rename_i a b
  cases e
  refine ⟨rfl,fun hw ho hp=>?_⟩
  change List Int at a
  change List Int at b
  change List Int at a
  change List Int at b
  have hl:a.length<=maxLen:=(hw (.imm (.int .u64) a) (by simp)).2
  unfold maxLen at hl
  clear hw ho
  repeat'(intro t ht;first|(cases t<;>first|(cases ht;done)|(try simp only[zg_]at ht))|((first|refine zb_ ht ?_|refine ht ?_ ?_|refine ht.1 ?_ ?_|refine ht ?_)<;>clear ht))
  all_goals first
   | (have hne:a ≠ b:=fun h=>(by assumption:¬ (a.length:Int)=b.length) (by rw [h])
      refine ⟨?_,rfl⟩;rw [decide_eq_false hne];done)
   | (intro r h1 h2;clear h1;refine h2 ⟨[0,1,5],Nat,(fun i=>i<=a.length/\a.take i=b.take i),fun i=>[.imm (.int .u64) a,.imm (.int .u64) b,.int .i64 i],fun _=>[],fun i=>a.length - i,⟨0,⟨Nat.zero_le _,rfl⟩,rfl,rfl⟩,?_⟩;clear h2)
  rintro i ⟨hi,he⟩
  have hl2:a.length=b.length:=by omega
  repeat'(intro t ht;first|(cases t<;>first|(cases ht;done)|(try simp only[zg_]at ht;try(exfalso;first|contradiction|omega)))|((first|refine zb_ ht ?_|refine ht ?_ ?_|refine ht.1 ?_ ?_|refine ht ?_)<;>clear ht))
  all_goals first
   | exact True.intro
   | ((try simp only [zk_,zl_,zj_] at*);omega)
   | (have e:=Ks_ he (by omega) hl2
      refine ⟨?_,rfl⟩;rw [decide_eq_true e];done)
   | (have hne:a ≠ b:=XO_ (d:=0) (i:=i) (by assumption)
      refine ⟨?_,rfl⟩;rw [decide_eq_false hne];done)
   | exact ⟨i+1,⟨by omega,Qe_ he (by omega) hl2 (d:=0) (by assumption)⟩,by (try simp only [zk_,zl_,zj_] at*);omega,rfl,rfl⟩
   | skip
 ·cases e
def zcw_:IR:=
(sq (kr [0,1] [oD 4 (.mov cF)])
(sq (sq (kr [0,1] [oM 8 0,
oE 9 8,
oM 10 1,
oE 11 10,
oB 12 .neq 9 11])
(.cond 12
(sq (.reg [oD 4 (.mov cF)])
.ret)
.skip))
(sq (sq (kr [0,1] [oD 5 (.mov (cI 0))])
(.block 0
(.loop
(sq (sq (kr [0,1,5] [oM 13 5,
oM 14 0,
oE 15 14,
oB 16 .lss 13 15])
(.cond 16
.skip
(.exit 0)))
(sq (.block 1
(sq (kd [0,1,5] [(oM 19 0,[]),
(oM 20 5,[0]),
(oI 21 5 19 20,[]),
(oK 22 5 21,[]),
(oM 23 1,[0,0,0,0]),
(oM 24 5,[0,0,0,0,0]),
(oI 25 5 23 24,[2,0,0,0]),
(oK 26 5 25,[3,0,0,0]),
(oD 6 (.box [.int .i64 0,.int .u64 0,.int .u64 0,.int .u64 0,.imm (.int .u8) []]),[0,0,0,0,0,0,0,0]),
(oD 7 (.box [.int .i64 0,.int .u64 0,.int .u64 0,.int .u64 0,.imm (.int .u8) []]),[0,0,0,0,0,0,0,0,0]),
(oS 5 6 22,[2,0,0,0]),
(oS 5 7 26,[])])
(sq (kr [0,1,5,6,7] [oA 27 0 6,
oL 28 27,
oA 29 0 7,
oL 30 29,
oB 31 .eql 28 30,
oM 32 31,
oT 32 33 (.fieldAddr 1 6),
oT 32 34 (.load none 33),
oT 32 35 (.fieldAddr 1 7),
oT 32 36 (.load none 35),
oT 32 37 (.bin .eql 34 36),
oP 38 32 37 cF,
oM 39 38,
oT 39 40 (.fieldAddr 2 6),
oT 39 41 (.load none 40),
oT 39 42 (.fieldAddr 2 7),
oT 39 43 (.load none 42),
oT 39 44 (.bin .eql 41 43),
oP 45 39 44 cF,
oM 46 45,
oT 46 47 (.fieldAddr 3 6),
oT 46 48 (.load none 47),
oT 46 49 (.fieldAddr 3 7),
oT 46 50 (.load none 49),
oT 46 51 (.bin .eql 48 50),
oP 52 46 51 cF,
oM 53 52,
oT 53 54 (.fieldAddr 4 6),
oT 53 55 (.load none 54),
oT 53 56 (.fieldAddr 4 7),
oT 53 57 (.load none 56),
oT 53 58 (.call false (.f 13) [55,57]),
oP 59 53 58 cF,
oD 60 (.un .not 59)])
(.cond 60
(sq (kr [] [oD 4 (.mov cF)])
.ret)
.skip))))
(kr [0,1,5] [oM 17 5,
oB 18 .add 17 (cI 1),
oM 5 18]))))))
(sq (kr [] [oD 4 (.mov cT)])
.ret))))
def za5_:List RD:=[.tmp 4 true none]
theorem zbI_:zm_ Tryz.prog Tryz.f58 zcw_ za5_=true:=by kernel_rfl
def wQ_:List AV->List Obj->Option (Prop × AV)
 | [.imm (.cons (.int .i64) (.cons (.int .u64) (.cons (.int .u64) (.cons (.int .u64) (.cons (.sl (.int .u8)) .nil))))) a,.imm (.cons (.int .i64) (.cons (.int .u64) (.cons (.int .u64) (.cons (.int .u64) (.cons (.sl (.int .u8)) .nil))))) b],[]=>some ((True,.bool (decide ((a:List VBd)=b))))
 | _,_=>none
theorem yY_:zd_ Tryz.prog 58 (RoF wQ_).sum:=by
 refine zi_ Tryz.func58 zbI_ (za_ (s:=RoF Zx_) Zr_ (zc_ _)) fun args objs p v e=>?_
 unfold wQ_ at e
 split at e
 ·rename_i a b
  cases e
  refine ⟨rfl,fun hw ho hp=>?_⟩
  change List VBd at a
  change List VBd at b
  have hl:a.length<=maxLen:=(hw (.imm Y5 a) (by simp)).2
  unfold maxLen at hl
  clear hw ho
  repeat'(intro t ht;first|(cases t<;>first|(cases ht;done)|(try simp only[zg_]at ht))|((first|refine zb_ ht ?_|refine ht ?_ ?_|refine ht.1 ?_ ?_|refine ht ?_)<;>clear ht))
  all_goals first
   | (have hne:a ≠ b:=fun h=>(by assumption:¬ (a.length:Int)=b.length) (by rw [h])
      refine ⟨?_,rfl⟩;rw [decide_eq_false hne];done)
   | (intro r h1 h2;clear h1;refine h2 ⟨[0,1,5],Nat,(fun i=>i<=a.length/\a.take i=b.take i),fun i=>[.imm Y5 a,.imm Y5 b,.int .i64 i],fun _=>[],fun i=>a.length - i,⟨0,⟨Nat.zero_le _,rfl⟩,rfl,rfl⟩,?_⟩;clear h2)
  rintro i ⟨hi,he⟩
  have hl2:a.length=b.length:=by omega
  repeat'(intro t ht;first|(cases t<;>first|(cases ht;done)|(try simp only[zg_]at ht;try(exfalso;first|contradiction|omega)))|((first|refine zb_ ht ?_|refine ht ?_ ?_|refine ht.1 ?_ ?_|refine ht ?_)<;>clear ht))
  all_goals (try generalize (Ty.dflt Y5)=od at*)
  all_goals first
   | exact True.intro
   | ((try simp only [zk_,zl_,zj_] at*);omega)
   | (have e:=Ks_ he (by omega) hl2
      refine ⟨?_,rfl⟩;rw [decide_eq_true e];done)
   | (have hne:a ≠ b:=XO_ (d:=od) (i:=i) (zlK_ fun h=>by simp_all)
      refine ⟨?_,rfl⟩;rw [decide_eq_false hne];done)
   | exact ⟨i+1,⟨by omega,Qe_ he (by omega) hl2 (d:=od) (zmb_ (by simp_all))⟩,by (try simp only [zk_,zl_,zj_] at*);omega,rfl,rfl⟩
   | skip
 ·cases e
def zcu_:IR:=
(sq (kr [0,1] [oD 4 (.mov cF)])
(sq (sq (kr [0,1] [oM 6 0,
oE 7 6,
oM 8 1,
oE 9 8,
oB 10 .neq 7 9])
(.cond 10
(sq (.reg [oD 4 (.mov cF)])
.ret)
.skip))
(sq (sq (kr [0,1] [oD 5 (.mov (cI 0))])
(.block 0
(.loop
(sq (sq (kr [0,1,5] [oM 11 5,
oM 12 0,
oE 13 12,
oB 14 .lss 11 13])
(.cond 14
.skip
(.exit 0)))
(sq (.block 1
(sq (kd [0,1,5] [(oM 17 0,[]),
(oM 18 5,[0]),
(oI 19 3 17 18,[]),
(oA 20 0 19,[]),
(oL 21 20,[]),
(oM 22 1,[0,0,0,0,0]),
(oM 23 5,[0,0,0,0,0,0]),
(oI 24 3 22 23,[2,0,0,0,0]),
(oA 25 0 24,[3,0,0,0,0]),
(oL 26 25,[4,0,0,0,0]),
(oB 27 .neq 21 26,[]),
(oM 28 27,[]),
(oF 28 29 (.mov 0),[]),
(oF 28 30 (.mov 5),[0]),
(oF 28 31 (.indexSl 3 29 30),[]),
(oF 28 32 (.fieldAddr 1 31),[]),
(oF 28 33 (.load none 32),[]),
(oF 28 34 (.mov 1),[0,0,0,0,0]),
(oF 28 35 (.mov 5),[0,0,0,0,0,0]),
(oF 28 36 (.indexSl 3 34 35),[2,0,0,0,0]),
(oF 28 37 (.fieldAddr 1 36),[3,0,0,0,0]),
(oF 28 38 (.load none 37),[4,0,0,0,0]),
(oF 28 39 (.bin .neq 33 38),[]),
(oP 40 28 cT 39,[]),
(oM 41 40,[]),
(oF 41 42 (.mov 0),[]),
(oF 41 43 (.mov 5),[0]),
(oF 41 44 (.indexSl 3 42 43),[]),
(oF 41 45 (.fieldAddr 2 44),[]),
(oF 41 46 (.load none 45),[]),
(oF 41 47 (.mov 1),[0,0,0,0,0]),
(oF 41 48 (.mov 5),[0,0,0,0,0,0]),
(oF 41 49 (.indexSl 3 47 48),[2,0,0,0,0]),
(oF 41 50 (.fieldAddr 2 49),[3,0,0,0,0]),
(oF 41 51 (.load none 50),[4,0,0,0,0]),
(oF 41 52 (.call false (.f 13) [46,51]),[]),
(oF 41 53 (.un .not 52),[]),
(oP 54 41 cT 53,[])])
(.cond 54
(sq (kr [] [oD 4 (.mov cF)])
.ret)
.skip)))
(kr [0,1,5] [oM 15 5,
oB 16 .add 15 (cI 1),
oM 5 16]))))))
(sq (kr [] [oD 4 (.mov cT)])
.ret))))
def za3_:List RD:=[.tmp 4 true none]
theorem zbG_:zm_ Tryz.prog Tryz.f112 zcu_ za3_=true:=by kernel_rfl
def yC_:List AV->List Obj->Option (Prop × AV)
 | [.imm (.cons (.int .i64) (.cons (.int .u64) (.cons (.sl (.int .u8)) .nil))) a,.imm (.cons (.int .i64) (.cons (.int .u64) (.cons (.sl (.int .u8)) .nil))) b],[]=>some ((True,.bool (decide ((a:List VPr)=b))))
 | _,_=>none
theorem HY_:zd_ Tryz.prog 112 (RoF yC_).sum:=by
 refine zi_ Tryz.func112 zbG_ (za_ (s:=RoF Zx_) Zr_ (zc_ _)) fun args objs p v e=>?_
 unfold yC_ at e
 split at e
 ·rename_i a b
  cases e
  refine ⟨rfl,fun hw ho hp=>?_⟩
  change List VPr at a
  change List VPr at b
  have hl:a.length<=maxLen:=(hw (.imm Y6 a) (by simp)).2
  unfold maxLen at hl
  clear hw ho
  repeat'(intro t ht;first|(cases t<;>first|(cases ht;done)|(try simp only[zg_]at ht))|((first|refine zb_ ht ?_|refine ht ?_ ?_|refine ht.1 ?_ ?_|refine ht ?_)<;>clear ht))
  all_goals first
   | (have hne:a ≠ b:=fun h=>(by assumption:¬ (a.length:Int)=b.length) (by rw [h])
      refine ⟨?_,rfl⟩;rw [decide_eq_false hne];done)
   | (intro r h1 h2;clear h1;refine h2 ⟨[0,1,5],Nat,(fun i=>i<=a.length/\a.take i=b.take i),fun i=>[.imm Y6 a,.imm Y6 b,.int .i64 i],fun _=>[],fun i=>a.length - i,⟨0,⟨Nat.zero_le _,rfl⟩,rfl,rfl⟩,?_⟩;clear h2)
  rintro i ⟨hi,he⟩
  have hl2:a.length=b.length:=by omega
  repeat'(intro t ht;first|(cases t<;>first|(cases ht;done)|(try simp only[zg_]at ht;try(exfalso;first|contradiction|omega)))|((first|refine zb_ ht ?_|refine ht ?_ ?_|refine ht.1 ?_ ?_|refine ht ?_)<;>clear ht))
  all_goals (try generalize (Ty.dflt Y6)=od at*)
  all_goals first
   | exact True.intro
   | ((try simp only [zk_,zl_,zj_] at*);omega)
   | (have e:=Ks_ he (by omega) hl2
      refine ⟨?_,rfl⟩;rw [decide_eq_true e];done)
   | (have hne:a ≠ b:=XO_ (d:=od) (i:=i) (zlG_ fun h=>by simp_all)
      refine ⟨?_,rfl⟩;rw [decide_eq_false hne];done)
   | exact ⟨i+1,⟨by omega,Qe_ he (by omega) hl2 (d:=od) (zl7_ (by simp_all))⟩,by (try simp only [zk_,zl_,zj_] at*);omega,rfl,rfl⟩
   | skip
 ·cases e
def zcv_:IR:=
(sq (kr [0,1] [oD 4 (.mov cF)])
(sq (sq (kr [0,1] [oM 8 0,
oE 9 8,
oM 10 1,
oE 11 10,
oB 12 .neq 9 11])
(.cond 12
(sq (.reg [oD 4 (.mov cF)])
.ret)
.skip))
(sq (sq (kr [0,1] [oD 5 (.mov (cI 0))])
(.block 0
(.loop
(sq (sq (kr [0,1,5] [oM 13 5,
oM 14 0,
oE 15 14,
oB 16 .lss 13 15])
(.cond 16
.skip
(.exit 0)))
(sq (.block 1
(sq (kd [0,1,5] [(oM 19 0,[]),
(oM 20 5,[0]),
(oI 21 3 19 20,[]),
(oK 22 3 21,[]),
(oM 23 1,[0,0,0,0]),
(oM 24 5,[0,0,0,0,0]),
(oI 25 3 23 24,[2,0,0,0]),
(oK 26 3 25,[3,0,0,0]),
(oD 6 (.box [.int .u64 0,.int .u64 0,.imm Y6 []]),[0,0,0,0,0,0,0,0]),
(oD 7 (.box [.int .u64 0,.int .u64 0,.imm Y6 []]),[0,0,0,0,0,0,0,0,0]),
(oS 3 6 22,[2,0,0,0]),
(oS 3 7 26,[])])
(sq (kr [0,1,5,6,7] [oA 27 0 6,
oL 28 27,
oA 29 0 7,
oL 30 29,
oB 31 .eql 28 30,
oM 32 31,
oT 32 33 (.fieldAddr 1 6),
oT 32 34 (.load none 33),
oT 32 35 (.fieldAddr 1 7),
oT 32 36 (.load none 35),
oT 32 37 (.bin .eql 34 36),
oP 38 32 37 cF,
oM 39 38,
oT 39 40 (.fieldAddr 2 6),
oT 39 41 (.load none 40),
oT 39 42 (.fieldAddr 2 7),
oT 39 43 (.load none 42),
oT 39 44 (.call false (.f 112) [41,43]),
oP 45 39 44 cF,
oD 46 (.un .not 45)])
(.cond 46
(sq (kr [] [oD 4 (.mov cF)])
.ret)
.skip))))
(kr [0,1,5] [oM 17 5,
oB 18 .add 17 (cI 1),
oM 5 18]))))))
(sq (kr [] [oD 4 (.mov cT)])
.ret))))
def za4_:List RD:=[.tmp 4 true none]
theorem zbH_:zm_ Tryz.prog Tryz.f59 zcv_ za4_=true:=by kernel_rfl
def yD_:List AV->List Obj->Option (Prop × AV)
 | [.imm (.cons (.int .u64) (.cons (.int .u64) (.cons (.sl (.cons (.int .i64) (.cons (.int .u64) (.cons (.sl (.int .u8)) .nil)))) .nil))) a,.imm (.cons (.int .u64) (.cons (.int .u64) (.cons (.sl (.cons (.int .i64) (.cons (.int .u64) (.cons (.sl (.int .u8)) .nil)))) .nil))) b],[]=>some ((True,.bool (decide ((a:List VQu)=b))))
 | _,_=>none
theorem HZ_:zd_ Tryz.prog 59 (RoF yD_).sum:=by
 refine zi_ Tryz.func59 zbH_ (za_ (s:=RoF yC_) HY_ (zc_ _)) fun args objs p v e=>?_
 unfold yD_ at e
 split at e
 ·rename_i a b
  cases e
  refine ⟨rfl,fun hw ho hp=>?_⟩
  change List VQu at a
  change List VQu at b
  have hl:a.length<=maxLen:=(hw (.imm Y7 a) (by simp)).2
  unfold maxLen at hl
  clear hw ho
  repeat'(intro t ht;first|(cases t<;>first|(cases ht;done)|(try simp only[zg_]at ht))|((first|refine zb_ ht ?_|refine ht ?_ ?_|refine ht.1 ?_ ?_|refine ht ?_)<;>clear ht))
  all_goals first
   | (have hne:a ≠ b:=fun h=>(by assumption:¬ (a.length:Int)=b.length) (by rw [h])
      refine ⟨?_,rfl⟩;rw [decide_eq_false hne];done)
   | (intro r h1 h2;clear h1;refine h2 ⟨[0,1,5],Nat,(fun i=>i<=a.length/\a.take i=b.take i),fun i=>[.imm Y7 a,.imm Y7 b,.int .i64 i],fun _=>[],fun i=>a.length - i,⟨0,⟨Nat.zero_le _,rfl⟩,rfl,rfl⟩,?_⟩;clear h2)
  rintro i ⟨hi,he⟩
  have hl2:a.length=b.length:=by omega
  repeat'(intro t ht;first|(cases t<;>first|(cases ht;done)|(try simp only[zg_]at ht;try(exfalso;first|contradiction|omega)))|((first|refine zb_ ht ?_|refine ht ?_ ?_|refine ht.1 ?_ ?_|refine ht ?_)<;>clear ht))
  all_goals (try generalize (Ty.dflt Y7)=od at*)
  all_goals first
   | exact True.intro
   | ((try simp only [zk_,zl_,zj_] at*);omega)
   | (have e:=Ks_ he (by omega) hl2
      refine ⟨?_,rfl⟩;rw [decide_eq_true e];done)
   | (have hne:a ≠ b:=XO_ (d:=od) (i:=i) (zlF_ fun h=>by simp_all)
      refine ⟨?_,rfl⟩;rw [decide_eq_false hne];done)
   | exact ⟨i+1,⟨by omega,Qe_ he (by omega) hl2 (d:=od) (zl6_ (by simp_all))⟩,by (try simp only [zk_,zl_,zj_] at*);omega,rfl,rfl⟩
   | skip
 ·cases e
def BE_:IR:=
(sq (kr [0,1] [oD 4 (.mov cF)])
(sq (sq (kr [0,1] [oM 6 0,
oE 7 6,
oM 8 1,
oE 9 8,
oB 10 .neq 7 9])
(.cond 10
(sq (.reg [oD 4 (.mov cF)])
.ret)
.skip))
(sq (sq (kr [0,1] [oD 5 (.mov (cI 0))])
(.block 0
(.loop
(sq (sq (kr [0,1,5] [oM 11 5,
oM 12 0,
oE 13 12,
oB 14 .lss 11 13])
(.cond 14
.skip
(.exit 0)))
(sq (.block 1
(sq (kd [0,1,5] [(oM 17 0,[]),
(oM 18 5,[0]),
(oI 19 3 17 18,[]),
(oA 20 0 19,[]),
(oL 21 20,[]),
(oM 22 1,[0,0,0,0,0]),
(oM 23 5,[0,0,0,0,0,0]),
(oI 24 3 22 23,[2,0,0,0,0]),
(oA 25 0 24,[3,0,0,0,0]),
(oL 26 25,[4,0,0,0,0]),
(oB 27 .neq 21 26,[]),
(oM 28 27,[]),
(oF 28 29 (.mov 0),[]),
(oF 28 30 (.mov 5),[0]),
(oF 28 31 (.indexSl 3 29 30),[]),
(oF 28 32 (.fieldAddr 1 31),[]),
(oF 28 33 (.load none 32),[]),
(oF 28 34 (.mov 1),[0,0,0,0,0]),
(oF 28 35 (.mov 5),[0,0,0,0,0,0]),
(oF 28 36 (.indexSl 3 34 35),[2,0,0,0,0]),
(oF 28 37 (.fieldAddr 1 36),[3,0,0,0,0]),
(oF 28 38 (.load none 37),[4,0,0,0,0]),
(oF 28 39 (.call false (.f 25) [33,38]),[]),
(oF 28 40 (.un .not 39),[]),
(oP 41 28 cT 40,[]),
(oM 42 41,[]),
(oF 42 43 (.mov 0),[]),
(oF 42 44 (.mov 5),[0]),
(oF 42 45 (.indexSl 3 43 44),[]),
(oF 42 46 (.fieldAddr 2 45),[]),
(oF 42 47 (.load none 46),[]),
(oF 42 48 (.mov 1),[0,0,0,0,0]),
(oF 42 49 (.mov 5),[0,0,0,0,0,0]),
(oF 42 50 (.indexSl 3 48 49),[2,0,0,0,0]),
(oF 42 51 (.fieldAddr 2 50),[3,0,0,0,0]),
(oF 42 52 (.load none 51),[4,0,0,0,0]),
(oF 42 53 (.call false (.f 13) [47,52]),[]),
(oF 42 54 (.un .not 53),[]),
(oP 55 42 cT 54,[])])
(.cond 55
(sq (kr [] [oD 4 (.mov cF)])
.ret)
.skip)))
(kr [0,1,5] [oM 15 5,
oB 16 .add 15 (cI 1),
oM 5 16]))))))
(sq (kr [] [oD 4 (.mov cT)])
.ret))))
def bm_:List RD:=[.tmp 4 true none]
theorem bX_:zm_ Tryz.prog Tryz.f145 BE_ bm_=true:=by kernel_rfl
def Xb_:List AV->List Obj->Option (Prop × AV)
 | [.imm (.cons (.int .i64) (.cons (.sl (.int .u64)) (.cons (.sl (.int .u8)) .nil))) a,.imm (.cons (.int .i64) (.cons (.sl (.int .u64)) (.cons (.sl (.int .u8)) .nil))) b],[]=>some ((True,.bool (decide ((a:List VFe)=b))))
 | _,_=>none
theorem g6_:zd_ Tryz.prog 145 (RoF Xb_).sum:=by
 refine zi_ Tryz.func145 bX_ (za_ (s:=RoF kK_) KB_ (za_ (s:=RoF Zx_) Zr_ (zc_ _))) fun args objs p v e=>?_
 unfold Xb_ at e
 split at e
 ·rename_i a b
  cases e
  refine ⟨rfl,fun hw ho hp=>?_⟩
  change List VFe at a
  change List VFe at b
  have hl:a.length<=maxLen:=(hw (.imm Y9 a) (by simp)).2
  unfold maxLen at hl
  clear hw ho
  repeat'(intro t ht;first|(cases t<;>first|(cases ht;done)|(try simp only[zg_]at ht))|((first|refine zb_ ht ?_|refine ht ?_ ?_|refine ht.1 ?_ ?_|refine ht ?_)<;>clear ht))
  all_goals first
   | (have hne:a ≠ b:=fun h=>(by assumption:¬ (a.length:Int)=b.length) (by rw [h])
      refine ⟨?_,rfl⟩;rw [decide_eq_false hne];done)
   | (intro r h1 h2;clear h1;refine h2 ⟨[0,1,5],Nat,(fun i=>i<=a.length/\a.take i=b.take i),fun i=>[.imm Y9 a,.imm Y9 b,.int .i64 i],fun _=>[],fun i=>a.length - i,⟨0,⟨Nat.zero_le _,rfl⟩,rfl,rfl⟩,?_⟩;clear h2)
  rintro i ⟨hi,he⟩
  have hl2:a.length=b.length:=by omega
  repeat'(intro t ht;first|(cases t<;>first|(cases ht;done)|(try simp only[zg_]at ht;try(exfalso;first|contradiction|omega)))|((first|refine zb_ ht ?_|refine ht ?_ ?_|refine ht.1 ?_ ?_|refine ht ?_)<;>clear ht))
  all_goals (try generalize (Ty.dflt Y9)=od at*)
  all_goals first
   | exact True.intro
   | ((try simp only [zk_,zl_,zj_] at*);omega)
   | (have e:=Ks_ he (by omega) hl2
      refine ⟨?_,rfl⟩;rw [decide_eq_true e];done)
   | (have hne:a ≠ b:=XO_ (d:=od) (i:=i) (zlI_ fun h=>by simp_all)
      refine ⟨?_,rfl⟩;rw [decide_eq_false hne];done)
   | exact ⟨i+1,⟨by omega,Qe_ he (by omega) hl2 (d:=od) (zl9_ (by simp_all))⟩,by (try simp only [zk_,zl_,zj_] at*);omega,rfl,rfl⟩
   | skip
 ·cases e
def zcs_:IR:=
(sq (kr [0,1] [oD 4 (.mov cF)])
(sq (sq (kr [0,1] [oM 8 0,
oE 9 8,
oM 10 1,
oE 11 10,
oB 12 .neq 9 11])
(.cond 12
(sq (.reg [oD 4 (.mov cF)])
.ret)
.skip))
(sq (sq (kr [0,1] [oD 5 (.mov (cI 0))])
(.block 0
(.loop
(sq (sq (kr [0,1,5] [oM 13 5,
oM 14 0,
oE 15 14,
oB 16 .lss 13 15])
(.cond 16
.skip
(.exit 0)))
(sq (.block 1
(sq (kd [0,1,5] [(oM 19 0,[]),
(oM 20 5,[0]),
(oI 21 7 19 20,[]),
(oK 22 7 21,[]),
(oM 23 1,[0,0,0,0]),
(oM 24 5,[0,0,0,0,0]),
(oI 25 7 23 24,[2,0,0,0]),
(oK 26 7 25,[3,0,0,0]),
(oD 6 (.box [.int .u64 0,.str [],.int .u64 0,.int .u64 0,.int .u64 0,.int .u64 0,.imm Y9 []]),[0,0,0,0,0,0,0,0]),
(oD 7 (.box [.int .u64 0,.str [],.int .u64 0,.int .u64 0,.int .u64 0,.int .u64 0,.imm Y9 []]),[0,0,0,0,0,0,0,0,0]),
(oS 7 6 22,[2,0,0,0]),
(oS 7 7 26,[])])
(sq (kr [0,1,5,6,7] [oA 27 0 6,
oL 28 27,
oA 29 0 7,
oL 30 29,
oB 31 .eql 28 30,
oM 32 31,
oT 32 33 (.fieldAddr 1 6),
oT 32 34 (.load none 33),
oT 32 35 (.fieldAddr 1 7),
oT 32 36 (.load none 35),
oT 32 37 (.bin .eql 34 36),
oP 38 32 37 cF,
oM 39 38,
oT 39 40 (.fieldAddr 2 6),
oT 39 41 (.load none 40),
oT 39 42 (.fieldAddr 2 7),
oT 39 43 (.load none 42),
oT 39 44 (.bin .eql 41 43),
oP 45 39 44 cF,
oM 46 45,
oT 46 47 (.fieldAddr 3 6),
oT 46 48 (.load none 47),
oT 46 49 (.fieldAddr 3 7),
oT 46 50 (.load none 49),
oT 46 51 (.bin .eql 48 50),
oP 52 46 51 cF,
oM 53 52,
oT 53 54 (.fieldAddr 4 6),
oT 53 55 (.load none 54),
oT 53 56 (.fieldAddr 4 7),
oT 53 57 (.load none 56),
oT 53 58 (.bin .eql 55 57),
oP 59 53 58 cF,
oM 60 59,
oT 60 61 (.fieldAddr 5 6),
oT 60 62 (.load none 61),
oT 60 63 (.fieldAddr 5 7),
oT 60 64 (.load none 63),
oT 60 65 (.bin .eql 62 64),
oP 66 60 65 cF,
oM 67 66,
oT 67 68 (.fieldAddr 6 6),
oT 67 69 (.load none 68),
oT 67 70 (.fieldAddr 6 7),
oT 67 71 (.load none 70),
oT 67 72 (.call false (.f 145) [69,71]),
oP 73 67 72 cF,
oD 74 (.un .not 73)])
(.cond 74
(sq (kr [] [oD 4 (.mov cF)])
.ret)
.skip))))
(kr [0,1,5] [oM 17 5,
oB 18 .add 17 (cI 1),
oM 5 18]))))))
(sq (kr [] [oD 4 (.mov cT)])
.ret))))
def za1_:List RD:=[.tmp 4 true none]
theorem zbE_:zm_ Tryz.prog Tryz.f109 zcs_ za1_=true:=by kernel_rfl
def yB_:List AV->List Obj->Option (Prop × AV)
 | [.imm ty0 a,.imm ty1 b],[]=>ZY_ ty0 YA a fun a=>ZY_ ty1 YA b fun b=>some ((True,.bool (decide ((a:List VTb)=b))))
 | _,_=>none
theorem HX_:zd_ Tryz.prog 109 (RoF yB_).sum:=by
 refine zi_ Tryz.func109 zbE_ (za_ (s:=RoF Xb_) g6_ (zc_ _)) fun args objs p v e=>?_
 unfold yB_ at e
 split at e
 ·rename_i ty0 a ty1 b
  obtain rfl:=zY_ e
  replace e:=zZ_ e
  obtain rfl:=zY_ e
  replace e:=zZ_ e
  cases e
  refine ⟨rfl,fun hw ho hp=>?_⟩
  change List VTb at a
  change List VTb at b
  have hl:a.length<=maxLen:=(hw (.imm YA a) (by simp)).2
  unfold maxLen at hl
  clear hw ho
  repeat'(intro t ht;first|(cases t<;>first|(cases ht;done)|(try simp only[zg_]at ht))|((first|refine zb_ ht ?_|refine ht ?_ ?_|refine ht.1 ?_ ?_|refine ht ?_)<;>clear ht))
  all_goals first
   | (have hne:a ≠ b:=fun h=>(by assumption:¬ (a.length:Int)=b.length) (by rw [h])
      refine ⟨?_,rfl⟩;rw [decide_eq_false hne];done)
   | (intro r h1 h2;clear h1;refine h2 ⟨[0,1,5],Nat,(fun i=>i<=a.length/\a.take i=b.take i),fun i=>[.imm YA a,.imm YA b,.int .i64 i],fun _=>[],fun i=>a.length - i,⟨0,⟨Nat.zero_le _,rfl⟩,rfl,rfl⟩,?_⟩;clear h2)
  rintro i ⟨hi,he⟩
  have hl2:a.length=b.length:=by omega
  repeat'(intro t ht;first|(cases t<;>first|(cases ht;done)|(try simp only[zg_]at ht;try(exfalso;first|contradiction|omega)))|((first|refine zb_ ht ?_|refine ht ?_ ?_|refine ht.1 ?_ ?_|refine ht ?_)<;>clear ht))
  all_goals (try generalize (Ty.dflt YA)=od at*)
  all_goals first
   | exact True.intro
   | ((try simp only [zk_,zl_,zj_] at*);omega)
   | (have e:=Ks_ he (by omega) hl2
      refine ⟨?_,rfl⟩;rw [decide_eq_true e];done)
   | (have hne:a ≠ b:=XO_ (d:=od) (i:=i) (zlE_ fun h=>by simp_all)
      refine ⟨?_,rfl⟩;rw [decide_eq_false hne];done)
   | exact ⟨i+1,⟨by omega,Qe_ he (by omega) hl2 (d:=od) (zl5_ (by simp_all))⟩,by (try simp only [zk_,zl_,zj_] at*);omega,rfl,rfl⟩
   | skip
 ·cases e
def zcy_:IR:=
(sq (kr [0,1] [oD 4 (.mov cF)])
(sq (sq (kr [0,1] [oM 8 0,
oE 9 8,
oM 10 1,
oE 11 10,
oB 12 .neq 9 11])
(.cond 12
(sq (.reg [oD 4 (.mov cF)])
.ret)
.skip))
(sq (sq (kr [0,1] [oD 5 (.mov (cI 0))])
(.block 0
(.loop
(sq (sq (kr [0,1,5] [oM 13 5,
oM 14 0,
oE 15 14,
oB 16 .lss 13 15])
(.cond 16
.skip
(.exit 0)))
(sq (.block 1
(sq (kd [0,1,5] [(oM 19 0,[]),
(oM 20 5,[0]),
(oI 21 5 19 20,[]),
(oK 22 5 21,[]),
(oM 23 1,[0,0,0,0]),
(oM 24 5,[0,0,0,0,0]),
(oI 25 5 23 24,[2,0,0,0]),
(oK 26 5 25,[3,0,0,0]),
(oD 6 (.box [.int .i64 0,.int .u64 0,.int .u64 0,.imm Y2 [],.imm (.int .u8) []]),[0,0,0,0,0,0,0,0]),
(oD 7 (.box [.int .i64 0,.int .u64 0,.int .u64 0,.imm Y2 [],.imm (.int .u8) []]),[0,0,0,0,0,0,0,0,0]),
(oS 5 6 22,[2,0,0,0]),
(oS 5 7 26,[])])
(sq (kr [0,1,5,6,7] [oA 27 0 6,
oL 28 27,
oA 29 0 7,
oL 30 29,
oB 31 .neq 28 30,
oM 32 31,
oF 32 33 (.fieldAddr 1 6),
oF 32 34 (.load none 33),
oF 32 35 (.fieldAddr 1 7),
oF 32 36 (.load none 35),
oF 32 37 (.bin .neq 34 36),
oP 38 32 cT 37,
oM 39 38,
oF 39 40 (.fieldAddr 2 6),
oF 39 41 (.load none 40),
oF 39 42 (.fieldAddr 2 7),
oF 39 43 (.load none 42),
oF 39 44 (.bin .neq 41 43),
oP 45 39 cT 44,
oM 46 45,
oF 46 47 (.fieldAddr 3 6),
oF 46 48 (.load none 47),
oF 46 49 (.fieldAddr 3 7),
oF 46 50 (.load none 49),
oF 46 51 (.call false (.f 55) [48,50]),
oF 46 52 (.un .not 51),
oP 53 46 cT 52,
oM 54 53,
oF 54 55 (.fieldAddr 4 6),
oF 54 56 (.load none 55),
oF 54 57 (.fieldAddr 4 7),
oF 54 58 (.load none 57),
oF 54 59 (.call false (.f 13) [56,58]),
oF 54 60 (.un .not 59),
oP 61 54 cT 60])
(.cond 61
(sq (kr [] [oD 4 (.mov cF)])
.ret)
.skip))))
(kr [0,1,5] [oM 17 5,
oB 18 .add 17 (cI 1),
oM 5 18]))))))
(sq (kr [] [oD 4 (.mov cT)])
.ret))))
def za7_:List RD:=[.tmp 4 true none]
theorem zbK_:zm_ Tryz.prog Tryz.f56 zcy_ za7_=true:=by kernel_rfl
def wS_:List AV->List Obj->Option (Prop × AV)
 | [.imm ty0 a,.imm ty1 b],[]=>ZY_ ty0 Y3 a fun a=>ZY_ ty1 Y3 b fun b=>some ((True,.bool (decide ((a:List VIn)=b))))
 | _,_=>none
theorem y0_:zd_ Tryz.prog 56 (RoF wS_).sum:=by
 refine zi_ Tryz.func56 zbK_ (za_ (s:=RoF ji_) JX_ (za_ (s:=RoF Zx_) Zr_ (zc_ _))) fun args objs p v e=>?_
 unfold wS_ at e
 split at e
 ·rename_i ty0 a ty1 b
  obtain rfl:=zY_ e
  replace e:=zZ_ e
  obtain rfl:=zY_ e
  replace e:=zZ_ e
  cases e
  refine ⟨rfl,fun hw ho hp=>?_⟩
  change List VIn at a
  change List VIn at b
  have hl:a.length<=maxLen:=(hw (.imm Y3 a) (by simp)).2
  unfold maxLen at hl
  clear hw ho
  repeat'(intro t ht;first|(cases t<;>first|(cases ht;done)|(try simp only[zg_]at ht))|((first|refine zb_ ht ?_|refine ht ?_ ?_|refine ht.1 ?_ ?_|refine ht ?_)<;>clear ht))
  all_goals first
   | (have hne:a ≠ b:=fun h=>(by assumption:¬ (a.length:Int)=b.length) (by rw [h])
      refine ⟨?_,rfl⟩;rw [decide_eq_false hne];done)
   | (intro r h1 h2;clear h1;refine h2 ⟨[0,1,5],Nat,(fun i=>i<=a.length/\a.take i=b.take i),fun i=>[.imm Y3 a,.imm Y3 b,.int .i64 i],fun _=>[],fun i=>a.length - i,⟨0,⟨Nat.zero_le _,rfl⟩,rfl,rfl⟩,?_⟩;clear h2)
  rintro i ⟨hi,he⟩
  have hl2:a.length=b.length:=by omega
  repeat'(intro t ht;first|(cases t<;>first|(cases ht;done)|(try simp only[zg_]at ht;try(exfalso;first|contradiction|omega)))|((first|refine zb_ ht ?_|refine ht ?_ ?_|refine ht.1 ?_ ?_|refine ht ?_)<;>clear ht))
  all_goals (try generalize (Ty.dflt Y3)=od at*)
  all_goals first
   | exact True.intro
   | ((try simp only [zk_,zl_,zj_] at*);omega)
   | (have e:=Ks_ he (by omega) hl2
      refine ⟨?_,rfl⟩;rw [decide_eq_true e];done)
   | (have hne:a ≠ b:=XO_ (d:=od) (i:=i) (zlH_ fun h=>by simp_all)
      refine ⟨?_,rfl⟩;rw [decide_eq_false hne];done)
   | exact ⟨i+1,⟨by omega,Qe_ he (by omega) hl2 (d:=od) (zl8_ (by simp_all))⟩,by (try simp only [zk_,zl_,zj_] at*);omega,rfl,rfl⟩
   | skip
 ·cases e
def BD_:IR:=
(sq (kr [0,1] [oD 4 (.mov cF)])
(sq (sq (kr [0,1] [oM 6 0,
oE 7 6,
oM 8 1,
oE 9 8,
oB 10 .neq 7 9])
(.cond 10
(sq (.reg [oD 4 (.mov cF)])
.ret)
.skip))
(sq (sq (kr [0,1] [oD 5 (.mov (cI 0))])
(.block 0
(.loop
(sq (sq (kr [0,1,5] [oM 11 5,
oM 12 0,
oE 13 12,
oB 14 .lss 11 13])
(.cond 14
.skip
(.exit 0)))
(sq (.block 1
(sq (kd [0,1,5] [(oM 17 0,[]),
(oM 18 5,[0]),
(oI 19 2 17 18,[]),
(oA 20 0 19,[]),
(oL 21 20,[]),
(oM 22 1,[0,0,0,0,0]),
(oM 23 5,[0,0,0,0,0,0]),
(oI 24 2 22 23,[2,0,0,0,0]),
(oA 25 0 24,[3,0,0,0,0]),
(oL 26 25,[4,0,0,0,0]),
(oB 27 .neq 21 26,[]),
(oM 28 27,[]),
(oF 28 29 (.mov 0),[]),
(oF 28 30 (.mov 5),[0]),
(oF 28 31 (.indexSl 2 29 30),[]),
(oF 28 32 (.fieldAddr 1 31),[]),
(oF 28 33 (.load none 32),[]),
(oF 28 34 (.mov 1),[0,0,0,0,0]),
(oF 28 35 (.mov 5),[0,0,0,0,0,0]),
(oF 28 36 (.indexSl 2 34 35),[2,0,0,0,0]),
(oF 28 37 (.fieldAddr 1 36),[3,0,0,0,0]),
(oF 28 38 (.load none 37),[4,0,0,0,0]),
(oF 28 39 (.call false (.f 13) [33,38]),[]),
(oF 28 40 (.un .not 39),[]),
(oP 41 28 cT 40,[])])
(.cond 41
(sq (kr [] [oD 4 (.mov cF)])
.ret)
.skip)))
(kr [0,1,5] [oM 15 5,
oB 16 .add 15 (cI 1),
oM 5 16]))))))
(sq (kr [] [oD 4 (.mov cT)])
.ret))))
def bl_:List RD:=[.tmp 4 true none]
theorem bW_:zm_ Tryz.prog Tryz.f53 BD_ bl_=true:=by kernel_rfl
def Xa_:List AV->List Obj->Option (Prop × AV)
 | [.imm (.cons (.int .i64) (.cons (.sl (.int .u8)) .nil)) a,.imm (.cons (.int .i64) (.cons (.sl (.int .u8)) .nil)) b],[]=>some ((True,.bool (decide ((a:List VEl)=b))))
 | _,_=>none
theorem g5_:zd_ Tryz.prog 53 (RoF Xa_).sum:=by
 refine zi_ Tryz.func53 bW_ (za_ (s:=RoF Zx_) Zr_ (zc_ _)) fun args objs p v e=>?_
 unfold Xa_ at e
 split at e
 ·rename_i a b
  cases e
  refine ⟨rfl,fun hw ho hp=>?_⟩
  change List VEl at a
  change List VEl at b
  have hl:a.length<=maxLen:=(hw (.imm YB a) (by simp)).2
  unfold maxLen at hl
  clear hw ho
  repeat'(intro t ht;first|(cases t<;>first|(cases ht;done)|(try simp only[zg_]at ht))|((first|refine zb_ ht ?_|refine ht ?_ ?_|refine ht.1 ?_ ?_|refine ht ?_)<;>clear ht))
  all_goals first
   | (have hne:a ≠ b:=fun h=>(by assumption:¬ (a.length:Int)=b.length) (by rw [h])
      refine ⟨?_,rfl⟩;rw [decide_eq_false hne];done)
   | (intro r h1 h2;clear h1;refine h2 ⟨[0,1,5],Nat,(fun i=>i<=a.length/\a.take i=b.take i),fun i=>[.imm YB a,.imm YB b,.int .i64 i],fun _=>[],fun i=>a.length - i,⟨0,⟨Nat.zero_le _,rfl⟩,rfl,rfl⟩,?_⟩;clear h2)
  rintro i ⟨hi,he⟩
  have hl2:a.length=b.length:=by omega
  repeat'(intro t ht;first|(cases t<;>first|(cases ht;done)|(try simp only[zg_]at ht;try(exfalso;first|contradiction|omega)))|((first|refine zb_ ht ?_|refine ht ?_ ?_|refine ht.1 ?_ ?_|refine ht ?_)<;>clear ht))
  all_goals (try generalize (Ty.dflt YB)=od at*)
  all_goals first
   | exact True.intro
   | ((try simp only [zk_,zl_,zj_] at*);omega)
   | (have e:=Ks_ he (by omega) hl2
      refine ⟨?_,rfl⟩;rw [decide_eq_true e];done)
   | (have hne:a ≠ b:=XO_ (d:=od) (i:=i) (zlJ_ fun h=>by simp_all)
      refine ⟨?_,rfl⟩;rw [decide_eq_false hne];done)
   | exact ⟨i+1,⟨by omega,Qe_ he (by omega) hl2 (d:=od) (zma_ (by simp_all))⟩,by (try simp only [zk_,zl_,zj_] at*);omega,rfl,rfl⟩
   | skip
 ·cases e
def zcr_:IR:=
(sq (kr [0,1] [oD 2 (.boxv 0),
oD 3 (.boxv 1),
oD 4 (.mov cF)])
(sq (sq (kr [2,3] [oA 7 0 2,
oL 8 7,
oA 9 0 3,
oL 10 9,
oC 11 25 [8,10],
oD 12 (.un .not 11),
oM 13 12,
oF 13 14 (.fieldAddr 1 2),
oF 13 15 (.load none 14),
oF 13 16 (.len 15),
oF 13 17 (.fieldAddr 1 3),
oF 13 18 (.load none 17),
oF 13 19 (.len 18),
oF 13 20 (.bin .neq 16 19),
oP 21 13 cT 20,
oM 22 21,
oF 22 23 (.fieldAddr 6 2),
oF 22 24 (.load none 23),
oF 22 25 (.len 24),
oF 22 26 (.fieldAddr 6 3),
oF 22 27 (.load none 26),
oF 22 28 (.len 27),
oF 22 29 (.bin .neq 25 28),
oP 30 22 cT 29,
oM 31 30,
oF 31 32 (.fieldAddr 9 2),
oF 31 33 (.load none 32),
oF 31 34 (.fieldAddr 9 3),
oF 31 35 (.load none 34),
oF 31 36 (.call false (.f 13) [33,35]),
oF 31 37 (.un .not 36),
oP 38 31 cT 37])
(.cond 38
(sq (kr [] [oD 4 (.mov cF)])
.ret)
.skip))
(sq (sq (kr [2,3] [oD 5 (.mov (cI 0))])
(.block 0
(.loop
(sq (sq (kr [2,3,5] [oM 39 5,
oA 40 1 2,
oL 41 40,
oE 42 41,
oB 43 .lss 39 42])
(.cond 43
.skip
(.exit 0)))
(sq (.block 1
(sq (kd [2,3,5] [(oA 46 1 2,[]),
(oL 47 46,[]),
(oM 48 5,[0,0]),
(oI 49 1 47 48,[]),
(oL 50 49,[]),
(oA 51 1 3,[0,0,0,0,0]),
(oL 52 51,[1,0,0,0,0]),
(oM 53 5,[0,0,0,0,0,0,0]),
(oI 54 1 52 53,[3,0,0,0,0]),
(oL 55 54,[4,0,0,0,0]),
(oB 56 .neq 50 55,[])])
(.cond 56
(sq (kr [] [oD 4 (.mov cF)])
.ret)
.skip)))
(kr [2,3,5] [oM 44 5,
oB 45 .add 44 (cI 1),
oM 5 45]))))))
(sq (sq (kr [2,3] [oD 6 (.mov (cI 0))])
(.block 2
(.loop
(sq (sq (kr [2,3,6] [oM 57 6,
oA 58 6 2,
oL 59 58,
oE 60 59,
oB 61 .lss 57 60])
(.cond 61
.skip
(.exit 2)))
(sq (.block 3
(sq (kd [2,3,6] [(oA 64 6 2,[]),
(oL 65 64,[]),
(oM 66 6,[0,0]),
(oI 67 1 65 66,[]),
(oL 68 67,[]),
(oA 69 6 3,[0,0,0,0,0]),
(oL 70 69,[1,0,0,0,0]),
(oM 71 6,[0,0,0,0,0,0,0]),
(oI 72 1 70 71,[3,0,0,0,0]),
(oL 73 72,[4,0,0,0,0]),
(oC 74 25 [68,73],[]),
(oD 75 (.un .not 74),[])])
(.cond 75
(sq (kr [] [oD 4 (.mov cF)])
.ret)
.skip)))
(kr [2,3,6] [oM 62 6,
oB 63 .add 62 (cI 1),
oM 6 63]))))))
(sq (kr [2,3] [oA 76 2 2,
oL 77 76,
oA 78 2 3,
oL 79 78,
oC 80 54 [77,79],
oM 81 80,
oT 81 82 (.fieldAddr 3 2),
oT 81 83 (.load none 82),
oT 81 84 (.fieldAddr 3 3),
oT 81 85 (.load none 84),
oT 81 86 (.call false (.f 56) [83,85]),
oP 87 81 86 cF,
oM 88 87,
oT 88 89 (.fieldAddr 4 2),
oT 88 90 (.load none 89),
oT 88 91 (.fieldAddr 4 3),
oT 88 92 (.load none 91),
oT 88 93 (.call false (.f 57) [90,92]),
oP 94 88 93 cF,
oM 95 94,
oT 95 96 (.fieldAddr 5 2),
oT 95 97 (.load none 96),
oT 95 98 (.fieldAddr 5 3),
oT 95 99 (.load none 98),
oT 95 100 (.call false (.f 58) [97,99]),
oP 101 95 100 cF,
oM 102 101,
oT 102 103 (.fieldAddr 7 2),
oT 102 104 (.load none 103),
oT 102 105 (.fieldAddr 7 3),
oT 102 106 (.load none 105),
oT 102 107 (.call false (.f 60) [104,106]),
oP 108 102 107 cF,
oM 109 108,
oT 109 110 (.fieldAddr 8 2),
oT 109 111 (.load none 110),
oT 109 112 (.fieldAddr 8 3),
oT 109 113 (.load none 112),
oT 109 114 (.call false (.f 109) [111,113]),
oP 115 109 114 cF,
oM 4 115])
.ret)))))
def za0_:List RD:=[.tmp 4 true none]
theorem zbD_:zm_ Tryz.prog Tryz.f52 zcr_ za0_=true:=by kernel_rfl
def yA_:List AV->List Obj->Option (Prop × AV)
 | [.agg zz0,.agg zz1],[]=>Vs_ YC zz0 fun ⟨a0,a1,a2,a3,a4,a5,a6,a7,a8,a9,_⟩=>Vs_ YC zz1 fun ⟨b0,b1,b2,b3,b4,b5,b6,b7,b8,b9,_⟩=>some ((True,.bool (decide (((a0,a1,a2,a3,a4,a5,a6,a7,a8,a9,()):VPa)=(b0,b1,b2,b3,b4,b5,b6,b7,b8,b9,())))))
 | _,_=>none
theorem HW_:zd_ Tryz.prog 52 (RoF yA_).sum:=by
 refine zi_ Tryz.func52 zbD_ (za_ (s:=RoF kK_) KB_ (za_ (s:=RoF Zx_) Zr_ (za_ (s:=RoF wX_) y1_ (za_ (s:=RoF wS_) y0_ (za_ (s:=RoF wR_) yZ_ (za_ (s:=RoF wQ_) yY_ (za_ (s:=RoF wP_) yX_ (za_ (s:=RoF yB_) HX_ (zc_ _))))))))) fun args objs p v e=>?_
 unfold yA_ at e
 split at e
 ·rename_i zz0 zz1
  replace e:=JH_ e
  obtain ⟨⟨a0,a1,a2,a3,a4,a5,a6,a7,a8,a9,_⟩,hz,e⟩:=e
  replace hz:zz0=[.imm (.int .u64) a0,.imm .str a1,.imm Y1 a2,.imm Y3 a3,.imm Y4 a4,.imm Y5 a5,.imm (.sl (.int .u64)) a6,.imm Y8 a7,.imm YA a8,.imm (.int .u8) a9]:=hz
  subst hz
  replace e:=JH_ e
  obtain ⟨⟨b0,b1,b2,b3,b4,b5,b6,b7,b8,b9,_⟩,hz,e⟩:=e
  replace hz:zz1=[.imm (.int .u64) b0,.imm .str b1,.imm Y1 b2,.imm Y3 b3,.imm Y4 b4,.imm Y5 b5,.imm (.sl (.int .u64)) b6,.imm Y8 b7,.imm YA b8,.imm (.int .u8) b9]:=hz
  subst hz
  cases e
  refine ⟨rfl,fun hw ho hp=>?_⟩
  change List Int at a0
  change List Int at a9
  change List Int at b0
  change List Int at b9
  change List (List Int) at a1
  change List (List Int) at b1
  change List (List Int) at a6
  change List (List Int) at b6
  have hl1:a1.length<=maxLen:=(hw _ (List.mem_cons_self ..) (.imm .str a1) (by simp)).2
  have hl6:a6.length<=maxLen:=(hw _ (List.mem_cons_self ..) (.imm (.sl (.int .u64)) a6) (by simp)).2
  unfold maxLen at hl1 hl6
  clear hw ho
  have hno:∀ h:¬ (a0=b0/\a1=b1/\a2=b2/\a3=b3/\a4=b4/\a5=b5/\a6=b6/\a7=b7/\a8=b8/\a9=b9),decide (((a0,a1,a2,a3,a4,a5,a6,a7,a8,a9,()):VPa)=(b0,b1,b2,b3,b4,b5,b6,b7,b8,b9,()))=false:=fun h=>decide_eq_false fun e=>h (by simpa only [Prod.mk.injEq,and_true] using e)
  repeat'(intro t ht;first|(cases t<;>first|(cases ht;done)|(try simp only[zg_]at ht;try(exfalso;first|contradiction|omega)))|((first|refine zb_ ht ?_|refine ht ?_ ?_|refine ht.1 ?_ ?_|refine ht ?_)<;>clear ht))
  all_goals first
   | exact True.intro
   | (refine ⟨?_,rfl⟩;rw [hno fun k=>by simp_all];done)
   | (intro r h1 h2;clear h1;refine h2 ⟨[2,3,5],Nat,(fun i=>i<=a1.length/\a1.take i=b1.take i),fun i=>[.ptr 0 0,.ptr 1 0,.int .i64 i],fun _=>[.box [.imm (.int .u64) a0,.imm .str a1,.imm Y1 a2,.imm Y3 a3,.imm Y4 a4,.imm Y5 a5,.imm (.sl (.int .u64)) a6,.imm Y8 a7,.imm YA a8,.imm (.int .u8) a9],.box [.imm (.int .u64) b0,.imm .str b1,.imm Y1 b2,.imm Y3 b3,.imm Y4 b4,.imm Y5 b5,.imm (.sl (.int .u64)) b6,.imm Y8 b7,.imm YA b8,.imm (.int .u8) b9]],fun i=>a1.length - i,⟨0,⟨Nat.zero_le _,rfl⟩,rfl,rfl⟩,?_⟩;clear h2)
   | skip
  rintro i ⟨hi,he⟩
  have hl2:a1.length=b1.length:=by omega
  have hl3:a6.length=b6.length:=by omega
  repeat'(intro t ht;first|(cases t<;>first|(cases ht;done)|(try simp only[zg_]at ht;try(exfalso;first|contradiction|omega)))|((first|refine zb_ ht ?_|refine ht ?_ ?_|refine ht.1 ?_ ?_|refine ht ?_)<;>clear ht))
  all_goals (try generalize (Ty.dflt .str)=od at*)
  all_goals first
   | exact True.intro
   | ((try simp only [zk_,zl_,zj_] at*);omega)
   | (have hne:a1 ≠ b1:=XO_ (d:=od) (i:=i) (by assumption)
      refine ⟨?_,rfl⟩;rw [hno fun k=>hne k.2.1];done)
   | exact ⟨i+1,⟨by omega,Qe_ he (by omega) hl2 (d:=od) (by assumption)⟩,by (try simp only [zk_,zl_,zj_] at*);omega,rfl,rfl⟩
   | (intro r h1 h2;clear h1;refine h2 ⟨[2,3,6],Nat,(fun i=>i<=a6.length/\a6.take i=b6.take i),fun i=>[.ptr 0 0,.ptr 1 0,.int .i64 i],fun _=>[.box [.imm (.int .u64) a0,.imm .str a1,.imm Y1 a2,.imm Y3 a3,.imm Y4 a4,.imm Y5 a5,.imm (.sl (.int .u64)) a6,.imm Y8 a7,.imm YA a8,.imm (.int .u8) a9],.box [.imm (.int .u64) b0,.imm .str b1,.imm Y1 b2,.imm Y3 b3,.imm Y4 b4,.imm Y5 b5,.imm (.sl (.int .u64)) b6,.imm Y8 b7,.imm YA b8,.imm (.int .u8) b9]],fun i=>a6.length - i,⟨0,⟨Nat.zero_le _,rfl⟩,rfl,rfl⟩,?_⟩;clear h2)
   | skip
  have e1:=Ks_ he (by omega) hl2
  rintro j ⟨hj,he6⟩
  repeat'(intro t ht;first|(cases t<;>first|(cases ht;done)|(try simp only[zg_]at ht;try(exfalso;first|contradiction|omega)))|((first|refine zb_ ht ?_|refine ht ?_ ?_|refine ht.1 ?_ ?_|refine ht ?_)<;>clear ht))
  all_goals (try generalize (Ty.dflt (.sl (.int .u64)))=od at*)
  all_goals first
   | exact True.intro
   | ((try simp only [zk_,zl_,zj_] at*);omega)
   | (have hne:a6 ≠ b6:=XO_ (d:=od) (i:=j) (by assumption)
      refine ⟨?_,rfl⟩;rw [hno fun k=>hne k.2.2.2.2.2.2.1];done)
   | exact ⟨j+1,⟨by omega,Qe_ he6 (by omega) hl3 (d:=od) (by assumption)⟩,by (try simp only [zk_,zl_,zj_] at*);omega,rfl,rfl⟩
   | (have e6:=Ks_ he6 (by omega) hl3
      refine ⟨congrArg AV.bool ?_,rfl⟩;rw [Bool.eq_iff_iff];simp_all [and_assoc];done)
   | skip
 ·cases e
def zcq_:IR:=
(sq (kr [0,1] [oD 2 (.boxv 0),
oD 3 (.boxv 1),
oD 4 (.mov cF)])
(sq (sq (kr [2,3] [oA 6 0 2,
oL 7 6,
oA 8 0 3,
oL 9 8,
oB 10 .neq 7 9,
oM 11 10,
oF 11 12 (.fieldAddr 1 2),
oF 11 13 (.load none 12),
oF 11 14 (.fieldAddr 1 3),
oF 11 15 (.load none 14),
oF 11 16 (.bin .neq 13 15),
oP 17 11 cT 16,
oM 18 17,
oF 18 19 (.fieldAddr 12 2),
oF 18 20 (.load none 19),
oF 18 21 (.fieldAddr 12 3),
oF 18 22 (.load none 21),
oF 18 23 (.bin .neq 20 22),
oP 24 18 cT 23,
oM 25 24,
oF 25 26 (.fieldAddr 13 2),
oF 25 27 (.load none 26),
oF 25 28 (.fieldAddr 13 3),
oF 25 29 (.load none 28),
oF 25 30 (.bin .neq 27 29),
oP 31 25 cT 30,
oM 32 31,
oF 32 33 (.fieldAddr 2 2),
oF 32 34 (.load none 33),
oF 32 35 (.fieldAddr 2 3),
oF 32 36 (.load none 35),
oF 32 37 (.call false (.f 25) [34,36]),
oF 32 38 (.un .not 37),
oP 39 32 cT 38,
oM 40 39,
oF 40 41 (.fieldAddr 3 2),
oF 40 42 (.load none 41),
oF 40 43 (.fieldAddr 3 3),
oF 40 44 (.load none 43),
oF 40 45 (.call false (.f 13) [42,44]),
oF 40 46 (.un .not 45),
oP 47 40 cT 46,
oM 48 47,
oF 48 49 (.fieldAddr 14 2),
oF 48 50 (.load none 49),
oF 48 51 (.len 50),
oF 48 52 (.fieldAddr 14 3),
oF 48 53 (.load none 52),
oF 48 54 (.len 53),
oF 48 55 (.bin .neq 51 54),
oP 56 48 cT 55])
(.cond 56
(sq (kr [] [oD 4 (.mov cF)])
.ret)
.skip))
(sq (sq (kr [2,3] [oD 5 (.mov (cI 0))])
(.block 0
(.loop
(sq (sq (kr [2,3,5] [oM 57 5,
oA 58 14 2,
oL 59 58,
oE 60 59,
oB 61 .lss 57 60])
(.cond 61
.skip
(.exit 0)))
(sq (.block 1
(sq (kd [2,3,5] [(oA 64 14 2,[]),
(oL 65 64,[]),
(oM 66 5,[0,0]),
(oI 67 10 65 66,[]),
(oK 68 10 67,[]),
(oA 69 14 3,[0,0,0,0,0]),
(oL 70 69,[1,0,0,0,0]),
(oM 71 5,[0,0,0,0,0,0,0]),
(oI 72 10 70 71,[3,0,0,0,0]),
(oK 73 10 72,[4,0,0,0,0]),
(oC 74 52 [68,73],[]),
(oD 75 (.un .not 74),[])])
(.cond 75
(sq (kr [] [oD 4 (.mov cF)])
.ret)
.skip)))
(kr [2,3,5] [oM 62 5,
oB 63 .add 62 (cI 1),
oM 5 63]))))))
(sq (kr [2,3] [oA 76 4 2,
oL 77 76,
oA 78 4 3,
oL 79 78,
oC 80 53 [77,79],
oM 81 80,
oT 81 82 (.fieldAddr 5 2),
oT 81 83 (.load none 82),
oT 81 84 (.fieldAddr 5 3),
oT 81 85 (.load none 84),
oT 81 86 (.call false (.f 54) [83,85]),
oP 87 81 86 cF,
oM 88 87,
oT 88 89 (.fieldAddr 6 2),
oT 88 90 (.load none 89),
oT 88 91 (.fieldAddr 6 3),
oT 88 92 (.load none 91),
oT 88 93 (.call false (.f 55) [90,92]),
oP 94 88 93 cF,
oM 95 94,
oT 95 96 (.fieldAddr 7 2),
oT 95 97 (.load none 96),
oT 95 98 (.fieldAddr 7 3),
oT 95 99 (.load none 98),
oT 95 100 (.call false (.f 56) [97,99]),
oP 101 95 100 cF,
oM 102 101,
oT 102 103 (.fieldAddr 8 2),
oT 102 104 (.load none 103),
oT 102 105 (.fieldAddr 8 3),
oT 102 106 (.load none 105),
oT 102 107 (.call false (.f 57) [104,106]),
oP 108 102 107 cF,
oM 109 108,
oT 109 110 (.fieldAddr 9 2),
oT 109 111 (.load none 110),
oT 109 112 (.fieldAddr 9 3),
oT 109 113 (.load none 112),
oT 109 114 (.call false (.f 58) [111,113]),
oP 115 109 114 cF,
oM 116 115,
oT 116 117 (.fieldAddr 10 2),
oT 116 118 (.load none 117),
oT 116 119 (.fieldAddr 10 3),
oT 116 120 (.load none 119),
oT 116 121 (.call false (.f 59) [118,120]),
oP 122 116 121 cF,
oM 123 122,
oT 123 124 (.fieldAddr 11 2),
oT 123 125 (.load none 124),
oT 123 126 (.fieldAddr 11 3),
oT 123 127 (.load none 126),
oT 123 128 (.call false (.f 60) [125,127]),
oP 129 123 128 cF,
oM 4 129])
.ret))))
def zaZ_:List RD:=[.tmp 4 true none]
theorem zbC_:zm_ Tryz.prog Tryz.f16 zcq_ zaZ_=true:=by kernel_rfl
def yz_:List AV->List Obj->Option (Prop × AV)
 | [.agg zz0,.agg zz1],[]=>Vs_ YD zz0 fun ⟨a0,a1,a2,a3,a4,a5,a6,a7,a8,a9,a10,a11,a12,a13,a14,_⟩=>Vs_ YD zz1 fun ⟨b0,b1,b2,b3,b4,b5,b6,b7,b8,b9,b10,b11,b12,b13,b14,_⟩=>some ((True,.bool (decide (((a0,a1,a2,a3,a4,a5,a6,a7,a8,a9,a10,a11,a12,a13,a14,()):VMs)=(b0,b1,b2,b3,b4,b5,b6,b7,b8,b9,b10,b11,b12,b13,b14,())))))
 | _,_=>none
theorem HV_:zd_ Tryz.prog 16 (RoF yz_).sum:=by
 refine zi_ Tryz.func16 zbC_ (za_ (s:=RoF kK_) KB_ (za_ (s:=RoF Zx_) Zr_ (za_ (s:=RoF yA_) HW_ (za_ (s:=RoF Xa_) g5_ (za_ (s:=RoF wX_) y1_ (za_ (s:=RoF ji_) JX_ (za_ (s:=RoF wS_) y0_ (za_ (s:=RoF wR_) yZ_ (za_ (s:=RoF wQ_) yY_ (za_ (s:=RoF yD_) HZ_ (za_ (s:=RoF wP_) yX_ (zc_ _)))))))))))) fun args objs p v e=>?_
 unfold yz_ at e
 split at e
 ·rename_i zz0 zz1
  replace e:=JH_ e
  obtain ⟨⟨a0,a1,a2,a3,a4,a5,a6,a7,a8,a9,a10,a11,a12,a13,a14,_⟩,hz,e⟩:=e
  replace hz:zz0=[.int .i64 a0,.int .u32 a1,.imm (.int .u64) a2,.imm (.int .u8) a3,.imm YB a4,.imm Y1 a5,.imm Y2 a6,.imm Y3 a7,.imm Y4 a8,.imm Y5 a9,.imm Y7 a10,.imm Y8 a11,.int .i64 a12,.int .i64 a13,.imm YC a14]:=hz
  subst hz
  change Int at a0
  change Int at a1
  change Int at a12
  change Int at a13
  replace e:=JH_ e
  obtain ⟨⟨b0,b1,b2,b3,b4,b5,b6,b7,b8,b9,b10,b11,b12,b13,b14,_⟩,hz,e⟩:=e
  replace hz:zz1=[.int .i64 b0,.int .u32 b1,.imm (.int .u64) b2,.imm (.int .u8) b3,.imm YB b4,.imm Y1 b5,.imm Y2 b6,.imm Y3 b7,.imm Y4 b8,.imm Y5 b9,.imm Y7 b10,.imm Y8 b11,.int .i64 b12,.int .i64 b13,.imm YC b14]:=hz
  subst hz
  change Int at b0
  change Int at b1
  change Int at b12
  change Int at b13
  cases e
  refine ⟨rfl,fun hw ho hp=>?_⟩
  change List Int at a2
  change List Int at a3
  change List Int at b2
  change List Int at b3
  change List VPa at a14
  change List VPa at b14
  have hl1:a14.length<=maxLen:=(hw _ (List.mem_cons_self ..) (.imm YC a14) (by simp)).2
  unfold maxLen at hl1
  clear hw ho
  have hno:∀ h:¬ (a0=b0/\a1=b1/\a2=b2/\a3=b3/\a4=b4/\a5=b5/\a6=b6/\a7=b7/\a8=b8/\a9=b9/\a10=b10/\a11=b11/\a12=b12/\a13=b13/\a14=b14),decide (((a0,a1,a2,a3,a4,a5,a6,a7,a8,a9,a10,a11,a12,a13,a14,()):VMs)=(b0,b1,b2,b3,b4,b5,b6,b7,b8,b9,b10,b11,b12,b13,b14,()))=false:=fun h=>decide_eq_false fun e=>h (by simpa only [Prod.mk.injEq,and_true] using e)
  repeat'(intro t ht;first|(cases t<;>first|(cases ht;done)|(try simp only[zg_]at ht;try(exfalso;first|contradiction|omega)))|((first|refine zb_ ht ?_|refine ht ?_ ?_|refine ht.1 ?_ ?_|refine ht ?_)<;>clear ht))
  all_goals first
   | exact True.intro
   | (refine ⟨?_,rfl⟩;rw [hno fun k=>by simp_all];done)
   | (intro r h1 h2;clear h1;refine h2 ⟨[2,3,5],Nat,(fun i=>i<=a14.length/\a14.take i=b14.take i),fun i=>[.ptr 0 0,.ptr 1 0,.int .i64 i],fun _=>[.box [.int .i64 a0,.int .u32 a1,.imm (.int .u64) a2,.imm (.int .u8) a3,.imm YB a4,.imm Y1 a5,.imm Y2 a6,.imm Y3 a7,.imm Y4 a8,.imm Y5 a9,.imm Y7 a10,.imm Y8 a11,.int .i64 a12,.int .i64 a13,.imm YC a14],.box [.int .i64 b0,.int .u32 b1,.imm (.int .u64) b2,.imm (.int .u8) b3,.imm YB b4,.imm Y1 b5,.imm Y2 b6,.imm Y3 b7,.imm Y4 b8,.imm Y5 b9,.imm Y7 b10,.imm Y8 b11,.int .i64 b12,.int .i64 b13,.imm YC b14]],fun i=>a14.length - i,⟨0,⟨Nat.zero_le _,rfl⟩,rfl,rfl⟩,?_⟩;clear h2)
   | skip
  rintro i ⟨hi,he⟩
  have hl2:a14.length=b14.length:=by omega
  repeat'(intro t ht;first|(cases t<;>first|(cases ht;done)|(try simp only[zg_]at ht;try(exfalso;first|contradiction|omega)))|((first|refine zb_ ht ?_|refine ht ?_ ?_|refine ht.1 ?_ ?_|refine ht ?_)<;>clear ht))
  all_goals (try generalize (Ty.dflt YC)=od at*)
  all_goals first
   | exact True.intro
   | ((try simp only [zk_,zl_,zj_] at*);omega)
   | (have hne:a14 ≠ b14:=XO_ (d:=od) (i:=i) (by assumption)
      refine ⟨?_,rfl⟩;rw [hno fun k=>hne k.2.2.2.2.2.2.2.2.2.2.2.2.2.2];done)
   | exact ⟨i+1,⟨by omega,Qe_ he (by omega) hl2 (d:=od) (by assumption)⟩,by (try simp only [zk_,zl_,zj_] at*);omega,rfl,rfl⟩
   | (have e6:=Ks_ he (by omega) hl2
      refine ⟨congrArg AV.bool ?_,rfl⟩;rw [Bool.eq_iff_iff];simp_all [and_assoc];done)
   | skip
 ·cases e
def exO (o:OV):List Int:=if rgO o=true then ZF_ o.1 o.2.1 o.2.2.1 o.2.2.2.1 o.2.2.2.2.1 o.2.2.2.2.2.1 else []
def eeO (o:OV):Int:=if rgO o=true then 0 else 10001
def puS (room:Int):List OV->List Int->Int->List Int × Int
 | [],l,e=>(l,e)
 | o :: r,l,e=>puS room r (kH_ (exO o) l room (zv_ e (eeO o))) (QS_ (exO o) l room (zv_ e (eeO o)))
theorem zhK_ {room:Int} {l:List OV} {i:Nat} {d:OV} {b:List Int} {e:Int} (h:i < l.length):puS room (l.drop i) b e=puS room (l.drop (i+1)) (kH_ (exO (l.getD i d)) b room (zv_ e (eeO (l.getD i d)))) (QS_ (exO (l.getD i d)) b room (zv_ e (eeO (l.getD i d)))):=by
 rw [zw_ h d];rfl
def mpS (x:List OV) (l:List Int) (room e:Int):List Int × Int:=puS room x (qK_ [2,2] [1,qs_ x] l room e) (qJ_ [2,2] [1,qs_ x] l room e)
def mpZ (x:List OV):List Int:=List.replicate (pz (qs_ x)).toNat 0
def mpB (x:List OV) (l:List Int) (room e:Int):List Int:=if rgM x=true then kH_ (mpZ x) (mpS x l room e).1 room (mpS x l room e).2 else l
def mpE (x:List OV) (l:List Int) (room e:Int):Int:=if rgM x=true then QS_ (mpZ x) (mpS x l room e).1 room (mpS x l room e).2 else zv_ e 10001
theorem zl1_ {o:OV}:(exO o).length<=300:=by
 unfold exO;split
 ·exact (jF_ (by assumption)).2
 ·simp
def BU_:IR:=
(sq (sq (kr [0,1] [oM 9 1,
oC 10 69 [9],
oD 11 (.un .not 10)])
(.cond 11
(sq (.reg [oM 12 0,
oC 13 34 [12,(cI 10001)]])
.ret)
.skip))
(sq (.reg [oM 14 1,
oC 15 70 [14],
oM 4 15])
(sq (kr [0,1,4] [oM 16 0,
oD 17 (.sliceAll (.int .i64) 2 [(0,1,(cI 2)),(1,1,(cI 2))]),
oM 18 4,
oD 19 (.conv .u64 18),
oD 20 (.sliceAll (.int .u64) 2 [(0,1,(.c (.int .u64 1))),(1,1,19)]),
oC 21 28 [16,17,20]])
(sq (sq (.reg [oM 22 1,
oE 23 22,
oD 24 (.mov (cI 0))])
(.block 0
(.loop
(sq (kr [0,4,22,23,24] [oB 25 .lss 24 23])
(sq (.cond 25
.skip
(.exit 0))
(sq (.block 1
(sq (.reg [oI 26 6 22 24,
oK 27 6 26,
oD 6 (.box [.int .i64 0,.int .i64 0,.kb false,.int .u64 0,.imm (.int .u8) [],.imm (.int .u8) []]),
oS 6 6 27])
(sq (kr [0,4,6,22,23,24] [oK 29 6 6,
oC 30 71 [29],
oM 28 30,
oX 31 28 0,
oX 32 28 1,
oM 7 31,
oM 8 32])
(sq (kr [0,4,7,8,22,23,24] [oM 33 0,
oM 34 8,
oC 35 34 [33,34]])
(.reg [oM 36 0,
oM 37 7,
oC 38 65 [36,37]])))))
(kr [0,4,22,23,24] [oB 39 .add 24 (cI 1),
oM 24 39])))))))
(kr [0,4] [oM 40 0,
oM 41 4,
oC 42 72 [41],
oD 43 (.mkrow (.int .u8) 1 (0:Int) 42 42),
oC 44 65 [40,43]])))))
def bC_:List RD:=[]
theorem Bd_:zm_ Tryz.prog Tryz.f31 BU_ bC_=true:=by kernel_rfl
def Vz_:List AV->List Obj->Option (Prop × Res)
 | [.ptr 0 0,.imm (.cons (.int .i64) (.cons (.int .i64) (.cons .bool (.cons (.int .u64) (.cons (.sl (.int .u8)) (.cons (.sl (.int .u8)) .nil)))))) x],[.box [.own 1,.int .i64 room,.mapv 2,.int .i64 e],.row false (.int .u8) l,.map sq (.int .i64) (.int .i64) h]=>some (okM x/\0<=room/\room<=1000000/\l.length<=1000000,.br (rgM x) (.one (.tup []) [.box [.own 3,.int .i64 room,.mapv 2,.int .i64 (mpE x l room e)],.dead,.map sq (.int .i64) (.int .i64) h,.row false (.int .u8) (mpB x l room e)]) (.one (.tup []) [.box [.own 1,.int .i64 room,.mapv 2,.int .i64 (zv_ e 10001)],.row false (.int .u8) l,.map sq (.int .i64) (.int .i64) h]))
 | _,_=>none
def Xk_:List AV->List Obj->Option (Prop × AV × List Obj)
 | [.ptr 0 0,.imm (.cons (.int .i64) (.cons (.int .i64) (.cons .bool (.cons (.int .u64) (.cons (.sl (.int .u8)) (.cons (.sl (.int .u8)) .nil)))))) x],[.box [.own 1,.int .i64 room,.mapv 2,.int .i64 e],.row false (.int .u8) l,.map sq (.int .i64) (.int .i64) h]=>some (okM x/\0<=room/\room<=1000000/\l.length<=1000000,.tup [],[.box [.own 3,.int .i64 room,.mapv 2,.int .i64 (mpE x l room e)],.dead,.map sq (.int .i64) (.int .i64) h,.row false (.int .u8) (mpB x l room e)])
 | _,_=>none
theorem g2_:zd_ Tryz.prog 31 (RcF Vz_).sum:=by
 refine Uv_ Tryz.func31 Bd_ (za_ (s:=RoF Ja_) VF_ (za_ (s:=RwF zF_) zJ_ (za_ (s:=RoF KP_) xd_ (za_ (s:=RwF zO_) z2_ (za_ (s:=RoF KL_) W9_ (za_ (s:=RwF zx_) zB_ (za_ (s:=RoF kY_) Wb_ (zc_ _)))))))) fun args objs p v e=>?_
 unfold Vz_ at e
 split at e
 ·rename_i x room e l sq h
  cases e
  change List Int at l
  change List OV at x
  refine ⟨rfl,fun hw' ho hp=>?_⟩
  clear hw' ho
  obtain ⟨hok,hp1,hp2,hp3⟩:=hp
  have hok':=hok
  have hn:=hok.n
  cases hr:rgM x with
  | false=>
    repeat'(intro t ht;first|(cases t<;>first|(cases ht;done)|(try simp only[zg_]at ht;try(exfalso;first|contradiction|omega)))|((first|refine zb_ ht ?_|refine ht ?_ ?_|refine ht.1 ?_ ?_|refine ht ?_)<;>clear ht))
    all_goals first
     | exact True.intro
     | exact hok
     | (exfalso;simp_all;done)
     | exact ⟨rfl,rfl⟩
  | true=>
    have hL:=zid_ hok
    have hL2:qs_ x<=65528:=by unfold rgM at hr;simp only [Bool.and_eq_true,decide_eq_true_eq] at hr;exact hr.2
    have hz:=Ve_ (n:=qs_ x) (by omega)
    have hr1:(qK_ [2,2] [1,qs_ x] l room e).length<=1000000:=xl_ hp3 hp2
    repeat'(intro t ht;first|(cases t<;>first|(cases ht;done)|(try simp only[zg_]at ht;try(exfalso;first|contradiction|omega)))|((first|refine zb_ ht ?_|refine ht ?_ ?_|refine ht.1 ?_ ?_|refine ht ?_)<;>clear ht))
    all_goals first
     | exact True.intro
     | exact hok
     | (exfalso;simp_all;done)
     | ((try simp only [zk_,zl_,zj_] at*);omega)
     | exact ⟨hp1,hp2,hp3⟩
     | (intro r h1 h2;clear h1;refine h2 ⟨[0,4,22,23,24],Nat × List Int × Int,(fun a=>a.1<=x.length/\a.2.1.length<=1000000/\mpS x l room e=puS room (x.drop a.1) a.2.1 a.2.2),fun a=>[.ptr 0 0,.int .i64 (qs_ x),.imm Y1 x,.int .i64 x.length,.int .i64 a.1],fun a=>[.box [.own 3,.int .i64 room,.mapv 2,.int .i64 a.2.2],.dead,.map sq (.int .i64) (.int .i64) h,.row false (.int .u8) a.2.1],fun a=>x.length - a.1,⟨(0,qK_ [2,2] [1,qs_ x] l room e,qJ_ [2,2] [1,qs_ x] l room e),⟨Nat.zero_le _,hr1,rfl⟩,rfl,rfl⟩,?_⟩;clear h2)
    rintro ⟨i,b,f⟩ ⟨hi,hb,he⟩
    dsimp only at hi hb he
    repeat'(intro t ht;first|(cases t<;>first|(cases ht;done)|(try simp only[zg_]at ht;try(exfalso;first|contradiction|omega)))|((first|refine zb_ ht ?_|refine ht ?_ ?_|refine ht.1 ?_ ?_|refine ht ?_)<;>clear ht))
    all_goals (try generalize (Ty.dflt Y1)=od at*)
    all_goals first
     | exact True.intro
     | ((try simp only [zk_,zl_,zj_] at*);omega)
     | (simp only [List.length_replicate];constructor<;>omega)
     | exact ⟨hp1,hp2,hb,Nat.le_trans (zl1_ (o:=x.getD i od)) (by decide)⟩
     | exact lenM (hok'.a.h _ (zL_ (show i < x.length by omega) od))
     | (rw [List.drop_of_length_le (show x.length<=i by omega)] at he
        have h1:mpS x l room e=(b,f):=he
        unfold mpE mpB
        rw [if_pos hr,if_pos hr,h1];exact ⟨rfl,rfl⟩)
     | (refine ⟨(i+1,_,_),⟨?_,?_,he.trans (zhK_ (d:=od) (show i < x.length by omega))⟩,?_,rfl,rfl⟩
        ·dsimp only;omega
        ·exact Q9_ hb hp2
        ·dsimp only;omega)
 ·cases e
theorem Gf_:zd_ Tryz.prog 31 (RwF Xk_).sum:=by
 refine Yd_ g2_ fun args objs p v o e=>?_
 unfold Xk_ at e
 split at e
 ·rename_i x room e l sq h
  cases e
  cases hb:rgM x with
  | true=>exact ⟨_,_,rfl,ja_ hb,.inl rfl⟩
  | false=>
    refine ⟨_,_,rfl,Q1_ hb,.inr ⟨0,1,[],[.int .i64 room,.mapv 2,.int .i64 (zv_ e 10001)],.int .u8,l,rfl,rfl,?_⟩⟩
    unfold mpE mpB;rw [hb];rfl
 ·cases e
def boO (l:List OV):List Int:=l.flatMap ecO
def meN (l:List OV):Int:=4+((boO l).length:Int)
def meB (l:List OV):List Int:=ze_ 1 2++ze_ (meN l) 2++boO l++List.replicate (pz (meN l)).toNat 0
theorem be_ {o:OV} (h:rgO o=true):szO o=(ecO o).length/\exO o=ecO o/\eeO o=0/\(ecO o).length<=300:=by
 have h1:=jF_ h
 have h2:=zab_ h
 refine ⟨?_,?_,if_pos h,?_⟩
 ·unfold szO ecO;rw [h1.1,h2]
 ·unfold exO ecO;rw [if_pos h,h2]
 ·unfold ecO;rw [<- h2];exact h1.2
theorem zfJ_:∀ (l:List OV),l.all rgO=true->(l.map szO).sum=((boO l).length:Int)
 | [],_=>rfl
 | o :: r,h=>by
   rw [List.all_cons,Bool.and_eq_true] at h
   have ih:=zfJ_ r h.2
   unfold boO at ih ⊢
   rw [List.flatMap_cons,List.length_append,List.map_cons,List.sum_cons,ih,(be_ h.1).1];omega
theorem Js_ {l:List OV} (h:rgM l=true):l.all rgO=true/\(ckS [] l).2=0/\qs_ l=meN l/\meN l<=65528/\4<=meN l:=by
 unfold rgM at h
 simp only [Bool.and_eq_true,decide_eq_true_eq] at h
 obtain ⟨⟨h1,h2⟩,h3⟩:=h
 have h4:qs_ l=meN l:=by unfold qs_ meN;rw [zfJ_ l h1]
 exact ⟨h1,h2,h4,by omega,by unfold meN;omega⟩
theorem zd4_ {room:Int}:∀ (r:List OV) (l:List Int),r.all rgO=true->(l.length:Int)+(boO r).length<=room->puS room r l 0=(l++boO r,0)
 | [],l,_,_=>by unfold boO puS;simp
 | o :: r,l,h,hl=>by
   rw [List.all_cons,Bool.and_eq_true] at h
   obtain ⟨_,h2,h3,_⟩:=be_ h.1
   have e1:boO (o :: r)=ecO o++boO r:=List.flatMap_cons
   rw [e1,List.length_append] at hl
   obtain ⟨b1,b2⟩:=x1_ (x:=ecO o) (l:=l) (room:=room) (by omega)
   have f0:zv_ 0 0=0:=rfl
   unfold puS
   rw [h2,h3,f0,b1,b2,zd4_ r (l++ecO o) h.2 (by rw [List.length_append];omega),e1,List.append_assoc]
theorem zmN_ {x:List OV} {l:List Int} {room:Int} (h:rgM x=true) (hl:(l.length:Int)+meN x+pz (meN x)<=room):mpB x l room 0=l++meB x/\mpE x l room 0=0:=by
 obtain ⟨h1,h2,h3,h4,h5⟩:=Js_ h
 have hz:=Ve_ (n:=meN x) (by omega)
 obtain ⟨r1,r2⟩:=Hd_ (a:=1) (n:=meN x) (by omega) (by omega)
 have l2:=zn_ (n:=1) (w:=2) (by decide)
 have l3:=zn_ (n:=meN x) (w:=2) (by decide)
 have hb:((ZR_ [2,2] [1,meN x]).length:Int)=4:=by rw [r1,List.length_append];omega
 have hbo:meN x=4+(boO x).length:=rfl
 obtain ⟨w1,w2⟩:=bd_ (l:=l) (room:=room) r2 (by omega)
 rw [r1] at w1
 have hS:mpS x l room 0=(l++(ze_ 1 2++ze_ (meN x) 2)++boO x,0):=by
  unfold mpS;rw [h3,w1,w2]
  exact zd4_ x _ h1 (by simp only [List.length_append];omega)
 obtain ⟨z1,z2⟩:=x1_ (x:=mpZ x) (l:=l++(ze_ 1 2++ze_ (meN x) 2)++boO x) (room:=room) (by unfold mpZ;rw [h3];simp only [List.length_append,List.length_replicate];omega)
 unfold mpB mpE
 rw [if_pos h,if_pos h,hS,z1,z2]
 refine ⟨?_,rfl⟩
 unfold meB mpZ;rw [h3];simp only [List.append_assoc]
theorem zh2_ {x:List OV} {l:List Int} {room e:Int} (h:rgM x=false):mpB x l room e=l/\mpE x l room e=zv_ e 10001:=by
 unfold mpB mpE;rw [h];exact ⟨rfl,rfl⟩
theorem zfG_ (l:List OV) (h:0<=meN l):((meB l).length:Int)=meN l+pz (meN l):=by
 have l2:=zn_ (n:=1) (w:=2) (by decide)
 have l3:=zn_ (n:=meN l) (w:=2) (by decide)
 have hz:=Ve_ (n:=meN l) (by omega)
 have hbo:meN l=4+(boO l).length:=rfl
 unfold meB
 simp only [List.length_append,List.length_replicate];omega
theorem zhC_ {o:OV} (h:rgO o=true):0<=o.2.1/\o.2.1<=127/\0<=o.1/\o.1<=65535/\o.2.2.2.2.1.length<=100/\o.2.2.2.2.2.1.length<=100:=by
 have hn:=qg_ h
 refine ⟨hn.1,hn.2.1,?_,?_,?_,?_⟩<;>omega
end Go.Eng
