/- Parts of the proof: P1, V1, V3. No condition. -/
import Derived.Test.YteihcoggfaenaaaGreatDoorProg
import Derived.Test.YteihcoggfaenaaaGreatDoorWH10
import Derived.KernelRfl
import Derived.Test.YteihcoggfaenaaaGreatDoorWH14
import Derived.Test.YteihcoggfaenaaaGreatDoorWH16
namespace Go.Eng
open Go.Proofs
set_option linter.unusedVariables false
set_option linter.unusedSimpArgs false
set_option maxRecDepth 100000
set_option maxHeartbeats 1000000
abbrev P8:=Int × Int × Int × Int × Int × Int × Int × Int × Unit
abbrev PV:=Int × Int × List Int × P8 × Unit
instance:DecidableEq (Int × Int × Int × Int × Unit):=inferInstance
instance:DecidableEq P8:=inferInstance
instance:DecidableEq PV:=inferInstance
theorem zhe_ {α:Type} {f:α->Bool} {l:List α} {i:Nat} {d:α} (h:i < l.length) (ht:(l.take i).all f=true) (hd:f (l.getD i d)=true):(l.take (i+1)).all f=true:=by
 rw [List.take_succ_eq_append_getElem h,List.all_append,ht,Bool.true_and,List.all_cons,List.all_nil,Bool.and_true]
 rwa [List.getD_eq_getElem?_getD,List.getElem?_eq_getElem h] at hd
theorem ziD_ {α:Type} {f:α->Bool} {l:List α} {i:Nat} (h:l.length<=i) (ht:(l.take i).all f=true):l.all f=true:=by
 rwa [List.take_of_length_le h] at ht
theorem zkk_ {α:Type} {f:α->Bool} {l:List α} {i:Nat} {d:α} (h:i < l.length) (hd:f (l.getD i d)=false):l.all f=false:=by
 rw [List.all_eq_false]
 refine ⟨l.getD i d,zU_ h d,?_⟩
 rw [hd];decide
def fewP (l:List PV):Bool:=decide (l.length<=40) && l.all fun p=>decide (p.2.2.1.length<=100)
def zcS_:IR:=
(sq (kr [0] [oD 2 (.mov cF)])
(sq (sq (.reg [oD 3 (.mov (cI 0))])
(.block 0
(.loop
(sq (sq (kr [0,3] [oM 4 3,
oM 5 0,
oE 6 5,
oB 7 .lss 4 6])
(.cond 7
.skip
(.exit 0)))
(sq (.block 1
(sq (kr [0,3] [oM 10 0,
oM 11 3,
oI 12 11 10 11,
oA 13 2 12,
oL 14 13,
oD 15 (.slen 14),
oB 16 .gtr 15 (cI 100)])
(.cond 16
(sq (kr [] [oD 2 (.mov cF)])
.ret)
.skip)))
(kr [0,3] [oM 8 3,
oB 9 .add 8 (cI 1),
oM 3 9]))))))
(sq (kr [0] [oM 17 0,
oE 18 17,
oB 19 .leq 18 (cI 40),
oM 2 19])
.ret)))
def zb1_:List RD:=[.tmp 2 true none]
theorem zcl_:zj_ Tryz.prog Tryz.f24 zcS_ zb1_=true:=by kernel_rfl
def Xi_:List AV->List Obj->Option (Prop × AV)
 | [.imm ty0 l],[]=>ZM_ ty0 Y8 l fun l=>some ((True,.bool (fewP l)))
 | _,_=>none
theorem vF_:zd_ Tryz.prog 24 (RoF Xi_).sum:=by
 refine zi_ Tryz.func24 zcl_ (zc_ _) fun args objs p v e=>?_
 unfold Xi_ at e
 split at e
 ·rename_i ty0 l
  obtain rfl:=zN_ e
  replace e:=zO_ e
  cases e
  refine ⟨rfl,fun hw ho hp=>?_⟩
  change List PV at l
  have hl:l.length<=maxLen:=(hw (.imm Y8 l) (by simp)).2
  unfold maxLen at hl
  clear hw ho
  repeat'(intro t ht;first|(cases t<;>first|(cases ht;done)|(try simp only[zg_]at ht))|((first|refine zb_ ht ?_|refine ht ?_ ?_|refine ht.1 ?_ ?_|refine ht ?_)<;>clear ht))
  all_goals first
   | (intro r h1 h2;clear h1;refine h2 ⟨[0,3],Nat,(fun i=>i<=l.length/\((l.take i).all fun p=>decide (p.2.2.1.length<=100))=true),fun i=>[.imm Y8 l,.int .i64 i],fun _=>[],fun i=>l.length - i,⟨0,⟨Nat.zero_le _,rfl⟩,rfl,rfl⟩,?_⟩;clear h2)
  rintro i ⟨hi,he⟩
  repeat'(intro t ht;first|(cases t<;>first|(cases ht;done)|(try simp only[zg_]at ht;try(exfalso;first|contradiction|omega)))|((first|refine zb_ ht ?_|refine ht ?_ ?_|refine ht.1 ?_ ?_|refine ht ?_)<;>clear ht))
  all_goals (try generalize (Ty.dflt Y8)=pd at*)
  all_goals first
   | ((try simp only [zm_,zn_,zl_] at*);omega)
   | (have h:=ziD_ (by omega) he
      refine ⟨?_,rfl⟩;unfold fewP;rw [h,Bool.and_true];congr 1;exact decide_eq_decide.2 (by omega))
   | (have h:fewP l=false:=by
       unfold fewP;rw [zkk_ (d:=pd) (i:=i) (by omega) (decide_eq_false (by omega)),Bool.and_false]
      refine ⟨?_,rfl⟩;rw [h];done)
   | exact ⟨i+1,⟨by omega,zhe_ (d:=pd) (by omega) he (decide_eq_true (by omega))⟩,by dsimp only;omega,rfl,rfl⟩
 ·cases e
theorem zil_ {a b:PV} (h:a.1=b.1/\a.2.1=b.2.1/\a.2.2.1=b.2.2.1/\a.2.2.2.1.1=b.2.2.2.1.1/\a.2.2.2.1.2.1=b.2.2.2.1.2.1/\a.2.2.2.1.2.2.1=b.2.2.2.1.2.2.1/\a.2.2.2.1.2.2.2.1=b.2.2.2.1.2.2.2.1/\a.2.2.2.1.2.2.2.2.1=b.2.2.2.1.2.2.2.2.1/\a.2.2.2.1.2.2.2.2.2.1=b.2.2.2.1.2.2.2.2.2.1/\a.2.2.2.1.2.2.2.2.2.2.1=b.2.2.2.1.2.2.2.2.2.2.1/\a.2.2.2.1.2.2.2.2.2.2.2.1=b.2.2.2.1.2.2.2.2.2.2.2.1/\True):a=b:=by
 obtain ⟨a1,a2,a3,⟨a4,a5,a6,a7,a8,a9,a10,a11,_⟩,_⟩:=a
 obtain ⟨b1,b2,b3,⟨b4,b5,b6,b7,b8,b9,b10,b11,_⟩,_⟩:=b
 simpa only [Prod.mk.injEq,and_true] using h
def zaB_:IR:=
(sq (kr [0,1] [oD 4 (.mov cF)])
(sq (sq (kr [0,1] [oM 8 0,
oE 9 8,
oM 10 1,
oE 11 10,
oB 12 .neq 9 11])
(.cond 12
(sq (.reg [oD 4 (.mov cF)])
.ret)
.skip))
(sq (sq (kr [0,1] [oD 5 (.mov (cI 0))])
(.block 0
(.loop
(sq (sq (kr [0,1,5] [oM 13 5,
oM 14 0,
oE 15 14,
oB 16 .lss 13 15])
(.cond 16
.skip
(.exit 0)))
(sq (.block 1
(sq (kd [0,1,5] [(oM 19 0,[]),
(oM 20 5,[0]),
(oI 21 11 19 20,[]),
(oK 22 11 21,[]),
(oM 23 1,[0,0,0,0]),
(oM 24 5,[0,0,0,0,0]),
(oI 25 11 23 24,[2,0,0,0]),
(oK 26 11 25,[3,0,0,0]),
(oD 6 (.box [.int .u64 0,.int .u64 0,.str [],.int .u64 0,.int .u64 0,.int .u64 0,.int .u64 0,.int .u64 0,.int .u64 0,.int .u64 0,.int .u64 0]),[0,0,0,0,0,0,0,0]),
(oD 7 (.box [.int .u64 0,.int .u64 0,.str [],.int .u64 0,.int .u64 0,.int .u64 0,.int .u64 0,.int .u64 0,.int .u64 0,.int .u64 0,.int .u64 0]),[0,0,0,0,0,0,0,0,0]),
(oS 11 6 22,[2,0,0,0]),
(oS 11 7 26,[])])
(sq (kr [0,1,5,6,7] [oK 27 11 6,
oK 28 11 7,
oD 29 (.eqs false [.int .u64,.int .u64,.str,.int .u64,.int .u64,.int .u64,.int .u64,.int .u64,.int .u64,.int .u64,.int .u64] 27 28),
oD 30 (.un .not 29)])
(.cond 30
(sq (.reg [oD 4 (.mov cF)])
.ret)
.skip))))
(kr [0,1,5] [oM 17 5,
oB 18 .add 17 (cI 1),
oM 5 18]))))))
(sq (kr [] [oD 4 (.mov cT)])
.ret))))
def Bl_:List RD:=[.tmp 4 true none]
theorem BS_:zj_ Tryz.prog Tryz.f60 zaB_ Bl_=true:=by kernel_rfl
def ws_:List AV->List Obj->Option (Prop × AV)
 | [.imm ty0 a,.imm ty1 b],[]=>ZM_ ty0 Y8 a fun a=>ZM_ ty1 Y8 b fun b=>some ((True,.bool (decide (a=b))))
 | _,_=>none
theorem yx_:zd_ Tryz.prog 60 (RoF ws_).sum:=by
 refine zi_ Tryz.func60 BS_ (zc_ _) fun args objs p v e=>?_
 unfold ws_ at e
 split at e
 ·rename_i ty0 a ty1 b
  obtain rfl:=zN_ e
  replace e:=zO_ e
  obtain rfl:=zN_ e
  replace e:=zO_ e
  cases e
  refine ⟨rfl,fun hw ho hp=>?_⟩
  change List PV at a
  change List PV at b
  have hl:a.length<=maxLen:=(hw (.imm Y8 a) (by simp)).2
  unfold maxLen at hl
  clear hw ho
  repeat'(intro t ht;first|(cases t<;>first|(cases ht;done)|(try simp only[zg_]at ht))|((first|refine zb_ ht ?_|refine ht ?_ ?_|refine ht.1 ?_ ?_|refine ht ?_)<;>clear ht))
  all_goals first
   | (have hne:a ≠ b:=fun h=>(by assumption:¬ (a.length:Int)=b.length) (by rw [h])
      refine ⟨?_,rfl⟩;rw [decide_eq_false hne];done)
   | (intro r h1 h2;clear h1;refine h2 ⟨[0,1,5],Nat,(fun i=>i<=a.length/\a.take i=b.take i),fun i=>[.imm Y8 a,.imm Y8 b,.int .i64 i],fun _=>[],fun i=>a.length - i,⟨0,⟨Nat.zero_le _,rfl⟩,rfl,rfl⟩,?_⟩;clear h2)
  rintro i ⟨hi,he⟩
  have hl2:a.length=b.length:=by omega
  repeat'(intro t ht;first|(cases t<;>first|(cases ht;done)|(try simp only[zg_]at ht;try(exfalso;first|contradiction|omega)))|((first|refine zb_ ht ?_|refine ht ?_ ?_|refine ht.1 ?_ ?_|refine ht ?_)<;>clear ht))
  all_goals (try generalize (Ty.dflt Y8)=pd at*)
  all_goals first
   | exact True.intro
   | ((try simp only [zm_,zn_,zl_] at*);omega)
   | (have e:=Km_ he (by omega) hl2
      refine ⟨?_,rfl⟩;rw [decide_eq_true e];done)
   | (have hne:a ≠ b:=Xr_ (d:=pd) (i:=i) (fun h=>by rw [h] at ht;simp at ht)
      refine ⟨?_,rfl⟩;rw [decide_eq_false hne];done)
   | exact ⟨i+1,⟨by omega,Qf_ he (by omega) hl2 (d:=pd) (zil_ ht)⟩,by (try simp only [zm_,zn_,zl_] at*);omega,rfl,rfl⟩
 ·cases e
abbrev VIn:=Int × Int × Int × List AC × List Int × Unit
instance:DecidableEq (List Int × Unit):=inferInstance
instance:DecidableEq (List AC × List Int × Unit):=inferInstance
instance:DecidableEq (Int × List AC × List Int × Unit):=inferInstance
instance:DecidableEq (Int × Int × List AC × List Int × Unit):=inferInstance
instance:DecidableEq VIn:=inferInstance
theorem zjH_ {x y:VIn} (h:¬ (x.1=y.1/\x.2.1=y.2.1/\x.2.2.1=y.2.2.1/\x.2.2.2.1=y.2.2.2.1/\x.2.2.2.2.1=y.2.2.2.2.1)):¬ x=y:=fun e=>h (by rw [e];exact ⟨rfl,rfl,rfl,rfl,rfl⟩)
theorem zka_ {x y:VIn} (h:x.1=y.1/\x.2.1=y.2.1/\x.2.2.1=y.2.2.1/\x.2.2.2.1=y.2.2.2.1/\x.2.2.2.2.1=y.2.2.2.2.1):x=y:=by
 obtain ⟨a0,a1,a2,a3,a4,_⟩:=x
 obtain ⟨b0,b1,b2,b3,b4,_⟩:=y
 simpa only [Prod.mk.injEq,and_true] using h
abbrev VBd:=Int × Int × Int × Int × List Int × Unit
instance:DecidableEq (List Int × Unit):=inferInstance
instance:DecidableEq (Int × List Int × Unit):=inferInstance
instance:DecidableEq (Int × Int × List Int × Unit):=inferInstance
instance:DecidableEq (Int × Int × Int × List Int × Unit):=inferInstance
instance:DecidableEq VBd:=inferInstance
theorem zjK_ {x y:VBd} (h:¬ (x.1=y.1/\x.2.1=y.2.1/\x.2.2.1=y.2.2.1/\x.2.2.2.1=y.2.2.2.1/\x.2.2.2.2.1=y.2.2.2.2.1)):¬ x=y:=fun e=>h (by rw [e];exact ⟨rfl,rfl,rfl,rfl,rfl⟩)
theorem zkd_ {x y:VBd} (h:x.1=y.1/\x.2.1=y.2.1/\x.2.2.1=y.2.2.1/\x.2.2.2.1=y.2.2.2.1/\x.2.2.2.2.1=y.2.2.2.2.1):x=y:=by
 obtain ⟨a0,a1,a2,a3,a4,_⟩:=x
 obtain ⟨b0,b1,b2,b3,b4,_⟩:=y
 simpa only [Prod.mk.injEq,and_true] using h
abbrev VPr:=Int × Int × List Int × Unit
instance:DecidableEq (List Int × Unit):=inferInstance
instance:DecidableEq (Int × List Int × Unit):=inferInstance
instance:DecidableEq VPr:=inferInstance
theorem zjG_ {x y:VPr} (h:¬ (x.1=y.1/\x.2.1=y.2.1/\x.2.2.1=y.2.2.1)):¬ x=y:=fun e=>h (by rw [e];exact ⟨rfl,rfl,rfl⟩)
theorem zj9_ {x y:VPr} (h:x.1=y.1/\x.2.1=y.2.1/\x.2.2.1=y.2.2.1):x=y:=by
 obtain ⟨a0,a1,a2,_⟩:=x
 obtain ⟨b0,b1,b2,_⟩:=y
 simpa only [Prod.mk.injEq,and_true] using h
abbrev VQu:=Int × Int × List VPr × Unit
instance:DecidableEq (List VPr × Unit):=inferInstance
instance:DecidableEq (Int × List VPr × Unit):=inferInstance
instance:DecidableEq VQu:=inferInstance
theorem zjF_ {x y:VQu} (h:¬ (x.1=y.1/\x.2.1=y.2.1/\x.2.2.1=y.2.2.1)):¬ x=y:=fun e=>h (by rw [e];exact ⟨rfl,rfl,rfl⟩)
theorem zj8_ {x y:VQu} (h:x.1=y.1/\x.2.1=y.2.1/\x.2.2.1=y.2.2.1):x=y:=by
 obtain ⟨a0,a1,a2,_⟩:=x
 obtain ⟨b0,b1,b2,_⟩:=y
 simpa only [Prod.mk.injEq,and_true] using h
abbrev VFe:=Int × List Int × List Int × Unit
instance:DecidableEq (List Int × Unit):=inferInstance
instance:DecidableEq (List Int × List Int × Unit):=inferInstance
instance:DecidableEq VFe:=inferInstance
theorem zjI_ {x y:VFe} (h:¬ (x.1=y.1/\x.2.1=y.2.1/\x.2.2.1=y.2.2.1)):¬ x=y:=fun e=>h (by rw [e];exact ⟨rfl,rfl,rfl⟩)
theorem zkb_ {x y:VFe} (h:x.1=y.1/\x.2.1=y.2.1/\x.2.2.1=y.2.2.1):x=y:=by
 obtain ⟨a0,a1,a2,_⟩:=x
 obtain ⟨b0,b1,b2,_⟩:=y
 simpa only [Prod.mk.injEq,and_true] using h
abbrev VTb:=Int × List Int × Int × Int × Int × Int × List VFe × Unit
instance:DecidableEq (List VFe × Unit):=inferInstance
instance:DecidableEq (Int × List VFe × Unit):=inferInstance
instance:DecidableEq (Int × Int × List VFe × Unit):=inferInstance
instance:DecidableEq (Int × Int × Int × List VFe × Unit):=inferInstance
instance:DecidableEq (Int × Int × Int × Int × List VFe × Unit):=inferInstance
instance:DecidableEq (List Int × Int × Int × Int × Int × List VFe × Unit):=inferInstance
instance:DecidableEq VTb:=inferInstance
theorem zjE_ {x y:VTb} (h:¬ (x.1=y.1/\x.2.1=y.2.1/\x.2.2.1=y.2.2.1/\x.2.2.2.1=y.2.2.2.1/\x.2.2.2.2.1=y.2.2.2.2.1/\x.2.2.2.2.2.1=y.2.2.2.2.2.1/\x.2.2.2.2.2.2.1=y.2.2.2.2.2.2.1)):¬ x=y:=fun e=>h (by rw [e];exact ⟨rfl,rfl,rfl,rfl,rfl,rfl,rfl⟩)
theorem zj7_ {x y:VTb} (h:x.1=y.1/\x.2.1=y.2.1/\x.2.2.1=y.2.2.1/\x.2.2.2.1=y.2.2.2.1/\x.2.2.2.2.1=y.2.2.2.2.1/\x.2.2.2.2.2.1=y.2.2.2.2.2.1/\x.2.2.2.2.2.2.1=y.2.2.2.2.2.2.1):x=y:=by
 obtain ⟨a0,a1,a2,a3,a4,a5,a6,_⟩:=x
 obtain ⟨b0,b1,b2,b3,b4,b5,b6,_⟩:=y
 simpa only [Prod.mk.injEq,and_true] using h
abbrev VEl:=Int × List Int × Unit
instance:DecidableEq (List Int × Unit):=inferInstance
instance:DecidableEq VEl:=inferInstance
theorem zjJ_ {x y:VEl} (h:¬ (x.1=y.1/\x.2.1=y.2.1)):¬ x=y:=fun e=>h (by rw [e];exact ⟨rfl,rfl⟩)
theorem zkc_ {x y:VEl} (h:x.1=y.1/\x.2.1=y.2.1):x=y:=by
 obtain ⟨a0,a1,_⟩:=x
 obtain ⟨b0,b1,_⟩:=y
 simpa only [Prod.mk.injEq,and_true] using h
abbrev VPa:=List Int × List (List Int) × List OV × List VIn × List BK × List VBd × List (List Int) × List PV × List VTb × List Int × Unit
instance:DecidableEq (List Int × Unit):=inferInstance
instance:DecidableEq (List VTb × List Int × Unit):=inferInstance
instance:DecidableEq (List PV × List VTb × List Int × Unit):=inferInstance
instance:DecidableEq (List (List Int) × List PV × List VTb × List Int × Unit):=inferInstance
instance:DecidableEq (List VBd × List (List Int) × List PV × List VTb × List Int × Unit):=inferInstance
instance:DecidableEq (List BK × List VBd × List (List Int) × List PV × List VTb × List Int × Unit):=inferInstance
instance:DecidableEq (List VIn × List BK × List VBd × List (List Int) × List PV × List VTb × List Int × Unit):=inferInstance
instance:DecidableEq (List OV × List VIn × List BK × List VBd × List (List Int) × List PV × List VTb × List Int × Unit):=inferInstance
instance:DecidableEq (List (List Int) × List OV × List VIn × List BK × List VBd × List (List Int) × List PV × List VTb × List Int × Unit):=inferInstance
instance:DecidableEq VPa:=inferInstance
abbrev VMs:=Int × Int × List Int × List Int × List VEl × List OV × List AC × List VIn × List BK × List VBd × List VQu × List PV × Int × Int × List VPa × Unit
instance:DecidableEq (List VPa × Unit):=inferInstance
instance:DecidableEq (Int × List VPa × Unit):=inferInstance
instance:DecidableEq (Int × Int × List VPa × Unit):=inferInstance
instance:DecidableEq (List PV × Int × Int × List VPa × Unit):=inferInstance
instance:DecidableEq (List VQu × List PV × Int × Int × List VPa × Unit):=inferInstance
instance:DecidableEq (List VBd × List VQu × List PV × Int × Int × List VPa × Unit):=inferInstance
instance:DecidableEq (List BK × List VBd × List VQu × List PV × Int × Int × List VPa × Unit):=inferInstance
instance:DecidableEq (List VIn × List BK × List VBd × List VQu × List PV × Int × Int × List VPa × Unit):=inferInstance
instance:DecidableEq (List AC × List VIn × List BK × List VBd × List VQu × List PV × Int × Int × List VPa × Unit):=inferInstance
instance:DecidableEq (List OV × List AC × List VIn × List BK × List VBd × List VQu × List PV × Int × Int × List VPa × Unit):=inferInstance
instance:DecidableEq (List VEl × List OV × List AC × List VIn × List BK × List VBd × List VQu × List PV × Int × Int × List VPa × Unit):=inferInstance
instance:DecidableEq (List Int × List VEl × List OV × List AC × List VIn × List BK × List VBd × List VQu × List PV × Int × Int × List VPa × Unit):=inferInstance
instance:DecidableEq (List Int × List Int × List VEl × List OV × List AC × List VIn × List BK × List VBd × List VQu × List PV × Int × Int × List VPa × Unit):=inferInstance
instance:DecidableEq (Int × List Int × List Int × List VEl × List OV × List AC × List VIn × List BK × List VBd × List VQu × List PV × Int × Int × List VPa × Unit):=inferInstance
instance:DecidableEq VMs:=inferInstance
def zaL_:IR:=
(sq (kr [0,1] [oD 4 (.mov cF)])
(sq (sq (kr [0,1] [oM 6 0,
oE 7 6,
oM 8 1,
oE 9 8,
oB 10 .neq 7 9])
(.cond 10
(sq (.reg [oD 4 (.mov cF)])
.ret)
.skip))
(sq (sq (kr [0,1] [oD 5 (.mov (cI 0))])
(.block 0
(.loop
(sq (sq (kr [0,1,5] [oM 11 5,
oM 12 0,
oE 13 12,
oB 14 .lss 11 13])
(.cond 14
.skip
(.exit 0)))
(sq (.block 1
(sq (kd [0,1,5] [(oM 17 0,[]),
(oM 18 5,[0]),
(oI 19 1 17 18,[]),
(oL 20 19,[]),
(oM 21 1,[0,0,0,0]),
(oM 22 5,[0,0,0,0,0]),
(oI 23 1 21 22,[2,0,0,0]),
(oL 24 23,[3,0,0,0]),
(oB 25 .neq 20 24,[])])
(.cond 25
(sq (kr [] [oD 4 (.mov cF)])
.ret)
.skip)))
(kr [0,1,5] [oM 15 5,
oB 16 .add 15 (cI 1),
oM 5 16]))))))
(sq (kr [] [oD 4 (.mov cT)])
.ret))))
def Bv_:List RD:=[.tmp 4 true none]
theorem B2_:zj_ Tryz.prog Tryz.f25 zaL_ Bv_=true:=by kernel_rfl
def kD_:List AV->List Obj->Option (Prop × AV)
 | [.imm (.int .u64) a,.imm (.int .u64) b],[]=>some ((True,.bool (decide ((a:List Int)=b))))
 | _,_=>none
theorem Kt_:zd_ Tryz.prog 25 (RoF kD_).sum:=by
 refine zi_ Tryz.func25 B2_ (zc_ _) fun args objs p v e=>?_
 unfold kD_ at e
 split at e
 ·rename_i a b
  cases e
  refine ⟨rfl,fun hw ho hp=>?_⟩
  change List Int at a
  change List Int at b
  change List Int at a
  change List Int at b
  have hl:a.length<=maxLen:=(hw (.imm (.int .u64) a) (by simp)).2
  unfold maxLen at hl
  clear hw ho
  repeat'(intro t ht;first|(cases t<;>first|(cases ht;done)|(try simp only[zg_]at ht))|((first|refine zb_ ht ?_|refine ht ?_ ?_|refine ht.1 ?_ ?_|refine ht ?_)<;>clear ht))
  all_goals first
   | (have hne:a ≠ b:=fun h=>(by assumption:¬ (a.length:Int)=b.length) (by rw [h])
      refine ⟨?_,rfl⟩;rw [decide_eq_false hne];done)
   | (intro r h1 h2;clear h1;refine h2 ⟨[0,1,5],Nat,(fun i=>i<=a.length/\a.take i=b.take i),fun i=>[.imm (.int .u64) a,.imm (.int .u64) b,.int .i64 i],fun _=>[],fun i=>a.length - i,⟨0,⟨Nat.zero_le _,rfl⟩,rfl,rfl⟩,?_⟩;clear h2)
  rintro i ⟨hi,he⟩
  have hl2:a.length=b.length:=by omega
  repeat'(intro t ht;first|(cases t<;>first|(cases ht;done)|(try simp only[zg_]at ht;try(exfalso;first|contradiction|omega)))|((first|refine zb_ ht ?_|refine ht ?_ ?_|refine ht.1 ?_ ?_|refine ht ?_)<;>clear ht))
  all_goals first
   | exact True.intro
   | ((try simp only [zm_,zn_,zl_] at*);omega)
   | (have e:=Km_ he (by omega) hl2
      refine ⟨?_,rfl⟩;rw [decide_eq_true e];done)
   | (have hne:a ≠ b:=Xr_ (d:=0) (i:=i) (by assumption)
      refine ⟨?_,rfl⟩;rw [decide_eq_false hne];done)
   | exact ⟨i+1,⟨by omega,Qf_ he (by omega) hl2 (d:=0) (by assumption)⟩,by (try simp only [zm_,zn_,zl_] at*);omega,rfl,rfl⟩
   | skip
 ·cases e
def zaE_:IR:=
(sq (kr [0,1] [oD 4 (.mov cF)])
(sq (sq (kr [0,1] [oM 8 0,
oE 9 8,
oM 10 1,
oE 11 10,
oB 12 .neq 9 11])
(.cond 12
(sq (.reg [oD 4 (.mov cF)])
.ret)
.skip))
(sq (sq (kr [0,1] [oD 5 (.mov (cI 0))])
(.block 0
(.loop
(sq (sq (kr [0,1,5] [oM 13 5,
oM 14 0,
oE 15 14,
oB 16 .lss 13 15])
(.cond 16
.skip
(.exit 0)))
(sq (.block 1
(sq (kd [0,1,5] [(oM 19 0,[]),
(oM 20 5,[0]),
(oI 21 5 19 20,[]),
(oK 22 5 21,[]),
(oM 23 1,[0,0,0,0]),
(oM 24 5,[0,0,0,0,0]),
(oI 25 5 23 24,[2,0,0,0]),
(oK 26 5 25,[3,0,0,0]),
(oD 6 (.box [.int .i64 0,.int .u64 0,.int .u64 0,.int .u64 0,.imm (.int .u8) []]),[0,0,0,0,0,0,0,0]),
(oD 7 (.box [.int .i64 0,.int .u64 0,.int .u64 0,.int .u64 0,.imm (.int .u8) []]),[0,0,0,0,0,0,0,0,0]),
(oS 5 6 22,[2,0,0,0]),
(oS 5 7 26,[])])
(sq (kr [0,1,5,6,7] [oA 27 0 6,
oL 28 27,
oA 29 0 7,
oL 30 29,
oB 31 .eql 28 30,
oM 32 31,
oT 32 33 (.fieldAddr 1 6),
oT 32 34 (.load none 33),
oT 32 35 (.fieldAddr 1 7),
oT 32 36 (.load none 35),
oT 32 37 (.bin .eql 34 36),
oP 38 32 37 cF,
oM 39 38,
oT 39 40 (.fieldAddr 2 6),
oT 39 41 (.load none 40),
oT 39 42 (.fieldAddr 2 7),
oT 39 43 (.load none 42),
oT 39 44 (.bin .eql 41 43),
oP 45 39 44 cF,
oM 46 45,
oT 46 47 (.fieldAddr 3 6),
oT 46 48 (.load none 47),
oT 46 49 (.fieldAddr 3 7),
oT 46 50 (.load none 49),
oT 46 51 (.bin .eql 48 50),
oP 52 46 51 cF,
oM 53 52,
oT 53 54 (.fieldAddr 4 6),
oT 53 55 (.load none 54),
oT 53 56 (.fieldAddr 4 7),
oT 53 57 (.load none 56),
oT 53 58 (.call false (.f 13) [55,57]),
oP 59 53 58 cF,
oD 60 (.un .not 59)])
(.cond 60
(sq (kr [] [oD 4 (.mov cF)])
.ret)
.skip))))
(kr [0,1,5] [oM 17 5,
oB 18 .add 17 (cI 1),
oM 5 18]))))))
(sq (kr [] [oD 4 (.mov cT)])
.ret))))
def Bo_:List RD:=[.tmp 4 true none]
theorem BV_:zj_ Tryz.prog Tryz.f58 zaE_ Bo_=true:=by kernel_rfl
def wt_:List AV->List Obj->Option (Prop × AV)
 | [.imm (.cons (.int .i64) (.cons (.int .u64) (.cons (.int .u64) (.cons (.int .u64) (.cons (.sl (.int .u8)) .nil))))) a,.imm (.cons (.int .i64) (.cons (.int .u64) (.cons (.int .u64) (.cons (.int .u64) (.cons (.sl (.int .u8)) .nil))))) b],[]=>some ((True,.bool (decide ((a:List VBd)=b))))
 | _,_=>none
theorem yy_:zd_ Tryz.prog 58 (RoF wt_).sum:=by
 refine zi_ Tryz.func58 BV_ (za_ (s:=RoF Zc_) z6_ (zc_ _)) fun args objs p v e=>?_
 unfold wt_ at e
 split at e
 ·rename_i a b
  cases e
  refine ⟨rfl,fun hw ho hp=>?_⟩
  change List VBd at a
  change List VBd at b
  have hl:a.length<=maxLen:=(hw (.imm Y5 a) (by simp)).2
  unfold maxLen at hl
  clear hw ho
  repeat'(intro t ht;first|(cases t<;>first|(cases ht;done)|(try simp only[zg_]at ht))|((first|refine zb_ ht ?_|refine ht ?_ ?_|refine ht.1 ?_ ?_|refine ht ?_)<;>clear ht))
  all_goals first
   | (have hne:a ≠ b:=fun h=>(by assumption:¬ (a.length:Int)=b.length) (by rw [h])
      refine ⟨?_,rfl⟩;rw [decide_eq_false hne];done)
   | (intro r h1 h2;clear h1;refine h2 ⟨[0,1,5],Nat,(fun i=>i<=a.length/\a.take i=b.take i),fun i=>[.imm Y5 a,.imm Y5 b,.int .i64 i],fun _=>[],fun i=>a.length - i,⟨0,⟨Nat.zero_le _,rfl⟩,rfl,rfl⟩,?_⟩;clear h2)
  rintro i ⟨hi,he⟩
  have hl2:a.length=b.length:=by omega
  repeat'(intro t ht;first|(cases t<;>first|(cases ht;done)|(try simp only[zg_]at ht;try(exfalso;first|contradiction|omega)))|((first|refine zb_ ht ?_|refine ht ?_ ?_|refine ht.1 ?_ ?_|refine ht ?_)<;>clear ht))
  all_goals (try generalize (Ty.dflt Y5)=od at*)
  all_goals first
   | exact True.intro
   | ((try simp only [zm_,zn_,zl_] at*);omega)
   | (have e:=Km_ he (by omega) hl2
      refine ⟨?_,rfl⟩;rw [decide_eq_true e];done)
   | (have hne:a ≠ b:=Xr_ (d:=od) (i:=i) (zjK_ fun h=>by simp_all)
      refine ⟨?_,rfl⟩;rw [decide_eq_false hne];done)
   | exact ⟨i+1,⟨by omega,Qf_ he (by omega) hl2 (d:=od) (zkd_ (by simp_all))⟩,by (try simp only [zm_,zn_,zl_] at*);omega,rfl,rfl⟩
   | skip
 ·cases e
def zaC_:IR:=
(sq (kr [0,1] [oD 4 (.mov cF)])
(sq (sq (kr [0,1] [oM 6 0,
oE 7 6,
oM 8 1,
oE 9 8,
oB 10 .neq 7 9])
(.cond 10
(sq (.reg [oD 4 (.mov cF)])
.ret)
.skip))
(sq (sq (kr [0,1] [oD 5 (.mov (cI 0))])
(.block 0
(.loop
(sq (sq (kr [0,1,5] [oM 11 5,
oM 12 0,
oE 13 12,
oB 14 .lss 11 13])
(.cond 14
.skip
(.exit 0)))
(sq (.block 1
(sq (kd [0,1,5] [(oM 17 0,[]),
(oM 18 5,[0]),
(oI 19 3 17 18,[]),
(oA 20 0 19,[]),
(oL 21 20,[]),
(oM 22 1,[0,0,0,0,0]),
(oM 23 5,[0,0,0,0,0,0]),
(oI 24 3 22 23,[2,0,0,0,0]),
(oA 25 0 24,[3,0,0,0,0]),
(oL 26 25,[4,0,0,0,0]),
(oB 27 .neq 21 26,[]),
(oM 28 27,[]),
(oF 28 29 (.mov 0),[]),
(oF 28 30 (.mov 5),[0]),
(oF 28 31 (.indexSl 3 29 30),[]),
(oF 28 32 (.fieldAddr 1 31),[]),
(oF 28 33 (.load none 32),[]),
(oF 28 34 (.mov 1),[0,0,0,0,0]),
(oF 28 35 (.mov 5),[0,0,0,0,0,0]),
(oF 28 36 (.indexSl 3 34 35),[2,0,0,0,0]),
(oF 28 37 (.fieldAddr 1 36),[3,0,0,0,0]),
(oF 28 38 (.load none 37),[4,0,0,0,0]),
(oF 28 39 (.bin .neq 33 38),[]),
(oP 40 28 cT 39,[]),
(oM 41 40,[]),
(oF 41 42 (.mov 0),[]),
(oF 41 43 (.mov 5),[0]),
(oF 41 44 (.indexSl 3 42 43),[]),
(oF 41 45 (.fieldAddr 2 44),[]),
(oF 41 46 (.load none 45),[]),
(oF 41 47 (.mov 1),[0,0,0,0,0]),
(oF 41 48 (.mov 5),[0,0,0,0,0,0]),
(oF 41 49 (.indexSl 3 47 48),[2,0,0,0,0]),
(oF 41 50 (.fieldAddr 2 49),[3,0,0,0,0]),
(oF 41 51 (.load none 50),[4,0,0,0,0]),
(oF 41 52 (.call false (.f 13) [46,51]),[]),
(oF 41 53 (.un .not 52),[]),
(oP 54 41 cT 53,[])])
(.cond 54
(sq (kr [] [oD 4 (.mov cF)])
.ret)
.skip)))
(kr [0,1,5] [oM 15 5,
oB 16 .add 15 (cI 1),
oM 5 16]))))))
(sq (kr [] [oD 4 (.mov cT)])
.ret))))
def Bm_:List RD:=[.tmp 4 true none]
theorem BT_:zj_ Tryz.prog Tryz.f112 zaC_ Bm_=true:=by kernel_rfl
def yh_:List AV->List Obj->Option (Prop × AV)
 | [.imm (.cons (.int .i64) (.cons (.int .u64) (.cons (.sl (.int .u8)) .nil))) a,.imm (.cons (.int .i64) (.cons (.int .u64) (.cons (.sl (.int .u8)) .nil))) b],[]=>some ((True,.bool (decide ((a:List VPr)=b))))
 | _,_=>none
theorem h0_:zd_ Tryz.prog 112 (RoF yh_).sum:=by
 refine zi_ Tryz.func112 BT_ (za_ (s:=RoF Zc_) z6_ (zc_ _)) fun args objs p v e=>?_
 unfold yh_ at e
 split at e
 ·rename_i a b
  cases e
  refine ⟨rfl,fun hw ho hp=>?_⟩
  change List VPr at a
  change List VPr at b
  have hl:a.length<=maxLen:=(hw (.imm Y6 a) (by simp)).2
  unfold maxLen at hl
  clear hw ho
  repeat'(intro t ht;first|(cases t<;>first|(cases ht;done)|(try simp only[zg_]at ht))|((first|refine zb_ ht ?_|refine ht ?_ ?_|refine ht.1 ?_ ?_|refine ht ?_)<;>clear ht))
  all_goals first
   | (have hne:a ≠ b:=fun h=>(by assumption:¬ (a.length:Int)=b.length) (by rw [h])
      refine ⟨?_,rfl⟩;rw [decide_eq_false hne];done)
   | (intro r h1 h2;clear h1;refine h2 ⟨[0,1,5],Nat,(fun i=>i<=a.length/\a.take i=b.take i),fun i=>[.imm Y6 a,.imm Y6 b,.int .i64 i],fun _=>[],fun i=>a.length - i,⟨0,⟨Nat.zero_le _,rfl⟩,rfl,rfl⟩,?_⟩;clear h2)
  rintro i ⟨hi,he⟩
  have hl2:a.length=b.length:=by omega
  repeat'(intro t ht;first|(cases t<;>first|(cases ht;done)|(try simp only[zg_]at ht;try(exfalso;first|contradiction|omega)))|((first|refine zb_ ht ?_|refine ht ?_ ?_|refine ht.1 ?_ ?_|refine ht ?_)<;>clear ht))
  all_goals (try generalize (Ty.dflt Y6)=od at*)
  all_goals first
   | exact True.intro
   | ((try simp only [zm_,zn_,zl_] at*);omega)
   | (have e:=Km_ he (by omega) hl2
      refine ⟨?_,rfl⟩;rw [decide_eq_true e];done)
   | (have hne:a ≠ b:=Xr_ (d:=od) (i:=i) (zjG_ fun h=>by simp_all)
      refine ⟨?_,rfl⟩;rw [decide_eq_false hne];done)
   | exact ⟨i+1,⟨by omega,Qf_ he (by omega) hl2 (d:=od) (zj9_ (by simp_all))⟩,by (try simp only [zm_,zn_,zl_] at*);omega,rfl,rfl⟩
   | skip
 ·cases e
def zaD_:IR:=
(sq (kr [0,1] [oD 4 (.mov cF)])
(sq (sq (kr [0,1] [oM 8 0,
oE 9 8,
oM 10 1,
oE 11 10,
oB 12 .neq 9 11])
(.cond 12
(sq (.reg [oD 4 (.mov cF)])
.ret)
.skip))
(sq (sq (kr [0,1] [oD 5 (.mov (cI 0))])
(.block 0
(.loop
(sq (sq (kr [0,1,5] [oM 13 5,
oM 14 0,
oE 15 14,
oB 16 .lss 13 15])
(.cond 16
.skip
(.exit 0)))
(sq (.block 1
(sq (kd [0,1,5] [(oM 19 0,[]),
(oM 20 5,[0]),
(oI 21 3 19 20,[]),
(oK 22 3 21,[]),
(oM 23 1,[0,0,0,0]),
(oM 24 5,[0,0,0,0,0]),
(oI 25 3 23 24,[2,0,0,0]),
(oK 26 3 25,[3,0,0,0]),
(oD 6 (.box [.int .u64 0,.int .u64 0,.imm Y6 []]),[0,0,0,0,0,0,0,0]),
(oD 7 (.box [.int .u64 0,.int .u64 0,.imm Y6 []]),[0,0,0,0,0,0,0,0,0]),
(oS 3 6 22,[2,0,0,0]),
(oS 3 7 26,[])])
(sq (kr [0,1,5,6,7] [oA 27 0 6,
oL 28 27,
oA 29 0 7,
oL 30 29,
oB 31 .eql 28 30,
oM 32 31,
oT 32 33 (.fieldAddr 1 6),
oT 32 34 (.load none 33),
oT 32 35 (.fieldAddr 1 7),
oT 32 36 (.load none 35),
oT 32 37 (.bin .eql 34 36),
oP 38 32 37 cF,
oM 39 38,
oT 39 40 (.fieldAddr 2 6),
oT 39 41 (.load none 40),
oT 39 42 (.fieldAddr 2 7),
oT 39 43 (.load none 42),
oT 39 44 (.call false (.f 112) [41,43]),
oP 45 39 44 cF,
oD 46 (.un .not 45)])
(.cond 46
(sq (kr [] [oD 4 (.mov cF)])
.ret)
.skip))))
(kr [0,1,5] [oM 17 5,
oB 18 .add 17 (cI 1),
oM 5 18]))))))
(sq (kr [] [oD 4 (.mov cT)])
.ret))))
def Bn_:List RD:=[.tmp 4 true none]
theorem BU_:zj_ Tryz.prog Tryz.f59 zaD_ Bn_=true:=by kernel_rfl
def yi_:List AV->List Obj->Option (Prop × AV)
 | [.imm (.cons (.int .u64) (.cons (.int .u64) (.cons (.sl (.cons (.int .i64) (.cons (.int .u64) (.cons (.sl (.int .u8)) .nil)))) .nil))) a,.imm (.cons (.int .u64) (.cons (.int .u64) (.cons (.sl (.cons (.int .i64) (.cons (.int .u64) (.cons (.sl (.int .u8)) .nil)))) .nil))) b],[]=>some ((True,.bool (decide ((a:List VQu)=b))))
 | _,_=>none
theorem h1_:zd_ Tryz.prog 59 (RoF yi_).sum:=by
 refine zi_ Tryz.func59 BU_ (za_ (s:=RoF yh_) h0_ (zc_ _)) fun args objs p v e=>?_
 unfold yi_ at e
 split at e
 ·rename_i a b
  cases e
  refine ⟨rfl,fun hw ho hp=>?_⟩
  change List VQu at a
  change List VQu at b
  have hl:a.length<=maxLen:=(hw (.imm Y7 a) (by simp)).2
  unfold maxLen at hl
  clear hw ho
  repeat'(intro t ht;first|(cases t<;>first|(cases ht;done)|(try simp only[zg_]at ht))|((first|refine zb_ ht ?_|refine ht ?_ ?_|refine ht.1 ?_ ?_|refine ht ?_)<;>clear ht))
  all_goals first
   | (have hne:a ≠ b:=fun h=>(by assumption:¬ (a.length:Int)=b.length) (by rw [h])
      refine ⟨?_,rfl⟩;rw [decide_eq_false hne];done)
   | (intro r h1 h2;clear h1;refine h2 ⟨[0,1,5],Nat,(fun i=>i<=a.length/\a.take i=b.take i),fun i=>[.imm Y7 a,.imm Y7 b,.int .i64 i],fun _=>[],fun i=>a.length - i,⟨0,⟨Nat.zero_le _,rfl⟩,rfl,rfl⟩,?_⟩;clear h2)
  rintro i ⟨hi,he⟩
  have hl2:a.length=b.length:=by omega
  repeat'(intro t ht;first|(cases t<;>first|(cases ht;done)|(try simp only[zg_]at ht;try(exfalso;first|contradiction|omega)))|((first|refine zb_ ht ?_|refine ht ?_ ?_|refine ht.1 ?_ ?_|refine ht ?_)<;>clear ht))
  all_goals (try generalize (Ty.dflt Y7)=od at*)
  all_goals first
   | exact True.intro
   | ((try simp only [zm_,zn_,zl_] at*);omega)
   | (have e:=Km_ he (by omega) hl2
      refine ⟨?_,rfl⟩;rw [decide_eq_true e];done)
   | (have hne:a ≠ b:=Xr_ (d:=od) (i:=i) (zjF_ fun h=>by simp_all)
      refine ⟨?_,rfl⟩;rw [decide_eq_false hne];done)
   | exact ⟨i+1,⟨by omega,Qf_ he (by omega) hl2 (d:=od) (zj8_ (by simp_all))⟩,by (try simp only [zm_,zn_,zl_] at*);omega,rfl,rfl⟩
   | skip
 ·cases e
def bh_:IR:=
(sq (kr [0,1] [oD 4 (.mov cF)])
(sq (sq (kr [0,1] [oM 6 0,
oE 7 6,
oM 8 1,
oE 9 8,
oB 10 .neq 7 9])
(.cond 10
(sq (.reg [oD 4 (.mov cF)])
.ret)
.skip))
(sq (sq (kr [0,1] [oD 5 (.mov (cI 0))])
(.block 0
(.loop
(sq (sq (kr [0,1,5] [oM 11 5,
oM 12 0,
oE 13 12,
oB 14 .lss 11 13])
(.cond 14
.skip
(.exit 0)))
(sq (.block 1
(sq (kd [0,1,5] [(oM 17 0,[]),
(oM 18 5,[0]),
(oI 19 3 17 18,[]),
(oA 20 0 19,[]),
(oL 21 20,[]),
(oM 22 1,[0,0,0,0,0]),
(oM 23 5,[0,0,0,0,0,0]),
(oI 24 3 22 23,[2,0,0,0,0]),
(oA 25 0 24,[3,0,0,0,0]),
(oL 26 25,[4,0,0,0,0]),
(oB 27 .neq 21 26,[]),
(oM 28 27,[]),
(oF 28 29 (.mov 0),[]),
(oF 28 30 (.mov 5),[0]),
(oF 28 31 (.indexSl 3 29 30),[]),
(oF 28 32 (.fieldAddr 1 31),[]),
(oF 28 33 (.load none 32),[]),
(oF 28 34 (.mov 1),[0,0,0,0,0]),
(oF 28 35 (.mov 5),[0,0,0,0,0,0]),
(oF 28 36 (.indexSl 3 34 35),[2,0,0,0,0]),
(oF 28 37 (.fieldAddr 1 36),[3,0,0,0,0]),
(oF 28 38 (.load none 37),[4,0,0,0,0]),
(oF 28 39 (.call false (.f 25) [33,38]),[]),
(oF 28 40 (.un .not 39),[]),
(oP 41 28 cT 40,[]),
(oM 42 41,[]),
(oF 42 43 (.mov 0),[]),
(oF 42 44 (.mov 5),[0]),
(oF 42 45 (.indexSl 3 43 44),[]),
(oF 42 46 (.fieldAddr 2 45),[]),
(oF 42 47 (.load none 46),[]),
(oF 42 48 (.mov 1),[0,0,0,0,0]),
(oF 42 49 (.mov 5),[0,0,0,0,0,0]),
(oF 42 50 (.indexSl 3 48 49),[2,0,0,0,0]),
(oF 42 51 (.fieldAddr 2 50),[3,0,0,0,0]),
(oF 42 52 (.load none 51),[4,0,0,0,0]),
(oF 42 53 (.call false (.f 13) [47,52]),[]),
(oF 42 54 (.un .not 53),[]),
(oP 55 42 cT 54,[])])
(.cond 55
(sq (kr [] [oD 4 (.mov cF)])
.ret)
.skip)))
(kr [0,1,5] [oM 15 5,
oB 16 .add 15 (cI 1),
oM 5 16]))))))
(sq (kr [] [oD 4 (.mov cT)])
.ret))))
def Hk_:List RD:=[.tmp 4 true none]
theorem HJ_:zj_ Tryz.prog Tryz.f145 bh_ Hk_=true:=by kernel_rfl
def xM_:List AV->List Obj->Option (Prop × AV)
 | [.imm (.cons (.int .i64) (.cons (.sl (.int .u64)) (.cons (.sl (.int .u8)) .nil))) a,.imm (.cons (.int .i64) (.cons (.sl (.int .u64)) (.cons (.sl (.int .u8)) .nil))) b],[]=>some ((True,.bool (decide ((a:List VFe)=b))))
 | _,_=>none
theorem gD_:zd_ Tryz.prog 145 (RoF xM_).sum:=by
 refine zi_ Tryz.func145 HJ_ (za_ (s:=RoF kD_) Kt_ (za_ (s:=RoF Zc_) z6_ (zc_ _))) fun args objs p v e=>?_
 unfold xM_ at e
 split at e
 ·rename_i a b
  cases e
  refine ⟨rfl,fun hw ho hp=>?_⟩
  change List VFe at a
  change List VFe at b
  have hl:a.length<=maxLen:=(hw (.imm Y9 a) (by simp)).2
  unfold maxLen at hl
  clear hw ho
  repeat'(intro t ht;first|(cases t<;>first|(cases ht;done)|(try simp only[zg_]at ht))|((first|refine zb_ ht ?_|refine ht ?_ ?_|refine ht.1 ?_ ?_|refine ht ?_)<;>clear ht))
  all_goals first
   | (have hne:a ≠ b:=fun h=>(by assumption:¬ (a.length:Int)=b.length) (by rw [h])
      refine ⟨?_,rfl⟩;rw [decide_eq_false hne];done)
   | (intro r h1 h2;clear h1;refine h2 ⟨[0,1,5],Nat,(fun i=>i<=a.length/\a.take i=b.take i),fun i=>[.imm Y9 a,.imm Y9 b,.int .i64 i],fun _=>[],fun i=>a.length - i,⟨0,⟨Nat.zero_le _,rfl⟩,rfl,rfl⟩,?_⟩;clear h2)
  rintro i ⟨hi,he⟩
  have hl2:a.length=b.length:=by omega
  repeat'(intro t ht;first|(cases t<;>first|(cases ht;done)|(try simp only[zg_]at ht;try(exfalso;first|contradiction|omega)))|((first|refine zb_ ht ?_|refine ht ?_ ?_|refine ht.1 ?_ ?_|refine ht ?_)<;>clear ht))
  all_goals (try generalize (Ty.dflt Y9)=od at*)
  all_goals first
   | exact True.intro
   | ((try simp only [zm_,zn_,zl_] at*);omega)
   | (have e:=Km_ he (by omega) hl2
      refine ⟨?_,rfl⟩;rw [decide_eq_true e];done)
   | (have hne:a ≠ b:=Xr_ (d:=od) (i:=i) (zjI_ fun h=>by simp_all)
      refine ⟨?_,rfl⟩;rw [decide_eq_false hne];done)
   | exact ⟨i+1,⟨by omega,Qf_ he (by omega) hl2 (d:=od) (zkb_ (by simp_all))⟩,by (try simp only [zm_,zn_,zl_] at*);omega,rfl,rfl⟩
   | skip
 ·cases e
def zaA_:IR:=
(sq (kr [0,1] [oD 4 (.mov cF)])
(sq (sq (kr [0,1] [oM 8 0,
oE 9 8,
oM 10 1,
oE 11 10,
oB 12 .neq 9 11])
(.cond 12
(sq (.reg [oD 4 (.mov cF)])
.ret)
.skip))
(sq (sq (kr [0,1] [oD 5 (.mov (cI 0))])
(.block 0
(.loop
(sq (sq (kr [0,1,5] [oM 13 5,
oM 14 0,
oE 15 14,
oB 16 .lss 13 15])
(.cond 16
.skip
(.exit 0)))
(sq (.block 1
(sq (kd [0,1,5] [(oM 19 0,[]),
(oM 20 5,[0]),
(oI 21 7 19 20,[]),
(oK 22 7 21,[]),
(oM 23 1,[0,0,0,0]),
(oM 24 5,[0,0,0,0,0]),
(oI 25 7 23 24,[2,0,0,0]),
(oK 26 7 25,[3,0,0,0]),
(oD 6 (.box [.int .u64 0,.str [],.int .u64 0,.int .u64 0,.int .u64 0,.int .u64 0,.imm Y9 []]),[0,0,0,0,0,0,0,0]),
(oD 7 (.box [.int .u64 0,.str [],.int .u64 0,.int .u64 0,.int .u64 0,.int .u64 0,.imm Y9 []]),[0,0,0,0,0,0,0,0,0]),
(oS 7 6 22,[2,0,0,0]),
(oS 7 7 26,[])])
(sq (kr [0,1,5,6,7] [oA 27 0 6,
oL 28 27,
oA 29 0 7,
oL 30 29,
oB 31 .eql 28 30,
oM 32 31,
oT 32 33 (.fieldAddr 1 6),
oT 32 34 (.load none 33),
oT 32 35 (.fieldAddr 1 7),
oT 32 36 (.load none 35),
oT 32 37 (.bin .eql 34 36),
oP 38 32 37 cF,
oM 39 38,
oT 39 40 (.fieldAddr 2 6),
oT 39 41 (.load none 40),
oT 39 42 (.fieldAddr 2 7),
oT 39 43 (.load none 42),
oT 39 44 (.bin .eql 41 43),
oP 45 39 44 cF,
oM 46 45,
oT 46 47 (.fieldAddr 3 6),
oT 46 48 (.load none 47),
oT 46 49 (.fieldAddr 3 7),
oT 46 50 (.load none 49),
oT 46 51 (.bin .eql 48 50),
oP 52 46 51 cF,
oM 53 52,
oT 53 54 (.fieldAddr 4 6),
oT 53 55 (.load none 54),
oT 53 56 (.fieldAddr 4 7),
oT 53 57 (.load none 56),
oT 53 58 (.bin .eql 55 57),
oP 59 53 58 cF,
oM 60 59,
oT 60 61 (.fieldAddr 5 6),
oT 60 62 (.load none 61),
oT 60 63 (.fieldAddr 5 7),
oT 60 64 (.load none 63),
oT 60 65 (.bin .eql 62 64),
oP 66 60 65 cF,
oM 67 66,
oT 67 68 (.fieldAddr 6 6),
oT 67 69 (.load none 68),
oT 67 70 (.fieldAddr 6 7),
oT 67 71 (.load none 70),
oT 67 72 (.call false (.f 145) [69,71]),
oP 73 67 72 cF,
oD 74 (.un .not 73)])
(.cond 74
(sq (kr [] [oD 4 (.mov cF)])
.ret)
.skip))))
(kr [0,1,5] [oM 17 5,
oB 18 .add 17 (cI 1),
oM 5 18]))))))
(sq (kr [] [oD 4 (.mov cT)])
.ret))))
def Bk_:List RD:=[.tmp 4 true none]
theorem BR_:zj_ Tryz.prog Tryz.f109 zaA_ Bk_=true:=by kernel_rfl
def yg_:List AV->List Obj->Option (Prop × AV)
 | [.imm ty0 a,.imm ty1 b],[]=>ZM_ ty0 YA a fun a=>ZM_ ty1 YA b fun b=>some ((True,.bool (decide ((a:List VTb)=b))))
 | _,_=>none
theorem hZ_:zd_ Tryz.prog 109 (RoF yg_).sum:=by
 refine zi_ Tryz.func109 BR_ (za_ (s:=RoF xM_) gD_ (zc_ _)) fun args objs p v e=>?_
 unfold yg_ at e
 split at e
 ·rename_i ty0 a ty1 b
  obtain rfl:=zN_ e
  replace e:=zO_ e
  obtain rfl:=zN_ e
  replace e:=zO_ e
  cases e
  refine ⟨rfl,fun hw ho hp=>?_⟩
  change List VTb at a
  change List VTb at b
  have hl:a.length<=maxLen:=(hw (.imm YA a) (by simp)).2
  unfold maxLen at hl
  clear hw ho
  repeat'(intro t ht;first|(cases t<;>first|(cases ht;done)|(try simp only[zg_]at ht))|((first|refine zb_ ht ?_|refine ht ?_ ?_|refine ht.1 ?_ ?_|refine ht ?_)<;>clear ht))
  all_goals first
   | (have hne:a ≠ b:=fun h=>(by assumption:¬ (a.length:Int)=b.length) (by rw [h])
      refine ⟨?_,rfl⟩;rw [decide_eq_false hne];done)
   | (intro r h1 h2;clear h1;refine h2 ⟨[0,1,5],Nat,(fun i=>i<=a.length/\a.take i=b.take i),fun i=>[.imm YA a,.imm YA b,.int .i64 i],fun _=>[],fun i=>a.length - i,⟨0,⟨Nat.zero_le _,rfl⟩,rfl,rfl⟩,?_⟩;clear h2)
  rintro i ⟨hi,he⟩
  have hl2:a.length=b.length:=by omega
  repeat'(intro t ht;first|(cases t<;>first|(cases ht;done)|(try simp only[zg_]at ht;try(exfalso;first|contradiction|omega)))|((first|refine zb_ ht ?_|refine ht ?_ ?_|refine ht.1 ?_ ?_|refine ht ?_)<;>clear ht))
  all_goals (try generalize (Ty.dflt YA)=od at*)
  all_goals first
   | exact True.intro
   | ((try simp only [zm_,zn_,zl_] at*);omega)
   | (have e:=Km_ he (by omega) hl2
      refine ⟨?_,rfl⟩;rw [decide_eq_true e];done)
   | (have hne:a ≠ b:=Xr_ (d:=od) (i:=i) (zjE_ fun h=>by simp_all)
      refine ⟨?_,rfl⟩;rw [decide_eq_false hne];done)
   | exact ⟨i+1,⟨by omega,Qf_ he (by omega) hl2 (d:=od) (zj7_ (by simp_all))⟩,by (try simp only [zm_,zn_,zl_] at*);omega,rfl,rfl⟩
   | skip
 ·cases e
def zaG_:IR:=
(sq (kr [0,1] [oD 4 (.mov cF)])
(sq (sq (kr [0,1] [oM 8 0,
oE 9 8,
oM 10 1,
oE 11 10,
oB 12 .neq 9 11])
(.cond 12
(sq (.reg [oD 4 (.mov cF)])
.ret)
.skip))
(sq (sq (kr [0,1] [oD 5 (.mov (cI 0))])
(.block 0
(.loop
(sq (sq (kr [0,1,5] [oM 13 5,
oM 14 0,
oE 15 14,
oB 16 .lss 13 15])
(.cond 16
.skip
(.exit 0)))
(sq (.block 1
(sq (kd [0,1,5] [(oM 19 0,[]),
(oM 20 5,[0]),
(oI 21 5 19 20,[]),
(oK 22 5 21,[]),
(oM 23 1,[0,0,0,0]),
(oM 24 5,[0,0,0,0,0]),
(oI 25 5 23 24,[2,0,0,0]),
(oK 26 5 25,[3,0,0,0]),
(oD 6 (.box [.int .i64 0,.int .u64 0,.int .u64 0,.imm Y2 [],.imm (.int .u8) []]),[0,0,0,0,0,0,0,0]),
(oD 7 (.box [.int .i64 0,.int .u64 0,.int .u64 0,.imm Y2 [],.imm (.int .u8) []]),[0,0,0,0,0,0,0,0,0]),
(oS 5 6 22,[2,0,0,0]),
(oS 5 7 26,[])])
(sq (kr [0,1,5,6,7] [oA 27 0 6,
oL 28 27,
oA 29 0 7,
oL 30 29,
oB 31 .neq 28 30,
oM 32 31,
oF 32 33 (.fieldAddr 1 6),
oF 32 34 (.load none 33),
oF 32 35 (.fieldAddr 1 7),
oF 32 36 (.load none 35),
oF 32 37 (.bin .neq 34 36),
oP 38 32 cT 37,
oM 39 38,
oF 39 40 (.fieldAddr 2 6),
oF 39 41 (.load none 40),
oF 39 42 (.fieldAddr 2 7),
oF 39 43 (.load none 42),
oF 39 44 (.bin .neq 41 43),
oP 45 39 cT 44,
oM 46 45,
oF 46 47 (.fieldAddr 3 6),
oF 46 48 (.load none 47),
oF 46 49 (.fieldAddr 3 7),
oF 46 50 (.load none 49),
oF 46 51 (.call false (.f 55) [48,50]),
oF 46 52 (.un .not 51),
oP 53 46 cT 52,
oM 54 53,
oF 54 55 (.fieldAddr 4 6),
oF 54 56 (.load none 55),
oF 54 57 (.fieldAddr 4 7),
oF 54 58 (.load none 57),
oF 54 59 (.call false (.f 13) [56,58]),
oF 54 60 (.un .not 59),
oP 61 54 cT 60])
(.cond 61
(sq (kr [] [oD 4 (.mov cF)])
.ret)
.skip))))
(kr [0,1,5] [oM 17 5,
oB 18 .add 17 (cI 1),
oM 5 18]))))))
(sq (kr [] [oD 4 (.mov cT)])
.ret))))
def Bq_:List RD:=[.tmp 4 true none]
theorem BX_:zj_ Tryz.prog Tryz.f56 zaG_ Bq_=true:=by kernel_rfl
def wv_:List AV->List Obj->Option (Prop × AV)
 | [.imm ty0 a,.imm ty1 b],[]=>ZM_ ty0 Y3 a fun a=>ZM_ ty1 Y3 b fun b=>some ((True,.bool (decide ((a:List VIn)=b))))
 | _,_=>none
theorem yA_:zd_ Tryz.prog 56 (RoF wv_).sum:=by
 refine zi_ Tryz.func56 BX_ (za_ (s:=RoF K6_) JA_ (za_ (s:=RoF Zc_) z6_ (zc_ _))) fun args objs p v e=>?_
 unfold wv_ at e
 split at e
 ·rename_i ty0 a ty1 b
  obtain rfl:=zN_ e
  replace e:=zO_ e
  obtain rfl:=zN_ e
  replace e:=zO_ e
  cases e
  refine ⟨rfl,fun hw ho hp=>?_⟩
  change List VIn at a
  change List VIn at b
  have hl:a.length<=maxLen:=(hw (.imm Y3 a) (by simp)).2
  unfold maxLen at hl
  clear hw ho
  repeat'(intro t ht;first|(cases t<;>first|(cases ht;done)|(try simp only[zg_]at ht))|((first|refine zb_ ht ?_|refine ht ?_ ?_|refine ht.1 ?_ ?_|refine ht ?_)<;>clear ht))
  all_goals first
   | (have hne:a ≠ b:=fun h=>(by assumption:¬ (a.length:Int)=b.length) (by rw [h])
      refine ⟨?_,rfl⟩;rw [decide_eq_false hne];done)
   | (intro r h1 h2;clear h1;refine h2 ⟨[0,1,5],Nat,(fun i=>i<=a.length/\a.take i=b.take i),fun i=>[.imm Y3 a,.imm Y3 b,.int .i64 i],fun _=>[],fun i=>a.length - i,⟨0,⟨Nat.zero_le _,rfl⟩,rfl,rfl⟩,?_⟩;clear h2)
  rintro i ⟨hi,he⟩
  have hl2:a.length=b.length:=by omega
  repeat'(intro t ht;first|(cases t<;>first|(cases ht;done)|(try simp only[zg_]at ht;try(exfalso;first|contradiction|omega)))|((first|refine zb_ ht ?_|refine ht ?_ ?_|refine ht.1 ?_ ?_|refine ht ?_)<;>clear ht))
  all_goals (try generalize (Ty.dflt Y3)=od at*)
  all_goals first
   | exact True.intro
   | ((try simp only [zm_,zn_,zl_] at*);omega)
   | (have e:=Km_ he (by omega) hl2
      refine ⟨?_,rfl⟩;rw [decide_eq_true e];done)
   | (have hne:a ≠ b:=Xr_ (d:=od) (i:=i) (zjH_ fun h=>by simp_all)
      refine ⟨?_,rfl⟩;rw [decide_eq_false hne];done)
   | exact ⟨i+1,⟨by omega,Qf_ he (by omega) hl2 (d:=od) (zka_ (by simp_all))⟩,by (try simp only [zm_,zn_,zl_] at*);omega,rfl,rfl⟩
   | skip
 ·cases e
def bg_:IR:=
(sq (kr [0,1] [oD 4 (.mov cF)])
(sq (sq (kr [0,1] [oM 6 0,
oE 7 6,
oM 8 1,
oE 9 8,
oB 10 .neq 7 9])
(.cond 10
(sq (.reg [oD 4 (.mov cF)])
.ret)
.skip))
(sq (sq (kr [0,1] [oD 5 (.mov (cI 0))])
(.block 0
(.loop
(sq (sq (kr [0,1,5] [oM 11 5,
oM 12 0,
oE 13 12,
oB 14 .lss 11 13])
(.cond 14
.skip
(.exit 0)))
(sq (.block 1
(sq (kd [0,1,5] [(oM 17 0,[]),
(oM 18 5,[0]),
(oI 19 2 17 18,[]),
(oA 20 0 19,[]),
(oL 21 20,[]),
(oM 22 1,[0,0,0,0,0]),
(oM 23 5,[0,0,0,0,0,0]),
(oI 24 2 22 23,[2,0,0,0,0]),
(oA 25 0 24,[3,0,0,0,0]),
(oL 26 25,[4,0,0,0,0]),
(oB 27 .neq 21 26,[]),
(oM 28 27,[]),
(oF 28 29 (.mov 0),[]),
(oF 28 30 (.mov 5),[0]),
(oF 28 31 (.indexSl 2 29 30),[]),
(oF 28 32 (.fieldAddr 1 31),[]),
(oF 28 33 (.load none 32),[]),
(oF 28 34 (.mov 1),[0,0,0,0,0]),
(oF 28 35 (.mov 5),[0,0,0,0,0,0]),
(oF 28 36 (.indexSl 2 34 35),[2,0,0,0,0]),
(oF 28 37 (.fieldAddr 1 36),[3,0,0,0,0]),
(oF 28 38 (.load none 37),[4,0,0,0,0]),
(oF 28 39 (.call false (.f 13) [33,38]),[]),
(oF 28 40 (.un .not 39),[]),
(oP 41 28 cT 40,[])])
(.cond 41
(sq (kr [] [oD 4 (.mov cF)])
.ret)
.skip)))
(kr [0,1,5] [oM 15 5,
oB 16 .add 15 (cI 1),
oM 5 16]))))))
(sq (kr [] [oD 4 (.mov cT)])
.ret))))
def Hj_:List RD:=[.tmp 4 true none]
theorem HI_:zj_ Tryz.prog Tryz.f53 bg_ Hj_=true:=by kernel_rfl
def xL_:List AV->List Obj->Option (Prop × AV)
 | [.imm (.cons (.int .i64) (.cons (.sl (.int .u8)) .nil)) a,.imm (.cons (.int .i64) (.cons (.sl (.int .u8)) .nil)) b],[]=>some ((True,.bool (decide ((a:List VEl)=b))))
 | _,_=>none
theorem gC_:zd_ Tryz.prog 53 (RoF xL_).sum:=by
 refine zi_ Tryz.func53 HI_ (za_ (s:=RoF Zc_) z6_ (zc_ _)) fun args objs p v e=>?_
 unfold xL_ at e
 split at e
 ·rename_i a b
  cases e
  refine ⟨rfl,fun hw ho hp=>?_⟩
  change List VEl at a
  change List VEl at b
  have hl:a.length<=maxLen:=(hw (.imm YB a) (by simp)).2
  unfold maxLen at hl
  clear hw ho
  repeat'(intro t ht;first|(cases t<;>first|(cases ht;done)|(try simp only[zg_]at ht))|((first|refine zb_ ht ?_|refine ht ?_ ?_|refine ht.1 ?_ ?_|refine ht ?_)<;>clear ht))
  all_goals first
   | (have hne:a ≠ b:=fun h=>(by assumption:¬ (a.length:Int)=b.length) (by rw [h])
      refine ⟨?_,rfl⟩;rw [decide_eq_false hne];done)
   | (intro r h1 h2;clear h1;refine h2 ⟨[0,1,5],Nat,(fun i=>i<=a.length/\a.take i=b.take i),fun i=>[.imm YB a,.imm YB b,.int .i64 i],fun _=>[],fun i=>a.length - i,⟨0,⟨Nat.zero_le _,rfl⟩,rfl,rfl⟩,?_⟩;clear h2)
  rintro i ⟨hi,he⟩
  have hl2:a.length=b.length:=by omega
  repeat'(intro t ht;first|(cases t<;>first|(cases ht;done)|(try simp only[zg_]at ht;try(exfalso;first|contradiction|omega)))|((first|refine zb_ ht ?_|refine ht ?_ ?_|refine ht.1 ?_ ?_|refine ht ?_)<;>clear ht))
  all_goals (try generalize (Ty.dflt YB)=od at*)
  all_goals first
   | exact True.intro
   | ((try simp only [zm_,zn_,zl_] at*);omega)
   | (have e:=Km_ he (by omega) hl2
      refine ⟨?_,rfl⟩;rw [decide_eq_true e];done)
   | (have hne:a ≠ b:=Xr_ (d:=od) (i:=i) (zjJ_ fun h=>by simp_all)
      refine ⟨?_,rfl⟩;rw [decide_eq_false hne];done)
   | exact ⟨i+1,⟨by omega,Qf_ he (by omega) hl2 (d:=od) (zkc_ (by simp_all))⟩,by (try simp only [zm_,zn_,zl_] at*);omega,rfl,rfl⟩
   | skip
 ·cases e
def fwBd (x:VBd):Bool:=decide (x.2.2.2.2.1.length<=500)
def vb_ (l:List VBd):Bool:=l.all fwBd && decide (l.length<=20)
def zcU_:IR:=
(sq (kr [0] [oD 2 (.mov cF)])
(sq (sq (.reg [oD 3 (.mov (cI 0))])
(.block 0
(.loop
(sq (sq (kr [0,3] [oM 4 3,
oM 5 0,
oE 6 5,
oB 7 .lss 4 6])
(.cond 7
.skip
(.exit 0)))
(sq (.block 1
(sq (kr [0,3] [oM 10 0,
oM 11 3,
oI 12 5 10 11,
oA 13 4 12,
oL 14 13,
oE 15 14,
oB 16 .gtr 15 (cI 500)])
(.cond 16
(sq (kr [] [oD 2 (.mov cF)])
.ret)
.skip)))
(kr [0,3] [oM 8 3,
oB 9 .add 8 (cI 1),
oM 3 9]))))))
(sq (kr [0] [oM 17 0,
oE 18 17,
oB 19 .leq 18 (cI 20),
oM 2 19])
.ret)))
def zb3_:List RD:=[.tmp 2 true none]
theorem zcn_:zj_ Tryz.prog Tryz.f22 zcU_ zb3_=true:=by kernel_rfl
def Xj_:List AV->List Obj->Option (Prop × AV)
 | [.imm (.cons (.int .i64) (.cons (.int .u64) (.cons (.int .u64) (.cons (.int .u64) (.cons (.sl (.int .u8)) .nil))))) l],[]=>some ((True,.bool (vb_ l)))
 | _,_=>none
theorem vG_:zd_ Tryz.prog 22 (RoF Xj_).sum:=by
 refine zi_ Tryz.func22 zcn_ (zc_ _) fun args objs p v e=>?_
 unfold Xj_ at e
 split at e
 ·rename_i l
  cases e
  refine ⟨rfl,fun hw ho hp=>?_⟩
  change List VBd at l
  have hl:l.length<=maxLen:=(hw (.imm Y5 l) (by simp)).2
  unfold maxLen at hl
  clear hw ho
  repeat'(intro t ht;first|(cases t<;>first|(cases ht;done)|(try simp only[zg_]at ht))|((first|refine zb_ ht ?_|refine ht ?_ ?_|refine ht.1 ?_ ?_|refine ht ?_)<;>clear ht))
  all_goals first
   | (intro r h1 h2;clear h1;refine h2 ⟨[0,3],Nat,(fun i=>i<=l.length/\(l.take i).all fwBd=true),fun i=>[.imm Y5 l,.int .i64 i],fun _=>[],fun i=>l.length - i,⟨0,⟨Nat.zero_le _,rfl⟩,rfl,rfl⟩,?_⟩;clear h2)
  rintro i ⟨hi,he⟩
  repeat'(intro t ht;first|(cases t<;>first|(cases ht;done)|(try simp only[zg_]at ht;try(exfalso;first|contradiction|omega)))|((first|refine zb_ ht ?_|refine ht ?_ ?_|refine ht.1 ?_ ?_|refine ht ?_)<;>clear ht))
  all_goals (try generalize (Ty.dflt Y5)=od at*)
  all_goals first
   | exact True.intro
   | ((try simp only [zm_,zn_,zl_] at*);omega)
   | (have h:=Z0_ (by omega) he
      refine ⟨?_,rfl⟩;unfold vb_;rw [h,Bool.true_and];congr 1;exact decide_eq_decide.2 (by omega))
   | (have hf:fwBd (l.getD i od)=true:=by unfold fwBd;simp only [Bool.and_eq_true,decide_eq_true_eq];omega
      exact ⟨i+1,⟨by omega,Zv_ (d:=od) (by omega) he hf⟩,by dsimp only;omega,rfl,rfl⟩)
   | (have hf:fwBd (l.getD i od)=false:=by unfold fwBd;simp only [Bool.and_eq_false_iff,decide_eq_false_iff_not];first | omega | (left;assumption) | (right;omega) | (left;left;assumption) | (left;right;omega) | (left;omega)
      have h:vb_ l=false:=by unfold vb_;rw [ZF_ (d:=od) (show i < l.length by omega) hf,Bool.false_and]
      refine ⟨?_,rfl⟩;rw [h];done)
   | skip
 ·cases e
def fwIn (x:VIn):Bool:=bD_ x.2.2.2.1 && decide (x.2.2.2.2.1.length<=500)
def xx_ (l:List VIn):Bool:=l.all fwIn && decide (l.length<=20)
def zcW_:IR:=
(sq (kr [0] [oD 2 (.mov cF)])
(sq (sq (.reg [oD 3 (.mov (cI 0))])
(.block 0
(.loop
(sq (sq (kr [0,3] [oM 4 3,
oM 5 0,
oE 6 5,
oB 7 .lss 4 6])
(.cond 7
.skip
(.exit 0)))
(sq (.block 1
(sq (kr [0,3] [oM 10 0,
oM 11 3,
oI 12 5 10 11,
oA 13 3 12,
oL 14 13,
oC 15 19 [14],
oD 16 (.un .not 15),
oM 17 16,
oF 17 18 (.mov 0),
oF 17 19 (.mov 3),
oF 17 20 (.indexSl 5 18 19),
oF 17 21 (.fieldAddr 4 20),
oF 17 22 (.load none 21),
oF 17 23 (.len 22),
oF 17 24 (.bin .gtr 23 (cI 500)),
oP 25 17 cT 24])
(.cond 25
(sq (kr [] [oD 2 (.mov cF)])
.ret)
.skip)))
(kr [0,3] [oM 8 3,
oB 9 .add 8 (cI 1),
oM 3 9]))))))
(sq (kr [0] [oM 26 0,
oE 27 26,
oB 28 .leq 27 (cI 20),
oM 2 28])
.ret)))
def zb5_:List RD:=[.tmp 2 true none]
theorem zcp_:zj_ Tryz.prog Tryz.f20 zcW_ zb5_=true:=by kernel_rfl
def Xl_:List AV->List Obj->Option (Prop × AV)
 | [.imm ty0 l],[]=>ZM_ ty0 Y3 l fun l=>some ((True,.bool (xx_ l)))
 | _,_=>none
theorem vI_:zd_ Tryz.prog 20 (RoF Xl_).sum:=by
 refine zi_ Tryz.func20 zcp_ (za_ (s:=RoF Jq_) WK_ (zc_ _)) fun args objs p v e=>?_
 unfold Xl_ at e
 split at e
 ·rename_i ty0 l
  obtain rfl:=zN_ e
  replace e:=zO_ e
  cases e
  refine ⟨rfl,fun hw ho hp=>?_⟩
  change List VIn at l
  have hl:l.length<=maxLen:=(hw (.imm Y3 l) (by simp)).2
  unfold maxLen at hl
  clear hw ho
  repeat'(intro t ht;first|(cases t<;>first|(cases ht;done)|(try simp only[zg_]at ht))|((first|refine zb_ ht ?_|refine ht ?_ ?_|refine ht.1 ?_ ?_|refine ht ?_)<;>clear ht))
  all_goals first
   | (intro r h1 h2;clear h1;refine h2 ⟨[0,3],Nat,(fun i=>i<=l.length/\(l.take i).all fwIn=true),fun i=>[.imm Y3 l,.int .i64 i],fun _=>[],fun i=>l.length - i,⟨0,⟨Nat.zero_le _,rfl⟩,rfl,rfl⟩,?_⟩;clear h2)
  rintro i ⟨hi,he⟩
  repeat'(intro t ht;first|(cases t<;>first|(cases ht;done)|(try simp only[zg_]at ht;try(exfalso;first|contradiction|omega)))|((first|refine zb_ ht ?_|refine ht ?_ ?_|refine ht.1 ?_ ?_|refine ht ?_)<;>clear ht))
  all_goals (try generalize (Ty.dflt Y3)=od at*)
  all_goals first
   | exact True.intro
   | ((try simp only [zm_,zn_,zl_] at*);omega)
   | (have h:=Z0_ (by omega) he
      refine ⟨?_,rfl⟩;unfold xx_;rw [h,Bool.true_and];congr 1;exact decide_eq_decide.2 (by omega))
   | (have hf:fwIn (l.getD i od)=true:=by unfold fwIn;simp only [Bool.and_eq_true,decide_eq_true_eq];exact ⟨by assumption,by omega⟩
      exact ⟨i+1,⟨by omega,Zv_ (d:=od) (by omega) he hf⟩,by dsimp only;omega,rfl,rfl⟩)
   | (have hf:fwIn (l.getD i od)=false:=by unfold fwIn;simp only [Bool.and_eq_false_iff,decide_eq_false_iff_not];first | omega | (left;assumption) | (right;omega) | (left;left;assumption) | (left;right;omega) | (left;omega)
      have h:xx_ l=false:=by unfold xx_;rw [ZF_ (d:=od) (show i < l.length by omega) hf,Bool.false_and]
      refine ⟨?_,rfl⟩;rw [h];done)
   | skip
 ·cases e
def fwPr (x:VPr):Bool:=decide (x.2.2.1.length<=300)
def fwQu (x:VQu):Bool:=x.2.2.1.all fwPr && (decide (x.2.2.1.length<=20))
def X9_ (l:List VQu):Bool:=l.all fwQu && decide (l.length<=20)
def zcT_:IR:=
(sq (kr [0] [oD 2 (.mov cF)])
(sq (sq (.reg [oD 3 (.mov (cI 0))])
(.block 0
(.loop
(sq (sq (kr [0,3] [oM 5 3,
oM 6 0,
oE 7 6,
oB 8 .lss 5 7])
(.cond 8
.skip
(.exit 0)))
(sq (.block 1
(sq (sq (.reg [oD 4 (.mov (cI 0))])
(.block 2
(.loop
(sq (sq (kr [0,3,4] [oM 11 4,
oM 12 0,
oM 13 3,
oI 14 3 12 13,
oA 15 2 14,
oL 16 15,
oE 17 16,
oB 18 .lss 11 17])
(.cond 18
.skip
(.exit 2)))
(sq (.block 3
(sq (kr [0,3,4] [oM 21 0,
oM 22 3,
oI 23 3 21 22,
oA 24 2 23,
oL 25 24,
oM 26 4,
oI 27 3 25 26,
oA 28 2 27,
oL 29 28,
oE 30 29,
oB 31 .gtr 30 (cI 300)])
(.cond 31
(sq (kr [] [oD 2 (.mov cF)])
.ret)
.skip)))
(kr [0,3,4] [oM 19 4,
oB 20 .add 19 (cI 1),
oM 4 20]))))))
(sq (kr [0,3] [oM 32 0,
oM 33 3,
oI 34 3 32 33,
oA 35 2 34,
oL 36 35,
oE 37 36,
oB 38 .gtr 37 (cI 20)])
(.cond 38
(sq (kr [] [oD 2 (.mov cF)])
.ret)
.skip))))
(kr [0,3] [oM 9 3,
oB 10 .add 9 (cI 1),
oM 3 10]))))))
(sq (kr [0] [oM 39 0,
oE 40 39,
oB 41 .leq 40 (cI 20),
oM 2 41])
.ret)))
def zb2_:List RD:=[.tmp 2 true none]
theorem zcm_:zj_ Tryz.prog Tryz.f23 zcT_ zb2_=true:=by kernel_rfl
def vr_:List AV->List Obj->Option (Prop × AV)
 | [.imm (.cons (.int .u64) (.cons (.int .u64) (.cons (.sl (.cons (.int .i64) (.cons (.int .u64) (.cons (.sl (.int .u8)) .nil)))) .nil))) l],[]=>some ((True,.bool (X9_ l)))
 | _,_=>none
theorem b7_:zd_ Tryz.prog 23 (RoF vr_).sum:=by
 refine zi_ Tryz.func23 zcm_ (zc_ _) fun args objs p v e=>?_
 unfold vr_ at e
 split at e
 ·rename_i l
  cases e
  refine ⟨rfl,fun hw ho hp=>?_⟩
  change List VQu at l
  have hl:l.length<=maxLen:=(hw (.imm Y7 l) (by simp)).2
  have hi2:∀ i,i < l.length->(l.getD i (Ty.dflt Y7)).2.2.1.length<=maxLen:=fun i h=>by have h2:=(hw (.imm Y7 l) (by simp)).1 _ (zU_ h (Ty.dflt Y7));simp only [Ty.wf] at h2;simp_all
  unfold maxLen at hl hi2
  clear hw ho
  repeat'(intro t ht;first|(cases t<;>first|(cases ht;done)|(try simp only[zg_]at ht))|((first|refine zb_ ht ?_|refine ht ?_ ?_|refine ht.1 ?_ ?_|refine ht ?_)<;>clear ht))
  all_goals first
   | (intro r h1 h2;clear h1;refine h2 ⟨[0,3],Nat,(fun i=>i<=l.length/\(l.take i).all fwQu=true),fun i=>[.imm Y7 l,.int .i64 i],fun _=>[],fun i=>l.length - i,⟨0,⟨Nat.zero_le _,rfl⟩,rfl,rfl⟩,?_⟩;clear h2)
  rintro i ⟨hi,he⟩
  repeat'(intro t ht;first|(cases t<;>first|(cases ht;done)|(try simp only[zg_]at ht;try(exfalso;first|contradiction|omega)))|((first|refine zb_ ht ?_|refine ht ?_ ?_|refine ht.1 ?_ ?_|refine ht ?_)<;>clear ht))
  all_goals first
   | exact True.intro
   | ((try simp only [zm_,zn_,zl_] at*);omega)
   | (have h:=Z0_ (by omega) he
      refine ⟨?_,rfl⟩;unfold X9_;rw [h,Bool.true_and];congr 1;exact decide_eq_decide.2 (by omega))
   | (intro r h1 h2;clear h1;refine h2 ⟨[0,3,4],Nat,(fun k=>k<=(l.getD i (Ty.dflt Y7)).2.2.1.length/\((l.getD i (Ty.dflt Y7)).2.2.1.take k).all fwPr=true),fun k=>[.imm Y7 l,.int .i64 i,.int .i64 k],fun _=>[],fun k=>(l.getD i (Ty.dflt Y7)).2.2.1.length - k,⟨0,⟨Nat.zero_le _,rfl⟩,rfl,rfl⟩,?_⟩;clear h2)
   | skip
  have hi3:i < l.length:=by omega
  have hi4:=hi2 i hi3
  rintro k ⟨hk,hke⟩
  repeat'(intro t ht;first|(cases t<;>first|(cases ht;done)|(try simp only[zg_]at ht;try(exfalso;first|contradiction|omega)))|((first|refine zb_ ht ?_|refine ht ?_ ?_|refine ht.1 ?_ ?_|refine ht ?_)<;>clear ht))
  all_goals (try generalize (Ty.dflt Y7)=od at*)
  all_goals (try generalize (Ty.dflt Y6)=pd at*)
  all_goals first
   | exact True.intro
   | ((try simp only [zm_,zn_,zl_] at*);omega)
   | (have hf:fwPr ((l.getD i od).2.2.1.getD k pd)=true:=by unfold fwPr;simp only [Bool.and_eq_true,decide_eq_true_eq];omega
      exact ⟨k+1,⟨by omega,Zv_ (d:=pd) (by omega) hke hf⟩,by dsimp only;omega,rfl,rfl⟩)
   | (have hf:fwPr ((l.getD i od).2.2.1.getD k pd)=false:=by unfold fwPr;simp only [Bool.and_eq_false_iff,decide_eq_false_iff_not];omega
      have hg:fwQu (l.getD i od)=false:=by unfold fwQu;rw [ZF_ (d:=pd) (by omega) hf,Bool.false_and]
      have h:X9_ l=false:=by unfold X9_;rw [ZF_ (d:=od) hi3 hg,Bool.false_and]
      refine ⟨?_,rfl⟩;rw [h];done)
   | (have ha:=Z0_ (by omega) hke
      have hg:fwQu (l.getD i od)=true:=by unfold fwQu;rw [ha,Bool.true_and];simp only [Bool.and_eq_true,decide_eq_true_eq];omega
      exact ⟨i+1,⟨by omega,Zv_ (d:=od) hi3 he hg⟩,by dsimp only;omega,rfl,rfl⟩)
   | (have hg:fwQu (l.getD i od)=false:=by unfold fwQu;rw [Bool.and_eq_false_iff];right;simp only [Bool.and_eq_false_iff,decide_eq_false_iff_not];omega
      have h:X9_ l=false:=by unfold X9_;rw [ZF_ (d:=od) hi3 hg,Bool.false_and]
      refine ⟨?_,rfl⟩;rw [h];done)
   | skip
 ·cases e
def fwFe (x:VFe):Bool:=decide (x.2.1.length<=100) && decide (x.2.2.1.length<=300)
def fwTb (x:VTb):Bool:=x.2.2.2.2.2.2.1.all fwFe && (decide (x.2.2.2.2.2.2.1.length<=20) && decide (x.2.1.length<=100))
def X8_ (l:List VTb):Bool:=l.all fwTb && decide (l.length<=12)
def zcR_:IR:=
(sq (kr [0] [oD 2 (.mov cF)])
(sq (sq (.reg [oD 3 (.mov (cI 0))])
(.block 0
(.loop
(sq (sq (kr [0,3] [oM 5 3,
oM 6 0,
oE 7 6,
oB 8 .lss 5 7])
(.cond 8
.skip
(.exit 0)))
(sq (.block 1
(sq (sq (.reg [oD 4 (.mov (cI 0))])
(.block 2
(.loop
(sq (sq (kr [0,3,4] [oM 11 4,
oM 12 0,
oM 13 3,
oI 14 7 12 13,
oA 15 6 14,
oL 16 15,
oE 17 16,
oB 18 .lss 11 17])
(.cond 18
.skip
(.exit 2)))
(sq (.block 3
(sq (kr [0,3,4] [oM 21 0,
oM 22 3,
oI 23 7 21 22,
oA 24 6 23,
oL 25 24,
oM 26 4,
oI 27 3 25 26,
oA 28 1 27,
oL 29 28,
oE 30 29,
oB 31 .gtr 30 (cI 100),
oM 32 31,
oF 32 33 (.mov 0),
oF 32 34 (.mov 3),
oF 32 35 (.indexSl 7 33 34),
oF 32 36 (.fieldAddr 6 35),
oF 32 37 (.load none 36),
oF 32 38 (.mov 4),
oF 32 39 (.indexSl 3 37 38),
oF 32 40 (.fieldAddr 2 39),
oF 32 41 (.load none 40),
oF 32 42 (.len 41),
oF 32 43 (.bin .gtr 42 (cI 300)),
oP 44 32 cT 43])
(.cond 44
(sq (kr [] [oD 2 (.mov cF)])
.ret)
.skip)))
(kr [0,3,4] [oM 19 4,
oB 20 .add 19 (cI 1),
oM 4 20]))))))
(sq (kr [0,3] [oM 45 0,
oM 46 3,
oI 47 7 45 46,
oA 48 6 47,
oL 49 48,
oE 50 49,
oB 51 .gtr 50 (cI 20),
oM 52 51,
oF 52 53 (.mov 0),
oF 52 54 (.mov 3),
oF 52 55 (.indexSl 7 53 54),
oF 52 56 (.fieldAddr 1 55),
oF 52 57 (.load none 56),
oF 52 58 (.slen 57),
oF 52 59 (.bin .gtr 58 (cI 100)),
oP 60 52 cT 59])
(.cond 60
(sq (kr [] [oD 2 (.mov cF)])
.ret)
.skip))))
(kr [0,3] [oM 9 3,
oB 10 .add 9 (cI 1),
oM 3 10]))))))
(sq (kr [0] [oM 61 0,
oE 62 61,
oB 63 .leq 62 (cI 12),
oM 2 63])
.ret)))
def zb0_:List RD:=[.tmp 2 true none]
theorem zck_:zj_ Tryz.prog Tryz.f61 zcR_ zb0_=true:=by kernel_rfl
def vq_:List AV->List Obj->Option (Prop × AV)
 | [.imm ty0 l],[]=>ZM_ ty0 YA l fun l=>some ((True,.bool (X8_ l)))
 | _,_=>none
theorem b6_:zd_ Tryz.prog 61 (RoF vq_).sum:=by
 refine zi_ Tryz.func61 zck_ (zc_ _) fun args objs p v e=>?_
 unfold vq_ at e
 split at e
 ·rename_i ty0 l
  obtain rfl:=zN_ e
  replace e:=zO_ e
  cases e
  refine ⟨rfl,fun hw ho hp=>?_⟩
  change List VTb at l
  have hl:l.length<=maxLen:=(hw (.imm YA l) (by simp)).2
  have hi2:∀ i,i < l.length->(l.getD i (Ty.dflt YA)).2.2.2.2.2.2.1.length<=maxLen:=fun i h=>by have h2:=(hw (.imm YA l) (by simp)).1 _ (zU_ h (Ty.dflt YA));simp only [Ty.wf] at h2;simp_all
  unfold maxLen at hl hi2
  clear hw ho
  repeat'(intro t ht;first|(cases t<;>first|(cases ht;done)|(try simp only[zg_]at ht))|((first|refine zb_ ht ?_|refine ht ?_ ?_|refine ht.1 ?_ ?_|refine ht ?_)<;>clear ht))
  all_goals first
   | (intro r h1 h2;clear h1;refine h2 ⟨[0,3],Nat,(fun i=>i<=l.length/\(l.take i).all fwTb=true),fun i=>[.imm YA l,.int .i64 i],fun _=>[],fun i=>l.length - i,⟨0,⟨Nat.zero_le _,rfl⟩,rfl,rfl⟩,?_⟩;clear h2)
  rintro i ⟨hi,he⟩
  repeat'(intro t ht;first|(cases t<;>first|(cases ht;done)|(try simp only[zg_]at ht;try(exfalso;first|contradiction|omega)))|((first|refine zb_ ht ?_|refine ht ?_ ?_|refine ht.1 ?_ ?_|refine ht ?_)<;>clear ht))
  all_goals first
   | exact True.intro
   | ((try simp only [zm_,zn_,zl_] at*);omega)
   | (have h:=Z0_ (by omega) he
      refine ⟨?_,rfl⟩;unfold X8_;rw [h,Bool.true_and];congr 1;exact decide_eq_decide.2 (by omega))
   | (intro r h1 h2;clear h1;refine h2 ⟨[0,3,4],Nat,(fun k=>k<=(l.getD i (Ty.dflt YA)).2.2.2.2.2.2.1.length/\((l.getD i (Ty.dflt YA)).2.2.2.2.2.2.1.take k).all fwFe=true),fun k=>[.imm YA l,.int .i64 i,.int .i64 k],fun _=>[],fun k=>(l.getD i (Ty.dflt YA)).2.2.2.2.2.2.1.length - k,⟨0,⟨Nat.zero_le _,rfl⟩,rfl,rfl⟩,?_⟩;clear h2)
   | skip
  have hi3:i < l.length:=by omega
  have hi4:=hi2 i hi3
  rintro k ⟨hk,hke⟩
  repeat'(intro t ht;first|(cases t<;>first|(cases ht;done)|(try simp only[zg_]at ht;try(exfalso;first|contradiction|omega)))|((first|refine zb_ ht ?_|refine ht ?_ ?_|refine ht.1 ?_ ?_|refine ht ?_)<;>clear ht))
  all_goals (try generalize (Ty.dflt YA)=od at*)
  all_goals (try generalize (Ty.dflt Y9)=pd at*)
  all_goals first
   | exact True.intro
   | ((try simp only [zm_,zn_,zl_] at*);omega)
   | (have hf:fwFe ((l.getD i od).2.2.2.2.2.2.1.getD k pd)=true:=by unfold fwFe;simp only [Bool.and_eq_true,decide_eq_true_eq];omega
      exact ⟨k+1,⟨by omega,Zv_ (d:=pd) (by omega) hke hf⟩,by dsimp only;omega,rfl,rfl⟩)
   | (have hf:fwFe ((l.getD i od).2.2.2.2.2.2.1.getD k pd)=false:=by unfold fwFe;simp only [Bool.and_eq_false_iff,decide_eq_false_iff_not];omega
      have hg:fwTb (l.getD i od)=false:=by unfold fwTb;rw [ZF_ (d:=pd) (by omega) hf,Bool.false_and]
      have h:X8_ l=false:=by unfold X8_;rw [ZF_ (d:=od) hi3 hg,Bool.false_and]
      refine ⟨?_,rfl⟩;rw [h];done)
   | (have ha:=Z0_ (by omega) hke
      have hg:fwTb (l.getD i od)=true:=by unfold fwTb;rw [ha,Bool.true_and];simp only [Bool.and_eq_true,decide_eq_true_eq];omega
      exact ⟨i+1,⟨by omega,Zv_ (d:=od) hi3 he hg⟩,by dsimp only;omega,rfl,rfl⟩)
   | (have hg:fwTb (l.getD i od)=false:=by unfold fwTb;rw [Bool.and_eq_false_iff];right;simp only [Bool.and_eq_false_iff,decide_eq_false_iff_not];omega
      have h:X8_ l=false:=by unfold X8_;rw [ZF_ (d:=od) hi3 hg,Bool.false_and]
      refine ⟨?_,rfl⟩;rw [h];done)
   | skip
 ·cases e
end Go.Eng
