/- Parts of the proof: I2, I3, I4, I5, I6, I7. No condition. -/
import Derived.Test.YteihcoggfaenaaaGreatDoorProg
import Derived.Test.YteihcoggfaenaaaGreatDoorWH10
import Derived.KernelRfl
import Derived.Test.YteihcoggfaenaaaGreatDoorWH19
import Derived.Test.YteihcoggfaenaaaGreatDoorWH16
import Derived.Test.YteihcoggfaenaaaGreatDoorWH15
namespace Go.Eng
open Go.Proofs
set_option linter.unusedVariables false
set_option linter.unusedSimpArgs false
set_option maxRecDepth 100000
set_option maxHeartbeats 1000000
theorem zcE_ {k v:Int}:∀ (m:List (Int × Int)) (k':Int),zw_ (kj_ m k v) k'=if k=k' then some v else zw_ m k'
 | [],k'=>by unfold kj_;rfl
 | (a,b) :: r,k'=>by
   have ih:=zcE_ (k:=k) (v:=v) r k'
   by_cases h:a=k
   ·subst h
    have e:kj_ ((a,b) :: r) a v=(a,v) :: r:=if_pos rfl
    rw [e]
    show (if a=k' then some v else zw_ r k')=if a=k' then some v else if a=k' then some b else zw_ r k'
    split<;>rfl
   ·have e:kj_ ((a,b) :: r) k v=(a,b) :: kj_ r k v:=if_neg h
    rw [e]
    show (if a=k' then some b else zw_ (kj_ r k v) k')=if k=k' then some v else if a=k' then some b else zw_ r k'
    rw [ih]
    by_cases h2:a=k'
    ·rw [if_pos h2,if_pos h2,if_neg (fun c=>h (h2.trans c.symm))]
    ·rw [if_neg h2,if_neg h2]
theorem zgc_ {k v w:Int}:∀ (m:List (Int × Int)),kj_ (kj_ m k v) k w=kj_ m k w/\qf_ (kj_ m k v) k=qf_ m k/\qf_ m k < (kj_ m k v).length/\(kj_ m k v).length<=m.length+1
 | []=>⟨if_pos rfl,if_pos rfl,Nat.zero_lt_one,Nat.le_refl _⟩
 | (a,b) :: r=>by
   obtain ⟨i1,i2,i3,i4⟩:=zgc_ (k:=k) (v:=v) (w:=w) r
   by_cases h:a=k
   ·subst h
    have e:∀ v,kj_ ((a,b) :: r) a v=(a,v) :: r:=fun v=>if_pos rfl
    have x:∀ b,qf_ ((a,b) :: r) a=0:=fun b=>if_pos rfl
    rw [e,e,x,x]
    refine ⟨if_pos rfl,rfl,Nat.zero_lt_succ _,?_⟩
    simp only [List.length_cons];omega
   ·have e:∀ v,kj_ ((a,b) :: r) k v=(a,b) :: kj_ r k v:=fun v=>if_neg h
    have x:∀ r:List (Int × Int),qf_ ((a,b) :: r) k=qf_ r k+1:=fun r=>if_neg h
    rw [e,e,x,x,i2]
    refine ⟨by rw [show kj_ ((a,b) :: kj_ r k v) k w=(a,b) :: kj_ (kj_ r k v) k w from if_neg h,i1],rfl,?_,?_⟩
    ·simp only [List.length_cons];omega
    ·simp only [List.length_cons];omega
structure mOk (m:List (Int × Int)) (acc:List VIn):Prop where
 s:∀ k,(0 < (zw_ m k).getD 0 ↔ snI acc k=true)
 r:∀ k,0<=(zw_ m k).getD 0/\(zw_ m k).getD 0<=acc.length
 l:m.length<=acc.length
theorem V8_:mOk [] []:=⟨fun k=>⟨fun h=>absurd h (by show ¬ (0:Int) < 0;decide),fun h=>by cases h⟩,fun k=>⟨by show (0:Int)<=0;decide,by show (0:Int)<=0;decide⟩,Nat.le_refl _⟩
theorem zhA_ (a b:List VIn) (t:Int):snI (a++b) t=(snI a t || snI b t):=List.any_append
theorem zhz_ (i:VIn) (t:Int):snI [i] t=decide (i.1=t):=by unfold snI;simp
theorem V9_ {m:List (Int × Int)} {acc:List VIn} {i:VIn} (h:mOk m acc):mOk (kj_ m i.1 ((zw_ m i.1).getD 0+1)) (acc++[i]):=by
 have hr:=h.r i.1
 refine ⟨fun k=>?_,fun k=>?_,?_⟩
 ·rw [zcE_,zhA_,zhz_]
  by_cases c:i.1=k
  ·rw [if_pos c,decide_eq_true c,Bool.or_true]
   exact ⟨fun _=>rfl,fun _=>by show 0 < (zw_ m i.1).getD 0+1;omega⟩
  ·rw [if_neg c,decide_eq_false c,Bool.or_false];exact h.s k
 ·have hk:=h.r k
  rw [zcE_,List.length_append,List.length_singleton]
  by_cases c:i.1=k
  ·rw [if_pos c];show 0<=(zw_ m i.1).getD 0+1/\(zw_ m i.1).getD 0+1<=_;omega
  ·rw [if_neg c];omega
 ·have:=(zgc_ (k:=i.1) (v:=(zw_ m i.1).getD 0+1) (w:=0) m).2.2.2
  have:=h.l
  rw [List.length_append,List.length_singleton];omega
theorem zd1_ {m:List (Int × Int)} {acc:List VIn} (h:mOk m acc) (t:Int):decide (0 < (zw_ m t).getD 0)=snI acc t:=by
 rw [Bool.eq_iff_iff,decide_eq_true_eq];exact h.s t
theorem zkT_ {t:Int} (h:¬ (t=1\/t=2\/t=3\/t=4\/t=5\/t=6\/t=65535)):wI t=[]/\mI t=false/\kI t=false:=by
 refine ⟨?_,?_,?_⟩
 ·unfold wI;rw [if_neg (by omega),if_neg (by omega),if_neg (by omega),if_neg (by omega)]
 ·unfold mI;rw [decide_eq_false (by omega),decide_eq_false (by omega),decide_eq_false (by omega)];rfl
 ·cases h2:kI t with
  | false=>rfl
  | true=>exact absurd (UE_ h2) h
def GO_:IR:=
(sq (kr [0] [oD 2 (.mov (.c (.imm (.int .i64) []))),
oD 3 (.mov cF),
oD 4 (.mov cF)])
(sq (sq (.reg [oM 5 0])
(.block 0
(sq (.block 6
(sq (.block 5
(sq (.block 4
(sq (.block 3
(sq (.block 2
(sq (.block 1
(sq (sq (sq (.reg [oB 7 .eql 5 (cI 1),
oM 6 7])
(.cond 6
(.exit 1)
.skip))
(sq (sq (kr [3,5] [oB 9 .eql 5 (cI 2),
oM 8 9])
(.cond 8
(.exit 2)
.skip))
(sq (sq (sq (.reg [oB 11 .eql 5 (cI 3),
oM 10 11])
(.cond 10
.skip
(.reg [oB 12 .eql 5 (cI 4),
oM 10 12])))
(.cond 10
(.exit 3)
.skip))
(sq (sq (kr [3,5] [oB 14 .eql 5 (cI 5),
oM 13 14])
(.cond 13
(.exit 4)
.skip))
(sq (sq (.reg [oB 16 .eql 5 (cI 65535),
oM 15 16])
(.cond 15
(.exit 5)
.skip))
(sq (.reg [oB 18 .eql 5 (cI 6),
oM 17 18])
(.cond 17
(.exit 6)
.skip)))))))
(.exit 0)))
(sq (sq (kr [] [oD 19 (.sliceAll (.int .i64) 2 [(0,1,(cI 1)),(1,1,(cI (-3)))]),
oM 2 19,
oD 3 (.mov cF),
oD 4 (.mov cT)])
.ret)
(.exit 0))))
(sq (sq (kr [] [oD 20 (.sliceAll (.int .i64) 3 [(0,1,(cI (-4))),(1,1,(cI 8)),(2,1,(cI 8))]),
oM 2 20,
oD 3 (.mov cF),
oD 4 (.mov cT)])
.ret)
(.exit 0))))
(kr [] [oD 3 (.mov cT)])))
(sq (sq (kr [3] [oD 21 (.sliceAll (.int .i64) 1 [(0,1,(cI (-4)))]),
oM 22 3,
oM 2 21,
oM 3 22,
oD 4 (.mov cT)])
.ret)
(.exit 0))))
(kr [] [oD 3 (.mov cT)])))
(sq (sq (kr [3] [oD 23 (.sliceAll (.int .i64) 1 [(0,1,(cI 4))]),
oM 24 3,
oM 2 23,
oM 3 24,
oD 4 (.mov cT)])
.ret)
(.exit 0)))))
(sq (kr [] [oD 2 (.mov (.c (.imm (.int .i64) []))),
oD 3 (.mov cF),
oD 4 (.mov cF)])
.ret)))
def gV_:List RD:=[.tmp 2 true (some (.int .i64)),.tmp 3 true none,.tmp 4 true none]
theorem Gl_:zj_ Tryz.prog Tryz.f159 GO_ gV_=true:=by kernel_rfl
def KG_:List AV->List Obj->Option (Prop × AV)
 | [.int .i64 tt],[]=>some ((True,.tup [.imm (.int .i64) (wI tt),.bool (mI tt),.bool (kI tt)]))
 | _,_=>none
theorem WR_:zd_ Tryz.prog 159 (RoF KG_).sum:=by
 refine zi_ Tryz.func159 Gl_ (zc_ _) fun args objs p v e=>?_
 unfold KG_ at e
 split at e
 ·rename_i tt
  cases e
  refine ⟨rfl,fun hw ho hp=>?_⟩
  clear hw ho
  repeat'(intro t ht;first|(cases t<;>first|(cases ht;done)|(try simp only[zg_]at ht;try(exfalso;first|contradiction|omega)))|((first|refine zb_ ht ?_|refine ht ?_ ?_|refine ht.1 ?_ ?_|refine ht ?_)<;>clear ht))
  all_goals first
   | exact True.intro
   | (have h:=zkT_ (t:=tt) (by omega)
      rw [h.1,h.2.1,h.2.2];exact ⟨rfl,rfl⟩)
   | (subst_vars;exact ⟨rfl,rfl⟩)
 ·cases e
def UO_:IR:=
(sq (kr [0] [oD 1 (.boxv 0),
oD 2 (.mov (cI 0))])
(sq (.block 0
(sq (kr [1] [oA 4 0 1,
oL 5 4,
oB 6 .eql 5 (cI 1),
oM 7 6,
oT 7 8 (.fieldAddr 1 1),
oT 7 9 (.load none 8),
oT 7 10 (.bin .gtr 9 (.c (.int .u64 254))),
oP 11 7 10 cF,
oM 3 11])
(.cond 3
(sq (kr [] [oD 2 (.mov (cI 771))])
.ret)
(sq (kr [1] [oA 13 0 1,
oL 14 13,
oB 15 .eql 14 (cI 2),
oM 16 15,
oT 16 17 (.fieldAddr 1 1),
oT 16 18 (.load none 17),
oT 16 19 (.fieldAddr 2 1),
oT 16 20 (.load none 19),
oT 16 21 (.bin .andNot 18 20),
oT 16 22 (.bin .neq 21 (.c (.int .u64 0))),
oP 23 16 22 cF,
oM 12 23])
(.cond 12
(sq (kr [] [oD 2 (.mov (cI 772))])
.ret)
.skip)))))
(sq (kr [] [oD 2 (.mov (cI 0))])
.ret)))
def uV_:List RD:=[.tmp 2 true none]
theorem Uo_:zj_ Tryz.prog Tryz.f160 UO_ uV_=true:=by kernel_rfl
def kS_:List AV->List Obj->Option (Prop × AV)
 | [.agg [.int .i64 tt,.int .u64 a,.int .u64 b,.imm ty0 c,.imm (.int .u8) d]],[]=>ZM_ ty0 Y2 c fun c=>some ((True,.int .i64 (qI tt a b)))
 | _,_=>none
theorem wL_:zd_ Tryz.prog 160 (RoF kS_).sum:=by
 refine zi_ Tryz.func160 Uo_ (zc_ _) fun args objs p v e=>?_
 unfold kS_ at e
 split at e
 ·rename_i tt a b ty0 c d
  obtain rfl:=zN_ e
  replace e:=zO_ e
  cases e
  refine ⟨rfl,fun hw ho hp=>?_⟩
  change List Int at d
  clear hw ho
  repeat'(intro t ht;first|(cases t<;>first|(cases ht;done)|(try simp only[zg_]at ht;try(exfalso;first|contradiction|omega)))|((first|refine zb_ ht ?_|refine ht ?_ ?_|refine ht.1 ?_ ?_|refine ht ?_)<;>clear ht))
  all_goals first
   | exact True.intro
   | (refine ⟨congrArg (AV.int .i64) ?_,rfl⟩;unfold qI;repeat' split
      all_goals first | rfl | omega)
 ·cases e
def bdF (i:VIn) (l:List Int) (e:Int):List Int × Int:=(kB_ i.2.2.2.2.1 (apB i.2.2.2.1 (qj_ (wI i.1) (xI i) l 65524 e) 65524 (qG_ (wI i.1) (xI i) l 65524 e)) 65524 (apE i.2.2.2.1 (qj_ (wI i.1) (xI i) l 65524 e) 65524 (qG_ (wI i.1) (xI i) l 65524 e)),QS_ i.2.2.2.2.1 (apB i.2.2.2.1 (qj_ (wI i.1) (xI i) l 65524 e) 65524 (qG_ (wI i.1) (xI i) l 65524 e)) 65524 (apE i.2.2.2.1 (qj_ (wI i.1) (xI i) l 65524 e) 65524 (qG_ (wI i.1) (xI i) l 65524 e)))
theorem wr_I (i:VIn):WrOk 65524 (bdF i) (byI i):=((zbH_ 65524 (wI i.1) (xI i)).seq (zht_ 65524 i.2.2.2.1)).seq (up_ 65524 i.2.2.2.2.1)
theorem zen_ {i:VIn} (hg:gdI i=true):((bdF i [] 0).2=0->bdO i=some (bdF i [] 0).1)/\((bdF i [] 0).2 ≠ 0->bdO i=none):=by
 obtain ⟨f1,f2⟩:=(wr_I i).fin (by decide)
 unfold bdO
 rw [if_pos hg]
 cases hv:byI i with
 | none=>exact ⟨fun h=>absurd h (f2 fun y e=>by rw [hv] at e;cases e),fun _=>rfl⟩
 | some y=>
   dsimp only
   by_cases hl:(65524:Int) < y.length
   ·rw [if_pos hl]
    exact ⟨fun h=>absurd h (f2 fun z e=>by rw [hv] at e;cases e;exact hl),fun _=>rfl⟩
   ·rw [if_neg hl,f1 y hv (by omega)]
    exact ⟨fun _=>rfl,fun h=>absurd rfl h⟩
theorem zkg_ {i:VIn} (h:gdI i=false):bdO i=none:=by unfold bdO;rw [h];rfl
theorem zkf_ {i:VIn} (h:rgL i.2.2.2.1=false):bdO i=none:=by
 cases hb:bdO i with
 | none=>rfl
 | some y=>have:=(Xe_.1 hb).r;rw [h] at this;cases this
theorem zgT_ (e:Int):kn_ [] e=e:=by unfold kn_;split<;>simp_all
theorem zix_ {i:VIn} (hg:gdI i=true):qE_ (bdF i [] 0).1 [] (bdF i [] 0).2=bdY i/\decide (kn_ [] (bdF i [] 0).2=0)=(bdO i).isSome:=by
 obtain ⟨c1,c2⟩:=zen_ hg
 rw [zgT_]
 by_cases h:(bdF i [] 0).2=0
 ·have e:=c1 h
  unfold bdY;rw [e,h];exact ⟨rfl,rfl⟩
 ·have e:=c2 h
  unfold bdY qE_ K2_;rw [e,decide_eq_false h];exact ⟨rfl,rfl⟩
theorem zgS_ {l:List Int}:qE_ l [] 0=l:=rfl
def GQ_:IR:=
(sq (kr [0] [oD 1 (.boxv 0),
oD 2 (.mov (.c (.imm (.int .u8) []))),
oD 3 (.mov cF)])
(sq (kr [1] [oA 14 0 1,
oL 15 14,
oC 16 159 [15],
oM 13 16,
oX 17 13 0,
oX 18 13 1,
oX 19 13 2,
oM 4 17,
oM 5 18,
oM 6 19])
(sq (sq (kr [1,4,6] [oM 20 6,
oD 21 (.un .not 20),
oM 22 21,
oF 22 23 (.load (some 5) 1),
oF 22 24 (.call false (.f 160) [23]),
oF 22 25 (.bin .neq 24 (cI 0)),
oP 26 22 cT 25,
oM 27 26,
oF 27 28 (.fieldAddr 3 1),
oF 27 29 (.load none 28),
oF 27 30 (.call false (.f 177) [29]),
oF 27 31 (.un .not 30),
oP 32 27 cT 31])
(.cond 32
(sq (kr [] [oD 2 (.mov (.c (.imm (.int .u8) []))),
oD 3 (.mov cF)])
.ret)
.skip))
(sq (kr [1,4] [oM 33 4,
oC 34 114 [33],
oM 7 34])
(sq (kd [1,4,7] [(oA 35 0 1,[]),
(oL 36 35,[]),
(oB 37 .eql 36 (cI 3),[]),
(oM 38 37,[]),
(oF 38 39 (.fieldAddr 0 1),[]),
(oF 38 40 (.load none 39),[]),
(oF 38 41 (.bin .eql 40 (cI 4)),[]),
(oP 42 38 cT 41,[]),
(oA 43 0 1,[0,0,0,0,0,0,0,0]),
(oL 44 43,[1,0,0,0,0,0,0,0]),
(oB 45 .eql 44 (cI 65535),[2,0,0,0,0,0,0,0]),
(oM 8 42,[0,0,0]),
(oM 9 45,[])])
(sq (sq (kr [1,4,7,8,9] [oM 46 7,
oB 47 .lss 46 (cI 2),
oM 48 47,
oT 48 49 (.fieldAddr 2 1),
oT 48 50 (.load none 49),
oT 48 51 (.bin .neq 50 (.c (.int .u64 0))),
oP 52 48 51 cF,
oM 53 52,
oF 53 54 (.mov 7),
oF 53 55 (.bin .lss 54 (cI 1)),
oF 53 56 (.mov 55),
oT 56 57 (.fieldAddr 1 1),
oT 56 58 (.load none 57),
oT 56 59 (.bin .neq 58 (.c (.int .u64 0))),
oF 53 60 (.pick 56 59 cF),
oP 61 53 cT 60,
oM 62 61,
oF 62 63 (.mov 8),
oF 62 64 (.un .not 63),
oF 62 65 (.mov 64),
oT 65 66 (.fieldAddr 3 1),
oT 65 67 (.load none 66),
oT 65 68 (.len 67),
oT 65 69 (.bin .gtr 68 (cI 0)),
oF 62 70 (.pick 65 69 cF),
oP 71 62 cT 70,
oM 72 71,
oF 72 73 (.mov 9),
oF 72 74 (.un .not 73),
oF 72 75 (.mov 74),
oT 75 76 (.fieldAddr 4 1),
oT 75 77 (.load none 76),
oT 75 78 (.len 77),
oT 75 79 (.bin .gtr 78 (cI 0)),
oF 72 80 (.pick 75 79 cF),
oP 81 72 cT 80,
oM 82 81,
oF 82 83 (.fieldAddr 4 1),
oF 82 84 (.load none 83),
oF 82 85 (.len 84),
oF 82 86 (.bin .rem 85 (cI 8)),
oF 82 87 (.bin .neq 86 (cI 0)),
oP 88 82 cT 87])
(.cond 88
(sq (kr [] [oD 2 (.mov (.c (.imm (.int .u8) []))),
oD 3 (.mov cF)])
.ret)
.skip))
(sq (kr [1,4,7] [oC 89 27 [(cI 65524)],
oM 10 89])
(sq (kr [1,4,7,10] [oM 90 10,
oM 91 4,
oA 92 1 1,
oL 93 92,
oA 94 2 1,
oL 95 94,
oD 96 (.sliceAll (.int .u64) 2 [(0,1,93),(1,1,95)]),
oM 97 7,
oD 98 (.slice 1 96 none (some 97) none),
oC 99 28 [90,91,98]])
(sq (kr [1,10] [oM 100 10,
oA 101 3 1,
oL 102 101,
oC 103 178 [100,102]])
(sq (.reg [oM 104 10,
oA 105 4 1,
oL 106 105,
oC 107 65 [104,106]])
(sq (kr [10] [oM 109 10,
oC 110 29 [109],
oM 108 110,
oX 111 108 0,
oX 112 108 1,
oM 11 111,
oM 12 112])
(sq (kr [11,12] [oM 113 11,
oM 114 12,
oB 115 .eql 114 (cI 0),
oM 2 113,
oM 3 115])
.ret))))))))))))
def gX_:List RD:=[.tmp 2 true (some (.int .u8)),.tmp 3 true none]
theorem Gn_:zj_ Tryz.prog Tryz.f153 GQ_ gX_=true:=by kernel_rfl
def wD_:List AV->List Obj->Option (Prop × AV)
 | [.agg [.int .i64 tt,.int .u64 a,.int .u64 b,.imm ty0 c,.imm (.int .u8) d]],[]=>ZM_ ty0 Y2 c fun c=>some ((okL c/\d.length<=1000000,.tup [.imm (.int .u8) (bdY ((tt,a,b,c,d,()):VIn)),.bool (bdO ((tt,a,b,c,d,()):VIn)).isSome]))
 | _,_=>none
theorem uA_:zd_ Tryz.prog 153 (RoF wD_).sum:=by
 refine zi_ Tryz.func153 Gn_ (za_ (s:=RoF KG_) WR_ (za_ (s:=RoF kS_) wL_ (za_ (s:=RoF KL_) WW_ (za_ (s:=RoF QK_) kJ_ (za_ (s:=RwF Z1_) qa_ (za_ (s:=RwF zF_) zJ_ (za_ (s:=RwF yo_) h7_ (za_ (s:=RwF zu_) zz_ (za_ (s:=RwF Ze_) ZH_ (zc_ _)))))))))) fun args objs p v e=>?_
 unfold wD_ at e
 split at e
 ·rename_i tt a b ty0 c d
  obtain rfl:=zN_ e
  replace e:=zO_ e
  cases e
  refine ⟨rfl,fun hw ho hp=>?_⟩
  change List Int at d
  clear hw ho
  change List AC at c
  obtain ⟨hc,hd⟩:=hp
  have hroom:wO_ 65524=65524:=by decide
  have hwi:kI tt=true->0<=zB_ (wI tt)/\zB_ (wI tt)<=2:=fun h=>(b1_ h).2
  have hlim:(qj_ (wI tt) ([a,b].take (zB_ (wI tt)).toNat) [] 65524 0).length<=1000000:=j8_ (by decide) (by decide)
  have hlim2:=ziB_ (x:=c) (e:=qG_ (wI tt) ([a,b].take (zB_ (wI tt)).toNat) [] 65524 0) hlim (by decide:(65524:Int)<=1000000)
  have hlim3:=Q8_ (x:=d) (e:=apE c (qj_ (wI tt) ([a,b].take (zB_ (wI tt)).toNat) [] 65524 0) 65524 (qG_ (wI tt) ([a,b].take (zB_ (wI tt)).toNat) [] 65524 0)) hlim2 (by decide:(65524:Int)<=1000000)
  by_cases hG:gdI ((tt,a,b,c,d,()):VIn)=true/\rgL c=true
  ·obtain ⟨hG,hr⟩:=hG
   obtain ⟨b1,b2⟩:=zen_ hG
   obtain ⟨g1,g2,g3,g4,g5,g6,g7⟩:=ud_.1 hG
   replace g1:kI tt=true:=g1
   replace g2:qI tt a b=0:=g2
   replace g3:2<=zB_ (wI tt)\/b=0:=g3
   replace g4:1<=zB_ (wI tt)\/a=0:=g4
   replace g5:(tt=3\/tt=4)\/c.length=0:=by
    rcases g5 with g | g
    ·left;unfold dI at g;simpa using g
    ·right;rw [show c=[] from g];rfl
   replace g6:tt=65535\/d.length=0:=by
    rcases g6 with g | g
    ·exact .inl g
    ·right;rw [show d=[] from g];rfl
   replace g7:(d.length:Int).tmod 8=0:=by
    have g:d.length % 8=0:=g7
    rw [Int.tmod_eq_emod_of_nonneg (by omega)];omega
   obtain ⟨w1,w2⟩:=hwi g1
   clear hwi
   repeat'(intro t ht;first|(cases t<;>first|(cases ht;done)|(try simp only[zg_]at ht;try(exfalso;first|contradiction|omega)))|((first|refine zb_ ht ?_|refine ht ?_ ?_|refine ht.1 ?_ ?_|refine ht ?_)<;>clear ht))
   all_goals first
    | exact True.intro
    | exact hc
    | exact (by decide:(8:Int) ≠ 0)
    | exact ⟨w1,w2⟩
    | (exfalso;simp_all;done)
    | (obtain ⟨q1,q2⟩:=zix_ hG;rw [<- q1,<- q2];exact ⟨rfl,rfl⟩)
    | exact ⟨by decide,by decide,by decide⟩
    | exact ⟨hc,by decide,by decide,hlim⟩
    | exact ⟨by decide,by decide,hlim2,hd⟩
    | exact ⟨Nat.le_trans hlim3 (by decide),by decide⟩
  ·have hno:bdY ((tt,a,b,c,d,()):VIn)=[]/\(bdO ((tt,a,b,c,d,()):VIn)).isSome=false:=by
    have:bdO ((tt,a,b,c,d,()):VIn)=none:=by
     cases hg:gdI ((tt,a,b,c,d,()):VIn) with
     | false=>exact zkg_ hg
     | true=>
       cases hr:rgL c with
       | false=>exact zkf_ (i:=((tt,a,b,c,d,()):VIn)) hr
       | true=>exact absurd ⟨hg,hr⟩ hG
    unfold bdY;rw [this];exact ⟨rfl,rfl⟩
   have hbad:¬ (kI tt=true/\qI tt a b=0/\(2<=zB_ (wI tt)\/b=0)/\(1<=zB_ (wI tt)\/a=0)/\((tt=3\/tt=4)\/c.length=0)/\(tt=65535\/d.length=0)/\(d.length:Int).tmod 8=0/\rgL c=true):=fun ⟨g1,g2,g3,g4,g5,g6,g7,g8⟩=>hG ⟨ud_.2 ⟨g1,g2,g3,g4,(by
    rcases g5 with g | g
    ·left;show dI tt=true;unfold dI;simpa using g
    ·right;exact List.eq_nil_of_length_eq_zero g),(by
    rcases g6 with g | g
    ·exact .inl g
    ·right;exact List.eq_nil_of_length_eq_zero g),(by
    rw [Int.tmod_eq_emod_of_nonneg (by omega)] at g7;show d.length % 8=0;omega)⟩,g8⟩
   clear hG hwi hlim3
   repeat'(intro t ht;first|(cases t<;>first|(cases ht;done)|(try simp only[zg_]at ht;try(exfalso;first|contradiction|omega)))|((first|refine zb_ ht ?_|refine ht ?_ ?_|refine ht.1 ?_ ?_|refine ht ?_)<;>clear ht))
   all_goals first
    | exact True.intro
    | exact hc
    | (rw [hno.1,hno.2];exact ⟨rfl,rfl⟩)
    | exact (by decide:(8:Int) ≠ 0)
    | (exfalso;refine hbad ⟨by assumption,by assumption,by omega,by omega,by omega,by omega,by assumption,by assumption⟩)
 ·cases e
structure okI (l:List VIn):Prop where
 a:∀ i ∈ l,okL i.2.2.2.1/\i.2.2.2.2.1.length<=1000000
 n:l.length<=1000
def itL (l:List VIn):List VIt:=if gdL [] l=true then l.map itI else []
theorem GB_ {α β:Type} {l:List α} {i:Nat} (h:i < l.length) (d:α) (f:α->β):(l.take (i+1)).map f=(l.take i).map f++[f (l.getD i d)]:=by
 rw [<- xY_ (d:=d) h,List.map_append];rfl
def UN_:IR:=
(sq (kr [0] [oD 2 (.nilrow YB),
oD 3 (.mov cF)])
(sq (.reg [oD 10 (.mkmap (.int .i64) (.int .i64)),
oM 4 10])
(sq (.reg [oD 5 (.nilrow YB)])
(sq (sq (.reg [oM 11 0,
oE 12 11,
oD 13 (.mov (cI 0))])
(.block 0
(.loop
(sq (kr [4,5,11,12,13] [oB 14 .lss 13 12])
(sq (.cond 14
.skip
(.exit 0))
(sq (.block 1
(sq (.reg [oI 15 5 11 13,
oK 16 5 15,
oD 7 (.box [.int .i64 0,.int .u64 0,.int .u64 0,.imm Y2 [],.imm (.int .u8) []]),
oS 5 7 16])
(sq (kr [4,5,7,11,12,13] [oK 18 5 7,
oC 19 153 [18],
oM 17 19,
oX 20 17 0,
oX 21 17 1,
oM 8 20,
oM 9 21])
(sq (sq (kr [4,5,7,8,9,11,12,13] [oM 22 9,
oD 23 (.un .not 22),
oM 24 23,
oF 24 25 (.mov 4),
oF 24 26 (.fieldAddr 0 7),
oF 24 27 (.load none 26),
oF 24 28 (.mget (.int .i64) (.int .i64) (0:Int) false 25 27),
oF 24 29 (.bin .gtr 28 (cI 0)),
oF 24 30 (.mov 29),
oT 30 31 (.fieldAddr 0 7),
oT 30 32 (.load none 31),
oT 30 33 (.bin .neq 32 (cI 65535)),
oF 24 34 (.pick 30 33 cF),
oP 35 24 cT 34])
(.cond 35
(sq (kr [] [oD 2 (.nilrow YB),
oD 3 (.mov cF)])
.ret)
.skip))
(sq (kr [4,5,7,8,11,12,13] [oM 36 4,
oA 37 0 7,
oL 38 37,
oD 39 (.mget (.int .i64) (.int .i64) (0:Int) false 36 38),
oB 40 .add 39 (cI 1),
oN (.mput (.int .i64) (.int .i64) 36 38 40)])
(kr [4,5,7,8,11,12,13] [oM 41 5,
oA 42 0 7,
oL 43 42,
oM 44 8,
oD 45 (.buildAll 2 [(0,1,43),(1,1,44)]),
oD 46 (.sliceAll YB 1 [(0,2,45)]),
oD 47 (.append YB 32 41 46),
oM 5 47]))))))
(kr [4,5,11,12,13] [oB 48 .add 13 (cI 1),
oM 13 48])))))))
(sq (kr [5] [oM 49 5,
oM 2 49,
oD 3 (.mov cT)])
.ret)))))
def uU_:List RD:=[.tmp 2 true (some YB),.tmp 3 true none]
theorem Un_:zj_ Tryz.prog Tryz.f123 UN_ uU_=true:=by kernel_rfl
def jR_:List AV->List Obj->Option (Prop × AV)
 | [.imm ty0 l],[]=>ZM_ ty0 Y3 l fun l=>some ((okI l,.tup [.imm YB (itL l),.bool (gdL [] l)]))
 | _,_=>none
theorem Vh_:zd_ Tryz.prog 123 (RoF jR_).sum:=by
 refine zi_ Tryz.func123 Un_ (za_ (s:=RoF wD_) uA_ (zc_ _)) fun args objs p v e=>?_
 unfold jR_ at e
 split at e
 ·rename_i ty0 l
  obtain rfl:=zN_ e
  replace e:=zO_ e
  cases e
  refine ⟨rfl,fun hw ho hp=>?_⟩
  change List VIn at l
  clear hw ho
  obtain ⟨hok,hn⟩:=hp
  repeat'(intro t ht;first|(cases t<;>first|(cases ht;done)|(try simp only[zg_]at ht;try(exfalso;first|contradiction|omega)))|((first|refine zb_ ht ?_|refine ht ?_ ?_|refine ht.1 ?_ ?_|refine ht ?_)<;>clear ht))
  all_goals first
   | exact True.intro
   | (intro r h1 h2;clear h1;refine h2 ⟨[4,5,11,12,13],Nat × List (Int × Int),(fun a=>a.1<=l.length/\mOk a.2 (l.take a.1)/\gdL [] l=gdL (l.take a.1) (l.drop a.1)),fun a=>[.mapv 0,.own 1,.imm Y3 l,.int .i64 l.length,.int .i64 a.1],fun a=>[.map true (.int .i64) (.int .i64) a.2,.row false YB ((l.take a.1).map itI)],fun a=>l.length - a.1,⟨(0,[]),⟨Nat.zero_le _,V8_,rfl⟩,rfl,rfl⟩,?_⟩;clear h2)
  rintro ⟨i,m⟩ ⟨hi,hm,he⟩
  dsimp only at hi hm he
  have hst:=fun (d:VIn) (h:i < l.length)=>he.trans (zgK_ (d:=d) h)
  repeat'(intro t ht;first|(cases t<;>first|(cases ht;done)|(try simp only[zg_]at ht;try(exfalso;first|contradiction|omega)))|((first|refine zb_ ht ?_|refine ht ?_ ?_|refine ht.1 ?_ ?_|refine ht ?_)<;>clear ht))
  all_goals (try generalize (Ty.dflt Y3)=od at*)
  all_goals first
   | exact True.intro
   | ((try simp only [zm_,zn_,zl_] at*);omega)
   | (have hge:l.length<=i:=by omega
      have g:gdL [] l=true:=by rw [he,List.drop_of_length_le hge];rfl
      have e:itL l=(l.take i).map itI:=by unfold itL;rw [if_pos g,List.take_of_length_le hge]
      rw [g,e];exact ⟨rfl,rfl⟩)
   | (have hlt:i < l.length:=by omega
      have hs:=hst od hlt
      have hr:=hm.r (l.getD i od).1
      rw [List.length_take] at hr
      have hd:=zd1_ hm (l.getD i od).1
      first
       | exact hok _ (zU_ hlt od)
       | exact (show IntKind.i64.min<=(zw_ m (l.getD i od).1).getD 0+1/\(zw_ m (l.getD i od).1).getD 0+1<=IntKind.i64.max from by simp only [zl_];omega)
       | (simp only [List.length_map,List.length_take,List.length_cons,List.length_nil];constructor<;>omega)
       | (have hsome:(bdO (l.getD i od)).isSome=false:=ht
          have g:gdL [] l=false:=by rw [hs,hsome];rfl
          have e:itL l=[]:=by unfold itL;rw [g];rfl
          rw [g,e];exact ⟨rfl,rfl⟩)
       | (have hdb:dbI (l.take i) (l.getD i od).1=true:=by
           have h1:0 < (zw_ m (l.getD i od).1).getD 0:=by assumption
           have h2:¬ (l.getD i od).1=65535:=ht
           unfold dbI;rw [<- hd,decide_eq_true h1,decide_eq_true h2];rfl
          have g:gdL [] l=false:=by rw [hs,hdb];simp
          have e:itL l=[]:=by unfold itL;rw [g];rfl
          rw [g,e];exact ⟨rfl,rfl⟩)
       | (have hsome:(bdO (l.getD i od)).isSome=true:=by assumption
          have hdb:dbI (l.take i) (l.getD i od).1=false:=by
           first
            | (have h1:¬ 0 < (zw_ m (l.getD i od).1).getD 0:=ht
               unfold dbI;rw [<- hd,decide_eq_false h1];rfl)
            | (have h2:(l.getD i od).1=65535:=ht
               unfold dbI;rw [decide_eq_false (not_not_intro h2),Bool.and_false])
          rw [hsome,hdb] at hs
          refine ⟨(i+1,kj_ m (l.getD i od).1 ((zw_ m (l.getD i od).1).getD 0+1)),⟨by dsimp only;omega,?_,?_⟩,by dsimp only;omega,rfl,?_⟩
          ·dsimp only;rw [<- xY_ (d:=od) hlt];exact V9_ hm
          ·dsimp only;rw [<- xY_ (d:=od) hlt];exact hs
          ·dsimp only;rw [GB_ hlt od itI];rfl))
 ·cases e
structure okJ (l:List VIt):Prop where
 a:∀ x ∈ l,(0<=x.1/\x.1<=65535)/\x.2.1.length % 8=4/\4<=x.2.1.length/\x.2.1.length<=65524
 n:l.length<=1000
def jnB (l:List VIt):List Int:=l.flatMap fun x=>enH x.1 x.2.1
theorem zar_ {l:List VIt} {i:Nat} {d:VIt} (h:i < l.length):jnB (l.take (i+1))=jnB (l.take i)++enH (l.getD i d).1 (l.getD i d).2.1:=by
 unfold jnB
 rw [<- xY_ (d:=d) h,List.flatMap_append];simp
theorem zh9_ {l:List VIt} (h:okJ l) (i:Nat):(jnB (l.take i)).length<=65528*i:=by
 induction i with
 | zero=>simp [jnB]
 | succ i ih=>
   by_cases hl:i < l.length
   ·rw [zar_ (d:=(0,[],())) hl,List.length_append,Ye_]
    have:=(h.a _ (zU_ hl (0,[],()))).2.2.2
    omega
   ·rw [List.take_of_length_le (by omega)] at ih ⊢;omega
theorem zjQ_ {t:Int} {y:List Int} (ht:0<=t/\t<=65535) (h4:4<=y.length) (hl:y.length<=65524):kB_ y (qj_ [2,2] [t,4+y.length] [] (4+y.length) 0) (4+y.length) (qG_ [2,2] [t,4+y.length] [] (4+y.length) 0)=enH t y/\QS_ y (qj_ [2,2] [t,4+y.length] [] (4+y.length) 0) (4+y.length) (qG_ [2,2] [t,4+y.length] [] (4+y.length) 0)=0:=by
 obtain ⟨p1,p2⟩:=hh_ (a:=t) (n:=4+y.length) ht (by omega)
 have l4:(ze_ t 2++ze_ (4+y.length) 2).length=4:=by
  have:=Ye_ t y
  unfold enH at this;rw [List.length_append] at this;omega
 have b1:=q7_ (x:=Zn_ [2,2] [t,4+y.length]) (l:=[]) (room:=4+y.length) (by rw [p1,l4];simp;omega)
 have r1:qj_ [2,2] [t,4+y.length] [] (4+y.length) 0=ze_ t 2++ze_ (4+y.length) 2:=by
  unfold qj_;rw [if_pos p2,b1.1,p1,List.nil_append]
 have r2:qG_ [2,2] [t,4+y.length] [] (4+y.length) 0=0:=by
  unfold qG_;rw [if_pos p2,b1.2]
 rw [r1,r2]
 have b2:=q7_ (x:=y) (l:=ze_ t 2++ze_ (4+y.length) 2) (room:=4+y.length) (by rw [l4];omega)
 exact ⟨b2.1,b2.2⟩
def zav_:IR:=
(sq (kr [0,1] [oD 2 (.boxv 0),
oD 4 (.nilrow (.int .u8)),
oD 5 (.mov (cI 0))])
(sq (sq (.reg [oK 16 5 2,
oC 17 154 [16],
oD 18 (.un .not 17)])
(.cond 18
(sq (kr [] [oD 4 (.nilrow (.int .u8)),
oD 5 (.mov (cI 10001))])
.ret)
.skip))
(sq (sq (kr [1,2] [oM 19 1,
oE 20 19,
oD 21 (.mov (cI 0))])
(.block 0
(.loop
(sq (kr [1,2,19,20,21] [oB 22 .lss 21 20])
(sq (.cond 22
.skip
(.exit 0))
(sq (.block 1
(sq (.reg [oI 23 2 19 21,
oK 24 2 23,
oD 7 (.box [.int .i64 0,.imm (.int .u8) []]),
oS 2 7 24])
(sq (kr [1,2,7,19,20,21] [oA 25 1 7,
oL 26 25,
oE 27 26,
oB 28 .add (cI 4) 27,
oM 8 28])
(sq (kr [1,2,7,8,19,20,21] [oA 29 0 7,
oL 30 29,
oB 31 .lss 30 (cI 0),
oM 32 31,
oF 32 33 (.fieldAddr 0 7),
oF 32 34 (.load none 33),
oF 32 35 (.bin .gtr 34 (cI 65535)),
oP 36 32 cT 35,
oM 37 36,
oF 37 38 (.mov 8),
oF 37 39 (.bin .gtr 38 (cI 65535)),
oP 40 37 cT 39,
oM 41 40,
oF 41 42 (.load (some 5) 2),
oF 41 43 (.mov 8),
oF 41 44 (.call false (.f 155) [42,43]),
oF 41 45 (.un .not 44),
oP 46 41 cT 45])
(.cond 46
(sq (kr [] [oD 4 (.nilrow (.int .u8)),
oD 5 (.mov (cI 10001))])
.ret)
.skip)))))
(kr [1,2,19,20,21] [oB 47 .add 21 (cI 1),
oM 21 47])))))))
(sq (kr [1,2] [oD 9 (.nilrow (.int .u8))])
(sq (sq (.reg [oM 48 1,
oE 49 48,
oD 50 (.mov (cI 0))])
(.block 2
(.loop
(sq (kr [2,9,48,49,50] [oB 51 .lss 50 49])
(sq (.cond 51
.skip
(.exit 2))
(sq (.block 3
(sq (.reg [oI 52 2 48 50,
oK 53 2 52,
oD 11 (.box [.int .i64 0,.imm (.int .u8) []]),
oS 2 11 53])
(sq (kr [2,9,11,48,49,50] [oA 54 1 11,
oL 55 54,
oE 56 55,
oB 57 .add (cI 4) 56,
oM 12 57])
(sq (kr [2,9,11,12,48,49,50] [oM 58 12,
oK 59 5 2,
oM 60 12,
oC 61 156 [59,60],
oB 62 .add 58 61,
oC 63 27 [62],
oM 13 63])
(sq (kr [2,9,11,12,13,48,49,50] [oM 64 13,
oD 65 (.sliceAll (.int .i64) 2 [(0,1,(cI 2)),(1,1,(cI 2))]),
oA 66 0 11,
oL 67 66,
oD 68 (.conv .u64 67),
oM 69 12,
oD 70 (.conv .u64 69),
oD 71 (.sliceAll (.int .u64) 2 [(0,1,68),(1,1,70)]),
oC 72 28 [64,65,71]])
(sq (kr [2,9,11,12,13,48,49,50] [oM 73 13,
oA 74 1 11,
oL 75 74,
oC 76 65 [73,75]])
(sq (kr [2,9,12,13,48,49,50] [oM 77 13,
oK 78 5 2,
oM 79 12,
oC 80 156 [78,79],
oD 81 (.mkrow (.int .u8) 1 (0:Int) 80 80),
oC 82 65 [77,81]])
(sq (kr [2,9,13,48,49,50] [oM 84 13,
oC 85 29 [84],
oM 83 85,
oX 86 83 0,
oX 87 83 1,
oM 14 86,
oM 15 87])
(sq (sq (kr [2,9,14,15,48,49,50] [oM 88 15,
oB 89 .neq 88 (cI 0)])
(.cond 89
(sq (.reg [oM 90 15,
oD 4 (.nilrow (.int .u8)),
oM 5 90])
.ret)
.skip))
(.reg [oM 91 9,
oM 92 14,
oD 93 (.append (.int .u8) 1 91 92),
oM 9 93]))))))))))
(kr [2,9,48,49,50] [oB 94 .add 50 (cI 1),
oM 50 94])))))))
(sq (kr [9] [oM 95 9,
oM 4 95,
oD 5 (.mov (cI 0))])
.ret))))))
def Bf_:List RD:=[.tmp 4 true (some (.int .u8)),.tmp 5 true none]
theorem BM_:zj_ Tryz.prog Tryz.f124 zav_ Bf_=true:=by kernel_rfl
def yd_:List AV->List Obj->Option (Prop × AV)
 | [.agg [.int .i64 least,.int .i64 step,.bool pad,.int .i64 bad,.int .i64 odd],.imm (.cons (.int .i64) (.cons (.sl (.int .u8)) .nil)) l],[]=>some ((pad=false/\least=8/\step=8/\bad ≠ 0/\odd ≠ 0/\okJ l,.tup [.imm (.int .u8) (jnB l),.int .i64 0]))
 | _,_=>none
theorem hW_:zd_ Tryz.prog 124 (RoF yd_).sum:=by
 refine zi_ Tryz.func124 BM_ (za_ (s:=RoF QB_) jn_ (za_ (s:=RoF q8_) KU_ (za_ (s:=RoF qF_) Kn_ (za_ (s:=RwF Z1_) qa_ (za_ (s:=RwF zF_) zJ_ (za_ (s:=RwF zu_) zz_ (za_ (s:=RwF Ze_) ZH_ (zc_ _)))))))) fun args objs p v e=>?_
 unfold yd_ at e
 split at e
 ·rename_i least step pad bad odd l
  cases e
  refine ⟨rfl,fun hw ho hp=>?_⟩
  change List VIt at l
  clear hw ho
  obtain ⟨rfl,rfl,rfl,hbad,hodd,hok⟩:=hp
  have hn:=hok.n
  repeat'(intro t ht;first|(cases t<;>first|(cases ht;done)|(try simp only[zg_]at ht;try(exfalso;first|contradiction|omega)))|((first|refine zb_ ht ?_|refine ht ?_ ?_|refine ht.1 ?_ ?_|refine ht ?_)<;>clear ht))
  all_goals first
   | exact True.intro
   | exact ⟨by decide,by decide,by decide,by decide,hbad,hodd⟩
   | (intro r h1 h2;clear h1;refine h2 ⟨[1,2,19,20,21],Nat,(fun i=>i<=l.length),fun i=>[.imm YB l,.ptr 0 0,.imm YB l,.int .i64 l.length,.int .i64 i],fun i=>[.box [.int .i64 8,.int .i64 8,.bool false,.int .i64 bad,.int .i64 odd]],fun i=>l.length - i,⟨0,Nat.zero_le _,rfl,rfl⟩,?_⟩;clear h2)
  rintro i hi
  by_cases hlt:i < l.length
  ·have hx:=hok.a _ (zU_ hlt (Ty.dflt YB))
   have htm:((4:Int)+((l.getD i (Ty.dflt YB)).2.1.length:Int)).tmod 8=0:=by rw [Int.tmod_eq_emod_of_nonneg (by omega)];omega
   repeat'(intro t ht;first|(cases t<;>first|(cases ht;done)|(try simp only[zg_]at ht;try(exfalso;first|contradiction|omega)))|((first|refine zb_ ht ?_|refine ht ?_ ?_|refine ht.1 ?_ ?_|refine ht ?_)<;>clear ht))
   all_goals (try generalize (Ty.dflt YB)=od at*)
   all_goals first
    | exact True.intro
    | exact ⟨rfl,(by decide:(1:Int)<=8)⟩
    | ((try simp only [zm_,zn_,zl_] at*);omega)
    | (refine ⟨i+1,?_,?_,rfl,rfl⟩
       ·(try dsimp only);omega
       ·(try dsimp only);omega)
    | (exfalso;simp_all;omega)
  ·repeat'(intro t ht;first|(cases t<;>first|(cases ht;done)|(try simp only[zg_]at ht;try(exfalso;first|contradiction|omega)))|((first|refine zb_ ht ?_|refine ht ?_ ?_|refine ht.1 ?_ ?_|refine ht ?_)<;>clear ht))
   all_goals first
    | exact True.intro
    | (intro r h1 h2;clear h1;refine h2 ⟨[2,9,48,49,50],Nat,(fun i=>i<=l.length),fun i=>[.ptr 0 0,.own 1,.imm YB l,.int .i64 l.length,.int .i64 i],fun i=>[.box [.int .i64 8,.int .i64 8,.bool false,.int .i64 bad,.int .i64 odd],.row false (.int .u8) (jnB (l.take i))],fun i=>l.length - i,⟨0,Nat.zero_le _,rfl,rfl⟩,?_⟩;clear h2)
   clear ht hlt hi i
   rintro i hi
   have hjl:=zh9_ hok i
   by_cases hlt:i < l.length
   ·have hx:=hok.a _ (zU_ hlt (Ty.dflt YB))
    obtain ⟨j1,j2⟩:=zjQ_ hx.1 hx.2.2.1 hx.2.2.2
    have hrm:wO_ (4+((l.getD i (Ty.dflt YB)).2.1.length:Int)+0)=4+((l.getD i (Ty.dflt YB)).2.1.length:Int):=by unfold wO_;omega
    have hel:=Ye_ (l.getD i (Ty.dflt YB)).1 (l.getD i (Ty.dflt YB)).2.1
    have hrl:(qj_ [2,2] [(l.getD i (Ty.dflt YB)).1,4+((l.getD i (Ty.dflt YB)).2.1.length:Int)] [] (4+((l.getD i (Ty.dflt YB)).2.1.length:Int)) 0).length<=1000000:=j8_ (by decide) (by omega)
    have j3:kB_ ([]:List Int) (enH (l.getD i (Ty.dflt YB)).1 (l.getD i (Ty.dflt YB)).2.1) (4+((l.getD i (Ty.dflt YB)).2.1.length:Int)) 0=enH (l.getD i (Ty.dflt YB)).1 (l.getD i (Ty.dflt YB)).2.1:=by rw [(q7_ (by rw [hel];simp)).1,List.append_nil]
    have j4:QS_ ([]:List Int) (enH (l.getD i (Ty.dflt YB)).1 (l.getD i (Ty.dflt YB)).2.1) (4+((l.getD i (Ty.dflt YB)).2.1.length:Int)) 0=0:=(q7_ (by rw [hel];simp)).2
    have j5:List.replicate (Int.toNat 0) (0:Int)=[]:=rfl
    have j6:kn_ [] 0=0:=rfl
    repeat'(intro t ht;first|(cases t<;>first|(cases ht;done)|(try simp only[zg_]at ht;try(exfalso;first|contradiction|omega)))|((first|refine zb_ ht ?_|refine ht ?_ ?_|refine ht.1 ?_ ?_|refine ht ?_)<;>clear ht))
    all_goals (try generalize (Ty.dflt YB)=od at*)
    all_goals (try simp only [zm_,zn_,hrm,j1,j2,j3,j4,j5,j6,zgS_] at*)
    all_goals first
     | exact True.intro
     | ((try simp only [zm_,zn_,zl_] at*);omega)
     | (exfalso;contradiction)
     | exact ⟨by omega,by omega,by decide⟩
     | exact ⟨by omega,by omega,hrl,by omega⟩
     | exact ⟨by omega,by omega,by omega,by decide⟩
     | exact ⟨by omega,by decide⟩
     | (refine ⟨i+1,by omega,by omega,rfl,?_⟩
        rw [zar_ (d:=od) hlt])
   ·repeat'(intro t ht;first|(cases t<;>first|(cases ht;done)|(try simp only[zg_]at ht;try(exfalso;first|contradiction|omega)))|((first|refine zb_ ht ?_|refine ht ?_ ?_|refine ht.1 ?_ ?_|refine ht ?_)<;>clear ht))
    all_goals first
     | exact True.intro
     | (rw [List.take_of_length_le (by omega)];exact ⟨rfl,rfl⟩)
 ·cases e
def UM_:IR:=
(sq (kr [] [oD 0 (.box [.int .i64 0,.int .i64 0,.kb false,.int .i64 0,.int .i64 0])])
(sq (.reg [oD 1 (.build [.int .i64 0,.int .i64 0,.kb false,.int .i64 0,.int .i64 0] [(0,1,(cI 8)),(1,1,(cI 8)),(3,1,(cI 776)),(4,1,(cI 776))]),
oS 5 0 1])
.ret))
def uT_:List RD:=[.cell 0 (some 5) true []]
theorem Um_:zj_ Tryz.prog Tryz.f125 UM_ uT_=true:=by kernel_rfl
def qs_:List AV->List Obj->Option (Prop × AV)
 | [],[]=>some ((True,.agg [.int .i64 8,.int .i64 8,.bool false,.int .i64 776,.int .i64 776]))
 | _,_=>none
theorem Qx_:zd_ Tryz.prog 125 (RoF qs_).sum:=by
 refine zi_ Tryz.func125 Um_ (zc_ _) fun args objs p v e=>?_
 unfold qs_ at e
 split at e
 ·cases e
  refine ⟨rfl,fun hw ho hp=>?_⟩
  repeat'(intro t ht;first|(cases t<;>first|(cases ht;done)|(try simp only[zg_]at ht;try(exfalso;first|contradiction|omega)))|((first|refine zb_ ht ?_|refine ht ?_ ?_|refine ht.1 ?_ ?_|refine ht ?_)<;>clear ht))
  all_goals first
   | exact True.intro
   | exact ⟨rfl,rfl⟩
 ·cases e
theorem zjR_ (l:List VIn):jnB (l.map itI)=boI l:=by
 unfold jnB boI;rw [List.flatMap_map];rfl
theorem zjA_ {l:List VIn} (h:gdL [] l=true) (hn:l.length<=1000):okJ (l.map itI):=by
 refine ⟨fun x hx=>?_,by rw [List.length_map];exact hn⟩
 obtain ⟨i,hi,rfl⟩:=List.mem_map.1 hx
 obtain ⟨y,hy⟩:=Option.isSome_iff_exists.1 (uc_ h i hi)
 obtain ⟨b1,b2,b3⟩:=zdj_ hy
 have hk:=ziW_ (Xe_.1 hy).k
 have e:(itI i).2.1=y:=go_ hy
 rw [e]
 exact ⟨hk,b1,b2,by omega⟩
theorem zkV_ {l:List VIn} (h:gdL [] l=false):ieL l=[]/\ieE l=10001:=by
 have:rgI l=false:=by unfold rgI;rw [h];rfl
 unfold ieL ieE;rw [this];exact ⟨rfl,rfl⟩
theorem zia_ {l:List VIn} (h:65528 < (boI l).length):ieL l=[]/\ieE l=10001:=by
 have:rgI l=false:=by unfold rgI;rw [decide_eq_false (by omega),Bool.and_false]
 unfold ieL ieE;rw [this];exact ⟨rfl,rfl⟩
theorem zkU_ {l:List VIn} (h:gdL [] l=true) (h2:¬ 65528 < (boI l).length):ieL l=boI l/\ieE l=0:=by
 have:rgI l=true:=by unfold rgI;rw [h,decide_eq_true (by omega)];rfl
 unfold ieL ieE;rw [this];exact ⟨rfl,rfl⟩
def VR_:IR:=
(sq (kr [0] [oD 2 (.mov (.c (.imm (.int .u8) []))),
oD 3 (.mov (cI 0))])
(sq (kr [0] [oM 9 0,
oC 10 123 [9],
oM 8 10,
oX 11 8 0,
oX 12 8 1,
oM 4 11,
oM 5 12])
(sq (sq (kr [4,5] [oM 13 5,
oD 14 (.un .not 13)])
(.cond 14
(sq (.reg [oD 2 (.mov (.c (.imm (.int .u8) []))),
oD 3 (.mov (cI 10001))])
.ret)
.skip))
(sq (kr [4] [oC 16 125 [],
oM 17 4,
oC 18 124 [16,17],
oM 15 18,
oX 19 15 0,
oX 20 15 1,
oM 6 19,
oM 7 20])
(sq (sq (kr [6,7] [oM 21 7,
oB 22 .neq 21 (cI 0),
oM 23 22,
oF 23 24 (.mov 6),
oF 23 25 (.len 24),
oF 23 26 (.bin .gtr 25 (cI 65528)),
oP 27 23 cT 26])
(.cond 27
(sq (kr [] [oD 2 (.mov (.c (.imm (.int .u8) []))),
oD 3 (.mov (cI 10001))])
.ret)
.skip))
(sq (kr [6] [oM 28 6,
oM 2 28,
oD 3 (.mov (cI 0))])
.ret))))))
def Vs_:List RD:=[.tmp 2 true (some (.int .u8)),.tmp 3 true none]
theorem VE_:zj_ Tryz.prog Tryz.f73 VR_ Vs_=true:=by kernel_rfl
def jb_:List AV->List Obj->Option (Prop × AV)
 | [.imm ty0 l],[]=>ZM_ ty0 Y3 l fun l=>some ((okI l,.tup [.imm (.int .u8) (ieL l),.int .i64 (ieE l)]))
 | _,_=>none
theorem YA_:zd_ Tryz.prog 73 (RoF jb_).sum:=by
 refine zi_ Tryz.func73 VE_ (za_ (s:=RoF jR_) Vh_ (za_ (s:=RoF qs_) Qx_ (za_ (s:=RoF yd_) hW_ (zc_ _)))) fun args objs p v e=>?_
 unfold jb_ at e
 split at e
 ·rename_i ty0 l
  obtain rfl:=zN_ e
  replace e:=zO_ e
  cases e
  refine ⟨rfl,fun hw ho hp=>?_⟩
  change List VIn at l
  clear hw ho
  have hok:=hp
  cases hg:gdL [] l with
  | false=>
    obtain ⟨e1,e2⟩:=zkV_ hg
    rw [e1,e2]
    repeat'(intro t ht;first|(cases t<;>first|(cases ht;done)|(try simp only[zg_]at ht;try(exfalso;first|contradiction|omega)))|((first|refine zb_ ht ?_|refine ht ?_ ?_|refine ht.1 ?_ ?_|refine ht ?_)<;>clear ht))
    all_goals first
     | exact True.intro
     | exact hok
     | exact ⟨rfl,rfl⟩
     | (exfalso;simp_all;done)
  | true=>
    have hj:=zjA_ hg hok.n
    have hL:itL l=l.map itI:=if_pos hg
    have hB:=zjR_ l
    repeat'(intro t ht;first|(cases t<;>first|(cases ht;done)|(try simp only[zg_]at ht;try(exfalso;first|contradiction|omega)))|((first|refine zb_ ht ?_|refine ht ?_ ?_|refine ht.1 ?_ ?_|refine ht ?_)<;>clear ht))
    all_goals (try simp only [hL,hB] at*)
    all_goals first
     | exact True.intro
     | exact hok
     | exact ⟨by decide,by decide,by decide,by decide,by decide,hj⟩
     | (exfalso;simp_all;done)
     | (obtain ⟨e1,e2⟩:=zkU_ hg (by omega)
        rw [e1,e2];exact ⟨rfl,True.intro⟩)
     | (obtain ⟨e1,e2⟩:=zia_ (l:=l) (by omega)
        rw [e1,e2];exact ⟨rfl,True.intro⟩)
 ·cases e
theorem zib_ (l:List VIn):(ieL l).length<=65528:=by
 unfold ieL;split
 ·rename_i h;unfold rgI at h;simp only [Bool.and_eq_true,decide_eq_true_eq] at h;exact h.2
 ·exact Nat.zero_le _
def ipB (l:List Int) (room e:Int) (x:List VIn):List Int:=kB_ (ieL x) l room (zt_ e (ieE x))
def ipE (l:List Int) (room e:Int) (x:List VIn):Int:=QS_ (ieL x) l room (zt_ e (ieE x))
def bq_:IR:=
(sq (kr [0,1] [oM 7 1,
oC 8 73 [7],
oM 6 8,
oX 9 6 0,
oX 10 6 1,
oM 4 9,
oM 5 10])
(sq (kr [0,4,5] [oM 11 0,
oM 12 5,
oC 13 34 [11,12]])
(.reg [oM 14 0,
oM 15 4,
oC 16 65 [14,15]])))
def Ht_:List RD:=[]
theorem HS_:zj_ Tryz.prog Tryz.f32 bq_ Ht_=true:=by kernel_rfl
def jB_:List AV->List Obj->Option (Prop × AV × List Obj)
 | [.ptr 0 0,.imm ty0 x],[.box [.own 1,.int .i64 room,.mapv 2,.int .i64 e],.row false (.int .u8) l,.map sq (.int .i64) (.int .i64) h]=>ZM_ ty0 Y3 x fun x=>some ((okI x/\0<=room/\room<=1000000/\l.length<=1000000,.tup [],[.box [.own 3,.int .i64 room,.mapv 2,.int .i64 (ipE l room e x)],.dead,.map sq (.int .i64) (.int .i64) h,.row false (.int .u8) (ipB l room e x)]))
 | _,_=>none
theorem XE_:zd_ Tryz.prog 32 (RwF jB_).sum:=by
 refine qg_ Tryz.func32 HS_ (za_ (s:=RoF jb_) YA_ (za_ (s:=RwF zy_) zE_ (za_ (s:=RwF zu_) zz_ (zc_ _)))) fun args objs p v o e=>?_
 unfold jB_ at e
 split at e
 ·rename_i ty0 x room e l sq h
  obtain rfl:=zN_ e
  replace e:=zO_ e
  cases e
  refine ⟨rfl,fun hw ho hp=>?_⟩
  change List Int at l
  have hx:=zib_ x
  clear hw ho
  repeat'(intro t ht;first|(cases t<;>first|(cases ht;done)|(try simp only[zg_]at ht;try(exfalso;first|contradiction|omega)))|((first|refine zb_ ht ?_|refine ht ?_ ?_|refine ht.1 ?_ ?_|refine ht ?_)<;>clear ht))
  all_goals first
   | exact True.intro
   | exact hp.1
   | exact ⟨hp.2.1,hp.2.2.1,hp.2.2.2,Nat.le_trans hx (by decide)⟩
   | exact ⟨rfl,rfl⟩
 ·cases e
theorem zjB_ {t:Int} {x:List Int} (hk:¬ zZ_ (wI t) x=0):o5K t x=false/\o5A t x=0/\o5B t x=0:=by
 refine ⟨by unfold o5K;rw [decide_eq_false hk];rfl,?_,?_⟩
 ·unfold o5A o5N QR_;rw [if_pos rfl,show (0:Int).toNat=0 from rfl,List.drop_zero,U2_ hk];rfl
 ·unfold o5B o5N QR_;rw [if_pos rfl,show (0:Int).toNat=0 from rfl,List.drop_zero,U2_ hk];rfl
theorem zio_ {t:Int} {x:List Int}:(zZ_ (wI t) x=0->k8_ (wI t) x 0 776 776 0=0/\ky_ (wI t) x 0 0=sI t)/\(¬ zZ_ (wI t) x=0->k8_ (wI t) x 0 776 776 0=776/\ky_ (wI t) x 0 0=0):=by
 have hK:=wk_ (wI t) x
 unfold k8_ ky_
 rw [if_pos rfl,if_pos rfl,show (0:Int).toNat=0 from rfl,List.drop_zero]
 constructor
 ·intro h
  rw [if_neg (by omega),if_neg (by omega),if_neg (by omega),if_neg (by omega)]
  exact ⟨rfl,by unfold sI;omega⟩
 ·intro h
  rcases hK with h1 | h1 | h1
  ·exact absurd h1 h
  ·rw [if_pos h1,if_pos h1];exact ⟨rfl,rfl⟩
  ·rw [if_neg (by omega),if_pos h1,if_neg (by omega),if_pos h1];exact ⟨rfl,rfl⟩
theorem zjb_ (t:Int):(wI t).length<=3:=by
 unfold wI
 repeat' split
 all_goals decide
theorem zfD_ {x:List Int} {p sh:Int} (h0:0<=p) (h1:p<=x.length) (e:Int):ZW_ (x.length - p) x p sh e=e/\(e=0->Ql_ (x.length - p) x p sh e=x.drop p.toNat):=by
 have hE:ZW_ (x.length - p) x p sh e=e:=by unfold ZW_;rw [if_neg (by omega),if_neg (by omega)]
 refine ⟨hE,fun h=>?_⟩
 unfold Ql_;rw [hE,if_pos h,List.take_of_length_le (by omega)]
theorem zkh_ {x:List Int} {p sh:Int} (h0:0<=p) (h1:p<=x.length) (e:Int):atE (x.length - p) x p sh e=(if e=0 then adE (x.drop p.toNat) else e)/\atL (x.length - p) x p sh e=(if e=0 then adL (x.drop p.toNat) else []):=by
 obtain ⟨a,b⟩:=zfD_ (sh:=sh) h0 h1 e
 unfold atE atL
 rw [a]
 by_cases h:e=0
 ·rw [if_pos h,if_pos h,if_pos h,if_pos h,b h];exact ⟨rfl,rfl⟩
 ·rw [if_neg h,if_neg h,if_neg h,if_neg h];exact ⟨rfl,rfl⟩
theorem zjz_ {s:Bool} {t:Int} {x:List Int} (h:kI t=false):o5E s t x=769/\o5V s t x=(t,0,0,[],[],()):=by
 unfold o5E o5V;rw [if_pos h,if_pos (.inl h)];exact ⟨rfl,rfl⟩
theorem zjy_ {s:Bool} {t:Int} {x:List Int} (h:kI t=true) (hs:s=true) (h6:¬ t=65535):o5E s t x=778/\o5V s t x=(t,0,0,[],[],()):=by
 unfold o5E o5V;rw [if_neg (by rw [h];decide),if_pos ⟨hs,h6⟩,if_pos (.inr ⟨hs,h6⟩)];exact ⟨rfl,rfl⟩
theorem zce_ {s:Bool} {t:Int} {x:List Int} (h:kI t=true) (hs:¬ (s=true/\¬ t=65535)):o5E s t x=(if o5K t x=false then 776 else if t=65535 then 0 else if ¬ qI t (o5A t x) (o5B t x)=0 then qI t (o5A t x) (o5B t x) else adE (o5R t x))/\o5V s t x=(t,o5A t x,o5B t x,(if o5E s t x=0/\¬ t=65535 then adL (o5R t x) else []),(if o5K t x=true/\t=65535 then o5R t x else []),()):=by
 constructor
 ·unfold o5E;rw [if_neg (by rw [h];decide),if_neg hs]
 ·unfold o5V;rw [if_neg]
  rintro (c | c)
  ·rw [h] at c;cases c
  ·exact hs c
theorem zdO_ {s:Bool} {t:Int} {x:List Int} (h:kI t=true) (hs:¬ (s=true/\¬ t=65535)) (ho:o5K t x=false):o5E s t x=776/\o5V s t x=(t,o5A t x,o5B t x,[],[],()):=by
 obtain ⟨a,b⟩:=zce_ (x:=x) h hs
 rw [if_pos ho] at a
 rw [b,a,ho,if_neg (fun c=>by cases c.1),if_neg (fun c=>by cases c.1)];exact ⟨rfl,rfl⟩
theorem zkK_ {s:Bool} {x:List Int} (ho:o5K 65535 x=true):o5E s 65535 x=0/\o5V s 65535 x=(65535,o5A 65535 x,o5B 65535 x,[],o5R 65535 x,()):=by
 obtain ⟨a,b⟩:=zce_ (s:=s) (t:=65535) (x:=x) rfl (fun c=>c.2 rfl)
 rw [if_neg (by rw [ho];decide),if_pos rfl] at a
 rw [b,ho,if_neg (fun c=>c.2 rfl),if_pos ⟨rfl,rfl⟩];exact ⟨a,rfl⟩
theorem zkJ_ {s:Bool} {t:Int} {x:List Int} (h:kI t=true) (hs:¬ (s=true/\¬ t=65535)) (ho:o5K t x=true) (h6:¬ t=65535):o5E s t x=(if qI t (o5A t x) (o5B t x)=0 then adE (o5R t x) else qI t (o5A t x) (o5B t x))/\o5V s t x=(t,o5A t x,o5B t x,(if qI t (o5A t x) (o5B t x)=0 then adL (o5R t x) else []),[],()):=by
 obtain ⟨a,b⟩:=zce_ (x:=x) h hs
 rw [if_neg (by rw [ho];decide),if_neg h6] at a
 rw [b,a,if_neg (fun c:o5K t x=true/\t=65535=>h6 c.2)]
 by_cases hq:qI t (o5A t x) (o5B t x)=0
 ·rw [if_neg (not_not_intro hq),if_pos hq,if_pos hq]
  refine ⟨rfl,?_⟩
  by_cases h0:adE (o5R t x)=0
  ·rw [if_pos ⟨h0,h6⟩]
  ·rw [if_neg (fun c=>h0 c.1)]
   have:adL (o5R t x)=[]:=by unfold adL;rw [if_neg h0]
   rw [this]
 ·rw [if_pos hq,if_neg hq,if_neg hq,if_neg (fun c:qI t (o5A t x) (o5B t x)=0/\¬ t=65535=>hq c.1)];exact ⟨rfl,rfl⟩
def bp_:IR:=
(sq (kr [0,1] [oD 2 (.boxv 0),
oD 4 (.box [.int .i64 0,.int .u64 0,.int .u64 0,.imm Y2 [],.imm (.int .u8) []]),
oD 5 (.mov (cI 0))])
(sq (.reg [oA 12 0 2,
oL 13 12,
oD 14 (.build [.int .i64 0,.int .u64 0,.int .u64 0,.imm Y2 [],.imm (.int .u8) []] [(0,1,13)]),
oD 6 (.box [.int .i64 0,.int .u64 0,.int .u64 0,.imm Y2 [],.imm (.int .u8) []]),
oS 5 6 14])
(sq (kr [1,2,4,6] [oA 16 0 2,
oL 17 16,
oC 18 159 [17],
oM 15 18,
oX 19 15 0,
oX 20 15 1,
oX 21 15 2,
oM 7 19,
oM 8 20,
oM 9 21])
(sq (.block 0
(sq (kr [1,2,4,6,7,8,9] [oM 23 9,
oD 24 (.un .not 23),
oM 22 24])
(.cond 22
(sq (.reg [oK 25 5 6,
oS 5 4 25,
oD 5 (.mov (cI 769))])
.ret)
(sq (kr [1,2,4,6,7,8] [oM 27 1,
oA 28 0 2,
oL 29 28,
oD 30 (.mget (.int .i64) (.int .i64) (0:Int) false 27 29),
oB 31 .gtr 30 (cI 0),
oM 32 31,
oT 32 33 (.fieldAddr 0 2),
oT 32 34 (.load none 33),
oT 32 35 (.bin .neq 34 (cI 65535)),
oP 36 32 35 cF,
oM 26 36])
(.cond 26
(sq (kr [4,6] [oK 37 5 6,
oS 5 4 37,
oD 5 (.mov (cI 778))])
.ret)
.skip)))))
(sq (kr [2,4,6,7,8] [oA 38 1 2,
oL 39 38,
oC 40 41 [39,(cI 776),(cI 776)],
oM 10 40])
(sq (kr [2,4,6,7,8,10] [oM 41 10,
oM 42 7,
oC 43 42 [41,42],
oD 44 (.sliceAll (.int .u64) 2 [(0,1,(.c (.int .u64 0))),(1,1,(.c (.int .u64 0)))]),
oD 45 (.append (.int .u64) 8 43 44),
oM 11 45])
(sq (kd [2,4,6,8,10,11] [(oM 46 11,[]),
(oD 47 (.indexSl 1 46 (cI 0)),[]),
(oL 48 47,[]),
(oM 49 11,[0,0,0]),
(oD 50 (.indexSl 1 49 (cI 1)),[1,0,0]),
(oL 51 50,[2,0,0]),
(oA 52 1 6,[0,0,0]),
(oS 1 52 48,[1,0,0]),
(oA 53 2 6,[]),
(oS 1 53 51,[])])
(sq (.block 1
(sq (kr [2,4,6,8,10] [oM 64 10,
oC 65 43 [64],
oB 66 .neq 65 (cI 0),
oM 63 66])
(.cond 63
.skip
(sq (kr [2,4,6,8,10] [oM 68 8,
oD 69 (.un .not 68),
oM 70 69,
oT 70 71 (.mov 10),
oT 70 72 (.call false (.f 47) [71]),
oT 70 73 (.bin .gtr 72 (cI 0)),
oP 74 70 73 cF,
oM 67 74])
(.cond 67
(kr [4,6,10] [oM 75 10,
oC 76 44 [75,(cI 776)]])
(sq (kr [2,4,6,10] [oA 78 0 2,
oL 79 78,
oB 80 .eql 79 (cI 65535),
oM 77 80])
(.cond 77
(.reg [oM 81 10,
oC 82 99 [81],
oA 83 4 6,
oS 1 83 82])
(sq (.reg [oM 54 10,
oK 55 5 6,
oC 56 160 [55],
oC 57 44 [54,56]])
(kr [4,6,10] [oM 58 10,
oM 59 10,
oC 60 47 [59],
oC 61 161 [58,60],
oA 62 3 6,
oS 1 62 61])))))))))
(sq (kd [4,6,10] [(oK 84 5 6,[]),
(oM 85 10,[0]),
(oC 86 43 [85],[1]),
(oS 5 4 84,[]),
(oM 5 86,[])])
.ret)))))))))
def Hs_:List RD:=[.cell 4 (some 5) true [],.tmp 5 true none]
theorem HR_:zj_ Tryz.prog Tryz.f137 bp_ Hs_=true:=by kernel_rfl
def Kc_:List AV->List Obj->Option (Prop × AV)
 | [.agg [.int .i64 tt,.imm (.int .u8) x],.mapv 0],[.map sq (.int .i64) (.int .i64) m]=>some ((x.length<=100000,.tup [.agg [.int .i64 ((o5V (decide (0 < (zw_ m tt).getD 0)) tt x)).1,.int .u64 ((o5V (decide (0 < (zw_ m tt).getD 0)) tt x)).2.1,.int .u64 ((o5V (decide (0 < (zw_ m tt).getD 0)) tt x)).2.2.1,.imm Y2 ((o5V (decide (0 < (zw_ m tt).getD 0)) tt x)).2.2.2.1,.imm (.int .u8) ((o5V (decide (0 < (zw_ m tt).getD 0)) tt x)).2.2.2.2.1],.int .i64 (o5E (decide (0 < (zw_ m tt).getD 0)) tt x)]))
 | _,_=>none
theorem jE_:zd_ Tryz.prog 137 (RoF Kc_).sum:=by
 refine zi_ Tryz.func137 HR_ (za_ (s:=RoF KG_) WR_ (za_ (s:=RwF ZJ_) ZN_ (za_ (s:=RwF ZS_) QF_ (za_ (s:=RoF zp_) zq_ (za_ (s:=RoF zS_) z3_ (za_ (s:=RwF zr_) zs_ (za_ (s:=RwF Zd_) ZG_ (za_ (s:=RoF kS_) wL_ (za_ (s:=RwF xR_) gI_ (zc_ _)))))))))) fun args objs p v e=>?_
 unfold Kc_ at e
 split at e
 ·rename_i tt x sq m
  cases e
  refine ⟨rfl,fun hw ho hp=>?_⟩
  change List Int at x
  clear hw ho
  change List (Int × Int) at m
  obtain ⟨c1,c2⟩:=zio_ (t:=tt) (x:=x)
  have hcl:=zeg_ (wI tt) x 0 0
  have hwl:=zjb_ tt
  have hll:(QR_ (wI tt) x 0 0++[0,0]).length=(QR_ (wI tt) x 0 0).length+2:=by rw [List.length_append];rfl
  cases hk:kI tt with
  | false=>
    have hk':¬ kI tt=true:=fun z=>by rw [hk] at z;cases z
    obtain ⟨e1,e2⟩:=zjz_ (s:=decide (0 < (zw_ m tt).getD 0)) (x:=x) hk
    rw [e1,e2]
    repeat'(intro t ht;first|(cases t<;>first|(cases ht;done)|(try simp only[zg_]at ht;try(exfalso;first|contradiction|omega)))|((first|refine zb_ ht ?_|refine ht ?_ ?_|refine ht.1 ?_ ?_|refine ht ?_)<;>clear ht))
    all_goals first
     | exact True.intro
     | exact ⟨rfl,rfl⟩
  | true=>
    have hk':¬ kI tt=false:=fun z=>by rw [hk] at z;cases z
    obtain ⟨w1,w2⟩:=b1_ hk
    by_cases hs:(@LT.lt Int Int.instLTInt 0 (@Option.getD (Ty.den (.int .i64)) (@zw_ (Ty.den (.int .i64)) (Ty.den (.int .i64)) (Ty.deq (.int .i64)) m tt) (0:Int)))/\¬ tt=65535
    ·obtain ⟨e1,e2⟩:=zjy_ (s:=decide (0 < (zw_ m tt).getD 0)) (x:=x) hk (decide_eq_true hs.1) hs.2
     rw [e1,e2]
     repeat'(intro t ht;first|(cases t<;>first|(cases ht;done)|(try simp only[zg_]at ht;try(exfalso;first|contradiction|omega)))|((first|refine zb_ ht ?_|refine ht ?_ ?_|refine ht.1 ?_ ?_|refine ht ?_)<;>clear ht))
     all_goals first
      | exact True.intro
      | exact ⟨rfl,rfl⟩
      | (exfalso;omega)
    ·have hs':¬ (decide (0 < (zw_ m tt).getD 0)=true/\¬ tt=65535):=fun c=>hs ⟨of_decide_eq_true c.1,c.2⟩
     by_cases hg:zZ_ (wI tt) x=0
     ·obtain ⟨q1,q2⟩:=c1 hg
      have q3:=zip_ (w:=wI tt) (b:=x) (p:=0) (e:=0) (by decide) (by omega)
      have q4:=q3
      rw [q2] at q3
      clear c1 c2
      by_cases hmo:mI tt=true\/(x.length:Int)<=sI tt
      ·have ho:o5K tt x=true:=by unfold o5K;rw [decide_eq_true hg,Bool.true_and,Bool.or_eq_true,decide_eq_true_eq];exact hmo
       by_cases h6:tt=65535
       ·subst h6
        obtain ⟨e1,e2⟩:=zkK_ (s:=decide (0 < (zw_ m 65535).getD 0)) (x:=x) ho
        rw [e1,e2]
        repeat'(intro t ht;first|(cases t<;>first|(cases ht;done)|(try simp only[zg_]at ht;try(exfalso;first|contradiction|omega)))|((first|refine zb_ ht ?_|refine ht ?_ ?_|refine ht.1 ?_ ?_|refine ht ?_)<;>clear ht))
        all_goals first
         | exact True.intro
         | exact Nat.le_trans hp (by decide)
         | exact ⟨by decide,by omega,Nat.le_trans hp (by decide)⟩
         | exact ⟨q4.1,q4.2⟩
         | exact ⟨q4.1,q4.2,by omega,by decide⟩
         | (simp only [hll,List.length_cons,List.length_nil];first | omega | (constructor<;>omega))
         | (rw [q1,q2];exact ⟨rfl,rfl⟩)
         | (exfalso;omega)
       ·obtain ⟨e1,e2⟩:=zkJ_ (x:=x) hk hs' ho h6
        rw [e1,e2]
        obtain ⟨A,B⟩:=zkh_ (sh:=776) q3.1 q3.2 (qI tt (o5A tt x) (o5B tt x))
        unfold o5R
        rw [<- A,<- B]
        repeat'(intro t ht;first|(cases t<;>first|(cases ht;done)|(try simp only[zg_]at ht;try(exfalso;first|contradiction|omega)))|((first|refine zb_ ht ?_|refine ht ?_ ?_|refine ht.1 ?_ ?_|refine ht ?_)<;>clear ht))
        all_goals first
         | exact True.intro
         | exact Nat.le_trans hp (by decide)
         | exact ⟨by decide,by omega,Nat.le_trans hp (by decide)⟩
         | exact ⟨q4.1,q4.2⟩
         | exact ⟨q4.1,q4.2,by omega,by decide⟩
         | (simp only [hll,List.length_cons,List.length_nil];first | omega | (constructor<;>omega))
         | (rw [q1,q2];exact ⟨rfl,rfl⟩)
         | (exfalso;rcases hmo with z | z<;>first | omega | (simp_all;done))
      ·have hm1:¬ mI tt=true:=fun c=>hmo (.inl c)
       have hm2:¬ (x.length:Int)<=sI tt:=fun c=>hmo (.inr c)
       have ho:o5K tt x=false:=by
        unfold o5K
        cases hmi:mI tt with
        | true=>exact absurd (.inl hmi) hmo
        | false=>rw [decide_eq_false (fun c=>hmo (.inr c)),Bool.or_false,Bool.and_false]
       obtain ⟨e1,e2⟩:=zdO_ (x:=x) hk hs' ho
       rw [e1,e2]
       repeat'(intro t ht;first|(cases t<;>first|(cases ht;done)|(try simp only[zg_]at ht;try(exfalso;first|contradiction|omega)))|((first|refine zb_ ht ?_|refine ht ?_ ?_|refine ht.1 ?_ ?_|refine ht ?_)<;>clear ht))
       all_goals first
        | exact True.intro
        | exact Nat.le_trans hp (by decide)
        | exact ⟨by decide,by omega,Nat.le_trans hp (by decide)⟩
        | exact ⟨q4.1,q4.2⟩
        | exact ⟨q4.1,q4.2,by omega,by decide⟩
        | (simp only [hll,List.length_cons,List.length_nil];first | omega | (constructor<;>omega))
        | (rw [q1];exact ⟨rfl,rfl⟩)
        | (exfalso;first | omega | (refine hmo ?_;first | (left;assumption) | (right;omega)))
     ·obtain ⟨q1,q2⟩:=c2 hg
      obtain ⟨e1,e2⟩:=zdO_ (x:=x) hk hs' (zjB_ hg).1
      rw [e1,e2]
      repeat'(intro t ht;first|(cases t<;>first|(cases ht;done)|(try simp only[zg_]at ht;try(exfalso;first|contradiction|omega)))|((first|refine zb_ ht ?_|refine ht ?_ ?_|refine ht.1 ?_ ?_|refine ht ?_)<;>clear ht))
      all_goals first
       | exact True.intro
       | exact Nat.le_trans hp (by decide)
       | exact ⟨by decide,by omega,Nat.le_trans hp (by decide)⟩
       | (simp only [hll,List.length_cons,List.length_nil];first | omega | (constructor<;>omega))
       | (rw [q1];exact ⟨rfl,rfl⟩)
       | (exfalso;omega)
 ·cases e
theorem zjW_ {acc:List VIn} {y:List Int} (h:tlE y 8 8 776=0):inE acc y=o5E (snI acc (tT y)) (tT y) (bd y):=by unfold inE;rw [if_neg (not_not_intro h)]
theorem bz_ {acc:List VIn} {y:List Int} (h:¬ tlE y 8 8 776=0):inE acc y=tlE y 8 8 776:=by unfold inE;rw [if_pos h]
theorem V4_ {y:List Int} (h:tlE y 8 8 776=0):tlI y 8 8 776 (tT y)=tT y/\tlI y 8 8 776 (tN y)=tN y/\tlR y 8 8 776=bd y:=by
 unfold tlI tlR bd;rw [if_pos h,if_pos h,if_pos h];exact ⟨rfl,rfl,rfl⟩
theorem by_ {m:List (Int × Int)} {acc:List VIn} {y:List Int} (jm:mOk m acc) (hT:tlE y 8 8 776=0):o5E (decide (0 < (zw_ m (tlI y 8 8 776 (tT y))).getD 0)) (tlI y 8 8 776 (tT y)) (tlR y 8 8 776)=inE acc y/\o5V (decide (0 < (zw_ m (tlI y 8 8 776 (tT y))).getD 0)) (tlI y 8 8 776 (tT y)) (tlR y 8 8 776)=vI acc y:=by
 obtain ⟨t1,t2,t3⟩:=V4_ hT
 rw [t1,t3,zd1_ jm,zjW_ hT];exact ⟨rfl,rfl⟩
theorem vI_t {acc:List VIn} {y:List Int}:(vI acc y).1=tT y:=by
 unfold vI o5V;split<;>rfl
def GP_:IR:=
(sq (kr [0] [oD 2 (.mov (.c (.imm Y3 []))),
oD 3 (.mov (cI 0))])
(sq (.reg [oD 8 (.mkmap (.int .i64) (.int .i64)),
oM 4 8])
(sq (.block 0
(.loop
(sq (sq (kr [0,4] [oM 9 0,
oE 10 9,
oB 11 .gtr 10 (cI 0)])
(.cond 11
.skip
(.exit 0)))
(.block 1
(sq (kr [0,4] [oC 13 125 [],
oM 14 0,
oC 15 136 [13,14],
oM 12 15,
oX 16 12 0,
oX 17 12 1,
oX 18 12 2,
oD 5 (.box [.int .i64 0,.imm (.int .u8) []]),
oS 2 5 16,
oM 6 17,
oM 7 18])
(sq (sq (kr [0,4,5,6,7] [oM 19 7,
oB 20 .eql 19 (cI 0)])
(.cond 20
(kr [0,4,5,6] [oK 22 2 5,
oM 23 4,
oC 24 137 [22,23],
oM 21 24,
oX 25 21 0,
oX 26 21 1,
oM 7 26])
.skip))
(sq (sq (kr [0,4,5,6,7] [oM 27 7,
oB 28 .neq 27 (cI 0)])
(.cond 28
(sq (.reg [oM 29 7,
oD 2 (.mov (.c (.imm Y3 []))),
oM 3 29])
.ret)
.skip))
(sq (kr [0,4,5,6] [oM 30 4,
oA 31 0 5,
oL 32 31,
oD 33 (.mget (.int .i64) (.int .i64) (0:Int) false 30 32),
oB 34 .add 33 (cI 1),
oN (.mput (.int .i64) (.int .i64) 30 32 34)])
(.reg [oM 35 0,
oM 36 6,
oD 37 (.slice 1 35 (some 36) none none),
oM 0 37])))))))))
(sq (kr [] [oD 2 (.mov (.c (.imm Y3 []))),
oD 3 (.mov (cI 776))])
.ret))))
def gW_:List RD:=[.tmp 2 true (some Y3),.tmp 3 true none]
theorem Gm_:zj_ Tryz.prog Tryz.f135 GP_ gW_=true:=by kernel_rfl
def KH_:List AV->List Obj->Option (Prop × AV)
 | [.imm (.int .u8) b],[]=>some ((b.length<=100000000/\65528 < b.length,.tup [.imm Y3 (idL b),.int .i64 (idE b)]))
 | _,_=>none
theorem WS_:zd_ Tryz.prog 135 (RoF KH_).sum:=by
 refine zi_ Tryz.func135 Gm_ (za_ (s:=RoF qs_) Qx_ (za_ (s:=RoF KQ_) jo_ (za_ (s:=RoF Kc_) jE_ (zc_ _)))) fun args objs p v e=>?_
 unfold KH_ at e
 split at e
 ·rename_i b
  cases e
  refine ⟨rfl,fun hw ho hp=>?_⟩
  change List Int at b
  have hb:∀ z ∈ (b:List Int),(0:Int)<=z/\z<=255:=fun z hz=>(hw (.imm (.int .u8) b) (by simp)).1 z hz
  clear hw ho
  obtain ⟨hp,hlong⟩:=hp
  repeat'(intro t ht;first|(cases t<;>first|(cases ht;done)|(try simp only[zg_]at ht;try(exfalso;first|contradiction|omega)))|((first|refine zb_ ht ?_|refine ht ?_ ?_|refine ht.1 ?_ ?_|refine ht ?_)<;>clear ht))
  all_goals first
   | exact True.intro
   | (intro r h1 h2;clear h1;refine h2 ⟨[0,4],List VIn × List Int × List (Int × Int),(fun a=>a.1.length<=b.length/\a.2.1.length<=b.length/\a.1.length+a.2.1.length<=b.length/\mOk a.2.2 a.1/\(∀ z ∈ a.2.1,(0:Int)<=z/\z<=255)/\inG [] b=inG a.1 a.2.1),fun a=>[.imm (.int .u8) a.2.1,.mapv 0],fun a=>[.map true (.int .i64) (.int .i64) a.2.2],fun a=>a.2.1.length,⟨([],b,[]),⟨by simp,Nat.le_refl _,by simp,V8_,hb,rfl⟩,rfl,rfl⟩,?_⟩;clear h2)
  rintro ⟨acc,y,m⟩ ⟨ja,jy,jl,jm,jb,je⟩
  dsimp only at ja jy jl jm jb je
  repeat'(intro t ht;first|(cases t<;>first|(cases ht;done)|(try simp only[zg_]at ht;try(exfalso;first|contradiction|omega)))|((first|refine zb_ ht ?_|refine ht ?_ ?_|refine ht.1 ?_ ?_|refine ht ?_)<;>clear ht))
  all_goals first
   | exact True.intro
   | ((try simp only [zm_,zn_,zl_] at*);omega)
   | exact ⟨rfl,by decide,by dsimp only;omega⟩
   | (have h0:y.length=0:=by omega
      rw [x6_ h0] at je
      obtain ⟨d1,d2⟩:=(bA_ je).1 (by omega)
      rw [d1,d2];exact ⟨rfl,rfl⟩)
   | (have hT:¬ tlE y 8 8 776=0:=by assumption
      have hi:=bz_ (acc:=acc) hT
      have hg:=wj_ (acc:=acc) (y:=y) (by omega) (by rw [hi];exact hT)
      rw [hi,<- je] at hg
      obtain ⟨d1,d2⟩:=Y6_ (b:=b) (e:=tlE y 8 8 776) (by rw [hg]) hT
      rw [d1,d2];exact ⟨rfl,rfl⟩)
   | (have hT:tlE y 8 8 776=0:=by assumption
      obtain ⟨t1,t2,t3⟩:=V4_ hT
      obtain ⟨i1,i2⟩:=by_ jm hT
      first
       | (show (tlR y 8 8 776).length<=100000;rw [t3];have:=zbx_ jb;omega)
       | (have hr:=jm.r (tlI y 8 8 776 (tT y))
          exact (show IntKind.i64.min<=(zw_ m (tlI y 8 8 776 (tT y))).getD 0+1/\(zw_ m (tlI y 8 8 776 (tT y))).getD 0+1<=IntKind.i64.max from by simp only [zl_];omega))
       | (have h0:¬ o5E (decide (0 < (zw_ m (tlI y 8 8 776 (tT y))).getD 0)) (tlI y 8 8 776 (tT y)) (tlR y 8 8 776)=0:=ht
          have hg:=wj_ (acc:=acc) (y:=y) (by omega) (by rw [<- i1];exact h0)
          rw [<- i1,<- je] at hg
          obtain ⟨d1,d2⟩:=Y6_ (b:=b) (e:=o5E (decide (0 < (zw_ m (tlI y 8 8 776 (tT y))).getD 0)) (tlI y 8 8 776 (tT y)) (tlR y 8 8 776)) (by rw [hg]) h0
          rw [d1,d2];exact ⟨rfl,rfl⟩)
       | (have h0:o5E (decide (0 < (zw_ m (tlI y 8 8 776 (tT y))).getD 0)) (tlI y 8 8 776 (tT y)) (tlR y 8 8 776)=0:=by assumption
          obtain ⟨n1,n2,n3⟩:=UX_ (i1.symm.trans h0)
          first
           | (show 0<=tlI y 8 8 776 (tN y)/\tlI y 8 8 776 (tN y)<=(y.length:Int);rw [t2];omega)
           | (have hg:=UY_ (acc:=acc) (y:=y) (by omega) (i1.symm.trans h0) (by omega)
              have hma:=V9_ (i:=vI acc y) jm
              rw [vI_t] at hma
              refine ⟨(acc++[vI acc y],y.drop (tN y).toNat,kj_ m (tT y) ((zw_ m (tT y)).getD 0+1)),⟨?_,?_,?_,hma,fun z hz=>jb z (List.mem_of_mem_drop hz),je.trans hg⟩,?_,?_,?_⟩
              ·dsimp only;rw [List.length_append,List.length_singleton];omega
              ·dsimp only;rw [List.length_drop];omega
              ·dsimp only;rw [List.length_append,List.length_singleton,List.length_drop];omega
              ·dsimp only;rw [List.length_drop];omega
              ·dsimp only;rw [t2];try rfl
              ·dsimp only;rw [t1];try rfl)
           | fail)
       | fail)
 ·cases e
def VS_:IR:=
(sq (kr [0] [oD 2 (.nilrow Y3),
oD 3 (.mov (cI 0))])
(sq (sq (.reg [oM 10 0,
oE 11 10,
oB 12 .gtr 11 (cI 65528)])
(.cond 12
(sq (kr [0] [oM 13 0,
oC 14 135 [13],
oX 15 14 0,
oX 16 14 1,
oM 2 15,
oM 3 16])
.ret)
.skip))
(sq (.reg [oD 4 (.nilrow Y3)])
(sq (kr [0,4] [oD 17 (.mkmap (.int .i64) (.int .i64)),
oM 5 17])
(sq (.block 0
(.loop
(sq (sq (kr [0,4,5] [oM 18 0,
oE 19 18,
oB 20 .gtr 19 (cI 0)])
(.cond 20
.skip
(.exit 0)))
(.block 1
(sq (kr [0,4,5] [oC 22 125 [],
oM 23 0,
oC 24 136 [22,23],
oM 21 24,
oX 25 21 0,
oX 26 21 1,
oX 27 21 2,
oD 6 (.box [.int .i64 0,.imm (.int .u8) []]),
oS 2 6 25,
oM 7 26,
oM 8 27])
(sq (sq (kr [0,4,5,6,7,8] [oM 28 8,
oB 29 .neq 28 (cI 0)])
(.cond 29
(sq (.reg [oM 30 8,
oD 2 (.nilrow Y3),
oM 3 30])
.ret)
.skip))
(sq (kr [0,4,5,6,7] [oK 32 2 6,
oM 33 5,
oC 34 137 [32,33],
oM 31 34,
oX 35 31 0,
oX 36 31 1,
oD 9 (.box [.int .i64 0,.int .u64 0,.int .u64 0,.imm Y2 [],.imm (.int .u8) []]),
oS 5 9 35,
oM 8 36])
(sq (sq (kr [0,4,5,7,8,9] [oM 37 8,
oB 38 .neq 37 (cI 0)])
(.cond 38
(sq (.reg [oM 39 8,
oD 2 (.nilrow Y3),
oM 3 39])
.ret)
.skip))
(sq (kr [0,4,5,7,9] [oM 40 5,
oA 41 0 9,
oL 42 41,
oD 43 (.mget (.int .i64) (.int .i64) (0:Int) false 40 42),
oB 44 .add 43 (cI 1),
oN (.mput (.int .i64) (.int .i64) 40 42 44)])
(sq (kr [0,4,5,7,9] [oM 45 4,
oK 46 5 9,
oD 47 (.sliceAll Y3 1 [(0,5,46)]),
oD 48 (.append Y3 72 45 47),
oM 4 48])
(.reg [oM 49 0,
oM 50 7,
oD 51 (.slice 1 49 (some 50) none none),
oM 0 51])))))))))))
(sq (kr [4] [oM 52 4,
oM 2 52,
oD 3 (.mov (cI 0))])
.ret))))))
def Vt_:List RD:=[.tmp 2 true (some Y3),.tmp 3 true none]
theorem VF_:zj_ Tryz.prog Tryz.f100 VS_ Vt_=true:=by kernel_rfl
def jc_:List AV->List Obj->Option (Prop × AV)
 | [.imm (.int .u8) b],[]=>some ((b.length<=100000000,.tup [.imm Y3 (idL b),.int .i64 (idE b)]))
 | _,_=>none
theorem YB_:zd_ Tryz.prog 100 (RoF jc_).sum:=by
 refine zi_ Tryz.func100 VF_ (za_ (s:=RoF KH_) WS_ (za_ (s:=RoF qs_) Qx_ (za_ (s:=RoF KQ_) jo_ (za_ (s:=RoF Kc_) jE_ (zc_ _))))) fun args objs p v e=>?_
 unfold jc_ at e
 split at e
 ·rename_i b
  cases e
  refine ⟨rfl,fun hw ho hp=>?_⟩
  change List Int at b
  have hb:∀ z ∈ (b:List Int),(0:Int)<=z/\z<=255:=fun z hz=>(hw (.imm (.int .u8) b) (by simp)).1 z hz
  clear hw ho
  by_cases hlong:65528 < b.length
  ·repeat'(intro t ht;first|(cases t<;>first|(cases ht;done)|(try simp only[zg_]at ht;try(exfalso;first|contradiction|omega)))|((first|refine zb_ ht ?_|refine ht ?_ ?_|refine ht.1 ?_ ?_|refine ht ?_)<;>clear ht))
   all_goals first
    | exact True.intro
    | exact ⟨hp,hlong⟩
    | exact ⟨rfl,rfl⟩
    | (exfalso;omega)
  ·repeat'(intro t ht;first|(cases t<;>first|(cases ht;done)|(try simp only[zg_]at ht;try(exfalso;first|contradiction|omega)))|((first|refine zb_ ht ?_|refine ht ?_ ?_|refine ht.1 ?_ ?_|refine ht ?_)<;>clear ht))
   all_goals first
    | exact True.intro
    | (exfalso;omega)
    | (intro r h1 h2;clear h1;refine h2 ⟨[0,4,5],List VIn × List Int × List (Int × Int),(fun a=>a.1.length+a.2.1.length<=b.length/\mOk a.2.2 a.1/\(∀ z ∈ a.2.1,(0:Int)<=z/\z<=255)/\inG [] b=inG a.1 a.2.1),fun a=>[.imm (.int .u8) a.2.1,.own 0,.mapv 1],fun a=>[.row false Y3 a.1,.map true (.int .i64) (.int .i64) a.2.2],fun a=>a.2.1.length,⟨([],b,[]),⟨by simp,V8_,hb,rfl⟩,rfl,rfl⟩,?_⟩;clear h2)
   rintro ⟨acc,y,m⟩ ⟨jl,jm,jb,je⟩
   dsimp only at jl jm jb je
   repeat'(intro t ht;first|(cases t<;>first|(cases ht;done)|(try simp only[zg_]at ht;try(exfalso;first|contradiction|omega)))|((first|refine zb_ ht ?_|refine ht ?_ ?_|refine ht.1 ?_ ?_|refine ht ?_)<;>clear ht))
   all_goals first
    | exact True.intro
    | ((try simp only [zm_,zn_,zl_] at*);omega)
    | exact ⟨rfl,by decide,by dsimp only;omega⟩
    | (simp only [List.length_cons,List.length_nil];constructor<;>omega)
    | (have h0:y.length=0:=by omega
       rw [x6_ h0] at je
       obtain ⟨d1,d2⟩:=(bA_ je).2 (by omega)
       rw [d1,d2];exact ⟨rfl,rfl⟩)
    | (have hT:¬ tlE y 8 8 776=0:=by assumption
       have hi:=bz_ (acc:=acc) hT
       have hg:=wj_ (acc:=acc) (y:=y) (by omega) (by rw [hi];exact hT)
       rw [hi,<- je] at hg
       obtain ⟨d1,d2⟩:=Y6_ (b:=b) (e:=tlE y 8 8 776) (by rw [hg]) hT
       rw [d1,d2];exact ⟨rfl,rfl⟩)
    | (have hT:tlE y 8 8 776=0:=by assumption
       obtain ⟨t1,t2,t3⟩:=V4_ hT
       obtain ⟨i1,i2⟩:=by_ jm hT
       have i3:(o5V (decide (0 < (zw_ m (tlI y 8 8 776 (tT y))).getD 0)) (tlI y 8 8 776 (tT y)) (tlR y 8 8 776)).1=tT y:=by rw [i2];exact vI_t
       first
        | (show (tlR y 8 8 776).length<=100000;rw [t3];have:=zbx_ jb;omega)
        | (have hr:=jm.r (o5V (decide (0 < (zw_ m (tlI y 8 8 776 (tT y))).getD 0)) (tlI y 8 8 776 (tT y)) (tlR y 8 8 776)).1
           exact (show IntKind.i64.min<=(zw_ m (o5V (decide (0 < (zw_ m (tlI y 8 8 776 (tT y))).getD 0)) (tlI y 8 8 776 (tT y)) (tlR y 8 8 776)).1).getD 0+1/\(zw_ m (o5V (decide (0 < (zw_ m (tlI y 8 8 776 (tT y))).getD 0)) (tlI y 8 8 776 (tT y)) (tlR y 8 8 776)).1).getD 0+1<=IntKind.i64.max from by simp only [zl_];omega))
        | (have h0:¬ o5E (decide (0 < (zw_ m (tlI y 8 8 776 (tT y))).getD 0)) (tlI y 8 8 776 (tT y)) (tlR y 8 8 776)=0:=ht
           have hg:=wj_ (acc:=acc) (y:=y) (by omega) (by rw [<- i1];exact h0)
           rw [<- i1,<- je] at hg
           obtain ⟨d1,d2⟩:=Y6_ (b:=b) (e:=o5E (decide (0 < (zw_ m (tlI y 8 8 776 (tT y))).getD 0)) (tlI y 8 8 776 (tT y)) (tlR y 8 8 776)) (by rw [hg]) h0
           rw [d1,d2];exact ⟨rfl,rfl⟩)
        | (have h0:o5E (decide (0 < (zw_ m (tlI y 8 8 776 (tT y))).getD 0)) (tlI y 8 8 776 (tT y)) (tlR y 8 8 776)=0:=by assumption
           obtain ⟨n1,n2,n3⟩:=UX_ (i1.symm.trans h0)
           first
            | (show 0<=tlI y 8 8 776 (tN y)/\tlI y 8 8 776 (tN y)<=(y.length:Int);rw [t2];omega)
            | (have hg:=UY_ (acc:=acc) (y:=y) (by omega) (i1.symm.trans h0) (by omega)
               have hma:=V9_ (i:=vI acc y) jm
               refine ⟨(acc++[vI acc y],y.drop (tN y).toNat,kj_ m (vI acc y).1 ((zw_ m (vI acc y).1).getD 0+1)),⟨?_,hma,fun z hz=>jb z (List.mem_of_mem_drop hz),je.trans hg⟩,?_,?_,?_⟩
               ·dsimp only;rw [List.length_append,List.length_singleton,List.length_drop];omega
               ·dsimp only;rw [List.length_drop];omega
               ·dsimp only;rw [t2];try rfl
               ·dsimp only;rw [<- i2];try rfl)
            | fail)
        | fail)
 ·cases e
def itL5 (b:List Int) (p e:Int):List VIn:=if e=0 then idL (b.drop p.toNat) else []
def GD_ (b:List Int) (p e:Int):Int:=if e=0 then idE (b.drop p.toNat) else e
def GR_:IR:=
(sq (kr [0] [oD 2 (.mov (.c (.imm Y3 [])))])
(sq (.reg [oM 6 0,
oC 7 99 [6],
oM 3 7])
(sq (sq (.reg [oM 8 0,
oC 9 43 [8],
oB 10 .neq 9 (cI 0)])
(.cond 10
(sq (kr [] [oD 2 (.mov (.c (.imm Y3 [])))])
.ret)
.skip))
(sq (kr [0,3] [oM 12 3,
oC 13 100 [12],
oM 11 13,
oX 14 11 0,
oX 15 11 1,
oM 4 14,
oM 5 15])
(sq (kr [0,4,5] [oM 16 0,
oM 17 5,
oC 18 44 [16,17]])
(sq (.reg [oM 19 4,
oM 2 19])
.ret))))))
def gY_:List RD:=[.tmp 2 true (some Y3)]
theorem Go_:zj_ Tryz.prog Tryz.f46 GR_ gY_=true:=by kernel_rfl
def wE_:List AV->List Obj->Option (Prop × AV × List Obj)
 | [.ptr 0 0],[.box [.imm (.int .u8) b,.int .i64 p,.int .i64 sh,.int .i64 od,.int .i64 e,.bool true]]=>some ((0<=p/\p<=b.length/\b.length<=100000000/\sh ≠ 0,.imm Y3 (itL5 b p e),[.box [.imm (.int .u8) b,.int .i64 ((if e=0 then (b.length:Int) else p)),.int .i64 sh,.int .i64 od,.int .i64 (GD_ b p e),.bool true]]))
 | _,_=>none
theorem uB_:zd_ Tryz.prog 46 (RwF wE_).sum:=by
 refine qg_ Tryz.func46 Go_ (za_ (s:=RwF Zd_) ZG_ (za_ (s:=RoF zp_) zq_ (za_ (s:=RoF jc_) YB_ (za_ (s:=RwF zr_) zs_ (zc_ _))))) fun args objs p v o e=>?_
 unfold wE_ at e
 split at e
 ·rename_i b p sh od e
  cases e
  refine ⟨rfl,fun hw ho hp=>?_⟩
  change List Int at b
  clear hw ho
  obtain ⟨h1,h2,h3,h4⟩:=hp
  have hl:(b.drop p.toNat).length<=100000000:=by rw [List.length_drop];omega
  by_cases he:e=0
  ·subst he
   have f0:∀ x,zt_ 0 x=x:=fun x=>if_pos rfl
   repeat'(intro t ht;first|(cases t<;>first|(cases ht;done)|(try simp only[zg_]at ht;try(exfalso;first|contradiction|omega)))|((first|refine zb_ ht ?_|refine ht ?_ ?_|refine ht.1 ?_ ?_|refine ht ?_)<;>clear ht))
   all_goals first
    | exact True.intro
    | exact ⟨h1,h2,by omega,h4⟩
    | exact hl
    | exact ⟨rfl,rfl⟩
    | (exfalso;omega)
  ·repeat'(intro t ht;first|(cases t<;>first|(cases ht;done)|(try simp only[zg_]at ht;try(exfalso;first|contradiction|omega)))|((first|refine zb_ ht ?_|refine ht ?_ ?_|refine ht.1 ?_ ?_|refine ht ?_)<;>clear ht))
   all_goals first
    | exact True.intro
    | exact ⟨h1,h2,by omega,h4⟩
    | (unfold itL5 GD_;rw [if_neg he,if_neg he,if_neg he];exact ⟨rfl,rfl⟩)
    | (exfalso;omega)
 ·cases e
end Go.Eng
