/- Parts of the proof: I8, I9, Y6, YC. No condition. -/
import Derived.Test.YteihcoggfaenaaaGreatDoorProg
import Derived.Test.YteihcoggfaenaaaGreatDoorWF10
import Derived.KernelRfl
import Derived.Test.YteihcoggfaenaaaGreatDoorWF22
import Derived.Test.YteihcoggfaenaaaGreatDoorWF23
import Derived.Test.YteihcoggfaenaaaGreatDoorWF18
import Derived.Test.YteihcoggfaenaaaGreatDoorWF20
namespace Go.Eng
open Go.Proofs
set_option linter.unusedVariables false
set_option linter.unusedSimpArgs false
set_option maxRecDepth 100000
set_option maxHeartbeats 1000000
theorem zcY_ {l:List VIn} {i:Nat} {d:VIn} {k:Int} (h:i < l.length):dbI (l.drop i) k=(decide ((l.getD i d).1=k) && decide (¬ k=65535) || dbI (l.drop (i+1)) k):=by
 unfold dbI snI
 rw [zz_ h d,List.any_cons]
 cases decide ((l.getD i d).1=k)<;>simp
def BJ_:IR:=
(sq (kr [0,1] [oD 4 (.mov cF)])
(sq (sq (.reg [oD 5 (.mov (cI 0))])
(.block 0
(.loop
(sq (sq (kr [0,1,5] [oM 6 5,
oM 7 0,
oE 8 7,
oB 9 .lss 6 8])
(.cond 9
.skip
(.exit 0)))
(sq (.block 1
(sq (kr [0,1,5] [oM 12 0,
oM 13 5,
oI 14 5 12 13,
oA 15 0 14,
oL 16 15,
oM 17 1,
oB 18 .eql 16 17,
oM 19 18,
oT 19 20 (.mov 1),
oT 19 21 (.bin .neq 20 (cI 65535)),
oP 22 19 21 cF])
(.cond 22
(sq (kr [] [oD 4 (.mov cT)])
.ret)
.skip)))
(kr [0,1,5] [oM 10 5,
oB 11 .add 10 (cI 1),
oM 5 11]))))))
(sq (kr [] [oD 4 (.mov cF)])
.ret)))
def bj_:List RD:=[.tmp 4 true none]
theorem bW_:zk_ Tryz.prog Tryz.f92 BJ_ bj_=true:=by kernel_rfl
def xU_:List AV->List Obj->Option (Prop × AV)
 | [.imm ty0 l,.int .i64 k],[]=>qb_ ty0 Y3 l fun l=>some ((True,.bool (dbI l k)))
 | [.own 0,.int .i64 k],[.row false ty0 l]=>qb_ ty0 Y3 l fun l=>some ((l.length<=100000000,.bool (dbI l k)))
 | _,_=>none
theorem g1_:zd_ Tryz.prog 92 (RoF xU_).sum:=by
 refine zi_ Tryz.func92 bW_ (zc_ _) fun args objs p v e=>?_
 unfold xU_ at e
 split at e
 ·rename_i ty0 l k
  obtain rfl:=zX_ e
  replace e:=zY_ e
  cases e
  refine ⟨rfl,fun hw ho hp=>?_⟩
  change List VIn at l
  have hl:l.length<=maxLen:=(hw (.imm Y3 l) (by simp)).2
  unfold maxLen at hl
  clear hw ho
  repeat'(intro t ht;first|(cases t<;>first|(cases ht;done)|(try simp only[zg_]at ht;try(exfalso;first|contradiction|omega)))|((first|refine zb_ ht ?_|refine ht ?_ ?_|refine ht.1 ?_ ?_|refine ht ?_)<;>clear ht))
  all_goals first
   | exact True.intro
   | (intro r h1 h2;clear h1;refine h2 ⟨[0,1,5],Nat,(fun i=>i<=l.length/\dbI l k=dbI (l.drop i) k),fun i=>[.imm Y3 l,.int .i64 k,.int .i64 i],fun i=>[],fun i=>l.length - i,⟨0,⟨Nat.zero_le _,rfl⟩,rfl,rfl⟩,?_⟩;clear h2)
  rintro i ⟨hi,he⟩
  repeat'(intro t ht;first|(cases t<;>first|(cases ht;done)|(try simp only[zg_]at ht;try(exfalso;first|contradiction|omega)))|((first|refine zb_ ht ?_|refine ht ?_ ?_|refine ht.1 ?_ ?_|refine ht ?_)<;>clear ht))
  all_goals (try generalize (Ty.dflt Y3)=od at*)
  all_goals first
   | exact True.intro
   | ((try simp only [zm_,zn_,zl_] at*);omega)
   | (rw [he,List.drop_of_length_le (by omega)];exact ⟨rfl,rfl⟩)
   | (have hs:=he.trans (zcY_ (d:=od) (by omega))
      first
       | (have h1:(l.getD i od).1=k:=by assumption
          have h2:¬ k=65535:=by assumption
          rw [decide_eq_true h1,decide_eq_true h2] at hs
          rw [hs];exact ⟨rfl,rfl⟩)
       | (have h0:(decide ((l.getD i od).1=k) && decide (¬ k=65535))=false:=by
           first
            | (rw [decide_eq_false (show ¬ (l.getD i od).1=k from ht)];rfl)
            | (rw [decide_eq_false (not_not_intro (show k=65535 by assumption)),Bool.and_false])
          rw [h0,Bool.false_or] at hs
          exact ⟨i+1,⟨by omega,hs⟩,by (try dsimp only);omega,rfl,rfl⟩)
       | fail)
 ·rename_i k ty0 l
  obtain rfl:=zX_ e
  replace e:=zY_ e
  cases e
  refine ⟨rfl,fun hw ho hp=>?_⟩
  change List VIn at l
  clear hw ho
  repeat'(intro t ht;first|(cases t<;>first|(cases ht;done)|(try simp only[zg_]at ht;try(exfalso;first|contradiction|omega)))|((first|refine zb_ ht ?_|refine ht ?_ ?_|refine ht.1 ?_ ?_|refine ht ?_)<;>clear ht))
  all_goals first
   | exact True.intro
   | (intro r h1 h2;clear h1;refine h2 ⟨[0,1,5],Nat,(fun i=>i<=l.length/\dbI l k=dbI (l.drop i) k),fun i=>[.own 0,.int .i64 k,.int .i64 i],fun i=>[.row false Y3 l],fun i=>l.length - i,⟨0,⟨Nat.zero_le _,rfl⟩,rfl,rfl⟩,?_⟩;clear h2)
  rintro i ⟨hi,he⟩
  repeat'(intro t ht;first|(cases t<;>first|(cases ht;done)|(try simp only[zg_]at ht;try(exfalso;first|contradiction|omega)))|((first|refine zb_ ht ?_|refine ht ?_ ?_|refine ht.1 ?_ ?_|refine ht ?_)<;>clear ht))
  all_goals (try generalize (Ty.dflt Y3)=od at*)
  all_goals first
   | exact True.intro
   | ((try simp only [zm_,zn_,zl_] at*);omega)
   | (rw [he,List.drop_of_length_le (by omega)];exact ⟨rfl,rfl⟩)
   | (have hs:=he.trans (zcY_ (d:=od) (by omega))
      first
       | (have h1:(l.getD i od).1=k:=by assumption
          have h2:¬ k=65535:=by assumption
          rw [decide_eq_true h1,decide_eq_true h2] at hs
          rw [hs];exact ⟨rfl,rfl⟩)
       | (have h0:(decide ((l.getD i od).1=k) && decide (¬ k=65535))=false:=by
           first
            | (rw [decide_eq_false (show ¬ (l.getD i od).1=k from ht)];rfl)
            | (rw [decide_eq_false (not_not_intro (show k=65535 by assumption)),Bool.and_false])
          rw [h0,Bool.false_or] at hs
          exact ⟨i+1,⟨by omega,hs⟩,by (try dsimp only);omega,rfl,rfl⟩)
       | fail)
 ·cases e
def UF_ (i:VIn):List Int:=if (bdO i).isSome=true then enI i else []
theorem zin_ {i:VIn} {y:List Int} (h:BdOk i y):UF_ i=enH i.1 y/\(bdO i).isSome=true:=by
 have hb:=jN_.2 h
 unfold UF_ enI;rw [vJ_ hb,hb];exact ⟨rfl,rfl⟩
theorem zio_ {i:VIn} (h:bdO i=none):UF_ i=[]/\(bdO i).isSome=false:=by
 unfold UF_;rw [h];exact ⟨rfl,rfl⟩
theorem zk5_ (l:List AC):(alL l).length<=65528:=by
 unfold alL;split
 ·rename_i h;exact (q9_ h).2.2.1
 ·exact Nat.zero_le _
theorem zkX_ {l:List AC} (h:l.all rgA=true):(boA l).length=0 ↔ l.length=0:=by
 have:=(YH_ l h).2
 constructor
 ·intro h;omega
 ·intro h;rw [List.eq_nil_of_length_eq_zero h];rfl
def zeU_:IR:=
(sq (kr [0] [oD 1 (.boxv 0),
oD 2 (.nilrow (.int .u8)),
oD 3 (.mov cF)])
(sq (kr [1] [oA 12 0 1,
oL 13 12,
oC 14 106 [13],
oM 11 14,
oX 15 11 0,
oX 16 11 1,
oM 4 15,
oM 5 16])
(sq (sq (kr [1,4,5] [oM 17 5,
oD 18 (.un .not 17),
oM 19 18,
oF 19 20 (.load (some 5) 1),
oF 19 21 (.call false (.f 107) [20]),
oF 19 22 (.bin .neq 21 (cI 0)),
oP 23 19 cT 22])
(.cond 23
(sq (kr [] [oD 2 (.nilrow (.int .u8)),
oD 3 (.mov cF)])
.ret)
.skip))
(sq (kr [1,4] [oM 24 4,
oC 25 86 [24],
oM 6 25])
(sq (kr [1,4,6] [oM 27 4,
oA 28 1 1,
oL 29 28,
oA 30 2 1,
oL 31 30,
oD 32 (.sliceAll (.int .u64) 2 [(0,1,29),(1,1,31)]),
oM 33 6,
oD 34 (.slice 1 32 none (some 33) none),
oC 35 35 [27,34],
oM 26 35,
oX 36 26 0,
oX 37 26 1,
oM 7 36,
oM 8 37])
(sq (sq (kr [1,6,7,8] [oM 38 8,
oD 39 (.un .not 38),
oM 40 39,
oF 40 41 (.mov 6),
oF 40 42 (.bin .lss 41 (cI 2)),
oF 40 43 (.mov 42),
oT 43 44 (.fieldAddr 2 1),
oT 43 45 (.load none 44),
oT 43 46 (.bin .neq 45 (.c (.int .u64 0))),
oF 40 47 (.pick 43 46 cF),
oP 48 40 cT 47,
oM 49 48,
oF 49 50 (.mov 6),
oF 49 51 (.bin .lss 50 (cI 1)),
oF 49 52 (.mov 51),
oT 52 53 (.fieldAddr 1 1),
oT 52 54 (.load none 53),
oT 52 55 (.bin .neq 54 (.c (.int .u64 0))),
oF 49 56 (.pick 52 55 cF),
oP 57 49 cT 56])
(.cond 57
(sq (kr [] [oD 2 (.nilrow (.int .u8)),
oD 3 (.mov cF)])
.ret)
.skip))
(sq (kr [1,7] [oA 59 3 1,
oL 60 59,
oC 61 128 [60],
oM 58 61,
oX 62 58 0,
oX 63 58 1,
oM 9 62,
oM 10 63])
(sq (sq (kr [1,7,9,10] [oM 64 10,
oB 65 .neq 64 (cI 0),
oM 66 65,
oF 66 67 (.mov 9),
oF 66 68 (.len 67),
oF 66 69 (.bin .gtr 68 (cI 0)),
oF 66 70 (.mov 69),
oT 70 71 (.fieldAddr 0 1),
oT 70 72 (.load none 71),
oT 70 73 (.bin .neq 72 (cI 3)),
oF 66 74 (.pick 70 73 cF),
oF 66 75 (.mov 74),
oT 75 76 (.fieldAddr 0 1),
oT 75 77 (.load none 76),
oT 75 78 (.bin .neq 77 (cI 4)),
oF 66 79 (.pick 75 78 cF),
oP 80 66 cT 79,
oM 81 80,
oF 81 82 (.fieldAddr 4 1),
oF 81 83 (.load none 82),
oF 81 84 (.len 83),
oF 81 85 (.bin .gtr 84 (cI 0)),
oF 81 86 (.mov 85),
oT 86 87 (.fieldAddr 0 1),
oT 86 88 (.load none 87),
oT 86 89 (.bin .neq 88 (cI 65535)),
oF 81 90 (.pick 86 89 cF),
oP 91 81 cT 90,
oM 92 91,
oF 92 93 (.fieldAddr 4 1),
oF 92 94 (.load none 93),
oF 92 95 (.len 94),
oF 92 96 (.bin .rem 95 (cI 8)),
oF 92 97 (.bin .neq 96 (cI 0)),
oP 98 92 cT 97])
(.cond 98
(sq (kr [] [oD 2 (.nilrow (.int .u8)),
oD 3 (.mov cF)])
.ret)
.skip))
(sq (kd [1,7,9] [(oM 99 7,[]),
(oM 100 9,[0]),
(oD 101 (.append (.int .u8) 1 99 100),[]),
(oA 102 4 1,[0,0,0]),
(oL 103 102,[1,0,0]),
(oD 104 (.append (.int .u8) 1 101 103),[]),
(oM 7 104,[])])
(sq (sq (kr [1,7] [oM 105 7,
oE 106 105,
oB 107 .add (cI 4) 106,
oB 108 .gtr 107 (cI 65528)])
(.cond 108
(sq (.reg [oD 2 (.nilrow (.int .u8)),
oD 3 (.mov cF)])
.ret)
.skip))
(sq (kr [1,7] [oA 109 0 1,
oL 110 109,
oD 111 (.conv .u64 110),
oC 112 88 [111,(cI 2)],
oM 113 7,
oE 114 113,
oB 115 .add (cI 4) 114,
oD 116 (.conv .u64 115),
oC 117 88 [116,(cI 2)],
oD 118 (.append (.int .u8) 1 112 117),
oM 119 7,
oD 120 (.append (.int .u8) 1 118 119),
oM 2 120,
oD 3 (.mov cT)])
.ret)))))))))))
def zdQ_:List RD:=[.tmp 2 true (some (.int .u8)),.tmp 3 true none]
theorem zej_:zk_ Tryz.prog Tryz.f91 zeU_ zdQ_=true:=by kernel_rfl
def vT_:List AV->List Obj->Option (Prop × AV)
 | [.agg [.int .i64 tt,.int .u64 a,.int .u64 b,.imm ty0 c,.imm (.int .u8) d]],[]=>qb_ ty0 Y2 c fun c=>some ((okL c/\d.length<=1000000,.tup [.imm (.int .u8) (UF_ ((tt,a,b,c,d,()):VIn)),.bool (bdO ((tt,a,b,c,d,()):VIn)).isSome]))
 | _,_=>none
theorem zaR_:zd_ Tryz.prog 91 (RoF vT_).sum:=by
 refine zi_ Tryz.func91 zej_ (za_ (s:=RoF vS_) zaQ_ (za_ (s:=RoF xV_) g2_ (za_ (s:=RoF Ko_) jZ_ (za_ (s:=RwF Kn_) jY_ (za_ (s:=RoF wI_) uQ_ (za_ (s:=RwF Qf_) qL_ (zc_ _))))))) fun args objs p v e=>?_
 unfold vT_ at e
 split at e
 ·rename_i tt a b ty0 c d
  obtain rfl:=zX_ e
  replace e:=zY_ e
  cases e
  refine ⟨rfl,fun hw ho hp=>?_⟩
  change List Int at d
  clear hw ho
  change List AC at c
  obtain ⟨hc,hd⟩:=hp
  have hwi:kI tt=true->0<=zo_ (wI tt)/\zo_ (wI tt)<=2:=fun h=>(zaI_ h).2
  have hpl:=y9_ (wI tt) ([a,b].take (zo_ (wI tt)).toNat)
  have hal:=zk5_ c
  cases hb:bdO ((tt,a,b,c,d,()):VIn) with
  | some y=>
    have g:=jN_.1 hb
    obtain ⟨q1,q2⟩:=zin_ g
    rw [hb] at q2
    rw [q1]
    have g1:kI tt=true:=g.k
    have g1':¬ kI tt=false:=fun z=>by rw [g1] at z;cases z
    have g2:qI tt a b=0:=g.q
    have g3:2<=zo_ (wI tt)\/b=0:=g.b
    have g4:1<=zo_ (wI tt)\/a=0:=g.a
    have g8:ZM_ (wI tt) ([a,b].take (zo_ (wI tt)).toNat)=true:=g.p
    have g8':¬ ZM_ (wI tt) ([a,b].take (zo_ (wI tt)).toNat)=false:=fun z=>by rw [g8] at z;cases z
    have hE:alE c=0:=if_pos g.r
    have hL:alL c=boA c:=if_pos g.r
    have g5:(tt=3\/tt=4)\/(alL c).length=0:=by
     rcases g.d with z | z
     ·left;unfold dI at z;simpa using z
     ·right;rw [hL,show c=[] from z];rfl
    have g6:tt=65535\/d.length=0:=by
     rcases g.e with z | z
     ·exact .inl z
     ·right;rw [show d=[] from z];rfl
    have g7:(d.length:Int).tmod 8=0:=by
     have z:d.length % 8=0:=g.m
     rw [Int.tmod_eq_emod_of_nonneg (by omega)];omega
    have g9:y=zR_ (wI tt) ([a,b].take (zo_ (wI tt)).toNat)++alL c++d:=by rw [hL];exact g.s
    have g10:y.length=(zR_ (wI tt) ([a,b].take (zo_ (wI tt)).toNat)).length+(alL c).length+d.length:=by rw [g9,List.length_append,List.length_append]
    have g11:=g.l
    obtain ⟨w1,w2⟩:=hwi g1
    have hki:=ziT_ g1
    have l2:(ze_ tt 2).length=2:=by have:=zj_ (n:=tt) (w:=2) (by decide);omega
    have l3:∀ n:Int,(ze_ n 2).length=2:=fun n=>by have:=zj_ (n:=n) (w:=2) (by decide);omega
    clear hwi g hb
    repeat'(intro t ht;first|(cases t<;>first|(cases ht;done)|(try simp only[zg_]at ht;try(exfalso;first|contradiction|omega)))|((first|refine zb_ ht ?_|refine ht ?_ ?_|refine ht.1 ?_ ?_|refine ht ?_)<;>clear ht))
    all_goals first
     | exact True.intro
     | exact hc
     | exact (by decide:(8:Int) ≠ 0)
     | exact (by decide:(0:Int)<=2/\(2:Int)<=100)
     | exact ⟨w1,w2⟩
     | exact (show ((zR_ (wI tt) ([a,b].take (zo_ (wI tt)).toNat)).length+(alL c).length)*1<=140737488355328/\(zR_ (wI tt) ([a,b].take (zo_ (wI tt)).toNat)).length+(alL c).length<=140737488355328 by omega)
     | exact (show ((zR_ (wI tt) ([a,b].take (zo_ (wI tt)).toNat)++alL c).length+d.length)*1<=140737488355328/\(zR_ (wI tt) ([a,b].take (zo_ (wI tt)).toNat)++alL c).length+d.length<=140737488355328 by rw [List.length_append];omega)
     | exact (show IntKind.u64.min<=tt/\tt<=IntKind.u64.max by simp only [zl_];omega)
     | exact (show IntKind.i64.min<=4+((zR_ (wI tt) ([a,b].take (zo_ (wI tt)).toNat)++alL c++d).length:Int)/\4+((zR_ (wI tt) ([a,b].take (zo_ (wI tt)).toNat)++alL c++d).length:Int)<=IntKind.i64.max by rw [List.length_append,List.length_append];simp only [zl_];omega)
     | exact (show IntKind.u64.min<=4+((zR_ (wI tt) ([a,b].take (zo_ (wI tt)).toNat)++alL c++d).length:Int)/\4+((zR_ (wI tt) ([a,b].take (zo_ (wI tt)).toNat)++alL c++d).length:Int)<=IntKind.u64.max by rw [List.length_append,List.length_append];simp only [zl_];omega)
     | (simp only [List.length_append,l2,l3];first | (constructor<;>omega) | omega)
     | (exfalso;rw [List.length_append,List.length_append] at ht;omega)
     | (rw [<- g9] at*;exact ⟨rfl,rfl⟩)
  | none=>
    obtain ⟨q1,q2⟩:=zio_ hb
    rw [q1]
    have hno:¬ (kI tt=true/\qI tt a b=0/\(2<=zo_ (wI tt)\/b=0)/\(1<=zo_ (wI tt)\/a=0)/\((tt=3\/tt=4)\/(alL c).length=0)/\(tt=65535\/d.length=0)/\(d.length:Int).tmod 8=0/\ZM_ (wI tt) ([a,b].take (zo_ (wI tt)).toNat)=true/\alE c=0/\(zR_ (wI tt) ([a,b].take (zo_ (wI tt)).toNat)).length+(alL c).length+d.length<=65524):=by
     rintro ⟨g1,g2,g3,g4,g5,g6,g7,g8,g9,g10⟩
     have hr:rgL c=true:=by
      unfold alE at g9
      split at g9
      ·assumption
      ·cases g9
     have hL:alL c=boA c:=if_pos hr
     rw [hL] at g5 g10
     have g:BdOk ((tt,a,b,c,d,()):VIn) (zR_ (wI tt) ([a,b].take (zo_ (wI tt)).toNat)++boA c++d):=by
      refine ⟨g1,g2,g3,g4,?_,?_,?_,g8,hr,rfl,?_⟩
      ·rcases g5 with z | z
       ·left;show dI tt=true;unfold dI;simpa using z
       ·right;exact List.eq_nil_of_length_eq_zero ((zkX_ (q9_ hr).1).1 z)
      ·rcases g6 with z | z
       ·exact .inl z
       ·right;exact List.eq_nil_of_length_eq_zero z
      ·rw [Int.tmod_eq_emod_of_nonneg (by omega)] at g7;show d.length % 8=0;omega
      ·rw [List.length_append,List.length_append];omega
     have:=jN_.2 g
     rw [hb] at this;cases this
    clear hb
    repeat'(intro t ht;first|(cases t<;>first|(cases ht;done)|(try simp only[zg_]at ht;try(exfalso;first|contradiction|omega)))|((first|refine zb_ ht ?_|refine ht ?_ ?_|refine ht.1 ?_ ?_|refine ht ?_)<;>clear ht))
    all_goals first
     | exact True.intro
     | exact hc
     | exact ⟨rfl,rfl⟩
     | exact (by decide:(8:Int) ≠ 0)
     | exact (by decide:(0:Int)<=2/\(2:Int)<=100)
     | exact hwi (by assumption)
     | exact (show ((zR_ (wI tt) ([a,b].take (zo_ (wI tt)).toNat)).length+(alL c).length)*1<=140737488355328/\(zR_ (wI tt) ([a,b].take (zo_ (wI tt)).toNat)).length+(alL c).length<=140737488355328 by omega)
     | exact (show ((zR_ (wI tt) ([a,b].take (zo_ (wI tt)).toNat)++alL c).length+d.length)*1<=140737488355328/\(zR_ (wI tt) ([a,b].take (zo_ (wI tt)).toNat)++alL c).length+d.length<=140737488355328 by rw [List.length_append];omega)
     | exact (show IntKind.i64.min<=4+((zR_ (wI tt) ([a,b].take (zo_ (wI tt)).toNat)++alL c++d).length:Int)/\4+((zR_ (wI tt) ([a,b].take (zo_ (wI tt)).toNat)++alL c++d).length:Int)<=IntKind.i64.max by rw [List.length_append,List.length_append];simp only [zl_];omega)
     | (exfalso;rw [List.length_append,List.length_append] at*;refine hno ⟨by assumption,by assumption,by omega,by omega,by omega,by omega,by assumption,by assumption,by assumption,by omega⟩)
 ·cases e
theorem zjA_ {l:List VIn} {i:Nat} {d:VIn} (h:i < l.length):boI (l.take (i+1))=boI (l.take i)++enI (l.getD i d):=by
 unfold boI
 rw [<- ks_ (d:=d) h,List.flatMap_append];simp
theorem zko_ {i:VIn}:(UF_ i).length<=65528:=by
 unfold UF_;split
 ·rename_i h
  obtain ⟨y,hy⟩:=Option.isSome_iff_exists.1 h
  have:=(zau_ hy).2.2
  unfold enI;rw [Xk_,vJ_ hy];omega
 ·exact Nat.zero_le _
theorem zhk_ {l:List VIn} {i:Nat} (h:gdL [] (l.take i)=true):gdL [] l=gdL (l.take i) (l.drop i):=by
 have:=zaf_ (l.take i) (l.drop i) []
 rw [List.take_append_drop,h,Bool.true_and,List.nil_append] at this;exact this
theorem zja_ {l:List VIn} {i:Nat} {d:VIn} (hl:i < l.length) (h:gdL [] (l.take i)=true) (h1:(bdO (l.getD i d)).isSome=true) (h2:dbI (l.take i) (l.getD i d).1=false):gdL [] (l.take (i+1))=true:=by
 rw [<- ks_ (d:=d) hl,zaf_,h,Bool.true_and,List.nil_append,zjb_,h1,h2];rfl
theorem zcH_ {l:List VIn} {i:Nat} {d:VIn} (hl:i < l.length) (h:gdL [] (l.take i)=true) (h1:(bdO (l.getD i d)).isSome=false\/dbI (l.take i) (l.getD i d).1=true):gdL [] l=false:=by
 rw [zhk_ h,zcG_ (d:=d) hl]
 rcases h1 with h1 | h1<;>rw [h1]<;>simp
def hi_:IR:=
(sq (kr [0] [oD 2 (.nilrow (.int .u8)),
oD 3 (.mov (cI 0))])
(sq (.reg [oD 4 (.nilrow (.int .u8))])
(sq (sq (.reg [oD 5 (.mov (cI 0))])
(.block 0
(.loop
(sq (sq (kr [0,4,5] [oM 8 5,
oM 9 0,
oE 10 9,
oB 11 .lss 8 10])
(.cond 11
.skip
(.exit 0)))
(sq (.block 1
(sq (kr [0,4,5] [oM 15 0,
oM 16 5,
oI 17 5 15 16,
oK 18 5 17,
oC 19 91 [18],
oM 14 19,
oX 20 14 0,
oX 21 14 1,
oM 6 20,
oM 7 21])
(sq (sq (kd [0,4,5,6,7] [(oM 22 7,[]),
(oD 23 (.un .not 22),[]),
(oM 24 23,[]),
(oF 24 25 (.mov 0),[]),
(oF 24 26 (.mov 5),[0]),
(oF 24 27 (.slice 5 25 none (some 26) none),[]),
(oF 24 28 (.mov 0),[0,0,0]),
(oF 24 29 (.mov 5),[0,0,0,0]),
(oF 24 30 (.indexSl 5 28 29),[2,0,0]),
(oF 24 31 (.fieldAddr 0 30),[3,0,0]),
(oF 24 32 (.load none 31),[4,0,0]),
(oF 24 33 (.call false (.f 92) [27,32]),[]),
(oP 34 24 cT 33,[])])
(.cond 34
(sq (kr [] [oD 2 (.nilrow (.int .u8)),
oD 3 (.mov (cI 10001))])
.ret)
.skip))
(kr [0,4,5,6] [oM 35 4,
oM 36 6,
oD 37 (.append (.int .u8) 1 35 36),
oM 4 37]))))
(kr [0,4,5] [oM 12 5,
oB 13 .add 12 (cI 1),
oM 5 13]))))))
(sq (sq (kr [4] [oM 38 4,
oE 39 38,
oB 40 .gtr 39 (cI 65528)])
(.cond 40
(sq (.reg [oD 2 (.nilrow (.int .u8)),
oD 3 (.mov (cI 10001))])
.ret)
.skip))
(sq (.reg [oM 41 4,
oM 2 41,
oD 3 (.mov (cI 0))])
.ret)))))
def Gi_:List RD:=[.tmp 2 true (some (.int .u8)),.tmp 3 true none]
theorem GM_:zk_ Tryz.prog Tryz.f38 hi_ Gi_=true:=by kernel_rfl
def wH_:List AV->List Obj->Option (Prop × AV)
 | [.imm ty0 l],[]=>qb_ ty0 Y3 l fun l=>some ((okI l,.tup [.imm (.int .u8) (ieL l),.int .i64 (ieE l)]))
 | _,_=>none
theorem uP_:zd_ Tryz.prog 38 (RoF wH_).sum:=by
 refine zi_ Tryz.func38 GM_ (za_ (s:=RoF vT_) zaR_ (za_ (s:=RoF xU_) g1_ (zc_ _))) fun args objs p v e=>?_
 unfold wH_ at e
 split at e
 ·rename_i ty0 l
  obtain rfl:=zX_ e
  replace e:=zY_ e
  cases e
  refine ⟨rfl,fun hw ho hp=>?_⟩
  change List VIn at l
  clear hw ho
  obtain ⟨hok,hn⟩:=hp
  repeat'(intro t ht;first|(cases t<;>first|(cases ht;done)|(try simp only[zg_]at ht;try(exfalso;first|contradiction|omega)))|((first|refine zb_ ht ?_|refine ht ?_ ?_|refine ht.1 ?_ ?_|refine ht ?_)<;>clear ht))
  all_goals first
   | exact True.intro
   | (intro r h1 h2;clear h1;refine h2 ⟨[0,4,5],Nat,(fun i=>i<=l.length/\gdL [] (l.take i)=true),fun i=>[.imm Y3 l,.own 0,.int .i64 i],fun i=>[.row false (.int .u8) (boI (l.take i))],fun i=>l.length - i,⟨0,⟨Nat.zero_le _,rfl⟩,rfl,rfl⟩,?_⟩;clear h2)
  rintro i ⟨hi,hg⟩
  have hbl:=zgz_ (uD_ hg)
  rw [List.length_take,Nat.min_eq_left hi] at hbl
  repeat'(intro t ht;first|(cases t<;>first|(cases ht;done)|(try simp only[zg_]at ht;try(exfalso;first|contradiction|omega)))|((first|refine zb_ ht ?_|refine ht ?_ ?_|refine ht.1 ?_ ?_|refine ht ?_)<;>clear ht))
  all_goals (try generalize (Ty.dflt Y3)=od at*)
  all_goals first
   | exact True.intro
   | ((try simp only [zm_,zn_,zl_] at*);omega)
   | (have hge:l.length<=i:=by omega
      rw [List.take_of_length_le hge] at*
      first
       | (obtain ⟨e1,e2⟩:=zln_ hg (by omega)
          rw [e1,e2];exact ⟨rfl,rfl⟩)
       | (obtain ⟨e1,e2⟩:=zgi_ (l:=l) (by omega)
          rw [e1,e2];exact ⟨rfl,rfl⟩)
       | fail)
   | (have hlt:i < l.length:=by omega
      have h1l:=zko_ (i:=l.getD i od)
      first
       | exact hok _ (zu_ hlt od)
       | exact (show ((boI (l.take i)).length+(UF_ (l.getD i od)).length)*1<=140737488355328/\(boI (l.take i)).length+(UF_ (l.getD i od)).length<=140737488355328 by omega)
       | (have h1:(bdO (l.getD i od)).isSome=false:=ht
          obtain ⟨e1,e2⟩:=zi2_ (zcH_ hlt hg (.inl h1))
          rw [e1,e2];exact ⟨rfl,rfl⟩)
       | (have h1:dbI (l.take i) (l.getD i od).1=true:=ht
          obtain ⟨e1,e2⟩:=zi2_ (zcH_ hlt hg (.inr h1))
          rw [e1,e2];exact ⟨rfl,rfl⟩)
       | (have h1:(bdO (l.getD i od)).isSome=true:=by assumption
          have h2:dbI (l.take i) (l.getD i od).1=false:=ht
          have hy:UF_ (l.getD i od)=enI (l.getD i od):=if_pos h1
          refine ⟨i+1,⟨by omega,zja_ hlt hg h1 h2⟩,by (try dsimp only);omega,rfl,?_⟩
          show [Obj.row false (.int .u8) (boI (l.take i)++UF_ (l.getD i od))]=[Obj.row false (.int .u8) (boI (l.take (i+1)))]
          rw [zjA_ (d:=od) hlt,hy])
       | fail)
 ·cases e
theorem zkA_ (x:List OV):(meL x).length<=70000:=by
 cases hr:rgM x with
 | false=>have:meL x=[]:=by unfold meL;rw [hr];rfl
          rw [this];exact Nat.zero_le _
 | true=>
   have hL:meL x=meB x:=if_pos hr
   obtain ⟨h1,h2,h3,h4,h5⟩:=ky_ hr
   have hml:=Bv_ x (by omega)
   have hz:=y8_ (n:=meN x) (by omega)
   rw [hL];omega
theorem Bx_ (x:List OV):matO x=if meE x=0 then some (meL x) else none:=by
 unfold matO meE meL
 cases rgM x<;>rfl
theorem ziZ_ (x:List VIn):insO x=if ieE x=0 then some (ieL x) else none:=by
 unfold insO ieE ieL
 cases rgI x<;>rfl
theorem zlG_ {n:List Int} {x:List OV} {i:List VIn} (h1:ZM_ w14 n=true) (h2:meE x=0) (h3:ieE i=0):vF 14 n x i=some (zR_ w14 n++meL x++ieL i):=by
 unfold vF;rw [if_pos rfl,Bx_,ziZ_,if_pos h2,if_pos h3];unfold X1_;rw [if_pos h1];rfl
theorem zlH_ {n:List Int} {x:List OV} {i:List VIn} (h:ZM_ w14 n=false\/¬ meE x=0\/¬ ieE i=0):vF 14 n x i=none:=by
 unfold vF;rw [if_pos rfl,Bx_,ziZ_]
 rcases h with h | h | h
 ·unfold X1_;rw [h];rfl
 ·rw [if_neg h];cases X1_ w14 n<;>rfl
 ·rw [if_neg h];cases HJ_ (X1_ w14 n) (if meE x=0 then some (meL x) else none)<;>rfl
theorem zhS_ {n:List Int} {x:List OV} {i:List VIn} (h1:ZM_ w11 n=true) (h2:meE x=0):vF 11 n x i=some (zR_ w11 n++meL x):=by
 unfold vF;rw [if_neg (by decide),Bx_,if_pos h2];unfold X1_;rw [if_pos h1];rfl
theorem zlI_ {n:List Int} {x:List OV} {i:List VIn} (h:ZM_ w11 n=false\/¬ meE x=0):vF 11 n x i=none:=by
 unfold vF;rw [if_neg (by decide),Bx_]
 rcases h with h | h
 ·unfold X1_;rw [h];rfl
 ·rw [if_neg h];cases X1_ w11 n<;>rfl
theorem zah_ {v:Option (List Int)} {y:List Int} (h:v=some y):(¬ (65527:Int) < y.length->fnF v=(y,0))/\((65527:Int) < y.length->fnF v=([],10001)):=by
 subst h;exact ⟨fun c=>if_neg c,fun c=>if_pos c⟩
theorem zgl_ {v:Option (List Int)} (h:v=none):fnF v=([],10001):=by subst h;rfl
theorem ze7_:ieE []=0/\ieL []=[]:=⟨by decide,by decide⟩
theorem gI_ {tt xi:Int} {d:List Int} {el:List VEl} {a:List AC} {ins:List VIn} {m8:List BK × List VBd × List VQu × List PV × Int × Int × List VPa × Unit} (h:qy_ ((tt,xi,[],d,el,[],a,ins,m8):VMs)=true):ins=[]:=by
 have:=zgD_.1 h
 simp only [Prod.mk.injEq] at this
 exact this.2.2.2.2.2.2.2.1
def zch_:IR:=
(sq (kr [0] [oD 1 (.boxv 0),
oD 2 (.nilrow (.int .u8)),
oD 3 (.mov (cI 0))])
(sq (sq (.reg [oA 12 0 1,
oL 13 12,
oC 14 12 [13],
oD 15 (.un .not 14)])
(.cond 15
(sq (kr [] [oD 2 (.nilrow (.int .u8)),
oD 3 (.mov (cI 10001))])
.ret)
.skip))
(sq (kd [1] [(oA 17 0 1,[]),
(oL 18 17,[]),
(oC 19 36 [18],[]),
(oA 20 2 1,[0,0,0]),
(oL 21 20,[1,0,0]),
(oC 22 35 [19,21],[]),
(oM 16 22,[]),
(oX 23 16 0,[]),
(oX 24 16 1,[0]),
(oM 4 23,[0]),
(oM 5 24,[])])
(sq (kr [1,4,5] [oA 26 5 1,
oL 27 26,
oC 28 37 [27],
oM 25 28,
oX 29 25 0,
oX 30 25 1,
oM 6 29,
oM 7 30])
(sq (kr [1,4,5,6,7] [oA 32 7 1,
oL 33 32,
oC 34 38 [33],
oM 31 34,
oX 35 31 0,
oX 36 31 1,
oM 8 35,
oM 9 36])
(sq (kr [1,4,5,6,7,8,9] [oK 37 15 1,
oD 10 (.box [.int .i64 0,.int .u32 0,.imm (.int .u64) [],.imm (.int .u8) [],.imm YB [],.imm Y1 [],.imm Y2 [],.imm Y3 [],.imm Y4 [],.imm Y5 [],.imm Y7 [],.imm Y8 [],.int .i64 0,.int .i64 0,.imm YC []]),
oS 15 10 37])
(sq (.reg [oA 38 2 10,
oN (.store 1 38 (.c (.imm (.int .u64) [])))])
(sq (.reg [oA 39 5 10,
oN (.store 1 39 (.c (.imm Y1 [])))])
(sq (sq (.reg [oA 40 0 1,
oL 41 40,
oB 42 .eql 41 (cI 14)])
(.cond 42
(kr [1,4,5,6,7,8,9,10] [oA 43 7 10,
oN (.store 1 43 (.c (.imm Y3 [])))])
.skip))
(sq (sq (kr [1,4,5,6,7,8,9,10] [oM 44 5,
oD 45 (.un .not 44),
oM 46 45,
oF 46 47 (.mov 7),
oF 46 48 (.bin .neq 47 (cI 0)),
oP 49 46 cT 48,
oM 50 49,
oF 50 51 (.mov 9),
oF 50 52 (.bin .neq 51 (cI 0)),
oP 53 50 cT 52,
oM 54 53,
oF 54 55 (.load (some 15) 10),
oF 54 56 (.call false (.f 39) [55]),
oF 54 57 (.un .not 56),
oP 58 54 cT 57,
oM 59 58,
oF 59 60 (.fieldAddr 0 1),
oF 59 61 (.load none 60),
oF 59 62 (.fieldAddr 2 1),
oF 59 63 (.load none 62),
oF 59 64 (.call false (.f 40) [61,63]),
oF 59 65 (.bin .neq 64 (cI 0)),
oP 66 59 cT 65])
(.cond 66
(sq (kr [] [oD 2 (.nilrow (.int .u8)),
oD 3 (.mov (cI 10001))])
.ret)
.skip))
(sq (kr [4,6,8] [oM 67 4,
oM 68 6,
oD 69 (.append (.int .u8) 1 67 68),
oM 70 8,
oD 71 (.append (.int .u8) 1 69 70),
oM 11 71])
(sq (sq (.reg [oM 72 11,
oE 73 72,
oB 74 .gtr 73 (cI 65527)])
(.cond 74
(sq (kr [] [oD 2 (.nilrow (.int .u8)),
oD 3 (.mov (cI 10001))])
.ret)
.skip))
(sq (kr [11] [oM 75 11,
oM 2 75,
oD 3 (.mov (cI 0))])
.ret)))))))))))))
def za7_:List RD:=[.tmp 2 true (some (.int .u8)),.tmp 3 true none]
theorem zbB_:zk_ Tryz.prog Tryz.f10 zch_ za7_=true:=by kernel_rfl
def yv_:List AV->List Obj->Option (Prop × AV)
 | [.agg zz0],[]=>XU_ YD zz0 fun ⟨tt,xi,n,d,el,x,a,ins,bu,ba,qu,po,ki,fl,pa,_⟩=>some ((okM x/\okI ins/\n.length<=1000000,.tup [.imm (.int .u8) (wrF ((tt,xi,n,d,el,x,a,ins,bu,ba,qu,po,ki,fl,pa,()):VMs)).1,.int .i64 (wrF ((tt,xi,n,d,el,x,a,ins,bu,ba,qu,po,ki,fl,pa,()):VMs)).2]))
 | _,_=>none
theorem HQ_:zd_ Tryz.prog 10 (RoF yv_).sum:=by
 refine zi_ Tryz.func10 zbB_ (za_ (s:=RoF Xr_) Va_ (za_ (s:=RoF vO_) zaM_ (za_ (s:=RwF Kn_) jY_ (za_ (s:=RoF wK_) uS_ (za_ (s:=RoF wH_) uP_ (za_ (s:=RoF yw_) HR_ (za_ (s:=RoF xT_) g0_ (zc_ _)))))))) fun args objs p v e=>?_
 unfold yv_ at e
 split at e
 ·rename_i zz0
  replace e:=Kj_ e
  obtain ⟨⟨tt,xi,n,d,el,x,a,ins,bu,ba,qu,po,ki,fl,pa,_⟩,hz,e⟩:=e
  replace hz:zz0=[.int .i64 tt,.int .u32 xi,.imm (.int .u64) n,.imm (.int .u8) d,.imm YB el,.imm Y1 x,.imm Y2 a,.imm Y3 ins,.imm Y4 bu,.imm Y5 ba,.imm Y7 qu,.imm Y8 po,.int .i64 ki,.int .i64 fl,.imm YC pa]:=hz
  subst hz
  change Int at tt
  change Int at xi
  change Int at ki
  change Int at fl
  cases e
  refine ⟨rfl,fun hw ho hp=>?_⟩
  change List Int at n
  change List Int at d
  clear hw ho
  change List VIn at ins
  change List OV at x
  change List Int at n
  obtain ⟨hx,hi,hn⟩:=hp
  have hml:=zkA_ x
  have hil:=zgj_ ins
  by_cases h14:tt=14
  ·subst h14
   have k0:=zdp_ xi n d el x a ins (bu,ba,qu,po,ki,fl,pa,())
   have hw14:wF 14=w14:=rfl
   have hpl:=y9_ w14 n
   repeat'(intro t ht;first|(cases t<;>first|(cases ht;done)|(try simp only[zg_]at ht;try(exfalso;first|contradiction|omega)))|((first|refine zb_ ht ?_|refine ht ?_ ?_|refine ht.1 ?_ ?_|refine ht ?_)<;>clear ht))
   all_goals (try simp only [hw14] at*)
   all_goals first
    | exact True.intro
    | exact rfl
    | exact hx
    | exact hi
    | exact ⟨rfl,Jx_ (by assumption)⟩
    | (have g:=k0.trans (if_neg fun c=>absurd c.1 (by assumption));rw [g];first | exact ⟨rfl,rfl⟩ | exact ⟨rfl,True.intro⟩)
    | (have hb:qy_ ((14,xi,[],d,el,[],a,[],bu,ba,qu,po,ki,fl,pa,()):VMs)=false:=by assumption
       have g:=k0.trans (if_neg fun c=>by rw [hb] at c;cases c.2)
       rw [g];first | exact ⟨rfl,rfl⟩ | exact ⟨rfl,True.intro⟩)
    | (have hf:fnF (vF 14 n x ins)=([],10001):=zgl_ (zlH_ (by first | exact .inl (by assumption) | exact .inr (.inl (by assumption)) | exact .inr (.inr (by assumption))))
       have g:=k0.trans (by split;· exact hf
                            ·rfl)
       rw [g];first | exact ⟨rfl,rfl⟩ | exact ⟨rfl,True.intro⟩)
    | (have hv:=zlG_ (n:=n) (x:=x) (i:=ins) (by assumption) (by assumption) (by assumption)
       obtain ⟨u1,u2⟩:=zah_ hv
       first
        | (have hf:=u2 ht
           have g:=k0.trans (by split;· exact hf
                                ·rfl)
           rw [g];first | exact ⟨rfl,rfl⟩ | exact ⟨rfl,True.intro⟩)
        | (have hq:qF 14 n=0:=by assumption
           have hb:qy_ ((14,xi,[],d,el,[],a,[],bu,ba,qu,po,ki,fl,pa,()):VMs)=true:=by assumption
           have g:=(k0.trans (if_pos ⟨hq,hb⟩)).trans (u1 ht)
           rw [g];first | exact ⟨rfl,rfl⟩ | exact ⟨rfl,True.intro⟩)
        | fail)
    | (simp only [List.length_append,List.length_cons,List.length_nil];constructor<;>omega)
    | ((try simp only [zm_,zn_,zl_] at*);omega)
  ·by_cases h11:tt=11
   ·subst h11
    have k0:=zdq_ xi n d el x a ins (bu,ba,qu,po,ki,fl,pa,())
    have hw11:wF 11=w11:=rfl
    have hpl:=y9_ w11 n
    repeat'(intro t ht;first|(cases t<;>first|(cases ht;done)|(try simp only[zg_]at ht;try(exfalso;first|contradiction|omega)))|((first|refine zb_ ht ?_|refine ht ?_ ?_|refine ht.1 ?_ ?_|refine ht ?_)<;>clear ht))
    all_goals (try simp only [hw11] at*)
    all_goals first
     | exact True.intro
     | exact rfl
     | exact hx
     | exact hi
     | exact ⟨rfl,Jx_ (by assumption)⟩
     | (have g:=k0.trans (if_neg fun c=>absurd c.1 (by assumption));rw [g];first | exact ⟨rfl,rfl⟩ | exact ⟨rfl,True.intro⟩)
     | (have hb:qy_ ((11,xi,[],d,el,[],a,ins,bu,ba,qu,po,ki,fl,pa,()):VMs)=false:=by assumption
        have g:=k0.trans (if_neg fun c=>by rw [hb] at c;cases c.2)
        rw [g];first | exact ⟨rfl,rfl⟩ | exact ⟨rfl,True.intro⟩)
     | (have hf:fnF (vF 11 n x ins)=([],10001):=zgl_ (zlI_ (by first | exact .inl (by assumption) | exact .inr (by assumption)))
        have g:=k0.trans (by split;· exact hf
                             ·rfl)
        rw [g];first | exact ⟨rfl,rfl⟩ | exact ⟨rfl,True.intro⟩)
     | (have hj:¬ ieE ins=0:=by assumption
        have g:=k0.trans (if_neg fun c=>hj (by rw [gI_ c.2];exact ze7_.1))
        rw [g];first | exact ⟨rfl,rfl⟩ | exact ⟨rfl,True.intro⟩)
     | (have hv:=zhS_ (n:=n) (x:=x) (i:=ins) (by assumption) (by assumption)
        obtain ⟨u1,u2⟩:=zah_ hv
        have hb:qy_ ((11,xi,[],d,el,[],a,ins,bu,ba,qu,po,ki,fl,pa,()):VMs)=true:=by assumption
        have hq:qF 11 n=0:=by assumption
        have hY:zR_ w11 n++meL x++ieL ins=zR_ w11 n++meL x:=by rw [gI_ hb,ze7_.2,List.append_nil]
        rw [hY] at ht
        rw [hY]
        first
         | (have g:=(k0.trans (if_pos ⟨hq,hb⟩)).trans (u1 ht)
            rw [g];first | exact ⟨rfl,rfl⟩ | exact ⟨rfl,True.intro⟩)
         | fail)
     | (have hv:=zhS_ (n:=n) (x:=x) (i:=ins) (by assumption) (by assumption)
        obtain ⟨u1,u2⟩:=zah_ hv
        have hb:qy_ ((11,xi,[],d,el,[],a,ins,bu,ba,qu,po,ki,fl,pa,()):VMs)=true:=by assumption
        have hq:qF 11 n=0:=by assumption
        have hY:zR_ w11 n++meL x++ieL ins=zR_ w11 n++meL x:=by rw [gI_ hb,ze7_.2,List.append_nil]
        rw [hY] at ht
        first
         | (have g:=(k0.trans (if_pos ⟨hq,hb⟩)).trans (u2 ht)
            rw [g];first | exact ⟨rfl,rfl⟩ | exact ⟨rfl,True.intro⟩)
         | fail)
     | (simp only [List.length_append,List.length_cons,List.length_nil];constructor<;>omega)
     | ((try simp only [zm_,zn_,zl_] at*);omega)
   ·have k0:=HH_ tt xi n d el x a ins (bu,ba,qu,po,ki,fl,pa,()) h14 h11
    have k1:=(zca_ h14 h11).1
    have k3:¬ kF tt=true:=by rw [k1];decide
    repeat'(intro t ht;first|(cases t<;>first|(cases ht;done)|(try simp only[zg_]at ht;try(exfalso;first|contradiction|omega)))|((first|refine zb_ ht ?_|refine ht ?_ ?_|refine ht.1 ?_ ?_|refine ht ?_)<;>clear ht))
    all_goals first
     | exact True.intro
     | (rw [k0];exact ⟨rfl,rfl⟩)
 ·cases e
def Yu_:IR:=
(sq (kr [0,1] [oD 2 (.boxv 0),
oD 4 (.mov cF)])
(sq (sq (.reg [oK 9 15 2,
oC 10 7 [9],
oD 11 (.un .not 10)])
(.cond 11
(sq (.reg [oC 12 8 [],
oM 4 12])
.ret)
.skip))
(sq (kr [1,2] [oK 14 15 2,
oC 15 9 [14],
oM 13 15,
oX 16 13 0,
oX 17 13 1,
oM 5 16,
oM 6 17])
(sq (kr [1,2,5,6] [oK 19 15 2,
oC 20 10 [19],
oM 18 20,
oX 21 18 0,
oX 22 18 1,
oM 7 21,
oM 8 22])
(sq (kr [1,5,6,7,8] [oM 23 1,
oC 24 11 [23],
oM 25 1,
oC 26 12 [25],
oD 27 (.eqb false 24 26),
oM 28 27,
oT 28 29 (.mov 5),
oT 28 30 (.mov 7),
oT 28 31 (.call false (.f 13) [29,30]),
oP 32 28 31 cF,
oM 33 32,
oT 33 34 (.mov 6),
oT 33 35 (.mov 8),
oT 33 36 (.bin .eql 34 35),
oP 37 33 36 cF,
oM 38 37,
oT 38 39 (.call false (.f 8) []),
oP 40 38 39 cF,
oM 4 40])
.ret)))))
def y3_:List RD:=[.tmp 4 true none]
theorem Yf_:zk_ Tryz.prog Tryz.f3 Yu_ y3_=true:=by kernel_rfl
def kK_:List AV->List Obj->Option (Prop × AV)
 | [.agg zz0,.int .i64 k],[]=>XU_ YD zz0 fun ⟨tt,xi,n,d,el,x,a,ins,bu,ba,qu,po,ki,fl,pa,_⟩=>some ((True,.bool true))
 | _,_=>none
theorem XZ_:zd_ Tryz.prog 3 (RoF kK_).sum:=by
 refine zi_ Tryz.func3 Yf_ (za_ (s:=RoF vP_) zaN_ (za_ (s:=RoF yI_) H3_ (za_ (s:=RoF x4_) Gb_ (za_ (s:=RoF yv_) HQ_ (za_ (s:=RoF wT_) yW_ (za_ (s:=RoF Xr_) Va_ (za_ (s:=RoF Kp_) j0_ (zc_ _)))))))) fun args objs p v e=>?_
 unfold kK_ at e
 split at e
 ·rename_i zz0 k
  replace e:=Kj_ e
  obtain ⟨⟨tt,xi,n,d,el,x,a,ins,bu,ba,qu,po,ki,fl,pa,_⟩,hz,e⟩:=e
  replace hz:zz0=[.int .i64 tt,.int .u32 xi,.imm (.int .u64) n,.imm (.int .u8) d,.imm YB el,.imm Y1 x,.imm Y2 a,.imm Y3 ins,.imm Y4 bu,.imm Y5 ba,.imm Y7 qu,.imm Y8 po,.int .i64 ki,.int .i64 fl,.imm YC pa]:=hz
  subst hz
  change Int at tt
  change Int at xi
  change Int at ki
  change Int at fl
  cases e
  refine ⟨rfl,fun hw ho hp=>?_⟩
  change List Int at n
  change List Int at d
  clear hw ho
  cases hf:fwMs ((tt,xi,n,d,el,x,a,ins,bu,ba,qu,po,ki,fl,pa,()):VMs) with
  | false=>
    repeat'(intro t ht;first|(cases t<;>first|(cases ht;done)|(try simp only[zg_]at ht;try(exfalso;first|contradiction|omega)))|((first|refine zb_ ht ?_|refine ht ?_ ?_|refine ht.1 ?_ ?_|refine ht ?_)<;>clear ht))
    all_goals first
     | exact True.intro
     | exact ⟨rfl,rfl⟩
     | (exfalso;simp_all;done)
  | true=>
    have hok:=zjc_ hf
    repeat'(intro t ht;first|(cases t<;>first|(cases ht;done)|(try simp only[zg_]at ht;try(exfalso;first|contradiction|omega)))|((first|refine zb_ ht ?_|refine ht ?_ ?_|refine ht.1 ?_ ?_|refine ht ?_)<;>clear ht))
    all_goals first
     | exact True.intro
     | exact hok
     | exact ⟨rfl,rfl⟩
     | (exfalso;simp_all;done)
 ·cases e
end Go.Eng
