/- Parts of the proof: H1, H2, H3, H4, Z1, F6, Z3, Z4, Z2. No condition. -/
import Derived.Test.YteihcoggfaenaaaGreatDoorProg
import Derived.Test.YteihcoggfaenaaaGreatDoorWF10
import Derived.KernelRfl
import Derived.Test.YteihcoggfaenaaaGreatDoorWF17
import Derived.Test.YteihcoggfaenaaaGreatDoorWF14
import Derived.Test.YteihcoggfaenaaaGreatDoorWF15
import Derived.Test.YteihcoggfaenaaaGreatDoorWF12
namespace Go.Eng
open Go.Proofs
set_option linter.unusedVariables false
set_option linter.unusedSimpArgs false
set_option maxRecDepth 100000
set_option maxHeartbeats 1000000
abbrev AC:=Int × Int × Int × OV × List Int × Unit
instance:DecidableEq (OV × List Int × Unit):=inferInstance
instance:DecidableEq (Int × OV × List Int × Unit):=inferInstance
instance:DecidableEq AC:=inferInstance
def rgA (a:AC):Bool:=z4_ (zG_ a.2.2.2.1.1 a.2.2.2.1.2.1 a.2.2.2.1.2.2.1 a.2.2.2.1.2.2.2.1 a.2.2.2.1.2.2.2.2.1 a.2.2.2.1.2.2.2.2.2.1) a.1 a.2.1 a.2.2.1 a.2.2.2.1.1 a.2.2.2.1.2.1 a.2.2.2.1.2.2.1 a.2.2.2.1.2.2.2.1 a.2.2.2.1.2.2.2.2.1 a.2.2.2.1.2.2.2.2.2.1 a.2.2.2.2.1
def szA (a:AC):Int:=y0_ (zG_ a.2.2.2.1.1 a.2.2.2.1.2.1 a.2.2.2.1.2.2.1 a.2.2.2.1.2.2.2.1 a.2.2.2.1.2.2.2.2.1 a.2.2.2.1.2.2.2.2.2.1) (Qi_ a.2.2.2.1.1 a.2.2.2.1.2.1 a.2.2.2.1.2.2.1 a.2.2.2.1.2.2.2.1 a.2.2.2.1.2.2.2.2.1 a.2.2.2.1.2.2.2.2.2.1) a.1 a.2.1 a.2.2.1 a.2.2.2.1.1 a.2.2.2.1.2.1 a.2.2.2.1.2.2.1 a.2.2.2.1.2.2.2.1 a.2.2.2.1.2.2.2.2.1 a.2.2.2.1.2.2.2.2.2.1 a.2.2.2.2.1
def ebA (a:AC):List Int:=yr_ a.1 a.2.1 a.2.2.1 (Zv_ a.2.2.2.1.1 a.2.2.2.1.2.1 a.2.2.2.1.2.2.1 a.2.2.2.1.2.2.2.1 a.2.2.2.1.2.2.2.2.1 a.2.2.2.1.2.2.2.2.2.1) a.2.2.2.2.1
def exA (a:AC):List Int:=if rgA a=true then ebA a else []
def eeA (a:AC):Int:=if rgA a=true then 0 else 10001
def lenA (a:AC):Prop:=a.2.2.2.1.2.2.2.2.1.length<=100000/\a.2.2.2.1.2.2.2.2.2.1.length<=100000/\a.2.2.2.2.1.length<=100000
theorem ziP_ {a:AC} (h:lenA a):a.2.2.2.1.2.2.2.2.1.length<=1000000/\a.2.2.2.1.2.2.2.2.2.1.length<=1000000:=⟨Nat.le_trans h.1 (by decide),Nat.le_trans h.2.1 (by decide)⟩
structure okL (l:List AC):Prop where
 a:∀ o ∈ l,lenA o
 n:l.length<=1000000
def fwA (a:AC):Bool:=decide (a.2.2.2.1.2.2.2.2.1.length<=300) && decide (a.2.2.2.1.2.2.2.2.2.1.length<=300) && decide (a.2.2.2.2.1.length<=500)
theorem znc_ {a:AC} (h:(a.2.2.2.1.2.2.2.2.1.length<=300/\a.2.2.2.1.2.2.2.2.2.1.length<=300)/\a.2.2.2.2.1.length<=500):fwA a=true:=by unfold fwA;simp [h.1.1,h.1.2,h.2]
theorem znd_ {a:AC} (h:(¬ a.2.2.2.1.2.2.2.2.1.length<=300\/¬ a.2.2.2.1.2.2.2.2.2.1.length<=300)\/¬ a.2.2.2.2.1.length<=500):fwA a=false:=by unfold fwA;rcases h with (h | h) | h<;>simp [h]
def fewL (l:List AC):Bool:=l.all fwA && decide (l.length<=80)
theorem zkK_ {l:List AC} (h:fewL l=true):okL l/\l.length<=80:=by
 unfold fewL at h
 simp only [Bool.and_eq_true,decide_eq_true_eq] at h
 refine ⟨⟨fun o ho=>?_,by omega⟩,h.2⟩
 have:=List.all_eq_true.1 h.1 o ho
 unfold fwA at this
 simp only [Bool.and_eq_true,decide_eq_true_eq] at this
 exact ⟨by omega,by omega,by omega⟩
def zeW_:IR:=
(sq (kr [0] [oD 2 (.mov cF)])
(sq (sq (.reg [oD 3 (.mov (cI 0))])
(.block 0
(.loop
(sq (sq (kr [0,3] [oM 4 3,
oM 5 0,
oE 6 5,
oB 7 .lss 4 6])
(.cond 7
.skip
(.exit 0)))
(sq (.block 1
(sq (kr [0,3] [oM 10 0,
oM 11 3,
oI 12 10 10 11,
oK 13 10 12,
oC 14 63 [13],
oD 15 (.un .not 14)])
(.cond 15
(sq (kr [] [oD 2 (.mov cF)])
.ret)
.skip)))
(kr [0,3] [oM 8 3,
oB 9 .add 8 (cI 1),
oM 3 9]))))))
(sq (kr [0] [oM 16 0,
oE 17 16,
oB 18 .leq 17 (cI 80),
oM 2 18])
.ret)))
def zdS_:List RD:=[.tmp 2 true none]
theorem zel_:zk_ Tryz.prog Tryz.f19 zeW_ zdS_=true:=by kernel_rfl
def JN_:List AV->List Obj->Option (Prop × AV)
 | [.imm ty0 l],[]=>qb_ ty0 Y2 l fun l=>some ((True,.bool (fewL l)))
 | _,_=>none
theorem WX_:zd_ Tryz.prog 19 (RoF JN_).sum:=by
 refine zi_ Tryz.func19 zel_ (za_ (s:=RoF vV_) zaT_ (zc_ _)) fun args objs p v e=>?_
 unfold JN_ at e
 split at e
 ·rename_i ty0 l
  obtain rfl:=zX_ e
  replace e:=zY_ e
  cases e
  refine ⟨rfl,fun hw ho hp=>?_⟩
  change List AC at l
  have hl:l.length<=maxLen:=(hw (.imm Y2 l) (by simp)).2
  unfold maxLen at hl
  clear hw ho
  repeat'(intro t ht;first|(cases t<;>first|(cases ht;done)|(try simp only[zg_]at ht))|((first|refine zb_ ht ?_|refine ht ?_ ?_|refine ht.1 ?_ ?_|refine ht ?_)<;>clear ht))
  all_goals first
   | (intro r h1 h2;clear h1;refine h2 ⟨[0,3],Nat,(fun i=>i<=l.length/\(l.take i).all fwA=true),fun i=>[.imm Y2 l,.int .i64 i],fun _=>[],fun i=>l.length - i,⟨0,⟨Nat.zero_le _,rfl⟩,rfl,rfl⟩,?_⟩;clear h2)
  rintro i ⟨hi,he⟩
  repeat'(intro t ht;first|(cases t<;>first|(cases ht;done)|(try simp only[zg_]at ht;try(exfalso;first|contradiction|omega)))|((first|refine zb_ ht ?_|refine ht ?_ ?_|refine ht.1 ?_ ?_|refine ht ?_)<;>clear ht))
  all_goals (try generalize (Ty.dflt Y2)=od at*)
  all_goals first
   | exact True.intro
   | ((try simp only [zm_,zn_,zl_] at*);omega)
   | (have h:=ZK_ (by omega) he
      refine ⟨?_,rfl⟩;unfold fewL;rw [h,Bool.true_and];congr 1;exact decide_eq_decide.2 (by omega))
   | (have hf:=znc_ ht
      exact ⟨i+1,⟨by omega,Zn_ (d:=od) (by omega) he hf⟩,by dsimp only;omega,rfl,rfl⟩)
   | (have hf:=znd_ ht
      have h:fewL l=false:=by unfold fewL;rw [ZA_ (d:=od) (show i < l.length by omega) hf,Bool.false_and]
      refine ⟨?_,rfl⟩;rw [h];done)
 ·cases e
theorem zli_ {a:AC} (h:rgA a=false):szA a=0:=by
 unfold szA y0_;unfold rgA at h;rw [h];rfl
theorem v6_ {a:AC} (h:rgA a=true):szA a=(ebA a).length/\8<=szA a/\szA a<=65528/\(ebA a).length % 8=0:=by
 obtain ⟨s0,s1,s2,s3⟩:=Jt_ h
 have l2:=zj_ (n:=a.1) (w:=2) (by decide)
 have hb:(ebA a).length=4+(ZQ_ a.1 a.2.1 a.2.2.1 (Zv_ a.2.2.2.1.1 a.2.2.2.1.2.1 a.2.2.2.1.2.2.1 a.2.2.2.1.2.2.2.1 a.2.2.2.1.2.2.2.2.1 a.2.2.2.1.2.2.2.2.2.1) a.2.2.2.2.1).length:=by
  have l3:=zj_ (n:=(4+(ZQ_ a.1 a.2.1 a.2.2.1 (Zv_ a.2.2.2.1.1 a.2.2.2.1.2.1 a.2.2.2.1.2.2.1 a.2.2.2.1.2.2.2.1 a.2.2.2.1.2.2.2.2.1 a.2.2.2.1.2.2.2.2.2.1) a.2.2.2.2.1).length)) (w:=2) (by decide)
  unfold ebA yr_;simp only [List.length_append];omega
 have e:szA a=4+((ZQ_ a.1 a.2.1 a.2.2.1 (Zv_ a.2.2.2.1.1 a.2.2.2.1.2.1 a.2.2.2.1.2.2.1 a.2.2.2.1.2.2.2.1 a.2.2.2.1.2.2.2.2.1 a.2.2.2.1.2.2.2.2.2.1) a.2.2.2.2.1).length:Int):=s0
 omega
theorem zh4_ (a:AC):0<=szA a/\szA a<=65528:=by
 cases h:rgA a with
 | true=>have:=v6_ h;omega
 | false=>rw [zli_ h];decide
def smT (l:List AC) (i:Nat):Int:=((l.take i).map szA).sum
def smL (l:List AC):Int:=(l.map szA).sum
theorem zaW_ {l:List AC} {i:Nat} {d:AC} (h:i < l.length):smT l (i+1)=smT l i+szA (l.getD i d):=by
 unfold smT
 rw [List.take_succ_eq_append_getElem h,List.map_append,List.sum_append,List.getD_eq_getElem?_getD,List.getElem?_eq_getElem h]
 simp
theorem zfJ_ {l:List AC} {i:Nat} (h:l.length<=i):smT l i=smL l:=by unfold smT smL;rw [List.take_of_length_le h]
theorem zh5_ {l:List AC} (i:Nat) (hi:i<=l.length):0<=smT l i/\smT l i<=65528*i:=by
 induction i with
 | zero=>unfold smT;simp
 | succ i ih=>
   have:=ih (by omega)
   have d:AC:=(0,0,0,(0,0,false,0,[],[],()),[],())
   have hs:=zh4_ (l.getD i d)
   rw [zaW_ (d:=d) (by omega)];omega
def szL (l:List AC):Int:=if 64 < l.length then 0 else if l.all rgA=true then (if 65528 < smL l then 0 else smL l) else 0
def zaa_:IR:=
(sq (kr [0] [oD 2 (.mov (cI 0))])
(sq (sq (.reg [oM 6 0,
oE 7 6,
oB 8 .gtr 7 (cI 64)])
(.cond 8
(sq (.reg [oD 2 (.mov (cI 0))])
.ret)
.skip))
(sq (sq (.reg [oM 9 0,
oE 10 9,
oD 11 (.mov (cI 0))])
(.block 0
(.loop
(sq (kr [2,9,10,11] [oB 12 .lss 11 10])
(sq (.cond 12
.skip
(.exit 0))
(sq (.block 1
(sq (.reg [oI 13 10 9 11,
oK 14 10 13,
oD 4 (.box [.int .i64 0,.int .u64 0,.int .u64 0,.int .i64 0,.int .i64 0,.kb false,.int .u64 0,.imm (.int .u8) [],.imm (.int .u8) [],.imm (.int .u8) []]),
oS 10 4 14])
(sq (.reg [oK 15 10 4,
oC 16 209 [15],
oM 5 16])
(sq (sq (kr [2,5,9,10,11] [oM 17 5,
oB 18 .eql 17 (cI 0)])
(.cond 18
(sq (.reg [oD 2 (.mov (cI 0))])
.ret)
.skip))
(.reg [oM 19 2,
oM 20 5,
oB 21 .add 19 20,
oM 2 21])))))
(kr [2,9,10,11] [oB 22 .add 11 (cI 1),
oM 11 22])))))))
(sq (sq (kr [2] [oM 23 2,
oB 24 .gtr 23 (cI 65528)])
(.cond 24
(sq (.reg [oD 2 (.mov (cI 0))])
.ret)
.skip))
(sq (.reg [oM 25 2,
oM 2 25])
.ret)))))
def bK_:List RD:=[.tmp 2 true none]
theorem Bn_:zk_ Tryz.prog Tryz.f194 zaa_ bK_=true:=by kernel_rfl
def x7_:List AV->List Obj->Option (Prop × AV)
 | [.imm ty0 l],[]=>qb_ ty0 Y2 l fun l=>some ((okL l,.int .i64 (szL l)))
 | _,_=>none
theorem Ge_:zd_ Tryz.prog 194 (RoF x7_).sum:=by
 refine zi_ Tryz.func194 Bn_ (za_ (s:=RoF k2_) w0_ (zc_ _)) fun args objs p v e=>?_
 unfold x7_ at e
 split at e
 ·rename_i ty0 l
  obtain rfl:=zX_ e
  replace e:=zY_ e
  cases e
  refine ⟨rfl,fun hw ho hp=>?_⟩
  change List AC at l
  clear hw ho
  have hn:=hp.n
  by_cases h64:64 < l.length
  ·have e:szL l=0:=if_pos h64
   rw [e]
   repeat'(intro t ht;first|(cases t<;>first|(cases ht;done)|(try simp only[zg_]at ht;try(exfalso;first|contradiction|omega)))|((first|refine zb_ ht ?_|refine ht ?_ ?_|refine ht.1 ?_ ?_|refine ht ?_)<;>clear ht))
   all_goals first
    | exact True.intro
    | exact ⟨rfl,rfl⟩
    | (exfalso;omega)
  ·have e:szL l=if l.all rgA=true then (if 65528 < smL l then 0 else smL l) else 0:=if_neg h64
   repeat'(intro t ht;first|(cases t<;>first|(cases ht;done)|(try simp only[zg_]at ht;try(exfalso;first|contradiction|omega)))|((first|refine zb_ ht ?_|refine ht ?_ ?_|refine ht.1 ?_ ?_|refine ht ?_)<;>clear ht))
   all_goals first
    | exact True.intro
    | (intro r h1 h2;clear h1;refine h2 ⟨[2,9,10,11],Nat,(fun i=>i<=l.length/\(l.take i).all rgA=true),fun i=>[.int .i64 (smT l i),.imm Y2 l,.int .i64 l.length,.int .i64 i],fun _=>[],fun i=>l.length - i,⟨0,⟨Nat.zero_le _,rfl⟩,rfl,rfl⟩,?_⟩;clear h2)
   rintro i ⟨hi,he⟩
   have hle:=zh5_ (l:=l) i hi
   repeat'(intro t ht;first|(cases t<;>first|(cases ht;done)|(try simp only[zg_]at ht;try(exfalso;first|contradiction|omega)))|((first|refine zb_ ht ?_|refine ht ?_ ?_|refine ht.1 ?_ ?_|refine ht ?_)<;>clear ht))
   all_goals (try generalize (Ty.dflt Y2)=od at*)
   all_goals first
    | exact True.intro
    | ((try simp only [zm_,zn_,zl_] at*);omega)
    | (have ha:=ZK_ (by omega) he
       have hs:=zfJ_ (l:=l) (i:=i) (by omega)
       rw [e,if_pos ha,<- hs]
       first
        | (rw [if_pos (by assumption)];exact ⟨rfl,rfl⟩)
        | (rw [if_neg (by assumption)];exact ⟨rfl,rfl⟩))
    | (have hlt:i < l.length:=by omega
       have hln:=hp.a _ (zu_ hlt od)
       have hsz:=zh4_ (l.getD i od)
       first
        | exact ziP_ hln
        | (unfold szA at hsz;simp only [zl_,Int.toNat_natCast];omega)
        | (have h0:szA (l.getD i od)=0:=by assumption
           have hr:rgA (l.getD i od)=false:=by
            cases hk:rgA (l.getD i od) with
            | false=>rfl
            | true=>have:=v6_ hk;omega
           rw [e,if_neg (by rw [ZA_ hlt hr];decide)];exact ⟨rfl,rfl⟩)
        | (have h0:¬ szA (l.getD i od)=0:=by assumption
           have hr:rgA (l.getD i od)=true:=by
            cases hk:rgA (l.getD i od) with
            | true=>rfl
            | false=>exact absurd (zli_ hk) h0
           refine ⟨i+1,⟨by omega,Zn_ hlt he hr⟩,by dsimp only;omega,?_,rfl⟩
           dsimp only;rw [zaW_ (d:=od) hlt];rfl))
 ·cases e
def rgL (l:List AC):Bool:=decide (l.length=0) || decide (0 < szL l)
def hJ_:IR:=
(sq (kr [0] [oD 2 (.mov cF)])
(sq (kr [0] [oM 3 0,
oE 4 3,
oB 5 .eql 4 (cI 0),
oM 6 5,
oF 6 7 (.mov 0),
oF 6 8 (.call false (.f 194) [7]),
oF 6 9 (.bin .gtr 8 (cI 0)),
oP 10 6 cT 9,
oM 2 10])
.ret))
def GJ_:List RD:=[.tmp 2 true none]
theorem hd_:zk_ Tryz.prog Tryz.f177 hJ_ GJ_=true:=by kernel_rfl
def KX_:List AV->List Obj->Option (Prop × AV)
 | [.imm ty0 l],[]=>qb_ ty0 Y2 l fun l=>some ((okL l,.bool (rgL l)))
 | _,_=>none
theorem W7_:zd_ Tryz.prog 177 (RoF KX_).sum:=by
 refine zi_ Tryz.func177 hd_ (za_ (s:=RoF x7_) Ge_ (zc_ _)) fun args objs p v e=>?_
 unfold KX_ at e
 split at e
 ·rename_i ty0 l
  obtain rfl:=zX_ e
  replace e:=zY_ e
  cases e
  refine ⟨rfl,fun hw ho hp=>?_⟩
  change List AC at l
  clear hw ho
  have hok:=hp
  by_cases h0:l.length=0
  ·repeat'(intro t ht;first|(cases t<;>first|(cases ht;done)|(try simp only[zg_]at ht;try(exfalso;first|contradiction|omega)))|((first|refine zb_ ht ?_|refine ht ?_ ?_|refine ht.1 ?_ ?_|refine ht ?_)<;>clear ht))
   all_goals first
    | exact True.intro
    | exact hok
    | (refine ⟨congrArg AV.bool ?_,rfl⟩;unfold rgL;rw [decide_eq_true h0];rfl)
    | (exfalso;omega)
  ·repeat'(intro t ht;first|(cases t<;>first|(cases ht;done)|(try simp only[zg_]at ht;try(exfalso;first|contradiction|omega)))|((first|refine zb_ ht ?_|refine ht ?_ ?_|refine ht.1 ?_ ?_|refine ht ?_)<;>clear ht))
   all_goals first
    | exact True.intro
    | exact hok
    | (refine ⟨congrArg AV.bool ?_,rfl⟩;unfold rgL;rw [decide_eq_false h0];rfl)
    | (exfalso;omega)
 ·cases e
def wrS {α:Type} (x:α->List Int) (f:α->Int) (room:Int):List α->List Int->Int->List Int × Int
 | [],l,e=>(l,e)
 | o :: r,l,e=>wrS x f room r (kH_ (x o) l room (zy_ e (f o))) (QT_ (x o) l room (zy_ e (f o)))
theorem zaF_ {α:Type} {x:α->List Int} {f:α->Int} {room:Int} {l:List α} {i:Nat} {d:α} {b:List Int} {e:Int} (h:i < l.length):wrS x f room (l.drop i) b e=wrS x f room (l.drop (i+1)) (kH_ (x (l.getD i d)) b room (zy_ e (f (l.getD i d)))) (QT_ (x (l.getD i d)) b room (zy_ e (f (l.getD i d)))):=by
 rw [zz_ h d];rfl
def apB (x:List AC) (l:List Int) (room e:Int):List Int:=if rgL x=true then (wrS exA eeA room x l e).1 else l
def apE (x:List AC) (l:List Int) (room e:Int):Int:=if rgL x=true then (wrS exA eeA room x l e).2 else zy_ e 10001
theorem zji_ {a:AC}:(exA a).length<=1000000:=by
 unfold exA;split
 ·have:=v6_ (by assumption);omega
 ·simp
def zcA_:IR:=
(sq (sq (kr [0,1] [oM 8 1,
oC 9 177 [8],
oD 10 (.un .not 9)])
(.cond 10
(sq (.reg [oM 11 0,
oC 12 34 [11,(cI 10001)]])
.ret)
.skip))
(sq (.reg [oM 13 1,
oE 14 13,
oD 15 (.mov (cI 0))])
(.block 0
(.loop
(sq (kr [0,13,14,15] [oB 16 .lss 15 14])
(sq (.cond 16
.skip
(.exit 0))
(sq (.block 1
(sq (.reg [oI 17 10 13 15,
oK 18 10 17,
oD 5 (.box [.int .i64 0,.int .u64 0,.int .u64 0,.int .i64 0,.int .i64 0,.kb false,.int .u64 0,.imm (.int .u8) [],.imm (.int .u8) [],.imm (.int .u8) []]),
oS 10 5 18])
(sq (kr [0,5,13,14,15] [oK 20 10 5,
oC 21 195 [20],
oM 19 21,
oX 22 19 0,
oX 23 19 1,
oM 6 22,
oM 7 23])
(sq (kr [0,6,7,13,14,15] [oM 24 0,
oM 25 7,
oC 26 34 [24,25]])
(.reg [oM 27 0,
oM 28 6,
oC 29 65 [27,28]])))))
(kr [0,13,14,15] [oB 30 .add 15 (cI 1),
oM 15 30]))))))))
def zbr_:List RD:=[]
theorem zbU_:zk_ Tryz.prog Tryz.f178 zcA_ zbr_=true:=by kernel_rfl
def gQ_:List AV->List Obj->Option (Prop × Res)
 | [.ptr 0 0,.imm (.cons (.int .i64) (.cons (.int .u64) (.cons (.int .u64) (.cons (.cons (.int .i64) (.cons (.int .i64) (.cons .bool (.cons (.int .u64) (.cons (.sl (.int .u8)) (.cons (.sl (.int .u8)) .nil)))))) (.cons (.sl (.int .u8)) .nil))))) x],[.box [.own 1,.int .i64 room,.mapv 2,.int .i64 e],.row false (.int .u8) l,.map sq (.int .i64) (.int .i64) h]=>some (okL x/\0<=room/\room<=1000000/\l.length<=1000000,.br (rgL x && decide (0 < x.length)) (.one (.tup []) [.box [.own 3,.int .i64 room,.mapv 2,.int .i64 (apE x l room e)],.dead,.map sq (.int .i64) (.int .i64) h,.row false (.int .u8) (apB x l room e)]) (.one (.tup []) [.box [.own 1,.int .i64 room,.mapv 2,.int .i64 (apE x l room e)],.row false (.int .u8) l,.map sq (.int .i64) (.int .i64) h]))
 | _,_=>none
def yJ_:List AV->List Obj->Option (Prop × AV × List Obj)
 | [.ptr 0 0,.imm (.cons (.int .i64) (.cons (.int .u64) (.cons (.int .u64) (.cons (.cons (.int .i64) (.cons (.int .i64) (.cons .bool (.cons (.int .u64) (.cons (.sl (.int .u8)) (.cons (.sl (.int .u8)) .nil)))))) (.cons (.sl (.int .u8)) .nil))))) x],[.box [.own 1,.int .i64 room,.mapv 2,.int .i64 e],.row false (.int .u8) l,.map sq (.int .i64) (.int .i64) h]=>some (okL x/\0<=room/\room<=1000000/\l.length<=1000000,.tup [],[.box [.own 3,.int .i64 room,.mapv 2,.int .i64 (apE x l room e)],.dead,.map sq (.int .i64) (.int .i64) h,.row false (.int .u8) (apB x l room e)])
 | _,_=>none
theorem HI_:zd_ Tryz.prog 178 (RcF gQ_).sum:=by
 refine Uv_ Tryz.func178 zbU_ (za_ (s:=RoF KX_) W7_ (za_ (s:=RwF zA_) zD_ (za_ (s:=RoF Ku_) yY_ (za_ (s:=RwF zv_) zB_ (zc_ _))))) fun args objs p v e=>?_
 unfold gQ_ at e
 split at e
 ·rename_i x room e l sq h
  cases e
  change List Int at l
  change List AC at x
  refine ⟨rfl,fun hw' ho hp=>?_⟩
  clear hw' ho
  obtain ⟨hok,hp1,hp2,hp3⟩:=hp
  have hok':=hok
  have hn:=hok.n
  cases hr:rgL x with
  | false=>
    have e1:apE x l room e=zy_ e 10001:=by unfold apE;rw [hr];rfl
    rw [e1]
    repeat'(intro t ht;first|(cases t<;>first|(cases ht;done)|(try simp only[zg_]at ht;try(exfalso;first|contradiction|omega)))|((first|refine zb_ ht ?_|refine ht ?_ ?_|refine ht.1 ?_ ?_|refine ht ?_)<;>clear ht))
    all_goals first
     | exact True.intro
     | exact hok
     | (exfalso;simp_all;done)
     | exact ⟨rfl,rfl⟩
  | true=>
    have q1:apE x l room e=(wrS exA eeA room x l e).2:=if_pos hr
    have q2:apB x l room e=(wrS exA eeA room x l e).1:=if_pos hr
    rw [q1,q2]
    repeat'(intro t ht;first|(cases t<;>first|(cases ht;done)|(try simp only[zg_]at ht;try(exfalso;first|contradiction|omega)))|((first|refine zb_ ht ?_|refine ht ?_ ?_|refine ht.1 ?_ ?_|refine ht ?_)<;>clear ht))
    all_goals first
     | exact True.intro
     | exact hok
     | (exfalso;simp_all;done)
     | (intro r h1 h2;clear h1;refine h2 ⟨[0,13,14,15],Option (Nat × List Int × Int),(fun a=>match a with | none=>True | some a=>0 < a.1/\a.1<=x.length/\a.2.1.length<=1000000/\wrS exA eeA room x l e=wrS exA eeA room (x.drop a.1) a.2.1 a.2.2),(fun a=>match a with | none=>[.ptr 0 0,.imm Y2 x,.int .i64 x.length,.int .i64 0] | some a=>[.ptr 0 0,.imm Y2 x,.int .i64 x.length,.int .i64 a.1]),(fun a=>match a with | none=>[.box [.own 1,.int .i64 room,.mapv 2,.int .i64 e],.row false (.int .u8) l,.map sq (.int .i64) (.int .i64) h] | some a=>[.box [.own 3,.int .i64 room,.mapv 2,.int .i64 a.2.2],.dead,.map sq (.int .i64) (.int .i64) h,.row false (.int .u8) a.2.1]),(fun a=>match a with | none=>x.length+1 | some a=>x.length - a.1),⟨none,True.intro,rfl,rfl⟩,?_⟩;clear h2)
    rintro (_ | ⟨i,b,f⟩) hJ
    ·repeat'(intro t ht;first|(cases t<;>first|(cases ht;done)|(try simp only[zg_]at ht;try(exfalso;first|contradiction|omega)))|((first|refine zb_ ht ?_|refine ht ?_ ?_|refine ht.1 ?_ ?_|refine ht ?_)<;>clear ht))
     all_goals (try generalize (Ty.dflt Y2)=od at*)
     all_goals first
      | exact True.intro
      | ((try simp only [zm_,zn_,zl_] at*);omega)
      | exact ⟨hp1,hp2,hp3,zji_ (a:=x.getD 0 od)⟩
      | exact ziP_ (hok'.a _ (zu_ (show 0 < x.length by omega) od))
      | (have hx:x=[]:=List.eq_nil_of_length_eq_zero (by omega)
         subst hx;exact ⟨rfl,rfl⟩)
      | (have hs:=zaF_ (x:=exA) (f:=eeA) (room:=room) (l:=x) (i:=0) (d:=od) (b:=l) (e:=e) (by omega)
         refine ⟨some (1,kH_ (exA (x.getD 0 od)) l room (zy_ e (eeA (x.getD 0 od))),QT_ (exA (x.getD 0 od)) l room (zy_ e (eeA (x.getD 0 od)))),⟨Nat.one_pos,?_,?_,hs⟩,?_,rfl,rfl⟩
         ·dsimp only;omega
         ·exact Q9_ hp3 hp2
         ·dsimp only;omega)
    ·obtain ⟨hi0,hi,hb,he⟩:=hJ
     dsimp only at hi0 hi hb he
     repeat'(intro t ht;first|(cases t<;>first|(cases ht;done)|(try simp only[zg_]at ht;try(exfalso;first|contradiction|omega)))|((first|refine zb_ ht ?_|refine ht ?_ ?_|refine ht.1 ?_ ?_|refine ht ?_)<;>clear ht))
     all_goals (try generalize (Ty.dflt Y2)=od at*)
     all_goals first
      | exact True.intro
      | ((try simp only [zm_,zn_,zl_] at*);omega)
      | exact ⟨hp1,hp2,hb,zji_ (a:=x.getD i od)⟩
      | exact ziP_ (hok'.a _ (zu_ (show i < x.length by omega) od))
      | (rw [List.drop_of_length_le (show x.length<=i by omega)] at he
         have h1:wrS exA eeA room x l e=(b,f):=he
         rw [h1,decide_eq_true (show 0 < x.length by omega)];exact ⟨rfl,rfl⟩)
      | (refine ⟨some (i+1,kH_ (exA (x.getD i od)) b room (zy_ f (eeA (x.getD i od))),QT_ (exA (x.getD i od)) b room (zy_ f (eeA (x.getD i od)))),⟨?_,?_,?_,he.trans (zaF_ (d:=od) (show i < x.length by omega))⟩,?_,rfl,rfl⟩
         ·dsimp only;omega
         ·dsimp only;omega
         ·exact Q9_ hb hp2
         ·dsimp only;omega)
 ·cases e
theorem H4_:zd_ Tryz.prog 178 (RwF yJ_).sum:=by
 refine y6_ HI_ fun args objs p v o e=>?_
 unfold yJ_ at e
 split at e
 ·rename_i x room e l sq h
  cases e
  cases hb:(rgL x && decide (0 < x.length)) with
  | true=>exact ⟨_,_,rfl,je_ hb,.inl rfl⟩
  | false=>
    refine ⟨_,_,rfl,Q1_ hb,.inr ⟨0,1,[],[.int .i64 room,.mapv 2,.int .i64 (apE x l room e)],.int .u8,l,rfl,rfl,?_⟩⟩
    have e1:apB x l room e=l:=by
     unfold apB
     split
     ·rename_i hr
      rw [hr,Bool.true_and,decide_eq_false_iff_not] at hb
      have hx:x=[]:=List.eq_nil_of_length_eq_zero (by omega)
      subst hx;rfl
     ·rfl
    rw [e1];rfl
 ·cases e
def boA (l:List AC):List Int:=l.flatMap ebA
theorem JK_ (o:AC) (r:List AC):boA (o :: r)=ebA o++boA r:=List.flatMap_cons
theorem YH_:∀ (l:List AC),l.all rgA=true->((boA l).length:Int)=smL l/\8*l.length<=(boA l).length
 | [],_=>⟨rfl,Nat.le_refl _⟩
 | o :: r,h=>by
   rw [List.all_cons,Bool.and_eq_true] at h
   obtain ⟨i1,i2⟩:=YH_ r h.2
   have hs:=v6_ h.1
   unfold smL at i1 ⊢
   rw [JK_,List.length_append,List.map_cons,List.sum_cons,List.length_cons];omega
theorem q9_ {l:List AC} (h:rgL l=true):l.all rgA=true/\l.length<=64/\(boA l).length<=65528/\szL l=(boA l).length:=by
 unfold rgL at h
 rw [Bool.or_eq_true,decide_eq_true_eq,decide_eq_true_eq] at h
 rcases h with h | h
 ·have:l=[]:=List.eq_nil_of_length_eq_zero h
  subst this;exact ⟨rfl,Nat.zero_le _,Nat.zero_le _,rfl⟩
 ·unfold szL at h ⊢
  by_cases h1:64 < l.length
  ·rw [if_pos h1] at h;omega
  ·rw [if_neg h1] at h ⊢
   by_cases h2:l.all rgA=true
   ·rw [if_pos h2] at h ⊢
    by_cases h3:65528 < smL l
    ·rw [if_pos h3] at h;omega
    ·rw [if_neg h3]
     obtain ⟨b1,b2⟩:=YH_ l h2
     exact ⟨h2,by omega,by omega,b1.symm⟩
   ·rw [if_neg h2] at h;omega
theorem zlT_ {l:List AC} (h1:l.all rgA=true) (h2:l.length<=64) (h3:(boA l).length<=65528):rgL l=true:=by
 obtain ⟨b1,b2⟩:=YH_ l h1
 unfold rgL szL
 rw [if_neg (by omega),if_pos h1,if_neg (by omega),Bool.or_eq_true,decide_eq_true_eq,decide_eq_true_eq]
 omega
theorem zlu_ {a:AC} (h:rgA a=true):exA a=ebA a/\eeA a=0:=⟨if_pos h,if_pos h⟩
theorem zhQ_ {room:Int}:∀ (r:List AC) (l:List Int),r.all rgA=true->(l.length:Int)+(boA r).length<=room->wrS exA eeA room r l 0=(l++boA r,0)
 | [],l,_,_=>by unfold boA wrS;simp
 | o :: r,l,h,hl=>by
   rw [List.all_cons,Bool.and_eq_true] at h
   obtain ⟨h2,h3⟩:=zlu_ h.1
   rw [JK_,List.length_append] at hl
   obtain ⟨b1,b2⟩:=xM_ (x:=ebA o) (l:=l) (room:=room) (by omega)
   have f0:zy_ 0 0=0:=rfl
   unfold wrS
   rw [h2,h3,f0,b1,b2,zhQ_ r (l++ebA o) h.2 (by rw [List.length_append];omega),JK_,List.append_assoc]
theorem znm_ {x:List AC} {l:List Int} {room:Int} (h:rgL x=true) (hl:(l.length:Int)+(boA x).length<=room):apB x l room 0=l++boA x/\apE x l room 0=0:=by
 unfold apB apE
 rw [if_pos h,if_pos h,zhQ_ x l (q9_ h).1 hl];exact ⟨rfl,rfl⟩
theorem zjF_ {x:List AC} {l:List Int} {room e:Int} (h:rgL x=false):apB x l room e=l/\apE x l room e=zy_ e 10001:=by
 unfold apB apE;rw [h];exact ⟨rfl,rfl⟩
def alL (l:List AC):List Int:=if rgL l=true then boA l else []
def alE (l:List AC):Int:=if rgL l=true then 0 else 10001
def vA (y:List Int):AC:=(tT y,acA y 0,acA y 1,(acS y (zE_ (bd y)),acS y (zT_ (bd y)),acH y,acS y (QF_ (bd y)),acV y (qs_ (bd y)),acV y (qo_ (bd y)),()),acD y,())
def alG (acc:List AC) (y:List Int):List AC × Int:=
 if y.length=0 then (acc,0) else if acc.length=64 then ([],520) else if ¬ acE y=0 then ([],acE y) else alG (acc++[vA y]) (y.drop (max 1 (tN y).toNat))
termination_by y.length
decreasing_by all_goals (rw [List.length_drop];omega)
theorem zaw_ {acc:List AC} {y:List Int} (h:y.length=0):alG acc y=(acc,0):=by rw [alG,if_pos h]
theorem zjI_ {acc:List AC} {y:List Int} (h:¬ y.length=0) (h1:acc.length=64):alG acc y=([],520):=by rw [alG,if_neg h,if_pos h1]
theorem zgG_ {acc:List AC} {y:List Int} (h:¬ y.length=0) (h1:¬ acc.length=64) (h2:¬ acE y=0):alG acc y=([],acE y):=by rw [alG,if_neg h,if_neg h1,if_pos h2]
theorem zft_ {acc:List AC} {y:List Int} (h:¬ y.length=0) (h1:¬ acc.length=64) (h2:acE y=0) (hn:1<=tN y):alG acc y=alG (acc++[vA y]) (y.drop (tN y).toNat):=by
 rw [alG,if_neg h,if_neg h1,if_neg (not_not_intro h2),show max 1 (tN y).toNat=(tN y).toNat by omega]
theorem zjM_ {b:List Int} (h0:acE b=0):8<=tN b/\tN b<=b.length/\(tN b).tmod 8=0:=by
 have hT:tlE b 8 8 514=0:=Classical.byContradiction fun h=>by
  unfold acE at h0;rw [if_pos h] at h0;exact h h0
 unfold tlE at hT
 by_cases h1:b.length < 4
 ·rw [if_pos h1] at hT;cases hT
 ·rw [if_neg h1] at hT
  by_cases h2:tN b < 8\/¬ (tN b).tmod 8=0
  ·rw [if_pos h2] at hT;cases hT
  ·rw [if_neg h2] at hT
   by_cases h3:(b.length:Int) < tN b
   ·rw [if_pos h3] at hT;cases hT
   ·omega
def adE (b:List Int):Int:=if ¬ (alG [] b).2=0 then (alG [] b).2 else if 65528 < b.length then 514 else 0
def adL (b:List Int):List AC:=if adE b=0 then (alG [] b).1 else []
theorem zfv_ {b:List Int} {e:Int} (h:(alG [] b).2=e) (h0:¬ e=0):adL b=[]/\adE b=e:=by
 have:adE b=e:=by unfold adE;rw [h,if_pos h0]
 exact ⟨by unfold adL;rw [this,if_neg h0],this⟩
theorem gP_ {b:List Int} {acc:List AC} (h:alG [] b=(acc,0)):(65528 < b.length->adL b=[]/\adE b=514)/\(¬ 65528 < b.length->adL b=acc/\adE b=0):=by
 have e:adE b=if 65528 < b.length then 514 else 0:=by unfold adE;rw [h];rfl
 constructor
 ·intro hl
  rw [if_pos hl] at e
  exact ⟨by unfold adL;rw [e];rfl,e⟩
 ·intro hl
  rw [if_neg hl] at e
  exact ⟨by unfold adL;rw [e,h];rfl,e⟩
def B8_:IR:=
(sq (kr [0] [oD 1 (.boxv 0),
oD 2 (.mov (.c (.undef)))])
(sq (.reg [oD 3 (.mkfn 213 [] [1]),
oM 2 3])
.ret))
def bI_:List RD:=[.tmp 2 true none]
theorem Bl_:zk_ Tryz.prog Tryz.f198 B8_ bI_=true:=by kernel_rfl
def x5_:List AV->List Obj->Option (Prop × AV × List Obj)
 | [.imm (.int .u8) b],[]=>some ((True,.fn 213 [] [.ptr 0 0],[.box [.imm (.int .u8) b]]))
 | _,_=>none
theorem Gc_:zd_ Tryz.prog 198 (RwF x5_).sum:=by
 refine qa_ Tryz.func198 Bl_ (zc_ _) fun args objs p v o e=>?_
 unfold x5_ at e
 split at e
 ·rename_i b
  cases e
  refine ⟨rfl,fun hw ho hp=>?_⟩
  change List Int at b
  repeat'(intro t ht;first|(cases t<;>first|(cases ht;done)|(try simp only[zg_]at ht;try(exfalso;first|contradiction|omega)))|((first|refine zb_ ht ?_|refine ht ?_ ?_|refine ht.1 ?_ ?_|refine ht ?_)<;>clear ht))
  all_goals first
   | exact True.intro
   | exact ⟨rfl,rfl⟩
 ·cases e
def gj_:IR:=
(sq (kr [0] [oD 2 (.box [.nils]),
oD 3 (.box [.int .i64 0])])
(sq (.reg [oD 4 (.box [.nils])])
(sq (sq (.reg [oM 7 0,
oC 8 198 [7]])
(.block 0
(.rng 8 [9,10] [0,2,3,4] 213
(sq (kr [2,3,4,9,10] [oD 5 (.box [.int .i64 0,.int .u64 0,.int .u64 0,.int .i64 0,.int .i64 0,.kb false,.int .u64 0,.nils,.nils,.nils]),
oS 10 5 9])
(.reg [oM 6 10]))
(.block 1
(sq (sq (kr [2,3,4,5,6] [oM 11 6,
oB 12 .neq 11 (cI 0)])
(.cond 12
(sq (.reg [oM 13 6,
oN (.store 1 2 (.c (.nils))),
oS 1 3 13])
.ret)
.skip))
(.reg [oL 14 4,
oK 15 10 5,
oD 16 (.sliceAll Y2 1 [(0,10,15)]),
oD 17 (.append Y2 128 14 16),
oS 1 4 17])))
(sq (kr [0,1] [oD 3 (.mov (cI 0))])
(.block 0
(.loop
(sq (sq (kr [0,1,3] [oL 7 1,
oE 8 7,
oB 9 .gtr 8 (cI 0)])
(.cond 9
.skip
(.exit 0)))
(sq (.block 1
(sq (sq (.reg [oM 12 3,
oB 13 .eql 12 (cI 64)])
(.cond 13
(sq (.keep [0]
(.yld [oM 14 0,
oD 15 (.build [.int .i64 0,.int .u64 0,.int .u64 0,.int .i64 0,.int .i64 0,.kb false,.int .u64 0,.imm (.int .u8) [],.imm (.int .u8) [],.imm (.int .u8) []] [])] (some 16) (.t 14) [(.t 15),(.c (.int .i64 520))] [] []))
.ret)
.skip))
(sq (kr [0,1,3] [oL 18 1,
oC 19 214 [18],
oM 17 19,
oX 20 17 0,
oX 21 17 1,
oX 22 17 2,
oD 4 (.box [.int .i64 0,.int .u64 0,.int .u64 0,.int .i64 0,.int .i64 0,.kb false,.int .u64 0,.imm (.int .u8) [],.imm (.int .u8) [],.imm (.int .u8) []]),
oS 10 4 20,
oM 5 21,
oM 6 22])
(sq (sq (.keep [0,1,3,4,5,6]
(.yld [oM 23 0,
oK 24 10 4,
oM 25 6] (some 26) (.t 23) [(.t 24),(.t 25)] [0,1,3,5,6] [oD 27 (.un .not 26),
oM 28 27,
oF 28 29 (.mov 6),
oF 28 30 (.bin .neq 29 (cI 0)),
oP 31 28 cT 30]))
(.cond 31
.ret
.skip))
(kr [0,1,3,5] [oL 32 1,
oM 33 5,
oD 34 (.slice 1 32 (some 33) none none),
oS 1 1 34])))))
(kr [0,1,3] [oM 10 3,
oB 11 .add 10 (cI 1),
oM 3 11])))))))))
(sq (sq (kr [0,2,3,4] [oM 18 0,
oE 19 18,
oB 20 .gtr 19 (cI 65528)])
(.cond 20
(sq (.reg [oN (.store 1 2 (.c (.nils))),
oN (.store 1 3 (cI 514))])
.ret)
.skip))
(sq (.reg [oL 21 4,
oS 1 2 21,
oN (.store 1 3 (cI 0))])
.ret)))))
def Ur_:List RD:=[.cell 2 none true [(some Y2)],.cell 3 none true []]
theorem UU_:zk_ Tryz.prog Tryz.f182 gj_ Ur_=true:=by kernel_rfl
def Jg_:List AV->List Obj->Option (Prop × AV)
 | [.imm (.int .u8) b],[]=>some ((b.length<=100000000,.tup [.imm Y2 (adL b),.int .i64 (adE b)]))
 | _,_=>none
theorem VQ_:zd_ Tryz.prog 182 (RoF Jg_).sum:=by
 refine zi_ Tryz.func182 UU_ (za_ (s:=RoF Kv_) yZ_ (za_ (s:=RwF x5_) Gc_ (zc_ _))) fun args objs p v e=>?_
 unfold Jg_ at e
 split at e
 ·rename_i b
  cases e
  refine ⟨rfl,fun hw ho hp=>?_⟩
  change List Int at b
  clear hw ho
  repeat'(intro t ht;first|(cases t<;>first|(cases ht;done)|(try simp only[zg_]at ht;try(exfalso;first|contradiction|omega)))|((first|refine zb_ ht ?_|refine ht ?_ ?_|refine ht.1 ?_ ?_|refine ht ?_)<;>clear ht))
  all_goals first
   | exact True.intro
   | (refine .inl fun lr ln=>?_)
  repeat'(intro t ht;first|(cases t<;>first|(cases ht;done)|(try simp only[zg_]at ht;try(exfalso;first|contradiction|omega)))|((first|refine zb_ ht ?_|refine ht ?_ ?_|refine ht.1 ?_ ?_|refine ht ?_)<;>clear ht))
  all_goals first
   | exact True.intro
   | (intro r h1 h2;clear h1;refine h2 ⟨[0,1,3],Option (List AC × List Int),(fun a=>match a with | none=>True | some a=>a.1.length<=64/\a.2.length<=b.length/\alG [] b=alG a.1 a.2),(fun a=>match a with | none=>[.yv ln,.ptr 0 0,.int .i64 0] | some a=>[.yv ln,.ptr 0 0,.int .i64 a.1.length]),(fun a=>match a with | none=>[.box [.imm (.int .u8) b],.box [.nils],.box [.int .i64 0],.box [.nils],.lrec lr 0] | some a=>[.box [.imm (.int .u8) a.2],.box [.nils],.box [.int .i64 0],.box [.own 5],.lrec lr 0,.row false Y2 a.1]),(fun a=>match a with | none=>b.length+1 | some a=>a.2.length),⟨none,True.intro,rfl,rfl⟩,?_⟩;clear h2)
  rintro (_ | ⟨acc,y⟩) hJ
  ·clear hJ
   repeat'(intro t ht;first|(cases t<;>first|(cases ht;done)|(try simp only[zg_]at ht;try(exfalso;first|contradiction|omega)))|((first|refine zb_ ht ?_|refine ht ?_ ?_|refine ht.1 ?_ ?_|refine ht ?_)<;>clear ht))
   all_goals (try dsimp only at*)
   all_goals first
    | exact True.intro
    | ((try simp only [zm_,zn_,zl_] at*);omega)
    | exact ⟨rfl,rfl⟩
    | (have hg:=zaw_ (acc:=[]) (y:=b) (by omega)
       rw [((gP_ hg).2 (by omega)).1,((gP_ hg).2 (by omega)).2];exact ⟨rfl,rfl⟩)
    | (simp only [zN_,List.length_cons,List.length_nil];constructor<;>omega)
    | (have h0:acE b=0:=by assumption
       obtain ⟨g1,g2,_⟩:=zjM_ h0
       have e1:∀ x,acI b x=x:=fun x=>if_pos h0
       first
        | (rw [e1];constructor<;>omega)
        | (have hm:=zft_ (acc:=[]) (by omega) (by decide) h0 (by omega)
           refine ⟨some ([]++[vA b],b.drop (tN b).toNat),⟨by simp,?_,hm⟩,?_,rfl,?_⟩
           ·dsimp only;rw [List.length_drop];omega
           ·dsimp only;rw [List.length_drop];omega
           ·dsimp only;rw [e1,e1];rfl))
    | (have h0:¬ acE b=0:=by assumption
       have hm:=zgG_ (acc:=[]) (by omega) (by decide) h0
       obtain ⟨d1,d2⟩:=zfv_ (b:=b) (e:=acE b) (by rw [hm]) h0
       rw [d1,d2];exact ⟨rfl,rfl⟩)
  ·obtain ⟨j1,j2,j3⟩:=hJ
   dsimp only at j1 j2 j3
   repeat'(intro t ht;first|(cases t<;>first|(cases ht;done)|(try simp only[zg_]at ht;try(exfalso;first|contradiction|omega)))|((first|refine zb_ ht ?_|refine ht ?_ ?_|refine ht.1 ?_ ?_|refine ht ?_)<;>clear ht))
   all_goals (try dsimp only at*)
   all_goals first
    | exact True.intro
    | ((try simp only [zm_,zn_,zl_] at*);omega)
    | exact ⟨rfl,rfl⟩
    | (have hg:=zaw_ (acc:=acc) (y:=y) (by omega)
       rw [<- j3] at hg
       first
        | (obtain ⟨d1,d2⟩:=(gP_ hg).1 (by omega)
           rw [d1,d2];exact ⟨rfl,rfl⟩)
        | (obtain ⟨d1,d2⟩:=(gP_ hg).2 (by omega)
           rw [d1,d2];exact ⟨rfl,rfl⟩))
    | (simp only [zN_,List.length_cons,List.length_nil];constructor<;>omega)
    | (have hm:=zjI_ (acc:=acc) (y:=y) (by omega) (by omega)
       rw [<- j3] at hm
       obtain ⟨d1,d2⟩:=zfv_ (b:=b) (e:=520) (by rw [hm]) (by decide)
       rw [d1,d2];exact ⟨rfl,rfl⟩)
    | (have h0:acE y=0:=by assumption
       obtain ⟨g1,g2,_⟩:=zjM_ h0
       have e1:∀ x,acI y x=x:=fun x=>if_pos h0
       first
        | (rw [e1];constructor<;>omega)
        | (have hm:=zft_ (acc:=acc) (by omega) (by omega) h0 (by omega)
           refine ⟨some (acc++[vA y],y.drop (tN y).toNat),⟨?_,?_,j3.trans hm⟩,?_,?_,?_⟩
           ·simp only [List.length_append,List.length_cons,List.length_nil];omega
           ·dsimp only;rw [List.length_drop];omega
           ·dsimp only;rw [List.length_drop];omega
           ·dsimp only;rw [List.length_append];rfl
           ·dsimp only;rw [e1,e1];rfl))
    | (have h0:¬ acE y=0:=by assumption
       have hm:=zgG_ (acc:=acc) (y:=y) (by omega) (by omega) h0
       rw [<- j3] at hm
       obtain ⟨d1,d2⟩:=zfv_ (b:=b) (e:=acE y) (by rw [hm]) h0
       rw [d1,d2];exact ⟨rfl,rfl⟩)
 ·cases e
theorem ks_ {α:Type} {l:List α} {i:Nat} {d:α} (h:i < l.length):l.take i++[l.getD i d]=l.take (i+1):=by
 rw [List.take_succ_eq_append_getElem h,List.getD_eq_getElem?_getD,List.getElem?_eq_getElem h];rfl
def BW_:IR:=
(sq (kr [0,1] [oD 4 (.nilrow (.int .u8)),
oD 5 (.mov cF)])
(sq (sq (kr [0,1] [oM 9 0,
oC 10 85 [9],
oD 11 (.un .not 10),
oM 12 11,
oF 12 13 (.mov 0),
oF 12 14 (.call false (.f 86) [13]),
oF 12 15 (.mov 1),
oF 12 16 (.len 15),
oF 12 17 (.bin .neq 14 16),
oP 18 12 cT 17])
(.cond 18
(sq (kr [] [oD 4 (.nilrow (.int .u8)),
oD 5 (.mov cF)])
.ret)
.skip))
(sq (kr [0,1] [oD 6 (.nilrow (.int .u8))])
(sq (.reg [oD 7 (.mov (cI 0))])
(sq (sq (.reg [oD 8 (.mov (cI 0))])
(.block 0
(.loop
(sq (sq (kr [0,1,6,7,8] [oM 19 8,
oM 20 0,
oE 21 20,
oB 22 .lss 19 21])
(.cond 22
.skip
(.exit 0)))
(sq (.block 1
(sq (sq (kr [0,1,6,7,8] [oM 25 0,
oM 26 8,
oI 27 1 25 26,
oL 28 27,
oB 29 .lss 28 (cI 0)])
(.cond 29
(sq (kr [0,1,6,7,8] [oM 30 6,
oM 31 0,
oM 32 8,
oI 33 1 31 32,
oL 34 33,
oD 35 (.un .neg 34),
oD 36 (.appendz (.int .u8) 1 (0:Int) 30 35),
oM 6 36])
(.exit 1))
.skip))
(sq (sq (kd [0,1,6,7,8] [(oM 37 1,[]),
(oM 38 7,[0]),
(oI 39 1 37 38,[]),
(oL 40 39,[]),
(oM 41 0,[0,0,0,0]),
(oM 42 8,[0,0,0,0,0]),
(oI 43 1 41 42,[2,0,0,0]),
(oL 44 43,[3,0,0,0]),
(oC 45 87 [40,44],[]),
(oD 46 (.un .not 45),[])])
(.cond 46
(sq (kr [] [oD 4 (.nilrow (.int .u8)),
oD 5 (.mov cF)])
.ret)
.skip))
(sq (kd [0,1,6,7,8] [(oM 47 6,[]),
(oM 48 1,[0]),
(oM 49 7,[0,0]),
(oI 50 1 48 49,[2]),
(oL 51 50,[3]),
(oM 52 0,[0,0,0,0,0]),
(oM 53 8,[0,0,0,0,0,0]),
(oI 54 1 52 53,[2,0,0,0,0]),
(oL 55 54,[3,0,0,0,0]),
(oC 56 88 [51,55],[8]),
(oD 57 (.append (.int .u8) 1 47 56),[]),
(oM 6 57,[])])
(kr [0,1,6,7,8] [oM 58 7,
oB 59 .add 58 (cI 1),
oM 7 59])))))
(kr [0,1,6,7,8] [oM 23 8,
oB 24 .add 23 (cI 1),
oM 8 24]))))))
(sq (kr [6] [oM 60 6,
oM 4 60,
oD 5 (.mov cT)])
.ret))))))
def bw_:List RD:=[.tmp 4 false none,.tmp 5 false none]
theorem b9_:zk_ Tryz.prog Tryz.f35 BW_ bw_=true:=by kernel_rfl
def Kn_:List AV->List Obj->Option (Prop × AV × List Obj)
 | [.imm (.int .i64) w,.imm (.int .u64) xs],[]=>some ((True,.tup [.own 0,.bool (ZM_ w xs)],[.row false (.int .u8) (zR_ w xs)]))
 | _,_=>none
theorem jY_:zd_ Tryz.prog 35 (RwF Kn_).sum:=by
 refine qa_ Tryz.func35 b9_ (za_ (s:=RoF jR_) XM_ (za_ (s:=RoF Ko_) jZ_ (za_ (s:=RoF yD_) HY_ (za_ (s:=RwF Qf_) qL_ (zc_ _))))) fun args objs p v o e=>?_
 unfold Kn_ at e
 split at e
 ·rename_i w xs
  cases e
  refine ⟨rfl,fun hw ho hp=>?_⟩
  change List Int at w
  change List Int at xs
  have hx:xs.length<=maxLen:=(hw (.imm (.int .u64) xs) (by simp)).2
  unfold maxLen at hx
  repeat'(intro t ht;first|(cases t<;>first|(cases ht;done)|(try simp only[zg_]at ht))|((first|refine zb_ ht ?_|refine ht ?_ ?_|refine ht.1 ?_ ?_|refine ht ?_)<;>clear ht))
  all_goals first
   | exact True.intro
   | (intro r h1 h2;clear h1;refine h2 ⟨[0,1,6,7,8],Nat × Nat × List Int,(fun a=>a.1<=w.length/\(a.2.2.length:Int)=K6_ zt_ w a.1/\K6_ ZW_ w a.1=a.2.1/\qQ_ w xs []=qQ_ (w.drop a.1) (xs.drop a.2.1) a.2.2),fun a=>[.imm (.int .i64) w,.imm (.int .u64) xs,.own 0,.int .i64 a.2.1,.int .i64 a.1],fun a=>[.row false (.int .u8) a.2.2],fun a=>w.length - a.1,⟨(0,0,[]),⟨Nat.zero_le _,rfl,rfl,rfl⟩,rfl,rfl⟩,?_⟩;clear h2)
   | ((try simp only [zm_,zn_,zl_] at*);omega)
   | (have hn:¬ (z3_ w=true/\zo_ w=xs.length):=fun h=>by simp_all
      unfold zR_ ZM_ Ka_;rw [if_neg hn];exact ⟨rfl,rfl⟩)
  rintro ⟨i,k,b⟩ ⟨hi,hb,hk,he⟩
  dsimp only at hi hb hk he
  have hr:z3_ w=true:=by assumption
  have hc:zo_ w=xs.length:=by assumption
  have hsum:(w.map ZW_).sum=xs.length:=by unfold zo_ at hc;rwa [if_pos hr] at hc
  have hl:=(Zk_.1 hr).1
  have hs:=yS_ hr i
  have h1:=yR_ hr i
  repeat'(intro t ht;first|(cases t<;>first|(cases ht;done)|(try simp only[zg_]at ht))|((first|refine zb_ ht ?_|refine ht ?_ ?_|refine ht.1 ?_ ?_|refine ht ?_)<;>clear ht))
  all_goals first
   | ((try simp only [zm_,zn_,zl_] at*);omega)
   | (have hge:w.length<=i:=by omega
      rw [List.drop_of_length_le hge] at he
      have hf:Ka_ w xs=some b:=by unfold Ka_;rw [if_pos ⟨hr,hc⟩,he];rfl
      unfold zR_ ZM_;rw [hf];exact ⟨rfl,rfl⟩)
   | skip
  all_goals have hlt:i < w.length:=by omega
  all_goals have hkk:=(Zk_.1 hr).2 _ (zu_ (α:=Int) hlt 0)
  all_goals first
   | ((try simp only [zm_,zn_,zl_] at*);omega)
   | (have hn:w.getD i 0 < 0:=by assumption
      have ha:=JL_ hn
      have h0:ZW_ (w.getD i 0)=0:=if_neg (by omega)
      have hbl:=zj_ (n:=0) (w:=0 - w.getD i 0) (by omega)
      first
       | ((try simp only [zm_,zn_,zl_] at*);omega)
       | (refine ⟨(i+1,k,b++ze_ 0 (0 - w.getD i 0)),⟨hlt,?_,?_,?_⟩,by dsimp only;omega,rfl,?_⟩
          ·rw [ZR_ zt_ hlt,ha];simp only [List.length_append];omega
          ·rw [ZR_ ZW_ hlt,h0];dsimp only;omega
          ·rw [he];exact zbt_ hlt hn
          ·dsimp only;rw [<- Vy_];rfl))
   | (have hn:¬ w.getD i 0 < 0:=by assumption
      have hlt2:=zfH_ (w:=w) (i:=i) hlt (by omega)
      have h2:k < xs.length:=by omega
      first
       | ((try simp only [zm_,zn_,zl_] at*);omega)
       | (have h8:=zhp_ (by assumption) hkk.2.1
          have hf:Ka_ w xs=none:=by unfold Ka_;rw [if_pos ⟨hr,hc⟩,he];exact h7_ hlt hn h2 h8.1 h8.2
          unfold zR_ ZM_;rw [hf];exact ⟨rfl,rfl⟩)
       | (have h8:=zjf_ (by assumption)
          have ha:=Xp_ hn
          have h0:ZW_ (w.getD i 0)=1:=if_pos (by omega)
          have hbl:=zj_ (n:=xs.getD k 0) (w:=w.getD i 0) (by omega)
          first
           | (simp only [zN_];(try simp only [zm_,zn_,zl_] at*);omega)
           | (refine ⟨(i+1,k+1,b++ze_ (xs.getD k 0) (w.getD i 0)),⟨hlt,?_,?_,?_⟩,by dsimp only;omega,rfl,rfl⟩
              ·rw [ZR_ zt_ hlt,ha];simp only [List.length_append];omega
              ·rw [ZR_ ZW_ hlt,h0];dsimp only;omega
              ·rw [he];exact h6_ hlt hn h2 h8)))
 ·cases e
def U7_:IR:=
(sq (kr [0] [oD 1 (.boxv 0),
oD 2 (.nilrow (.int .u8))])
(sq (.reg [oD 3 (.nilrow (.int .u8))])
(sq (sq (.reg [oA 5 0 1,
oL 6 5,
oB 7 .eql 6 (cI 65535)])
(.cond 7
(kr [1] [oA 8 3 1,
oL 9 8,
oC 10 88 [9,(cI 4)],
oM 3 10])
.skip))
(sq (kd [1,3] [(oM 11 3,[]),
(oA 12 4 1,[0]),
(oL 13 12,[1]),
(oD 14 (.append (.int .u8) 1 11 13),[]),
(oA 15 5 1,[0,0,0,0]),
(oL 16 15,[1,0,0,0]),
(oD 17 (.append (.int .u8) 1 14 16),[]),
(oM 3 17,[])])
(sq (kr [1,3] [oA 18 1 1,
oL 19 18,
oB 20 .mul (cI 2) 19,
oM 4 20])
(sq (sq (.reg [oA 21 2 1,
oL 22 21])
(.cond 22
(kr [1,3,4] [oM 23 4,
oB 24 .add 23 (cI 1),
oM 4 24])
.skip))
(sq (kr [1,3,4] [oA 25 0 1,
oL 26 25,
oD 27 (.conv .u64 26),
oC 28 88 [27,(cI 2)],
oM 29 4,
oD 30 (.conv .u8 29),
oM 31 3,
oE 32 31,
oD 33 (.conv .u8 32),
oD 34 (.sliceAll (.int .u8) 2 [(0,1,30),(1,1,33)]),
oD 35 (.append (.int .u8) 1 28 34),
oM 36 3,
oD 37 (.append (.int .u8) 1 35 36),
oM 2 37])
.ret)))))))
def Uf_:List RD:=[.tmp 2 false none]
theorem UI_:zk_ Tryz.prog Tryz.f127 U7_ Uf_=true:=by kernel_rfl
def Ja_:List AV->List Obj->Option (Prop × AV × List Obj)
 | [.agg [.int .i64 c,.int .i64 f,.bool h,.int .u64 x,.imm (.int .u8) v,.imm (.int .u8) m]],[]=>some ((0<=f/\f<=127/\0<=c/\c<=65535/\v.length<=100/\m.length<=100,.own 0,[.row false (.int .u8) (Zx_ c f h x v m)]))
 | _,_=>none
theorem VI_:zd_ Tryz.prog 127 (RwF Ja_).sum:=by
 refine qa_ Tryz.func127 UI_ (za_ (s:=RwF Qf_) qL_ (zc_ _)) fun args objs p v o e=>?_
 unfold Ja_ at e
 split at e
 ·rename_i c f h x v m
  cases e
  refine ⟨rfl,fun hw ho hp=>?_⟩
  change List Int at v
  change List Int at m
  have hx:=zj_ (n:=x) (w:=4) (by decide)
  have hc2:=zj_ (n:=c) (w:=2) (by decide)
  cases h<;>by_cases hc:c=65535
  all_goals repeat'(intro t ht;first|(cases t<;>first|(cases ht;done)|(try simp only[zg_]at ht))|((first|refine zb_ ht ?_|refine ht ?_ ?_|refine ht.1 ?_ ?_|refine ht ?_)<;>clear ht))
  all_goals first
   | exact True.intro
   | exact (by decide)
   | contradiction
   | ((try simp only [zm_,zn_,zl_] at*);omega)
   | (simp only [List.length_append,List.length_cons,List.length_nil,zN_];(try simp only [zm_,zn_,zl_] at*);omega)
   | (refine ⟨rfl,?_⟩;(try simp only [zN_]);unfold Zx_ JJ_;simp_all;done)
 ·cases e
def zeX_:IR:=
(sq (kr [0] [oD 2 (.mov (.c (.imm (.int .i64) []))),
oD 3 (.mov cF)])
(sq (sq (.reg [oM 4 0])
(.block 0
(sq (.reg [oB 6 .eql 4 (cI 0),
oM 5 6])
(.cond 5
(sq (.reg [oD 7 (.sliceAll (.int .i64) 3 [(0,1,(cI 4)),(1,1,(cI 2)),(2,1,(cI (-6)))]),
oM 2 7,
oD 3 (.mov cT)])
.ret)
(sq (sq (.reg [oB 9 .eql 4 (cI 22),
oM 8 9])
(.cond 8
.skip
(sq (kr [4] [oB 10 .eql 4 (cI 21),
oM 8 10])
(.cond 8
.skip
(.reg [oB 11 .eql 4 (cI 65535),
oM 8 11])))))
(.cond 8
(sq (kr [] [oD 12 (.sliceAll (.int .i64) 1 [(0,1,(cI 4))]),
oM 2 12,
oD 3 (.mov cT)])
.ret)
(sq (sq (kr [4] [oB 14 .eql 4 (cI 15),
oM 13 14])
(.cond 13
.skip
(.reg [oB 15 .eql 4 (cI 23),
oM 13 15])))
(.cond 13
(sq (.reg [oD 16 (.sliceAll (.int .i64) 2 [(0,1,(cI 1)),(1,1,(cI (-3)))]),
oM 2 16,
oD 3 (.mov cT)])
.ret)
(sq (sq (.reg [oB 18 .eql 4 (cI 11),
oM 17 18])
(.cond 17
.skip
(sq (kr [4] [oB 19 .eql 4 (cI 12),
oM 17 19])
(.cond 17
.skip
(sq (.reg [oB 20 .eql 4 (cI 16),
oM 17 20])
(.cond 17
.skip
(sq (.reg [oB 21 .eql 4 (cI 18),
oM 17 21])
(.cond 17
.skip
(sq (kr [4] [oB 22 .eql 4 (cI 24),
oM 17 22])
(.cond 17
.skip
(.reg [oB 23 .eql 4 (cI 27),
oM 17 23])))))))))))
(.cond 17
(sq (kr [] [oD 24 (.sliceAll (.int .i64) 1 [(0,1,(cI (-4)))]),
oM 2 24,
oD 3 (.mov cT)])
.ret)
(sq (sq (kr [4] [oB 26 .eql 4 (cI 17),
oM 25 26])
(.cond 25
.skip
(sq (.reg [oB 27 .eql 4 (cI 19),
oM 25 27])
(.cond 25
.skip
(sq (.reg [oB 28 .eql 4 (cI 20),
oM 25 28])
(.cond 25
.skip
(kr [4] [oB 29 .eql 4 (cI 26),
oM 25 29])))))))
(.cond 25
(sq (kr [] [oD 30 (.sliceAll (.int .i64) 2 [(0,1,(cI 2)),(1,1,(cI (-2)))]),
oM 2 30,
oD 3 (.mov cT)])
.ret)
.skip))))))))))))
(sq (kr [] [oD 2 (.mov (.c (.imm (.int .i64) []))),
oD 3 (.mov cF)])
.ret)))
def zdT_:List RD:=[.tmp 2 true (some (.int .i64)),.tmp 3 true none]
theorem zem_:zk_ Tryz.prog Tryz.f168 zeX_ zdT_=true:=by kernel_rfl
def vU_:List AV->List Obj->Option (Prop × AV)
 | [.int .i64 q],[]=>some ((True,.tup [.imm (.int .i64) (zI_ q),.bool (Gg_ q)]))
 | _,_=>none
theorem zaS_:zd_ Tryz.prog 168 (RoF vU_).sum:=by
 refine zi_ Tryz.func168 zem_ (zc_ _) fun args objs p v e=>?_
 unfold vU_ at e
 split at e
 ·rename_i q
  cases e
  refine ⟨rfl,fun hw ho hp=>?_⟩
  clear hw ho
  repeat'(intro t ht;first|(cases t<;>first|(cases ht;done)|(try simp only[zg_]at ht;try(exfalso;first|contradiction|omega)))|((first|refine zb_ ht ?_|refine ht ?_ ?_|refine ht.1 ?_ ?_|refine ht ?_)<;>clear ht))
  all_goals first
   | exact True.intro
   | (have h:=zfM_ (t:=q) (by omega)
      rw [h.1,h.2];exact ⟨rfl,rfl⟩)
   | (subst_vars;exact ⟨rfl,rfl⟩)
   | (have h:q=0\/(q=22\/q=21\/q=65535)\/(q=15\/q=23)\/(q=17\/q=19\/q=26\/q=20)\/(q=11\/q=12\/q=16\/q=18\/q=24\/q=27):=by omega
      rcases h with rfl | (rfl | rfl | rfl) | (rfl | rfl) | (rfl | rfl | rfl | rfl) | (rfl | rfl | rfl | rfl | rfl | rfl)<;>first | (exfalso;omega) | exact ⟨rfl,rfl⟩)
 ·cases e
def BL_:IR:=
(sq (kr [0,1] [oD 4 (.mov (cI 0))])
(sq (sq (.reg [oM 5 0])
(.block 0
(sq (.reg [oB 7 .eql 5 (cI 0),
oM 6 7])
(.cond 6
(sq (.reg [oM 8 1,
oB 9 .eql 8 (.c (.int .u64 0))])
(.cond 9
(sq (kr [] [oD 4 (.mov (cI 517))])
.ret)
.skip))
(sq (.reg [oB 11 .eql 5 (cI 22),
oM 10 11])
(.cond 10
(sq (kr [1] [oM 12 1,
oB 13 .gtr 12 (.c (.int .u64 4294967040))])
(.cond 13
(sq (.reg [oD 4 (.mov (cI 522))])
.ret)
.skip))
(sq (kr [1,5] [oB 15 .eql 5 (cI 17),
oM 14 15])
(.cond 14
(sq (kr [1] [oM 16 1,
oB 17 .neq 16 (.c (.int .u64 33024)),
oM 18 17,
oT 18 19 (.mov 1),
oT 18 20 (.bin .neq 19 (.c (.int .u64 34984))),
oP 21 18 20 cF])
(.cond 21
(sq (kr [] [oD 4 (.mov (cI 518))])
.ret)
.skip))
(sq (.reg [oB 23 .eql 5 (cI 19),
oM 22 23])
(.cond 22
(sq (kr [1] [oM 24 1,
oB 25 .neq 24 (.c (.int .u64 34887)),
oM 26 25,
oT 26 27 (.mov 1),
oT 26 28 (.bin .neq 27 (.c (.int .u64 34888))),
oP 29 26 28 cF])
(.cond 29
(sq (kr [] [oD 4 (.mov (cI 518))])
.ret)
.skip))
(sq (.reg [oB 31 .eql 5 (cI 26),
oM 30 31])
(.cond 30
(sq (kr [1] [oM 32 1,
oB 33 .neq 32 (.c (.int .u64 35047))])
(.cond 33
(sq (.reg [oD 4 (.mov (cI 518))])
.ret)
.skip))
.skip))))))))))))
(sq (kr [] [oD 4 (.mov (cI 0))])
.ret)))
def bl_:List RD:=[.tmp 4 true none]
theorem bY_:zk_ Tryz.prog Tryz.f169 BL_ bl_=true:=by kernel_rfl
def xW_:List AV->List Obj->Option (Prop × AV)
 | [.int .i64 q,.int .u64 n],[]=>some ((True,.int .i64 (hO_ q n)))
 | _,_=>none
theorem g3_:zd_ Tryz.prog 169 (RoF xW_).sum:=by
 refine zi_ Tryz.func169 bY_ (zc_ _) fun args objs p v e=>?_
 unfold xW_ at e
 split at e
 ·rename_i q n
  cases e
  refine ⟨rfl,fun hw ho hp=>?_⟩
  clear hw ho
  repeat'(intro t ht;first|(cases t<;>first|(cases ht;done)|(try simp only[zg_]at ht;try(exfalso;first|contradiction|omega)))|((first|refine zb_ ht ?_|refine ht ?_ ?_|refine ht.1 ?_ ?_|refine ht ?_)<;>clear ht))
  all_goals first
   | exact True.intro
   | (refine ⟨congrArg (AV.int .i64) ?_,rfl⟩;unfold hO_;repeat' split
      all_goals first | rfl | omega)
 ·cases e
def zcj_:IR:=
(sq (kr [0,1] [oD 2 (.boxv 0),
oD 4 (.mov (.c (.imm (.int .u64) [])))])
(sq (kr [1,2] [oA 6 1 2,
oL 7 6,
oA 8 2 2,
oL 9 8,
oD 10 (.sliceAll (.int .u64) 2 [(0,1,7),(1,1,9)]),
oM 5 10])
(sq (kr [1,5] [oM 11 5,
oM 12 1,
oC 13 86 [12],
oD 14 (.slice 1 11 none (some 13) none),
oM 4 14])
.ret)))
def za9_:List RD:=[.tmp 4 true (some (.int .u64))]
theorem zbD_:zk_ Tryz.prog Tryz.f196 zcj_ za9_=true:=by kernel_rfl
def yx_:List AV->List Obj->Option (Prop × AV)
 | [.agg [.int .i64 q,.int .u64 a,.int .u64 b,.int .i64 c,.int .i64 f,.bool h,.int .u64 x,.imm (.int .u8) v,.imm (.int .u8) m,.imm (.int .u8) d],.imm (.int .i64) w],[]=>some ((0<=zo_ w/\zo_ w<=2,.imm (.int .u64) ([a,b].take (zo_ w).toNat)))
 | _,_=>none
theorem HS_:zd_ Tryz.prog 196 (RoF yx_).sum:=by
 refine zi_ Tryz.func196 zbD_ (za_ (s:=RoF Ko_) jZ_ (zc_ _)) fun args objs p v e=>?_
 unfold yx_ at e
 split at e
 ·rename_i q a b c f h x v m d w
  cases e
  refine ⟨rfl,fun hw ho hp=>?_⟩
  change List Int at v
  change List Int at m
  change List Int at d
  change List Int at w
  clear hw ho
  repeat'(intro t ht;first|(cases t<;>first|(cases ht;done)|(try simp only[zg_]at ht;try(exfalso;first|contradiction|omega)))|((first|refine zb_ ht ?_|refine ht ?_ ?_|refine ht.1 ?_ ?_|refine ht ?_)<;>clear ht))
  all_goals first
   | exact True.intro
   | exact hp
   | ((try simp only [zm_,zn_,zl_] at*);omega)
   | exact ⟨rfl,rfl⟩
 ·cases e
theorem Ua_ {q a b c f:Int} {h:Bool} {x:Int} {v m d:List Int} (hx:0<=x) (hv:∀ x ∈ v,0<=x/\x<=255) (hm:∀ x ∈ m,0<=x/\x<=255):z4_ (zG_ c f h x v m) q a b c f h x v m d=z4_ (KH_ c f h x v m) q a b c f h x v m d:=by rw [Y6_ hx hv hm]
def ug_:IR:=
(sq (kr [0] [oD 2 (.mov cF)])
(sq (kr [0] [oM 6 0,
oC 7 138 [6],
oM 5 7,
oX 8 5 0,
oX 9 5 1,
oD 3 (.box [.str [],.int .i64 0,.int .i64 0,.kb false,.int .i64 0,.imm (.int .u64) []]),
oS 6 3 8,
oM 4 9])
(sq (kr [0,4] [oM 10 4,
oM 11 10,
oT 11 12 (.mov 0),
oT 11 13 (.bin .gtr 12 (cI 2)),
oP 14 11 13 cF,
oM 15 14,
oT 15 16 (.mov 0),
oT 15 17 (.bin .neq 16 (cI 39)),
oP 18 15 17 cF,
oM 2 18])
.ret)))
def VS_:List RD:=[.tmp 2 true none]
theorem V3_:zk_ Tryz.prog Tryz.f183 ug_ VS_=true:=by kernel_rfl
def jn_:List AV->List Obj->Option (Prop × AV)
 | [.int .i64 n],[]=>some ((True,.bool (XS_ n)))
 | _,_=>none
theorem YX_:zd_ Tryz.prog 183 (RoF jn_).sum:=by
 refine zi_ Tryz.func183 V3_ (za_ (s:=RoF jo_) K8_ (zc_ _)) fun args objs p v e=>?_
 unfold jn_ at e
 split at e
 ·rename_i n
  cases e
  refine ⟨rfl,fun hw ho hp=>?_⟩
  repeat'(intro t ht;first|(cases t<;>first|(cases ht;done)|(try simp only[zg_]at ht))|((first|refine zb_ ht ?_|refine ht ?_ ?_|refine ht.1 ?_ ?_|refine ht ?_)<;>clear ht))
  all_goals try (try simp only [zm_,zn_,zl_] at*)
  all_goals first
   | exact True.intro
   | (refine ⟨?_,trivial⟩;unfold XS_;congr 1;rw [Bool.eq_iff_iff];first | (have h:=ql_.1 (by assumption);simp at*;omega) | (have h:=jL_.1 (by assumption);simp at*;omega) | (simp at*;omega))
 ·cases e
end Go.Eng
namespace Go.Eng
open Go.Proofs
set_option linter.unusedVariables false
set_option linter.unusedSimpArgs false
set_option maxRecDepth 100000
set_option maxHeartbeats 1000000
set_option maxHeartbeats 8000000
end Go.Eng
namespace Go.Eng
open Go.Proofs
set_option linter.unusedVariables false
set_option linter.unusedSimpArgs false
set_option maxRecDepth 100000
set_option maxHeartbeats 1000000
theorem Hw_ {q a b c f:Int} {h:Bool} {x:Int} {v m d:List Int} (hr:z4_ (zG_ c f h x v m) q a b c f h x v m d=true):ZQ_ q a b (Zv_ c f h x v m) d=ZQ_ q a b (Zx_ c f h x v m) d:=by
 by_cases h25:q=25
 ·obtain ⟨_,_,_,_,_,_,hR⟩:=K1_ h25 hr
  rw [YB_ hR]
 ·unfold ZQ_;rw [if_neg h25,if_neg h25]
theorem zaZ_ {R:Bool} {q a b c f:Int} {h:Bool} {x:Int} {v m d:List Int} (hr:z4_ R q a b c f h x v m d=true):0<=q/\q<=65535:=by
 by_cases h25:q=25
 ·omega
 ·exact uu_ (.inl (QE_ h25 hr).1)
theorem zgW_ {c f:Int} {h:Bool} {x:Int} {v m:List Int} (hs:Kz_ c f h x v m 0 0 false 0 [] []=true):h=false:=by
 cases h with
 | false=>rfl
 | true=>unfold Kz_ at hs;simp at hs
def zck_:IR:=
(sq (kr [0] [oD 1 (.boxv 0),
oD 2 (.mov (.c (.imm (.int .u8) []))),
oD 3 (.mov cF)])
(sq (.reg [oD 13 (.build [.int .i64 0,.int .i64 0,.kb false,.int .u64 0,.imm (.int .u8) [],.imm (.int .u8) []] []),
oD 4 (.box [.int .i64 0,.int .i64 0,.kb false,.int .u64 0,.imm (.int .u8) [],.imm (.int .u8) []]),
oS 6 4 13])
(sq (sq (.reg [oA 14 0 1,
oL 15 14,
oB 16 .eql 15 (cI 25)])
(.cond 16
(sq (kr [1] [oA 17 3 1,
oK 18 6 17,
oD 5 (.box [.int .i64 0,.int .i64 0,.kb false,.int .u64 0,.imm (.int .u8) [],.imm (.int .u8) []]),
oS 6 5 18])
(sq (kr [1,5] [oA 19 1 1,
oL 20 19,
oB 21 .eql 20 (.c (.int .u64 0)),
oM 22 21,
oT 22 23 (.fieldAddr 2 1),
oT 22 24 (.load none 23),
oT 22 25 (.bin .eql 24 (.c (.int .u64 0))),
oP 26 22 25 cF,
oM 27 26,
oT 27 28 (.fieldAddr 9 1),
oT 27 29 (.load none 28),
oT 27 30 (.len 29),
oT 27 31 (.bin .eql 30 (cI 0)),
oP 32 27 31 cF,
oM 33 32,
oT 33 34 (.fieldAddr 0 5),
oT 33 35 (.load none 34),
oT 33 36 (.bin .eql 35 (cI 32768)),
oP 37 33 36 cF,
oM 38 37,
oT 38 39 (.fieldAddr 2 5),
oT 38 40 (.load none 39),
oT 38 41 (.un .not 40),
oP 42 38 41 cF,
oM 43 42,
oT 43 44 (.fieldAddr 1 5),
oT 43 45 (.load none 44),
oT 43 46 (.call false (.f 183) [45]),
oP 47 43 46 cF,
oM 48 47,
oT 48 49 (.load (some 6) 5),
oT 48 50 (.call false (.f 126) [49]),
oP 51 48 50 cF,
oM 6 51])
(sq (sq (kr [5,6] [oM 52 6,
oD 53 (.un .not 52)])
(.cond 53
(sq (.reg [oD 2 (.mov (.c (.imm (.int .u8) []))),
oD 3 (.mov cF)])
.ret)
.skip))
(sq (.reg [oK 54 6 5,
oC 55 127 [54],
oM 7 55])
(sq (.block 0
(.loop
(sq (sq (kr [7] [oM 56 7,
oE 57 56,
oB 58 .rem 57 (cI 8),
oB 59 .neq 58 (cI 4)])
(.cond 59
.skip
(.exit 0)))
(.block 1
(.reg [oM 60 7,
oD 61 (.sliceAll (.int .u8) 1 [(0,1,(.c (.int .u8 0)))]),
oD 62 (.append (.int .u8) 1 60 61),
oM 7 62])))))
(sq (kr [7] [oM 63 7,
oM 2 63,
oD 3 (.mov cT)])
.ret))))))
.skip))
(sq (kr [1,4] [oA 65 0 1,
oL 66 65,
oC 67 168 [66],
oM 64 67,
oX 68 64 0,
oX 69 64 1,
oM 8 68,
oM 9 69])
(sq (sq (kr [1,4,8,9] [oM 70 9,
oD 71 (.un .not 70),
oM 72 71,
oF 72 73 (.fieldAddr 3 1),
oF 72 74 (.load (some 6) 73),
oF 72 75 (.load (some 6) 4),
oF 72 76 (.call false (.f 110) [74,75]),
oF 72 77 (.un .not 76),
oP 78 72 cT 77,
oM 79 78,
oF 79 80 (.fieldAddr 3 1),
oF 79 81 (.fieldAddr 2 80),
oF 79 82 (.load none 81),
oP 83 79 cT 82,
oM 84 83,
oF 84 85 (.fieldAddr 0 1),
oF 84 86 (.load none 85),
oF 84 87 (.fieldAddr 1 1),
oF 84 88 (.load none 87),
oF 84 89 (.call false (.f 169) [86,88]),
oF 84 90 (.bin .neq 89 (cI 0)),
oP 91 84 cT 90])
(.cond 91
(sq (kr [] [oD 2 (.mov (.c (.imm (.int .u8) []))),
oD 3 (.mov cF)])
.ret)
.skip))
(sq (kr [1,8] [oK 92 10 1,
oM 93 8,
oC 94 196 [92,93],
oM 10 94])
(sq (kr [1,8,10] [oM 96 8,
oM 97 10,
oC 98 35 [96,97],
oM 95 98,
oX 99 95 0,
oX 100 95 1,
oM 11 99,
oM 12 100])
(sq (sq (kr [1,10,11,12] [oM 101 12,
oD 102 (.un .not 101),
oM 103 102,
oF 103 104 (.mov 10),
oF 103 105 (.len 104),
oF 103 106 (.bin .lss 105 (cI 2)),
oF 103 107 (.mov 106),
oT 107 108 (.fieldAddr 2 1),
oT 107 109 (.load none 108),
oT 107 110 (.bin .neq 109 (.c (.int .u64 0))),
oF 103 111 (.pick 107 110 cF),
oP 112 103 cT 111,
oM 113 112,
oF 113 114 (.mov 10),
oF 113 115 (.len 114),
oF 113 116 (.bin .lss 115 (cI 1)),
oF 113 117 (.mov 116),
oT 117 118 (.fieldAddr 1 1),
oT 117 119 (.load none 118),
oT 117 120 (.bin .neq 119 (.c (.int .u64 0))),
oF 113 121 (.pick 117 120 cF),
oP 122 113 cT 121,
oM 123 122,
oF 123 124 (.fieldAddr 0 1),
oF 123 125 (.load none 124),
oF 123 126 (.bin .neq 125 (cI 65535)),
oF 123 127 (.mov 126),
oT 127 128 (.fieldAddr 9 1),
oT 127 129 (.load none 128),
oT 127 130 (.len 129),
oT 127 131 (.bin .gtr 130 (cI 0)),
oF 123 132 (.pick 127 131 cF),
oP 133 123 cT 132,
oM 134 133,
oF 134 135 (.fieldAddr 9 1),
oF 134 136 (.load none 135),
oF 134 137 (.len 136),
oF 134 138 (.bin .rem 137 (cI 8)),
oF 134 139 (.bin .neq 138 (cI 0)),
oP 140 134 cT 139,
oM 141 140,
oF 141 142 (.fieldAddr 9 1),
oF 141 143 (.load none 142),
oF 141 144 (.len 143),
oF 141 145 (.bin .gtr 144 (cI 65520)),
oP 146 141 cT 145])
(.cond 146
(sq (kr [] [oD 2 (.mov (.c (.imm (.int .u8) []))),
oD 3 (.mov cF)])
.ret)
.skip))
(sq (kr [1,11] [oM 147 11,
oA 148 9 1,
oL 149 148,
oD 150 (.append (.int .u8) 1 147 149),
oM 2 150,
oD 3 (.mov cT)])
.ret)))))))))
def zba_:List RD:=[.tmp 2 true (some (.int .u8)),.tmp 3 true none]
theorem zbE_:zk_ Tryz.prog Tryz.f179 zck_ zba_=true:=by kernel_rfl
def yy_:List AV->List Obj->Option (Prop × AV)
 | [.agg [.int .i64 q,.int .u64 a,.int .u64 b,.int .i64 c,.int .i64 f,.bool h,.int .u64 x,.imm (.int .u8) v,.imm (.int .u8) m,.imm (.int .u8) d]],[]=>some ((v.length<=100000/\m.length<=100000/\d.length<=100000,.tup [.imm (.int .u8) (if z4_ (KH_ c f h x v m) q a b c f h x v m d=true then ZQ_ q a b (Zx_ c f h x v m) d else []),.bool (z4_ (KH_ c f h x v m) q a b c f h x v m d)]))
 | _,_=>none
theorem HT_:zd_ Tryz.prog 179 (RoF yy_).sum:=by
 refine zi_ Tryz.func179 zbE_ (za_ (s:=RoF jn_) YX_ (za_ (s:=RoF jO_) XJ_ (za_ (s:=RwF Ja_) VI_ (za_ (s:=RoF vU_) zaS_ (za_ (s:=RoF yA_) HV_ (za_ (s:=RoF xW_) g3_ (za_ (s:=RoF yx_) HS_ (za_ (s:=RwF Kn_) jY_ (zc_ _))))))))) fun args objs p v e=>?_
 unfold yy_ at e
 split at e
 ·rename_i q a b c f h x v m d
  cases e
  refine ⟨rfl,fun hw ho hp=>?_⟩
  change List Int at v
  change List Int at m
  change List Int at d
  have hx0:0<=x:=((hw _ (List.mem_cons_self ..)) (.int .u64 x) (by simp)).1
  have hv0:∀ z ∈ (v:List Int),(0:Int)<=z/\z<=255:=fun z hz=>((hw _ (List.mem_cons_self ..)) (.imm (.int .u8) v) (by simp)).1 z hz
  have hm0:∀ z ∈ (m:List Int),(0:Int)<=z/\z<=255:=fun z hz=>((hw _ (List.mem_cons_self ..)) (.imm (.int .u8) m) (by simp)).1 z hz
  clear hw ho
  have hcn:=gC_ q
  have hsz:=u5_ q
  have hRO:=Y6_ (c:=c) (f:=f) (h:=h) hx0 hv0 hm0
  have hcl:((([a,b].take (zo_ (zI_ q)).toNat).length:Nat):Int)=zo_ (zI_ q):=by rw [List.length_take];simp only [List.length_cons,List.length_nil];omega
  have hpl:([a,b].take (zo_ (zI_ q)).toNat).length=(zo_ (zI_ q)).toNat:=by rw [List.length_take];simp only [List.length_cons,List.length_nil];omega
  by_cases h25:q=25
  ·have hR:z4_ (KH_ c f h x v m) q a b c f h x v m d=(decide (a=0) && decide (b=0) && decide (d.length=0) && (decide (c=32768) && !h && XS_ f && KH_ c f h x v m)):=if_pos h25
   cases hr:z4_ (KH_ c f h x v m) q a b c f h x v m d with
   | false=>
     rw [hR] at hr
     repeat'(intro t ht;first|(cases t<;>first|(cases ht;done)|(try simp only[zg_]at ht;try(exfalso;first|contradiction|omega)))|((first|refine zb_ ht ?_|refine ht ?_ ?_|refine ht.1 ?_ ?_|refine ht ?_)<;>clear ht))
     all_goals first
      | exact True.intro
      | exact hp
      | exact ⟨hp.1,hp.2.1⟩
      | omega
      | exact ⟨rfl,by first | rfl | exact True.intro⟩
      | (exfalso;simp_all;done)
   | true=>
     obtain ⟨ha,hb,hd,hc,hh,hs,hRr⟩:=K1_ h25 hr
     have hBB:ZQ_ q a b (Zx_ c f h x v m) d=Zx_ c f h x v m++List.replicate ((8 - (4+(Zx_ c f h x v m).length) % 8) % 8) 0:=if_pos h25
     have hn:=Z8_ (hRO.trans hRr)
     have hsL:=(k5_ (hRO.trans hRr)).2
     rw [YB_ (hRO.trans hRr)] at hsL
     repeat'(intro t ht;first|(cases t<;>first|(cases ht;done)|(try simp only[zg_]at ht;try(exfalso;first|contradiction|omega)))|((first|refine zb_ ht ?_|refine ht ?_ ?_|refine ht.1 ?_ ?_|refine ht ?_)<;>clear ht))
     all_goals first
      | exact True.intro
      | exact ⟨hp.1,hp.2.1⟩
      | exact ⟨hn.1,hn.2.1,by omega,by omega,by omega,by omega⟩
      | omega
      | (exfalso;simp_all;done)
      | (intro r h1 h2;clear h1;refine h2 ⟨[7],Nat,(fun i=>i<=(8 - (4+(Zx_ c f h x v m).length) % 8) % 8),fun _=>[.own 0],fun i=>[.row false (.int .u8) (Zx_ c f h x v m++List.replicate i 0)],fun i=>8 - i,⟨0,Nat.zero_le _,rfl,congrArg (fun l=>[Obj.row false (.int .u8) l]) (List.append_nil _).symm⟩,?_⟩;clear h2)
     rintro i hi
     (try dsimp only at hi)
     have hlen:(Zx_ c f h x v m++List.replicate i (0:Int)).length=(Zx_ c f h x v m).length+i:=by rw [List.length_append,List.length_replicate]
     repeat'(intro t ht;first|(cases t<;>first|(cases ht;done)|(try simp only[zg_]at ht))|((first|refine zb_ ht ?_|refine ht ?_ ?_|refine ht.1 ?_ ?_|refine ht ?_)<;>clear ht))
     all_goals (try simp only [hlen,kP_ (Int.natCast_nonneg _)] at*)
     all_goals first
      | exact True.intro
      | omega
      | ((try simp only [zm_,zn_,zl_] at*);omega)
      | (refine ⟨i+1,?_,?_,rfl,?_⟩
         ·(try dsimp only);omega
         ·(try dsimp only);omega
         ·simp only [zN_,List.replicate_succ',List.append_assoc])
      | (simp only [List.length_cons,List.length_nil];constructor<;>omega)
      | (refine ⟨?_,by first | rfl | exact True.intro⟩;rw [hBB,show i=(8 - (4+(Zx_ c f h x v m).length) % 8) % 8 by omega];rfl)
  ·have hR:z4_ (KH_ c f h x v m) q a b c f h x v m d=(Gg_ q && Kz_ c f h x v m 0 0 false 0 [] [] && decide (hO_ q a=0) && ZM_ (zI_ q) ([a,b].take (zo_ (zI_ q)).toNat) && (decide (2<=zo_ (zI_ q)) || decide (b=0)) && (decide (1<=zo_ (zI_ q)) || decide (a=0)) && (if q=65535 then decide ((d.length:Int).tmod 8=0) && decide ((d.length:Int)<=65520) else decide (d.length=0))):=if_neg h25
   cases hr:z4_ (KH_ c f h x v m) q a b c f h x v m d with
   | false=>
     rw [hR] at hr
     repeat'(intro t ht;first|(cases t<;>first|(cases ht;done)|(try simp only[zg_]at ht;try(exfalso;first|contradiction|omega)))|((first|refine zb_ ht ?_|refine ht ?_ ?_|refine ht.1 ?_ ?_|refine ht ?_)<;>clear ht))
     all_goals first
      | exact True.intro
      | exact hp
      | exact ⟨hp.1,hp.2.1⟩
      | exact hcn
      | omega
      | exact ⟨rfl,by first | rfl | exact True.intro⟩
      | (exfalso
         simp only [hcl] at*
         refine absurd ?_ (Bool.eq_false_iff.1 hr)
         simp only [Bool.and_eq_true,Bool.or_eq_true,decide_eq_true_eq]
         refine ⟨⟨⟨⟨⟨⟨by assumption,by assumption⟩,by assumption⟩,by assumption⟩,by omega⟩,by omega⟩,?_⟩
         first
          | (rw [if_pos (by assumption)];simp only [Bool.and_eq_true,decide_eq_true_eq];exact ⟨by assumption,by omega⟩)
          | (rw [if_neg (by assumption)];simp only [decide_eq_true_eq];omega))
   | true=>
     obtain ⟨k1,k2,k3,k4,k5,k6,k7⟩:=QE_ h25 hr
     unfold jf_ at k4
     have hh:=zgW_ k2
     have hB:ZQ_ q a b (Zx_ c f h x v m) d=zR_ (zI_ q) ([a,b].take (zo_ (zI_ q)).toNat)++d:=if_neg h25
     have hps:=K2_ k4
     repeat'(intro t ht;first|(cases t<;>first|(cases ht;done)|(try simp only[zg_]at ht;try(exfalso;first|contradiction|omega)))|((first|refine zb_ ht ?_|refine ht ?_ ?_|refine ht.1 ?_ ?_|refine ht ?_)<;>clear ht))
     all_goals first
      | exact True.intro
      | exact hp
      | exact ⟨hp.1,hp.2.1⟩
      | exact hcn
      | omega
      | (constructor<;>omega)
      | (simp only [zN_];constructor<;>omega)
      | (refine ⟨?_,by first | rfl | exact True.intro⟩;rw [hB];rfl)
      | (exfalso;simp_all;done)
      | (exfalso;simp_all;omega)
 ·cases e
def hk_:IR:=
(sq (kr [0] [oD 1 (.boxv 0),
oD 2 (.mov (.c (.imm (.int .u8) []))),
oD 3 (.mov (cI 0))])
(sq (kr [1] [oK 7 10 1,
oC 8 179 [7],
oM 6 8,
oX 9 6 0,
oX 10 6 1,
oM 4 9,
oM 5 10])
(sq (sq (kr [1,4,5] [oM 11 5,
oD 12 (.un .not 11)])
(.cond 12
(sq (.reg [oD 2 (.mov (.c (.imm (.int .u8) []))),
oD 3 (.mov (cI 10001))])
.ret)
.skip))
(sq (kr [1,4] [oA 13 0 1,
oL 14 13,
oD 15 (.conv .u64 14),
oC 16 88 [15,(cI 2)],
oM 17 4,
oE 18 17,
oB 19 .add (cI 4) 18,
oD 20 (.conv .u64 19),
oC 21 88 [20,(cI 2)],
oD 22 (.append (.int .u8) 1 16 21),
oM 23 4,
oD 24 (.append (.int .u8) 1 22 23),
oM 2 24,
oD 3 (.mov (cI 0))])
.ret))))
def Gk_:List RD:=[.tmp 2 true (some (.int .u8)),.tmp 3 true none]
theorem GO_:zk_ Tryz.prog Tryz.f157 hk_ Gk_=true:=by kernel_rfl
def wJ_:List AV->List Obj->Option (Prop × AV)
 | [.agg [.int .i64 q,.int .u64 a,.int .u64 b,.int .i64 c,.int .i64 f,.bool h,.int .u64 x,.imm (.int .u8) v,.imm (.int .u8) m,.imm (.int .u8) d]],[]=>some ((v.length<=100000/\m.length<=100000/\d.length<=100000,.tup [.imm (.int .u8) (if z4_ (KH_ c f h x v m) q a b c f h x v m d=true then yr_ q a b (Zx_ c f h x v m) d else []),.int .i64 (if z4_ (KH_ c f h x v m) q a b c f h x v m d=true then 0 else 10001)]))
 | _,_=>none
theorem uR_:zd_ Tryz.prog 157 (RoF wJ_).sum:=by
 refine zi_ Tryz.func157 GO_ (za_ (s:=RoF yy_) HT_ (za_ (s:=RwF Qf_) qL_ (zc_ _))) fun args objs p v e=>?_
 unfold wJ_ at e
 split at e
 ·rename_i q a b c f h x v m d
  cases e
  refine ⟨rfl,fun hw ho hp=>?_⟩
  change List Int at v
  change List Int at m
  change List Int at d
  have hx0:0<=x:=((hw _ (List.mem_cons_self ..)) (.int .u64 x) (by simp)).1
  have hv0:∀ z ∈ (v:List Int),(0:Int)<=z/\z<=255:=fun z hz=>((hw _ (List.mem_cons_self ..)) (.imm (.int .u8) v) (by simp)).1 z hz
  have hm0:∀ z ∈ (m:List Int),(0:Int)<=z/\z<=255:=fun z hz=>((hw _ (List.mem_cons_self ..)) (.imm (.int .u8) m) (by simp)).1 z hz
  clear hw ho
  have hRA:=Ua_ (q:=q) (a:=a) (b:=b) (c:=c) (f:=f) (h:=h) (d:=d) hx0 hv0 hm0
  cases hr:z4_ (KH_ c f h x v m) q a b c f h x v m d with
  | false=>
    repeat'(intro t ht;first|(cases t<;>first|(cases ht;done)|(try simp only[zg_]at ht;try(exfalso;first|contradiction|omega)))|((first|refine zb_ ht ?_|refine ht ?_ ?_|refine ht.1 ?_ ?_|refine ht ?_)<;>clear ht))
    all_goals first
     | exact True.intro
     | exact hp
     | exact ⟨rfl,by first | rfl | exact True.intro⟩
     | (exfalso;simp_all;done)
  | true=>
    have hro:=hRA.trans hr
    obtain ⟨_,s1,_,_⟩:=Jt_ hro
    rw [Hw_ hro] at s1
    have hq:=zaZ_ hr
    have l2:=zj_ (n:=q) (w:=2) (by decide)
    have l3:=zj_ (n:=(4+(ZQ_ q a b (Zx_ c f h x v m) d).length)) (w:=2) (by decide)
    repeat'(intro t ht;first|(cases t<;>first|(cases ht;done)|(try simp only[zg_]at ht;try(exfalso;first|contradiction|omega)))|((first|refine zb_ ht ?_|refine ht ?_ ?_|refine ht.1 ?_ ?_|refine ht ?_)<;>clear ht))
    all_goals (try simp only [hr,if_true,zN_] at*)
    all_goals first
     | exact True.intro
     | exact hp
     | omega
     | ((try simp only [zm_,zn_,zl_] at*);omega)
     | (constructor<;>omega)
     | (simp only [List.length_append];constructor<;>omega)
     | exact ⟨rfl,by first | rfl | exact True.intro⟩
     | (exfalso;simp_all;done)
 ·cases e
end Go.Eng
