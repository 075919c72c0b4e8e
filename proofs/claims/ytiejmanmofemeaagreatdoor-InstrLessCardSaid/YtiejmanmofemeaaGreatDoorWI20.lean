/- Parts of the proof: I4, I5, I6, I7, I8, I9. No condition. -/
import Derived.Test.YtiejmanmofemeaaGreatDoorProg
import Derived.Test.YtiejmanmofemeaaGreatDoorWI10
import Derived.KernelRfl
import Derived.Test.YtiejmanmofemeaaGreatDoorWI19
namespace Go.Eng
open Go.Proofs
set_option linter.unusedVariables false
set_option linter.unusedSimpArgs false
set_option maxRecDepth 100000
set_option maxHeartbeats 1000000
structure okI (l:List VIn):Prop where
 a:∀ i ∈ l,okL i.2.2.2.1/\i.2.2.2.2.1.length<=1000000
 n:l.length<=1000
def itL (l:List VIn):List VIt:=if gdL [] l=true then l.map itI else []
theorem VO_ {α β:Type} {l:List α} {i:Nat} (h:i < l.length) (d:α) (f:α->β):(l.take (i+1)).map f=(l.take i).map f++[f (l.getD i d)]:=by
 rw [<- Kl_ (d:=d) h,List.map_append];rfl
def Y0_:IR:=
(sq (kr [0] [oD 2 (.nilrow YB),
oD 3 (.mov cF)])
(sq (.reg [oD 10 (.mkmap (.int .i64) (.int .i64)),
oM 4 10])
(sq (.reg [oD 5 (.nilrow YB)])
(sq (sq (.reg [oM 11 0,
oE 12 11,
oD 13 (.mov (cI 0))])
(.block 0
(.loop
(sq (kr [4,5,11,12,13] [oB 14 .lss 13 12])
(sq (.cond 14
.skip
(.exit 0))
(sq (.block 1
(sq (.reg [oI 15 5 11 13,
oK 16 5 15,
oD 7 (.box [.int .i64 0,.int .u64 0,.int .u64 0,.imm Y2 [],.imm (.int .u8) []]),
oS 5 7 16])
(sq (kr [4,5,7,11,12,13] [oK 18 5 7,
oC 19 113 [18],
oM 17 19,
oX 20 17 0,
oX 21 17 1,
oM 8 20,
oM 9 21])
(sq (sq (kr [4,5,7,8,9,11,12,13] [oM 22 9,
oD 23 (.un .not 22),
oM 24 23,
oF 24 25 (.mov 4),
oF 24 26 (.fieldAddr 0 7),
oF 24 27 (.load none 26),
oF 24 28 (.mget (.int .i64) (.int .i64) (0:Int) false 25 27),
oF 24 29 (.bin .gtr 28 (cI 0)),
oF 24 30 (.mov 29),
oT 30 31 (.fieldAddr 0 7),
oT 30 32 (.load none 31),
oT 30 33 (.bin .neq 32 (cI 65535)),
oF 24 34 (.pick 30 33 cF),
oP 35 24 cT 34])
(.cond 35
(sq (kr [] [oD 2 (.nilrow YB),
oD 3 (.mov cF)])
.ret)
.skip))
(sq (kr [4,5,7,8,11,12,13] [oM 36 4,
oA 37 0 7,
oL 38 37,
oD 39 (.mget (.int .i64) (.int .i64) (0:Int) false 36 38),
oB 40 .add 39 (cI 1),
oN (.mput (.int .i64) (.int .i64) 36 38 40)])
(kr [4,5,7,8,11,12,13] [oM 41 5,
oA 42 0 7,
oL 43 42,
oM 44 8,
oD 45 (.buildAll 2 [(0,1,43),(1,1,44)]),
oD 46 (.sliceAll YB 1 [(0,2,45)]),
oD 47 (.append YB 32 41 46),
oM 5 47]))))))
(kr [4,5,11,12,13] [oB 48 .add 13 (cI 1),
oM 13 48])))))))
(sq (kr [5] [oM 49 5,
oM 2 49,
oD 3 (.mov cT)])
.ret)))))
def Ym_:List RD:=[.tmp 2 true (some YB),.tmp 3 true none]
theorem YI_:zn_ Tryz.prog Tryz.f46 Y0_ Ym_=true:=by kernel_rfl
def Ke_:List AV->List Obj->Option (Prop × AV)
 | [.imm ty0 l],[]=>Z1_ ty0 Y3 l fun l=>some ((okI l,.tup [.imm YB (itL l),.bool (gdL [] l)]))
 | _,_=>none
theorem X4_:ze_ Tryz.prog 46 (RoF Ke_).sum:=by
 refine zj_ Tryz.func46 YI_ (za_ (s:=RoF jw_) y7_ (zd_ _)) fun args objs p v e=>?_
 unfold Ke_ at e
 split at e
 ·rename_i ty0 l
  obtain rfl:=z6_ e
  replace e:=z7_ e
  cases e
  refine ⟨rfl,fun hw ho hp=>?_⟩
  change List VIn at l
  clear hw ho
  obtain ⟨hok,hn⟩:=hp
  repeat'(intro t ht;first|(cases t<;>first|(cases ht;done)|(try simp only[zh_]at ht;try(exfalso;first|contradiction|omega)))|((first|refine zb_ ht ?_|refine ht ?_ ?_|refine ht.1 ?_ ?_|refine ht ?_)<;>clear ht))
  all_goals first
   | exact True.intro
   | (intro r h1 h2;clear h1;refine h2 ⟨[4,5,11,12,13],Nat × List (Int × Int),(fun a=>a.1<=l.length/\mOk a.2 (l.take a.1)/\gdL [] l=gdL (l.take a.1) (l.drop a.1)),fun a=>[.mapv 0,.own 1,.imm Y3 l,.int .i64 l.length,.int .i64 a.1],fun a=>[.map true (.int .i64) (.int .i64) a.2,.row false YB ((l.take a.1).map itI)],fun a=>l.length - a.1,⟨(0,[]),⟨Nat.zero_le _,gg_,rfl⟩,rfl,rfl⟩,?_⟩;clear h2)
  rintro ⟨i,m⟩ ⟨hi,hm,he⟩
  dsimp only at hi hm he
  have hst:=fun (d:VIn) (h:i < l.length)=>he.trans (zb5_ (d:=d) h)
  repeat'(intro t ht;first|(cases t<;>first|(cases ht;done)|(try simp only[zh_]at ht;try(exfalso;first|contradiction|omega)))|((first|refine zb_ ht ?_|refine ht ?_ ?_|refine ht.1 ?_ ?_|refine ht ?_)<;>clear ht))
  all_goals (try generalize (Ty.dflt Y3)=od at*)
  all_goals first
   | exact True.intro
   | ((try simp only [zk_,zl_,zi_] at*);omega)
   | (have hge:l.length<=i:=by omega
      have g:gdL [] l=true:=by rw [he,List.drop_of_length_le hge];rfl
      have e:itL l=(l.take i).map itI:=by unfold itL;rw [if_pos g,List.take_of_length_le hge]
      rw [g,e];exact ⟨rfl,rfl⟩)
   | (have hlt:i < l.length:=by omega
      have hs:=hst od hlt
      have hr:=hm.r (l.getD i od).1
      rw [List.length_take] at hr
      have hd:=Br_ hm (l.getD i od).1
      first
       | exact hok _ (zS_ hlt od)
       | exact (show IntKind.i64.min<=(zx_ m (l.getD i od).1).getD 0+1/\(zx_ m (l.getD i od).1).getD 0+1<=IntKind.i64.max from by simp only [zi_];omega)
       | (simp only [List.length_map,List.length_take,List.length_cons,List.length_nil];constructor<;>omega)
       | (have hsome:(bdO (l.getD i od)).isSome=false:=ht
          have g:gdL [] l=false:=by rw [hs,hsome];rfl
          have e:itL l=[]:=by unfold itL;rw [g];rfl
          rw [g,e];exact ⟨rfl,rfl⟩)
       | (have hdb:dbI (l.take i) (l.getD i od).1=true:=by
           have h1:0 < (zx_ m (l.getD i od).1).getD 0:=by assumption
           have h2:¬ (l.getD i od).1=65535:=ht
           unfold dbI;rw [<- hd,decide_eq_true h1,decide_eq_true h2];rfl
          have g:gdL [] l=false:=by rw [hs,hdb];simp
          have e:itL l=[]:=by unfold itL;rw [g];rfl
          rw [g,e];exact ⟨rfl,rfl⟩)
       | (have hsome:(bdO (l.getD i od)).isSome=true:=by assumption
          have hdb:dbI (l.take i) (l.getD i od).1=false:=by
           first
            | (have h1:¬ 0 < (zx_ m (l.getD i od).1).getD 0:=ht
               unfold dbI;rw [<- hd,decide_eq_false h1];rfl)
            | (have h2:(l.getD i od).1=65535:=ht
               unfold dbI;rw [decide_eq_false (not_not_intro h2),Bool.and_false])
          rw [hsome,hdb] at hs
          refine ⟨(i+1,QA_ m (l.getD i od).1 ((zx_ m (l.getD i od).1).getD 0+1)),⟨by dsimp only;omega,?_,?_⟩,by dsimp only;omega,rfl,?_⟩
          ·dsimp only;rw [<- Kl_ (d:=od) hlt];exact gh_ hm
          ·dsimp only;rw [<- Kl_ (d:=od) hlt];exact hs
          ·dsimp only;rw [VO_ hlt od itI];rfl))
 ·cases e
structure okJ (l:List VIt):Prop where
 a:∀ x ∈ l,(0<=x.1/\x.1<=65535)/\x.2.1.length % 8=4/\4<=x.2.1.length/\x.2.1.length<=65524
 n:l.length<=1000
def jnB (l:List VIt):List Int:=l.flatMap fun x=>enH x.1 x.2.1
theorem hn_ {l:List VIt} {i:Nat} {d:VIt} (h:i < l.length):jnB (l.take (i+1))=jnB (l.take i)++enH (l.getD i d).1 (l.getD i d).2.1:=by
 unfold jnB
 rw [<- Kl_ (d:=d) h,List.flatMap_append];simp
theorem zdk_ {l:List VIt} (h:okJ l) (i:Nat):(jnB (l.take i)).length<=65528*i:=by
 induction i with
 | zero=>simp [jnB]
 | succ i ih=>
   by_cases hl:i < l.length
   ·rw [hn_ (d:=(0,[],())) hl,List.length_append,yJ_]
    have:=(h.a _ (zS_ hl (0,[],()))).2.2.2
    omega
   ·rw [List.take_of_length_le (by omega)] at ih ⊢;omega
theorem zeD_ {t:Int} {y:List Int} (ht:0<=t/\t<=65535) (h4:4<=y.length) (hl:y.length<=65524):kK_ y (QU_ [2,2] [t,4+y.length] [] (4+y.length) 0) (4+y.length) (kF_ [2,2] [t,4+y.length] [] (4+y.length) 0)=enH t y/\ko_ y (QU_ [2,2] [t,4+y.length] [] (4+y.length) 0) (4+y.length) (kF_ [2,2] [t,4+y.length] [] (4+y.length) 0)=0:=by
 obtain ⟨p1,p2⟩:=zbe_ (a:=t) (n:=4+y.length) ht (by omega)
 have l4:(zf_ t 2++zf_ (4+y.length) 2).length=4:=by
  have:=yJ_ t y
  unfold enH at this;rw [List.length_append] at this;omega
 have b1:=Qi_ (x:=ZO_ [2,2] [t,4+y.length]) (l:=[]) (room:=4+y.length) (by rw [p1,l4];simp;omega)
 have r1:QU_ [2,2] [t,4+y.length] [] (4+y.length) 0=zf_ t 2++zf_ (4+y.length) 2:=by
  unfold QU_;rw [if_pos p2,b1.1,p1,List.nil_append]
 have r2:kF_ [2,2] [t,4+y.length] [] (4+y.length) 0=0:=by
  unfold kF_;rw [if_pos p2,b1.2]
 rw [r1,r2]
 have b2:=Qi_ (x:=y) (l:=zf_ t 2++zf_ (4+y.length) 2) (room:=4+y.length) (by rw [l4];omega)
 exact ⟨b2.1,b2.2⟩
def hq_:IR:=
(sq (kr [0,1] [oD 2 (.boxv 0),
oD 4 (.nilrow (.int .u8)),
oD 5 (.mov (cI 0))])
(sq (sq (.reg [oK 16 5 2,
oC 17 114 [16],
oD 18 (.un .not 17)])
(.cond 18
(sq (kr [] [oD 4 (.nilrow (.int .u8)),
oD 5 (.mov (cI 10001))])
.ret)
.skip))
(sq (sq (kr [1,2] [oM 19 1,
oE 20 19,
oD 21 (.mov (cI 0))])
(.block 0
(.loop
(sq (kr [1,2,19,20,21] [oB 22 .lss 21 20])
(sq (.cond 22
.skip
(.exit 0))
(sq (.block 1
(sq (.reg [oI 23 2 19 21,
oK 24 2 23,
oD 7 (.box [.int .i64 0,.imm (.int .u8) []]),
oS 2 7 24])
(sq (kr [1,2,7,19,20,21] [oA 25 1 7,
oL 26 25,
oE 27 26,
oB 28 .add (cI 4) 27,
oM 8 28])
(sq (kr [1,2,7,8,19,20,21] [oA 29 0 7,
oL 30 29,
oB 31 .lss 30 (cI 0),
oM 32 31,
oF 32 33 (.fieldAddr 0 7),
oF 32 34 (.load none 33),
oF 32 35 (.bin .gtr 34 (cI 65535)),
oP 36 32 cT 35,
oM 37 36,
oF 37 38 (.mov 8),
oF 37 39 (.bin .gtr 38 (cI 65535)),
oP 40 37 cT 39,
oM 41 40,
oF 41 42 (.load (some 5) 2),
oF 41 43 (.mov 8),
oF 41 44 (.call false (.f 115) [42,43]),
oF 41 45 (.un .not 44),
oP 46 41 cT 45])
(.cond 46
(sq (kr [] [oD 4 (.nilrow (.int .u8)),
oD 5 (.mov (cI 10001))])
.ret)
.skip)))))
(kr [1,2,19,20,21] [oB 47 .add 21 (cI 1),
oM 21 47])))))))
(sq (kr [1,2] [oD 9 (.nilrow (.int .u8))])
(sq (sq (.reg [oM 48 1,
oE 49 48,
oD 50 (.mov (cI 0))])
(.block 2
(.loop
(sq (kr [2,9,48,49,50] [oB 51 .lss 50 49])
(sq (.cond 51
.skip
(.exit 2))
(sq (.block 3
(sq (.reg [oI 52 2 48 50,
oK 53 2 52,
oD 11 (.box [.int .i64 0,.imm (.int .u8) []]),
oS 2 11 53])
(sq (kr [2,9,11,48,49,50] [oA 54 1 11,
oL 55 54,
oE 56 55,
oB 57 .add (cI 4) 56,
oM 12 57])
(sq (kr [2,9,11,12,48,49,50] [oM 58 12,
oK 59 5 2,
oM 60 12,
oC 61 116 [59,60],
oB 62 .add 58 61,
oC 63 77 [62],
oM 13 63])
(sq (kr [2,9,11,12,13,48,49,50] [oM 64 13,
oD 65 (.sliceAll (.int .i64) 2 [(0,1,(cI 2)),(1,1,(cI 2))]),
oA 66 0 11,
oL 67 66,
oD 68 (.conv .u64 67),
oM 69 12,
oD 70 (.conv .u64 69),
oD 71 (.sliceAll (.int .u64) 2 [(0,1,68),(1,1,70)]),
oC 72 99 [64,65,71]])
(sq (kr [2,9,11,12,13,48,49,50] [oM 73 13,
oA 74 1 11,
oL 75 74,
oC 76 117 [73,75]])
(sq (kr [2,9,12,13,48,49,50] [oM 77 13,
oK 78 5 2,
oM 79 12,
oC 80 116 [78,79],
oD 81 (.mkrow (.int .u8) 1 (0:Int) 80 80),
oC 82 117 [77,81]])
(sq (kr [2,9,13,48,49,50] [oM 84 13,
oC 85 79 [84],
oM 83 85,
oX 86 83 0,
oX 87 83 1,
oM 14 86,
oM 15 87])
(sq (sq (kr [2,9,14,15,48,49,50] [oM 88 15,
oB 89 .neq 88 (cI 0)])
(.cond 89
(sq (.reg [oM 90 15,
oD 4 (.nilrow (.int .u8)),
oM 5 90])
.ret)
.skip))
(.reg [oM 91 9,
oM 92 14,
oD 93 (.append (.int .u8) 1 91 92),
oM 9 93]))))))))))
(kr [2,9,48,49,50] [oB 94 .add 50 (cI 1),
oM 50 94])))))))
(sq (kr [9] [oM 95 9,
oM 4 95,
oD 5 (.mov (cI 0))])
.ret))))))
def Gv_:List RD:=[.tmp 4 true (some (.int .u8)),.tmp 5 true none]
theorem GR_:zn_ Tryz.prog Tryz.f47 hq_ Gv_=true:=by kernel_rfl
def Wu_:List AV->List Obj->Option (Prop × AV)
 | [.agg [.int .i64 least,.int .i64 step,.bool pad,.int .i64 bad,.int .i64 odd],.imm (.cons (.int .i64) (.cons (.sl (.int .u8)) .nil)) l],[]=>some ((pad=false/\least=8/\step=8/\bad ≠ 0/\odd ≠ 0/\okJ l,.tup [.imm (.int .u8) (jnB l),.int .i64 0]))
 | _,_=>none
theorem u9_:ze_ Tryz.prog 47 (RoF Wu_).sum:=by
 refine zj_ Tryz.func47 GR_ (za_ (s:=RoF qU_) kS_ (za_ (s:=RoF qt_) kB_ (za_ (s:=RoF qb_) kd_ (za_ (s:=RwF qv_) Qc_ (za_ (s:=RwF zV_) Zk_ (za_ (s:=RwF zy_) zD_ (za_ (s:=RwF z9_) ZA_ (zd_ _)))))))) fun args objs p v e=>?_
 unfold Wu_ at e
 split at e
 ·rename_i least step pad bad odd l
  cases e
  refine ⟨rfl,fun hw ho hp=>?_⟩
  change List VIt at l
  clear hw ho
  obtain ⟨rfl,rfl,rfl,hbad,hodd,hok⟩:=hp
  have hn:=hok.n
  repeat'(intro t ht;first|(cases t<;>first|(cases ht;done)|(try simp only[zh_]at ht;try(exfalso;first|contradiction|omega)))|((first|refine zb_ ht ?_|refine ht ?_ ?_|refine ht.1 ?_ ?_|refine ht ?_)<;>clear ht))
  all_goals first
   | exact True.intro
   | exact ⟨by decide,by decide,by decide,by decide,hbad,hodd⟩
   | (intro r h1 h2;clear h1;refine h2 ⟨[1,2,19,20,21],Nat,(fun i=>i<=l.length),fun i=>[.imm YB l,.ptr 0 0,.imm YB l,.int .i64 l.length,.int .i64 i],fun i=>[.box [.int .i64 8,.int .i64 8,.bool false,.int .i64 bad,.int .i64 odd]],fun i=>l.length - i,⟨0,Nat.zero_le _,rfl,rfl⟩,?_⟩;clear h2)
  rintro i hi
  by_cases hlt:i < l.length
  ·have hx:=hok.a _ (zS_ hlt (Ty.dflt YB))
   have htm:((4:Int)+((l.getD i (Ty.dflt YB)).2.1.length:Int)).tmod 8=0:=by rw [Int.tmod_eq_emod_of_nonneg (by omega)];omega
   repeat'(intro t ht;first|(cases t<;>first|(cases ht;done)|(try simp only[zh_]at ht;try(exfalso;first|contradiction|omega)))|((first|refine zb_ ht ?_|refine ht ?_ ?_|refine ht.1 ?_ ?_|refine ht ?_)<;>clear ht))
   all_goals (try generalize (Ty.dflt YB)=od at*)
   all_goals first
    | exact True.intro
    | exact ⟨rfl,(by decide:(1:Int)<=8)⟩
    | ((try simp only [zk_,zl_,zi_] at*);omega)
    | (refine ⟨i+1,?_,?_,rfl,rfl⟩
       ·(try dsimp only);omega
       ·(try dsimp only);omega)
    | (exfalso;simp_all;omega)
  ·repeat'(intro t ht;first|(cases t<;>first|(cases ht;done)|(try simp only[zh_]at ht;try(exfalso;first|contradiction|omega)))|((first|refine zb_ ht ?_|refine ht ?_ ?_|refine ht.1 ?_ ?_|refine ht ?_)<;>clear ht))
   all_goals first
    | exact True.intro
    | (intro r h1 h2;clear h1;refine h2 ⟨[2,9,48,49,50],Nat,(fun i=>i<=l.length),fun i=>[.ptr 0 0,.own 1,.imm YB l,.int .i64 l.length,.int .i64 i],fun i=>[.box [.int .i64 8,.int .i64 8,.bool false,.int .i64 bad,.int .i64 odd],.row false (.int .u8) (jnB (l.take i))],fun i=>l.length - i,⟨0,Nat.zero_le _,rfl,rfl⟩,?_⟩;clear h2)
   clear ht hlt hi i
   rintro i hi
   have hjl:=zdk_ hok i
   by_cases hlt:i < l.length
   ·have hx:=hok.a _ (zS_ hlt (Ty.dflt YB))
    obtain ⟨j1,j2⟩:=zeD_ hx.1 hx.2.2.1 hx.2.2.2
    have hrm:w1_ (4+((l.getD i (Ty.dflt YB)).2.1.length:Int)+0)=4+((l.getD i (Ty.dflt YB)).2.1.length:Int):=by unfold w1_;omega
    have hel:=yJ_ (l.getD i (Ty.dflt YB)).1 (l.getD i (Ty.dflt YB)).2.1
    have hrl:(QU_ [2,2] [(l.getD i (Ty.dflt YB)).1,4+((l.getD i (Ty.dflt YB)).2.1.length:Int)] [] (4+((l.getD i (Ty.dflt YB)).2.1.length:Int)) 0).length<=1000000:=Gp_ (by decide) (by omega)
    have j3:kK_ ([]:List Int) (enH (l.getD i (Ty.dflt YB)).1 (l.getD i (Ty.dflt YB)).2.1) (4+((l.getD i (Ty.dflt YB)).2.1.length:Int)) 0=enH (l.getD i (Ty.dflt YB)).1 (l.getD i (Ty.dflt YB)).2.1:=by rw [(Qi_ (by rw [hel];simp)).1,List.append_nil]
    have j4:ko_ ([]:List Int) (enH (l.getD i (Ty.dflt YB)).1 (l.getD i (Ty.dflt YB)).2.1) (4+((l.getD i (Ty.dflt YB)).2.1.length:Int)) 0=0:=(Qi_ (by rw [hel];simp)).2
    have j5:List.replicate (Int.toNat 0) (0:Int)=[]:=rfl
    have j6:J4_ [] 0=0:=rfl
    repeat'(intro t ht;first|(cases t<;>first|(cases ht;done)|(try simp only[zh_]at ht;try(exfalso;first|contradiction|omega)))|((first|refine zb_ ht ?_|refine ht ?_ ?_|refine ht.1 ?_ ?_|refine ht ?_)<;>clear ht))
    all_goals (try generalize (Ty.dflt YB)=od at*)
    all_goals (try simp only [zk_,zl_,hrm,j1,j2,j3,j4,j5,j6,zce_] at*)
    all_goals first
     | exact True.intro
     | ((try simp only [zk_,zl_,zi_] at*);omega)
     | (exfalso;contradiction)
     | exact ⟨by omega,by omega,by decide⟩
     | exact ⟨by omega,by omega,hrl,by omega⟩
     | exact ⟨by omega,by omega,by omega,by decide⟩
     | exact ⟨by omega,by decide⟩
     | (refine ⟨i+1,by omega,by omega,rfl,?_⟩
        rw [hn_ (d:=od) hlt])
   ·repeat'(intro t ht;first|(cases t<;>first|(cases ht;done)|(try simp only[zh_]at ht;try(exfalso;first|contradiction|omega)))|((first|refine zb_ ht ?_|refine ht ?_ ?_|refine ht.1 ?_ ?_|refine ht ?_)<;>clear ht))
    all_goals first
     | exact True.intro
     | (rw [List.take_of_length_le (by omega)];exact ⟨rfl,rfl⟩)
 ·cases e
def YZ_:IR:=
(sq (kr [] [oD 0 (.box [.int .i64 0,.int .i64 0,.kb false,.int .i64 0,.int .i64 0])])
(sq (.reg [oD 1 (.build [.int .i64 0,.int .i64 0,.kb false,.int .i64 0,.int .i64 0] [(0,1,(cI 8)),(1,1,(cI 8)),(3,1,(cI 776)),(4,1,(cI 776))]),
oS 5 0 1])
.ret))
def Yl_:List RD:=[.cell 0 (some 5) true []]
theorem YH_:zn_ Tryz.prog Tryz.f48 YZ_ Yl_=true:=by kernel_rfl
def qR_:List AV->List Obj->Option (Prop × AV)
 | [],[]=>some ((True,.agg [.int .i64 8,.int .i64 8,.bool false,.int .i64 776,.int .i64 776]))
 | _,_=>none
theorem Q3_:ze_ Tryz.prog 48 (RoF qR_).sum:=by
 refine zj_ Tryz.func48 YH_ (zd_ _) fun args objs p v e=>?_
 unfold qR_ at e
 split at e
 ·cases e
  refine ⟨rfl,fun hw ho hp=>?_⟩
  repeat'(intro t ht;first|(cases t<;>first|(cases ht;done)|(try simp only[zh_]at ht;try(exfalso;first|contradiction|omega)))|((first|refine zb_ ht ?_|refine ht ?_ ?_|refine ht.1 ?_ ?_|refine ht ?_)<;>clear ht))
  all_goals first
   | exact True.intro
   | exact ⟨rfl,rfl⟩
 ·cases e
theorem zeE_ (l:List VIn):jnB (l.map itI)=boI l:=by
 unfold jnB boI;rw [List.flatMap_map];rfl
theorem zeu_ {l:List VIn} (h:gdL [] l=true) (hn:l.length<=1000):okJ (l.map itI):=by
 refine ⟨fun x hx=>?_,by rw [List.length_map];exact hn⟩
 obtain ⟨i,hi,rfl⟩:=List.mem_map.1 hx
 obtain ⟨y,hy⟩:=Option.isSome_iff_exists.1 (By_ h i hi)
 obtain ⟨b1,b2,b3⟩:=zcq_ hy
 have hk:=zdZ_ (yN_.1 hy).k
 have e:(itI i).2.1=y:=zcr_ hy
 rw [e]
 exact ⟨hk,b1,b2,by omega⟩
theorem zfl_ {l:List VIn} (h:gdL [] l=false):ieL l=[]/\ieE l=10001:=by
 have:rgI l=false:=by unfold rgI;rw [h];rfl
 unfold ieL ieE;rw [this];exact ⟨rfl,rfl⟩
theorem zdn_ {l:List VIn} (h:65528 < (boI l).length):ieL l=[]/\ieE l=10001:=by
 have:rgI l=false:=by unfold rgI;rw [decide_eq_false (by omega),Bool.and_false]
 unfold ieL ieE;rw [this];exact ⟨rfl,rfl⟩
theorem zfk_ {l:List VIn} (h:gdL [] l=true) (h2:¬ 65528 < (boI l).length):ieL l=boI l/\ieE l=0:=by
 have:rgI l=true:=by unfold rgI;rw [h,decide_eq_true (by omega)];rfl
 unfold ieL ieE;rw [this];exact ⟨rfl,rfl⟩
def yr_:IR:=
(sq (kr [0] [oD 2 (.mov (.c (.imm (.int .u8) []))),
oD 3 (.mov (cI 0))])
(sq (kr [0] [oM 9 0,
oC 10 46 [9],
oM 8 10,
oX 11 8 0,
oX 12 8 1,
oM 4 11,
oM 5 12])
(sq (sq (kr [4,5] [oM 13 5,
oD 14 (.un .not 13)])
(.cond 14
(sq (.reg [oD 2 (.mov (.c (.imm (.int .u8) []))),
oD 3 (.mov (cI 10001))])
.ret)
.skip))
(sq (kr [4] [oC 16 48 [],
oM 17 4,
oC 18 47 [16,17],
oM 15 18,
oX 19 15 0,
oX 20 15 1,
oM 6 19,
oM 7 20])
(sq (sq (kr [6,7] [oM 21 7,
oB 22 .neq 21 (cI 0),
oM 23 22,
oF 23 24 (.mov 6),
oF 23 25 (.len 24),
oF 23 26 (.bin .gtr 25 (cI 65528)),
oP 27 23 cT 26])
(.cond 27
(sq (kr [] [oD 2 (.mov (.c (.imm (.int .u8) []))),
oD 3 (.mov (cI 10001))])
.ret)
.skip))
(sq (kr [6] [oM 28 6,
oM 2 28,
oD 3 (.mov (cI 0))])
.ret))))))
def yb_:List RD:=[.tmp 2 true (some (.int .u8)),.tmp 3 true none]
theorem yj_:zn_ Tryz.prog Tryz.f16 yr_ yb_=true:=by kernel_rfl
def qi_:List AV->List Obj->Option (Prop × AV)
 | [.imm ty0 l],[]=>Z1_ ty0 Y3 l fun l=>some ((okI l,.tup [.imm (.int .u8) (ieL l),.int .i64 (ieE l)]))
 | _,_=>none
theorem Qv_:ze_ Tryz.prog 16 (RoF qi_).sum:=by
 refine zj_ Tryz.func16 yj_ (za_ (s:=RoF Ke_) X4_ (za_ (s:=RoF qR_) Q3_ (za_ (s:=RoF Wu_) u9_ (zd_ _)))) fun args objs p v e=>?_
 unfold qi_ at e
 split at e
 ·rename_i ty0 l
  obtain rfl:=z6_ e
  replace e:=z7_ e
  cases e
  refine ⟨rfl,fun hw ho hp=>?_⟩
  change List VIn at l
  clear hw ho
  have hok:=hp
  cases hg:gdL [] l with
  | false=>
    obtain ⟨e1,e2⟩:=zfl_ hg
    rw [e1,e2]
    repeat'(intro t ht;first|(cases t<;>first|(cases ht;done)|(try simp only[zh_]at ht;try(exfalso;first|contradiction|omega)))|((first|refine zb_ ht ?_|refine ht ?_ ?_|refine ht.1 ?_ ?_|refine ht ?_)<;>clear ht))
    all_goals first
     | exact True.intro
     | exact hok
     | exact ⟨rfl,rfl⟩
     | (exfalso;simp_all;done)
  | true=>
    have hj:=zeu_ hg hok.n
    have hL:itL l=l.map itI:=if_pos hg
    have hB:=zeE_ l
    repeat'(intro t ht;first|(cases t<;>first|(cases ht;done)|(try simp only[zh_]at ht;try(exfalso;first|contradiction|omega)))|((first|refine zb_ ht ?_|refine ht ?_ ?_|refine ht.1 ?_ ?_|refine ht ?_)<;>clear ht))
    all_goals (try simp only [hL,hB] at*)
    all_goals first
     | exact True.intro
     | exact hok
     | exact ⟨by decide,by decide,by decide,by decide,by decide,hj⟩
     | (exfalso;simp_all;done)
     | (obtain ⟨e1,e2⟩:=zfk_ hg (by omega)
        rw [e1,e2];exact ⟨rfl,True.intro⟩)
     | (obtain ⟨e1,e2⟩:=zdn_ (l:=l) (by omega)
        rw [e1,e2];exact ⟨rfl,True.intro⟩)
 ·cases e
theorem zdo_ (l:List VIn):decide (ieE l=0)=rgI l:=by
 unfold ieE;cases rgI l<;>rfl
theorem gI_ (l:List VIn):(ieL l).length<=65528:=by
 unfold ieL;split
 ·rename_i h;unfold rgI at h;simp only [Bool.and_eq_true,decide_eq_true_eq] at h;exact h.2
 ·exact Nat.zero_le _
def Y2_:IR:=
(sq (kr [0] [oD 2 (.mov cF)])
(sq (kr [0] [oM 6 0,
oC 7 16 [6],
oM 5 7,
oX 8 5 0,
oX 9 5 1,
oM 3 8,
oM 4 9])
(sq (kr [4] [oM 10 4,
oB 11 .eql 10 (cI 0),
oM 2 11])
.ret)))
def Yo_:List RD:=[.tmp 2 true none]
theorem YK_:zn_ Tryz.prog Tryz.f14 Y2_ Yo_=true:=by kernel_rfl
def Kf_:List AV->List Obj->Option (Prop × AV)
 | [.imm ty0 l],[]=>Z1_ ty0 Y3 l fun l=>some ((okI l,.bool (rgI l)))
 | _,_=>none
theorem X5_:ze_ Tryz.prog 14 (RoF Kf_).sum:=by
 refine zj_ Tryz.func14 YK_ (za_ (s:=RoF qi_) Qv_ (zd_ _)) fun args objs p v e=>?_
 unfold Kf_ at e
 split at e
 ·rename_i ty0 l
  obtain rfl:=z6_ e
  replace e:=z7_ e
  cases e
  refine ⟨rfl,fun hw ho hp=>?_⟩
  repeat'(intro t ht;first|(cases t<;>first|(cases ht;done)|(try simp only[zh_]at ht;try(exfalso;first|contradiction|omega)))|((first|refine zb_ ht ?_|refine ht ?_ ?_|refine ht.1 ?_ ?_|refine ht ?_)<;>clear ht))
  all_goals first
   | exact True.intro
   | exact hp
   | (rw [<- zdo_];exact ⟨rfl,rfl⟩)
 ·cases e
theorem zbq_ {t:Int} {x:List Int} (hk:¬ zU_ (wI t) x=0):o5K t x=false/\o5A t x=0/\o5B t x=0:=by
 refine ⟨by unfold o5K;rw [decide_eq_false hk];rfl,?_,?_⟩
 ·unfold o5A o5N Q5_;rw [if_pos rfl,show (0:Int).toNat=0 from rfl,List.drop_zero,ve_ hk];rfl
 ·unfold o5B o5N Q5_;rw [if_pos rfl,show (0:Int).toNat=0 from rfl,List.drop_zero,ve_ hk];rfl
theorem zdx_ {t:Int} {x:List Int}:(zU_ (wI t) x=0->J5_ (wI t) x 0 776 776 0=0/\Kv_ (wI t) x 0 0=sI t)/\(¬ zU_ (wI t) x=0->J5_ (wI t) x 0 776 776 0=776/\Kv_ (wI t) x 0 0=0):=by
 have hK:=gK_ (wI t) x
 unfold J5_ Kv_
 rw [if_pos rfl,if_pos rfl,show (0:Int).toNat=0 from rfl,List.drop_zero]
 constructor
 ·intro h
  rw [if_neg (by omega),if_neg (by omega),if_neg (by omega),if_neg (by omega)]
  exact ⟨rfl,by unfold sI;omega⟩
 ·intro h
  rcases hK with h1 | h1 | h1
  ·exact absurd h1 h
  ·rw [if_pos h1,if_pos h1];exact ⟨rfl,rfl⟩
  ·rw [if_neg (by omega),if_pos h1,if_neg (by omega),if_pos h1];exact ⟨rfl,rfl⟩
theorem zed_ (t:Int):(wI t).length<=3:=by
 unfold wI
 repeat' split
 all_goals decide
theorem za3_ {x:List Int} {p sh:Int} (h0:0<=p) (h1:p<=x.length) (e:Int):ZR_ (x.length - p) x p sh e=e/\(e=0->qF_ (x.length - p) x p sh e=x.drop p.toNat):=by
 have hE:ZR_ (x.length - p) x p sh e=e:=by unfold ZR_;rw [if_neg (by omega),if_neg (by omega)]
 refine ⟨hE,fun h=>?_⟩
 unfold qF_;rw [hE,if_pos h,List.take_of_length_le (by omega)]
theorem zeS_ {x:List Int} {p sh:Int} (h0:0<=p) (h1:p<=x.length) (e:Int):atE (x.length - p) x p sh e=(if e=0 then adE (x.drop p.toNat) else e)/\atL (x.length - p) x p sh e=(if e=0 then adL (x.drop p.toNat) else []):=by
 obtain ⟨a,b⟩:=za3_ (sh:=sh) h0 h1 e
 unfold atE atL
 rw [a]
 by_cases h:e=0
 ·rw [if_pos h,if_pos h,if_pos h,if_pos h,b h];exact ⟨rfl,rfl⟩
 ·rw [if_neg h,if_neg h,if_neg h,if_neg h];exact ⟨rfl,rfl⟩
theorem zbp_ {s:Bool} {t:Int} {x:List Int} (h:kI t=false):o5E s t x=769/\o5V s t x=(t,0,0,[],[],()):=by
 unfold o5E o5V;rw [if_pos h,if_pos (.inl h)];exact ⟨rfl,rfl⟩
theorem zbo_ {s:Bool} {t:Int} {x:List Int} (h:kI t=true) (hs:s=true) (h6:¬ t=65535):o5E s t x=778/\o5V s t x=(t,0,0,[],[],()):=by
 unfold o5E o5V;rw [if_neg (by rw [h];decide),if_pos ⟨hs,h6⟩,if_pos (.inr ⟨hs,h6⟩)];exact ⟨rfl,rfl⟩
theorem HU_ {s:Bool} {t:Int} {x:List Int} (h:kI t=true) (hs:¬ (s=true/\¬ t=65535)):o5E s t x=(if o5K t x=false then 776 else if t=65535 then 0 else if ¬ qI t (o5A t x) (o5B t x)=0 then qI t (o5A t x) (o5B t x) else adE (o5R t x))/\o5V s t x=(t,o5A t x,o5B t x,(if o5E s t x=0/\¬ t=65535 then adL (o5R t x) else []),(if o5K t x=true/\t=65535 then o5R t x else []),()):=by
 constructor
 ·unfold o5E;rw [if_neg (by rw [h];decide),if_neg hs]
 ·unfold o5V;rw [if_neg]
  rintro (c | c)
  ·rw [h] at c;cases c
  ·exact hs c
theorem UR_ {s:Bool} {t:Int} {x:List Int} (h:kI t=true) (hs:¬ (s=true/\¬ t=65535)) (ho:o5K t x=false):o5E s t x=776/\o5V s t x=(t,o5A t x,o5B t x,[],[],()):=by
 obtain ⟨a,b⟩:=HU_ (x:=x) h hs
 rw [if_pos ho] at a
 rw [b,a,ho,if_neg (fun c=>by cases c.1),if_neg (fun c=>by cases c.1)];exact ⟨rfl,rfl⟩
theorem zdW_ {s:Bool} {x:List Int} (ho:o5K 65535 x=true):o5E s 65535 x=0/\o5V s 65535 x=(65535,o5A 65535 x,o5B 65535 x,[],o5R 65535 x,()):=by
 obtain ⟨a,b⟩:=HU_ (s:=s) (t:=65535) (x:=x) rfl (fun c=>c.2 rfl)
 rw [if_neg (by rw [ho];decide),if_pos rfl] at a
 rw [b,ho,if_neg (fun c=>c.2 rfl),if_pos ⟨rfl,rfl⟩];exact ⟨a,rfl⟩
theorem zdV_ {s:Bool} {t:Int} {x:List Int} (h:kI t=true) (hs:¬ (s=true/\¬ t=65535)) (ho:o5K t x=true) (h6:¬ t=65535):o5E s t x=(if qI t (o5A t x) (o5B t x)=0 then adE (o5R t x) else qI t (o5A t x) (o5B t x))/\o5V s t x=(t,o5A t x,o5B t x,(if qI t (o5A t x) (o5B t x)=0 then adL (o5R t x) else []),[],()):=by
 obtain ⟨a,b⟩:=HU_ (x:=x) h hs
 rw [if_neg (by rw [ho];decide),if_neg h6] at a
 rw [b,a,if_neg (fun c:o5K t x=true/\t=65535=>h6 c.2)]
 by_cases hq:qI t (o5A t x) (o5B t x)=0
 ·rw [if_neg (not_not_intro hq),if_pos hq,if_pos hq]
  refine ⟨rfl,?_⟩
  by_cases h0:adE (o5R t x)=0
  ·rw [if_pos ⟨h0,h6⟩]
  ·rw [if_neg (fun c=>h0 c.1)]
   have:adL (o5R t x)=[]:=by unfold adL;rw [if_neg h0]
   rw [this]
 ·rw [if_pos hq,if_neg hq,if_neg hq,if_neg (fun c:qI t (o5A t x) (o5B t x)=0/\¬ t=65535=>hq c.1)];exact ⟨rfl,rfl⟩
def gB_:IR:=
(sq (kr [0,1] [oD 2 (.boxv 0),
oD 4 (.box [.int .i64 0,.int .u64 0,.int .u64 0,.imm Y2 [],.imm (.int .u8) []]),
oD 5 (.mov (cI 0))])
(sq (.reg [oA 12 0 2,
oL 13 12,
oD 14 (.build [.int .i64 0,.int .u64 0,.int .u64 0,.imm Y2 [],.imm (.int .u8) []] [(0,1,13)]),
oD 6 (.box [.int .i64 0,.int .u64 0,.int .u64 0,.imm Y2 [],.imm (.int .u8) []]),
oS 5 6 14])
(sq (kr [1,2,4,6] [oA 16 0 2,
oL 17 16,
oC 18 119 [17],
oM 15 18,
oX 19 15 0,
oX 20 15 1,
oX 21 15 2,
oM 7 19,
oM 8 20,
oM 9 21])
(sq (.block 0
(sq (kr [1,2,4,6,7,8,9] [oM 23 9,
oD 24 (.un .not 23),
oM 22 24])
(.cond 22
(sq (.reg [oK 25 5 6,
oS 5 4 25,
oD 5 (.mov (cI 769))])
.ret)
(sq (kr [1,2,4,6,7,8] [oM 27 1,
oA 28 0 2,
oL 29 28,
oD 30 (.mget (.int .i64) (.int .i64) (0:Int) false 27 29),
oB 31 .gtr 30 (cI 0),
oM 32 31,
oT 32 33 (.fieldAddr 0 2),
oT 32 34 (.load none 33),
oT 32 35 (.bin .neq 34 (cI 65535)),
oP 36 32 35 cF,
oM 26 36])
(.cond 26
(sq (kr [4,6] [oK 37 5 6,
oS 5 4 37,
oD 5 (.mov (cI 778))])
.ret)
.skip)))))
(sq (kr [2,4,6,7,8] [oA 38 1 2,
oL 39 38,
oC 40 20 [39,(cI 776),(cI 776)],
oM 10 40])
(sq (kr [2,4,6,7,8,10] [oM 41 10,
oM 42 7,
oC 43 107 [41,42],
oD 44 (.sliceAll (.int .u64) 2 [(0,1,(.c (.int .u64 0))),(1,1,(.c (.int .u64 0)))]),
oD 45 (.append (.int .u64) 8 43 44),
oM 11 45])
(sq (kd [2,4,6,8,10,11] [(oM 46 11,[]),
(oD 47 (.indexSl 1 46 (cI 0)),[]),
(oL 48 47,[]),
(oM 49 11,[0,0,0]),
(oD 50 (.indexSl 1 49 (cI 1)),[1,0,0]),
(oL 51 50,[2,0,0]),
(oA 52 1 6,[0,0,0]),
(oS 1 52 48,[1,0,0]),
(oA 53 2 6,[]),
(oS 1 53 51,[])])
(sq (.block 1
(sq (kr [2,4,6,8,10] [oM 64 10,
oC 65 23 [64],
oB 66 .neq 65 (cI 0),
oM 63 66])
(.cond 63
.skip
(sq (kr [2,4,6,8,10] [oM 68 8,
oD 69 (.un .not 68),
oM 70 69,
oT 70 71 (.mov 10),
oT 70 72 (.call false (.f 24) [71]),
oT 70 73 (.bin .gtr 72 (cI 0)),
oP 74 70 73 cF,
oM 67 74])
(.cond 67
(kr [4,6,10] [oM 75 10,
oC 76 63 [75,(cI 776)]])
(sq (kr [2,4,6,10] [oA 78 0 2,
oL 79 78,
oB 80 .eql 79 (cI 65535),
oM 77 80])
(.cond 77
(.reg [oM 81 10,
oC 82 62 [81],
oA 83 4 6,
oS 1 83 82])
(sq (.reg [oM 54 10,
oK 55 5 6,
oC 56 120 [55],
oC 57 63 [54,56]])
(kr [4,6,10] [oM 58 10,
oM 59 10,
oC 60 24 [59],
oC 61 121 [58,60],
oA 62 3 6,
oS 1 62 61])))))))))
(sq (kd [4,6,10] [(oK 84 5 6,[]),
(oM 85 10,[0]),
(oC 86 23 [85],[1]),
(oS 5 4 84,[]),
(oM 5 86,[])])
.ret)))))))))
def UH_:List RD:=[.cell 4 (some 5) true [],.tmp 5 true none]
theorem U8_:zn_ Tryz.prog Tryz.f51 gB_ UH_=true:=by kernel_rfl
def k4_:List AV->List Obj->Option (Prop × AV)
 | [.agg [.int .i64 tt,.imm (.int .u8) x],.mapv 0],[.map sq (.int .i64) (.int .i64) m]=>some ((x.length<=100000,.tup [.agg [.int .i64 ((o5V (decide (0 < (zx_ m tt).getD 0)) tt x)).1,.int .u64 ((o5V (decide (0 < (zx_ m tt).getD 0)) tt x)).2.1,.int .u64 ((o5V (decide (0 < (zx_ m tt).getD 0)) tt x)).2.2.1,.imm Y2 ((o5V (decide (0 < (zx_ m tt).getD 0)) tt x)).2.2.2.1,.imm (.int .u8) ((o5V (decide (0 < (zx_ m tt).getD 0)) tt x)).2.2.2.2.1],.int .i64 (o5E (decide (0 < (zx_ m tt).getD 0)) tt x)]))
 | _,_=>none
theorem wZ_:ze_ Tryz.prog 51 (RoF k4_).sum:=by
 refine zj_ Tryz.func51 U8_ (za_ (s:=RoF kr_) Js_ (za_ (s:=RwF ZV_) qc_ (za_ (s:=RwF Z6_) Kn_ (za_ (s:=RoF zr_) zt_ (za_ (s:=RoF zP_) Ze_ (za_ (s:=RwF zw_) zA_ (za_ (s:=RwF Zr_) ZS_ (za_ (s:=RoF QO_) jE_ (za_ (s:=RwF wn_) v0_ (zd_ _)))))))))) fun args objs p v e=>?_
 unfold k4_ at e
 split at e
 ·rename_i tt x sq m
  cases e
  refine ⟨rfl,fun hw ho hp=>?_⟩
  change List Int at x
  clear hw ho
  change List (Int × Int) at m
  obtain ⟨c1,c2⟩:=zdx_ (t:=tt) (x:=x)
  have hcl:=zdz_ (wI tt) x 0 0
  have hwl:=zed_ tt
  have hll:(Q5_ (wI tt) x 0 0++[0,0]).length=(Q5_ (wI tt) x 0 0).length+2:=by rw [List.length_append];rfl
  cases hk:kI tt with
  | false=>
    have hk':¬ kI tt=true:=fun z=>by rw [hk] at z;cases z
    obtain ⟨e1,e2⟩:=zbp_ (s:=decide (0 < (zx_ m tt).getD 0)) (x:=x) hk
    rw [e1,e2]
    repeat'(intro t ht;first|(cases t<;>first|(cases ht;done)|(try simp only[zh_]at ht;try(exfalso;first|contradiction|omega)))|((first|refine zb_ ht ?_|refine ht ?_ ?_|refine ht.1 ?_ ?_|refine ht ?_)<;>clear ht))
    all_goals first
     | exact True.intro
     | exact ⟨rfl,rfl⟩
  | true=>
    have hk':¬ kI tt=false:=fun z=>by rw [hk] at z;cases z
    obtain ⟨w1,w2⟩:=g9_ hk
    by_cases hs:(@LT.lt Int Int.instLTInt 0 (@Option.getD (Ty.den (.int .i64)) (@zx_ (Ty.den (.int .i64)) (Ty.den (.int .i64)) (Ty.deq (.int .i64)) m tt) (0:Int)))/\¬ tt=65535
    ·obtain ⟨e1,e2⟩:=zbo_ (s:=decide (0 < (zx_ m tt).getD 0)) (x:=x) hk (decide_eq_true hs.1) hs.2
     rw [e1,e2]
     repeat'(intro t ht;first|(cases t<;>first|(cases ht;done)|(try simp only[zh_]at ht;try(exfalso;first|contradiction|omega)))|((first|refine zb_ ht ?_|refine ht ?_ ?_|refine ht.1 ?_ ?_|refine ht ?_)<;>clear ht))
     all_goals first
      | exact True.intro
      | exact ⟨rfl,rfl⟩
      | (exfalso;omega)
    ·have hs':¬ (decide (0 < (zx_ m tt).getD 0)=true/\¬ tt=65535):=fun c=>hs ⟨of_decide_eq_true c.1,c.2⟩
     by_cases hg:zU_ (wI tt) x=0
     ·obtain ⟨q1,q2⟩:=c1 hg
      have q3:=zdy_ (w:=wI tt) (b:=x) (p:=0) (e:=0) (by decide) (by omega)
      have q4:=q3
      rw [q2] at q3
      clear c1 c2
      by_cases hmo:mI tt=true\/(x.length:Int)<=sI tt
      ·have ho:o5K tt x=true:=by unfold o5K;rw [decide_eq_true hg,Bool.true_and,Bool.or_eq_true,decide_eq_true_eq];exact hmo
       by_cases h6:tt=65535
       ·subst h6
        obtain ⟨e1,e2⟩:=zdW_ (s:=decide (0 < (zx_ m 65535).getD 0)) (x:=x) ho
        rw [e1,e2]
        repeat'(intro t ht;first|(cases t<;>first|(cases ht;done)|(try simp only[zh_]at ht;try(exfalso;first|contradiction|omega)))|((first|refine zb_ ht ?_|refine ht ?_ ?_|refine ht.1 ?_ ?_|refine ht ?_)<;>clear ht))
        all_goals first
         | exact True.intro
         | exact Nat.le_trans hp (by decide)
         | exact ⟨by decide,by omega,Nat.le_trans hp (by decide)⟩
         | exact ⟨q4.1,q4.2⟩
         | exact ⟨q4.1,q4.2,by omega,by decide⟩
         | (simp only [hll,List.length_cons,List.length_nil];first | omega | (constructor<;>omega))
         | (rw [q1,q2];exact ⟨rfl,rfl⟩)
         | (exfalso;omega)
       ·obtain ⟨e1,e2⟩:=zdV_ (x:=x) hk hs' ho h6
        rw [e1,e2]
        obtain ⟨A,B⟩:=zeS_ (sh:=776) q3.1 q3.2 (qI tt (o5A tt x) (o5B tt x))
        unfold o5R
        rw [<- A,<- B]
        repeat'(intro t ht;first|(cases t<;>first|(cases ht;done)|(try simp only[zh_]at ht;try(exfalso;first|contradiction|omega)))|((first|refine zb_ ht ?_|refine ht ?_ ?_|refine ht.1 ?_ ?_|refine ht ?_)<;>clear ht))
        all_goals first
         | exact True.intro
         | exact Nat.le_trans hp (by decide)
         | exact ⟨by decide,by omega,Nat.le_trans hp (by decide)⟩
         | exact ⟨q4.1,q4.2⟩
         | exact ⟨q4.1,q4.2,by omega,by decide⟩
         | (simp only [hll,List.length_cons,List.length_nil];first | omega | (constructor<;>omega))
         | (rw [q1,q2];exact ⟨rfl,rfl⟩)
         | (exfalso;rcases hmo with z | z<;>first | omega | (simp_all;done))
      ·have hm1:¬ mI tt=true:=fun c=>hmo (.inl c)
       have hm2:¬ (x.length:Int)<=sI tt:=fun c=>hmo (.inr c)
       have ho:o5K tt x=false:=by
        unfold o5K
        cases hmi:mI tt with
        | true=>exact absurd (.inl hmi) hmo
        | false=>rw [decide_eq_false (fun c=>hmo (.inr c)),Bool.or_false,Bool.and_false]
       obtain ⟨e1,e2⟩:=UR_ (x:=x) hk hs' ho
       rw [e1,e2]
       repeat'(intro t ht;first|(cases t<;>first|(cases ht;done)|(try simp only[zh_]at ht;try(exfalso;first|contradiction|omega)))|((first|refine zb_ ht ?_|refine ht ?_ ?_|refine ht.1 ?_ ?_|refine ht ?_)<;>clear ht))
       all_goals first
        | exact True.intro
        | exact Nat.le_trans hp (by decide)
        | exact ⟨by decide,by omega,Nat.le_trans hp (by decide)⟩
        | exact ⟨q4.1,q4.2⟩
        | exact ⟨q4.1,q4.2,by omega,by decide⟩
        | (simp only [hll,List.length_cons,List.length_nil];first | omega | (constructor<;>omega))
        | (rw [q1];exact ⟨rfl,rfl⟩)
        | (exfalso;first | omega | (refine hmo ?_;first | (left;assumption) | (right;omega)))
     ·obtain ⟨q1,q2⟩:=c2 hg
      obtain ⟨e1,e2⟩:=UR_ (x:=x) hk hs' (zbq_ hg).1
      rw [e1,e2]
      repeat'(intro t ht;first|(cases t<;>first|(cases ht;done)|(try simp only[zh_]at ht;try(exfalso;first|contradiction|omega)))|((first|refine zb_ ht ?_|refine ht ?_ ?_|refine ht.1 ?_ ?_|refine ht ?_)<;>clear ht))
      all_goals first
       | exact True.intro
       | exact Nat.le_trans hp (by decide)
       | exact ⟨by decide,by omega,Nat.le_trans hp (by decide)⟩
       | (simp only [hll,List.length_cons,List.length_nil];first | omega | (constructor<;>omega))
       | (rw [q1];exact ⟨rfl,rfl⟩)
       | (exfalso;omega)
 ·cases e
theorem bz_ {acc:List VIn} {y:List Int} (h:tlE y 8 8 776=0):inE acc y=o5E (snI acc (tT y)) (tT y) (bd y):=by unfold inE;rw [if_neg (not_not_intro h)]
theorem gH_ {acc:List VIn} {y:List Int} (h:¬ tlE y 8 8 776=0):inE acc y=tlE y 8 8 776:=by unfold inE;rw [if_pos h]
theorem yB_ {y:List Int} (h:tlE y 8 8 776=0):tlI y 8 8 776 (tT y)=tT y/\tlI y 8 8 776 (tN y)=tN y/\tlR y 8 8 776=bd y:=by
 unfold tlI tlR bd;rw [if_pos h,if_pos h,if_pos h];exact ⟨rfl,rfl,rfl⟩
theorem Bw_ {m:List (Int × Int)} {acc:List VIn} {y:List Int} (jm:mOk m acc) (hT:tlE y 8 8 776=0):o5E (decide (0 < (zx_ m (tlI y 8 8 776 (tT y))).getD 0)) (tlI y 8 8 776 (tT y)) (tlR y 8 8 776)=inE acc y/\o5V (decide (0 < (zx_ m (tlI y 8 8 776 (tT y))).getD 0)) (tlI y 8 8 776 (tT y)) (tlR y 8 8 776)=vI acc y:=by
 obtain ⟨t1,t2,t3⟩:=yB_ hT
 rw [t1,t3,Br_ jm,bz_ hT];exact ⟨rfl,rfl⟩
theorem vI_t {acc:List VIn} {y:List Int}:(vI acc y).1=tT y:=by
 unfold vI o5V;split<;>rfl
def VZ_:IR:=
(sq (kr [0] [oD 2 (.mov (.c (.imm Y3 []))),
oD 3 (.mov (cI 0))])
(sq (.reg [oD 8 (.mkmap (.int .i64) (.int .i64)),
oM 4 8])
(sq (.block 0
(.loop
(sq (sq (kr [0,4] [oM 9 0,
oE 10 9,
oB 11 .gtr 10 (cI 0)])
(.cond 11
.skip
(.exit 0)))
(.block 1
(sq (kr [0,4] [oC 13 48 [],
oM 14 0,
oC 15 50 [13,14],
oM 12 15,
oX 16 12 0,
oX 17 12 1,
oX 18 12 2,
oD 5 (.box [.int .i64 0,.imm (.int .u8) []]),
oS 2 5 16,
oM 6 17,
oM 7 18])
(sq (sq (kr [0,4,5,6,7] [oM 19 7,
oB 20 .eql 19 (cI 0)])
(.cond 20
(kr [0,4,5,6] [oK 22 2 5,
oM 23 4,
oC 24 51 [22,23],
oM 21 24,
oX 25 21 0,
oX 26 21 1,
oM 7 26])
.skip))
(sq (sq (kr [0,4,5,6,7] [oM 27 7,
oB 28 .neq 27 (cI 0)])
(.cond 28
(sq (.reg [oM 29 7,
oD 2 (.mov (.c (.imm Y3 []))),
oM 3 29])
.ret)
.skip))
(sq (kr [0,4,5,6] [oM 30 4,
oA 31 0 5,
oL 32 31,
oD 33 (.mget (.int .i64) (.int .i64) (0:Int) false 30 32),
oB 34 .add 33 (cI 1),
oN (.mput (.int .i64) (.int .i64) 30 32 34)])
(.reg [oM 35 0,
oM 36 6,
oD 37 (.slice 1 35 (some 36) none none),
oM 0 37])))))))))
(sq (kr [] [oD 2 (.mov (.c (.imm Y3 []))),
oD 3 (.mov (cI 776))])
.ret))))
def Vd_:List RD:=[.tmp 2 true (some Y3),.tmp 3 true none]
theorem VA_:zn_ Tryz.prog Tryz.f49 VZ_ Vd_=true:=by kernel_rfl
def jv_:List AV->List Obj->Option (Prop × AV)
 | [.imm (.int .u8) b],[]=>some ((b.length<=100000000/\65528 < b.length,.tup [.imm Y3 (idL b),.int .i64 (idE b)]))
 | _,_=>none
theorem y6_:ze_ Tryz.prog 49 (RoF jv_).sum:=by
 refine zj_ Tryz.func49 VA_ (za_ (s:=RoF qR_) Q3_ (za_ (s:=RoF KD_) Jp_ (za_ (s:=RoF k4_) wZ_ (zd_ _)))) fun args objs p v e=>?_
 unfold jv_ at e
 split at e
 ·rename_i b
  cases e
  refine ⟨rfl,fun hw ho hp=>?_⟩
  change List Int at b
  have hb:∀ z ∈ (b:List Int),(0:Int)<=z/\z<=255:=fun z hz=>(hw (.imm (.int .u8) b) (by simp)).1 z hz
  clear hw ho
  obtain ⟨hp,hlong⟩:=hp
  repeat'(intro t ht;first|(cases t<;>first|(cases ht;done)|(try simp only[zh_]at ht;try(exfalso;first|contradiction|omega)))|((first|refine zb_ ht ?_|refine ht ?_ ?_|refine ht.1 ?_ ?_|refine ht ?_)<;>clear ht))
  all_goals first
   | exact True.intro
   | (intro r h1 h2;clear h1;refine h2 ⟨[0,4],List VIn × List Int × List (Int × Int),(fun a=>a.1.length<=b.length/\a.2.1.length<=b.length/\a.1.length+a.2.1.length<=b.length/\mOk a.2.2 a.1/\(∀ z ∈ a.2.1,(0:Int)<=z/\z<=255)/\inG [] b=inG a.1 a.2.1),fun a=>[.imm (.int .u8) a.2.1,.mapv 0],fun a=>[.map true (.int .i64) (.int .i64) a.2.2],fun a=>a.2.1.length,⟨([],b,[]),⟨by simp,Nat.le_refl _,by simp,gg_,hb,rfl⟩,rfl,rfl⟩,?_⟩;clear h2)
  rintro ⟨acc,y,m⟩ ⟨ja,jy,jl,jm,jb,je⟩
  dsimp only at ja jy jl jm jb je
  repeat'(intro t ht;first|(cases t<;>first|(cases ht;done)|(try simp only[zh_]at ht;try(exfalso;first|contradiction|omega)))|((first|refine zb_ ht ?_|refine ht ?_ ?_|refine ht.1 ?_ ?_|refine ht ?_)<;>clear ht))
  all_goals first
   | exact True.intro
   | ((try simp only [zk_,zl_,zi_] at*);omega)
   | exact ⟨rfl,by decide,by dsimp only;omega⟩
   | (have h0:y.length=0:=by omega
      rw [yF_ h0] at je
      obtain ⟨d1,d2⟩:=(vd_ je).1 (by omega)
      rw [d1,d2];exact ⟨rfl,rfl⟩)
   | (have hT:¬ tlE y 8 8 776=0:=by assumption
      have hi:=gH_ (acc:=acc) hT
      have hg:=jd_ (acc:=acc) (y:=y) (by omega) (by rw [hi];exact hT)
      rw [hi,<- je] at hg
      obtain ⟨d1,d2⟩:=Wl_ (b:=b) (e:=tlE y 8 8 776) (by rw [hg]) hT
      rw [d1,d2];exact ⟨rfl,rfl⟩)
   | (have hT:tlE y 8 8 776=0:=by assumption
      obtain ⟨t1,t2,t3⟩:=yB_ hT
      obtain ⟨i1,i2⟩:=Bw_ jm hT
      first
       | (show (tlR y 8 8 776).length<=100000;rw [t3];have:=Hb_ jb;omega)
       | (have hr:=jm.r (tlI y 8 8 776 (tT y))
          exact (show IntKind.i64.min<=(zx_ m (tlI y 8 8 776 (tT y))).getD 0+1/\(zx_ m (tlI y 8 8 776 (tT y))).getD 0+1<=IntKind.i64.max from by simp only [zi_];omega))
       | (have h0:¬ o5E (decide (0 < (zx_ m (tlI y 8 8 776 (tT y))).getD 0)) (tlI y 8 8 776 (tT y)) (tlR y 8 8 776)=0:=ht
          have hg:=jd_ (acc:=acc) (y:=y) (by omega) (by rw [<- i1];exact h0)
          rw [<- i1,<- je] at hg
          obtain ⟨d1,d2⟩:=Wl_ (b:=b) (e:=o5E (decide (0 < (zx_ m (tlI y 8 8 776 (tT y))).getD 0)) (tlI y 8 8 776 (tT y)) (tlR y 8 8 776)) (by rw [hg]) h0
          rw [d1,d2];exact ⟨rfl,rfl⟩)
       | (have h0:o5E (decide (0 < (zx_ m (tlI y 8 8 776 (tT y))).getD 0)) (tlI y 8 8 776 (tT y)) (tlR y 8 8 776)=0:=by assumption
          obtain ⟨n1,n2,n3⟩:=gG_ (i1.symm.trans h0)
          first
           | (show 0<=tlI y 8 8 776 (tN y)/\tlI y 8 8 776 (tN y)<=(y.length:Int);rw [t2];omega)
           | (have hg:=Y9_ (acc:=acc) (y:=y) (by omega) (i1.symm.trans h0) (by omega)
              have hma:=gh_ (i:=vI acc y) jm
              rw [vI_t] at hma
              refine ⟨(acc++[vI acc y],y.drop (tN y).toNat,QA_ m (tT y) ((zx_ m (tT y)).getD 0+1)),⟨?_,?_,?_,hma,fun z hz=>jb z (List.mem_of_mem_drop hz),je.trans hg⟩,?_,?_,?_⟩
              ·dsimp only;rw [List.length_append,List.length_singleton];omega
              ·dsimp only;rw [List.length_drop];omega
              ·dsimp only;rw [List.length_append,List.length_singleton,List.length_drop];omega
              ·dsimp only;rw [List.length_drop];omega
              ·dsimp only;rw [t2];try rfl
              ·dsimp only;rw [t1];try rfl)
           | fail)
       | fail)
 ·cases e
def ys_:IR:=
(sq (kr [0] [oD 2 (.nilrow Y3),
oD 3 (.mov (cI 0))])
(sq (sq (.reg [oM 10 0,
oE 11 10,
oB 12 .gtr 11 (cI 65528)])
(.cond 12
(sq (kr [0] [oM 13 0,
oC 14 49 [13],
oX 15 14 0,
oX 16 14 1,
oM 2 15,
oM 3 16])
.ret)
.skip))
(sq (.reg [oD 4 (.nilrow Y3)])
(sq (kr [0,4] [oD 17 (.mkmap (.int .i64) (.int .i64)),
oM 5 17])
(sq (.block 0
(.loop
(sq (sq (kr [0,4,5] [oM 18 0,
oE 19 18,
oB 20 .gtr 19 (cI 0)])
(.cond 20
.skip
(.exit 0)))
(.block 1
(sq (kr [0,4,5] [oC 22 48 [],
oM 23 0,
oC 24 50 [22,23],
oM 21 24,
oX 25 21 0,
oX 26 21 1,
oX 27 21 2,
oD 6 (.box [.int .i64 0,.imm (.int .u8) []]),
oS 2 6 25,
oM 7 26,
oM 8 27])
(sq (sq (kr [0,4,5,6,7,8] [oM 28 8,
oB 29 .neq 28 (cI 0)])
(.cond 29
(sq (.reg [oM 30 8,
oD 2 (.nilrow Y3),
oM 3 30])
.ret)
.skip))
(sq (kr [0,4,5,6,7] [oK 32 2 6,
oM 33 5,
oC 34 51 [32,33],
oM 31 34,
oX 35 31 0,
oX 36 31 1,
oD 9 (.box [.int .i64 0,.int .u64 0,.int .u64 0,.imm Y2 [],.imm (.int .u8) []]),
oS 5 9 35,
oM 8 36])
(sq (sq (kr [0,4,5,7,8,9] [oM 37 8,
oB 38 .neq 37 (cI 0)])
(.cond 38
(sq (.reg [oM 39 8,
oD 2 (.nilrow Y3),
oM 3 39])
.ret)
.skip))
(sq (kr [0,4,5,7,9] [oM 40 5,
oA 41 0 9,
oL 42 41,
oD 43 (.mget (.int .i64) (.int .i64) (0:Int) false 40 42),
oB 44 .add 43 (cI 1),
oN (.mput (.int .i64) (.int .i64) 40 42 44)])
(sq (kr [0,4,5,7,9] [oM 45 4,
oK 46 5 9,
oD 47 (.sliceAll Y3 1 [(0,5,46)]),
oD 48 (.append Y3 72 45 47),
oM 4 48])
(.reg [oM 49 0,
oM 50 7,
oD 51 (.slice 1 49 (some 50) none none),
oM 0 51])))))))))))
(sq (kr [4] [oM 52 4,
oM 2 52,
oD 3 (.mov (cI 0))])
.ret))))))
def yc_:List RD:=[.tmp 2 true (some Y3),.tmp 3 true none]
theorem yk_:zn_ Tryz.prog Tryz.f17 ys_ yc_=true:=by kernel_rfl
def qj_:List AV->List Obj->Option (Prop × AV)
 | [.imm (.int .u8) b],[]=>some ((b.length<=100000000,.tup [.imm Y3 (idL b),.int .i64 (idE b)]))
 | _,_=>none
theorem Qw_:ze_ Tryz.prog 17 (RoF qj_).sum:=by
 refine zj_ Tryz.func17 yk_ (za_ (s:=RoF jv_) y6_ (za_ (s:=RoF qR_) Q3_ (za_ (s:=RoF KD_) Jp_ (za_ (s:=RoF k4_) wZ_ (zd_ _))))) fun args objs p v e=>?_
 unfold qj_ at e
 split at e
 ·rename_i b
  cases e
  refine ⟨rfl,fun hw ho hp=>?_⟩
  change List Int at b
  have hb:∀ z ∈ (b:List Int),(0:Int)<=z/\z<=255:=fun z hz=>(hw (.imm (.int .u8) b) (by simp)).1 z hz
  clear hw ho
  by_cases hlong:65528 < b.length
  ·repeat'(intro t ht;first|(cases t<;>first|(cases ht;done)|(try simp only[zh_]at ht;try(exfalso;first|contradiction|omega)))|((first|refine zb_ ht ?_|refine ht ?_ ?_|refine ht.1 ?_ ?_|refine ht ?_)<;>clear ht))
   all_goals first
    | exact True.intro
    | exact ⟨hp,hlong⟩
    | exact ⟨rfl,rfl⟩
    | (exfalso;omega)
  ·repeat'(intro t ht;first|(cases t<;>first|(cases ht;done)|(try simp only[zh_]at ht;try(exfalso;first|contradiction|omega)))|((first|refine zb_ ht ?_|refine ht ?_ ?_|refine ht.1 ?_ ?_|refine ht ?_)<;>clear ht))
   all_goals first
    | exact True.intro
    | (exfalso;omega)
    | (intro r h1 h2;clear h1;refine h2 ⟨[0,4,5],List VIn × List Int × List (Int × Int),(fun a=>a.1.length+a.2.1.length<=b.length/\mOk a.2.2 a.1/\(∀ z ∈ a.2.1,(0:Int)<=z/\z<=255)/\inG [] b=inG a.1 a.2.1),fun a=>[.imm (.int .u8) a.2.1,.own 0,.mapv 1],fun a=>[.row false Y3 a.1,.map true (.int .i64) (.int .i64) a.2.2],fun a=>a.2.1.length,⟨([],b,[]),⟨by simp,gg_,hb,rfl⟩,rfl,rfl⟩,?_⟩;clear h2)
   rintro ⟨acc,y,m⟩ ⟨jl,jm,jb,je⟩
   dsimp only at jl jm jb je
   repeat'(intro t ht;first|(cases t<;>first|(cases ht;done)|(try simp only[zh_]at ht;try(exfalso;first|contradiction|omega)))|((first|refine zb_ ht ?_|refine ht ?_ ?_|refine ht.1 ?_ ?_|refine ht ?_)<;>clear ht))
   all_goals first
    | exact True.intro
    | ((try simp only [zk_,zl_,zi_] at*);omega)
    | exact ⟨rfl,by decide,by dsimp only;omega⟩
    | (simp only [List.length_cons,List.length_nil];constructor<;>omega)
    | (have h0:y.length=0:=by omega
       rw [yF_ h0] at je
       obtain ⟨d1,d2⟩:=(vd_ je).2 (by omega)
       rw [d1,d2];exact ⟨rfl,rfl⟩)
    | (have hT:¬ tlE y 8 8 776=0:=by assumption
       have hi:=gH_ (acc:=acc) hT
       have hg:=jd_ (acc:=acc) (y:=y) (by omega) (by rw [hi];exact hT)
       rw [hi,<- je] at hg
       obtain ⟨d1,d2⟩:=Wl_ (b:=b) (e:=tlE y 8 8 776) (by rw [hg]) hT
       rw [d1,d2];exact ⟨rfl,rfl⟩)
    | (have hT:tlE y 8 8 776=0:=by assumption
       obtain ⟨t1,t2,t3⟩:=yB_ hT
       obtain ⟨i1,i2⟩:=Bw_ jm hT
       have i3:(o5V (decide (0 < (zx_ m (tlI y 8 8 776 (tT y))).getD 0)) (tlI y 8 8 776 (tT y)) (tlR y 8 8 776)).1=tT y:=by rw [i2];exact vI_t
       first
        | (show (tlR y 8 8 776).length<=100000;rw [t3];have:=Hb_ jb;omega)
        | (have hr:=jm.r (o5V (decide (0 < (zx_ m (tlI y 8 8 776 (tT y))).getD 0)) (tlI y 8 8 776 (tT y)) (tlR y 8 8 776)).1
           exact (show IntKind.i64.min<=(zx_ m (o5V (decide (0 < (zx_ m (tlI y 8 8 776 (tT y))).getD 0)) (tlI y 8 8 776 (tT y)) (tlR y 8 8 776)).1).getD 0+1/\(zx_ m (o5V (decide (0 < (zx_ m (tlI y 8 8 776 (tT y))).getD 0)) (tlI y 8 8 776 (tT y)) (tlR y 8 8 776)).1).getD 0+1<=IntKind.i64.max from by simp only [zi_];omega))
        | (have h0:¬ o5E (decide (0 < (zx_ m (tlI y 8 8 776 (tT y))).getD 0)) (tlI y 8 8 776 (tT y)) (tlR y 8 8 776)=0:=ht
           have hg:=jd_ (acc:=acc) (y:=y) (by omega) (by rw [<- i1];exact h0)
           rw [<- i1,<- je] at hg
           obtain ⟨d1,d2⟩:=Wl_ (b:=b) (e:=o5E (decide (0 < (zx_ m (tlI y 8 8 776 (tT y))).getD 0)) (tlI y 8 8 776 (tT y)) (tlR y 8 8 776)) (by rw [hg]) h0
           rw [d1,d2];exact ⟨rfl,rfl⟩)
        | (have h0:o5E (decide (0 < (zx_ m (tlI y 8 8 776 (tT y))).getD 0)) (tlI y 8 8 776 (tT y)) (tlR y 8 8 776)=0:=by assumption
           obtain ⟨n1,n2,n3⟩:=gG_ (i1.symm.trans h0)
           first
            | (show 0<=tlI y 8 8 776 (tN y)/\tlI y 8 8 776 (tN y)<=(y.length:Int);rw [t2];omega)
            | (have hg:=Y9_ (acc:=acc) (y:=y) (by omega) (i1.symm.trans h0) (by omega)
               have hma:=gh_ (i:=vI acc y) jm
               refine ⟨(acc++[vI acc y],y.drop (tN y).toNat,QA_ m (vI acc y).1 ((zx_ m (vI acc y).1).getD 0+1)),⟨?_,hma,fun z hz=>jb z (List.mem_of_mem_drop hz),je.trans hg⟩,?_,?_,?_⟩
               ·dsimp only;rw [List.length_append,List.length_singleton,List.length_drop];omega
               ·dsimp only;rw [List.length_drop];omega
               ·dsimp only;rw [t2];try rfl
               ·dsimp only;rw [<- i2];try rfl)
            | fail)
        | fail)
 ·cases e
def itL5 (b:List Int) (p e:Int):List VIn:=if e=0 then idL (b.drop p.toNat) else []
def itE5 (b:List Int) (p e:Int):Int:=if e=0 then idE (b.drop p.toNat) else e
def V1_:IR:=
(sq (kr [0] [oD 2 (.mov (.c (.imm Y3 [])))])
(sq (.reg [oM 6 0,
oC 7 62 [6],
oM 3 7])
(sq (sq (.reg [oM 8 0,
oC 9 23 [8],
oB 10 .neq 9 (cI 0)])
(.cond 10
(sq (kr [] [oD 2 (.mov (.c (.imm Y3 [])))])
.ret)
.skip))
(sq (kr [0,3] [oM 12 3,
oC 13 17 [12],
oM 11 13,
oX 14 11 0,
oX 15 11 1,
oM 4 14,
oM 5 15])
(sq (kr [0,4,5] [oM 16 0,
oM 17 5,
oC 18 63 [16,17]])
(sq (.reg [oM 19 4,
oM 2 19])
.ret))))))
def Vf_:List RD:=[.tmp 2 true (some Y3)]
theorem VC_:zn_ Tryz.prog Tryz.f22 V1_ Vf_=true:=by kernel_rfl
def jx_:List AV->List Obj->Option (Prop × AV × List Obj)
 | [.ptr 0 0],[.box [.imm (.int .u8) b,.int .i64 p,.int .i64 sh,.int .i64 od,.int .i64 e,.bool true]]=>some ((0<=p/\p<=b.length/\b.length<=100000000/\sh ≠ 0,.imm Y3 (itL5 b p e),[.box [.imm (.int .u8) b,.int .i64 ((if e=0 then (b.length:Int) else p)),.int .i64 sh,.int .i64 od,.int .i64 (itE5 b p e),.bool true]]))
 | _,_=>none
theorem y8_:ze_ Tryz.prog 22 (RwF jx_).sum:=by
 refine Qs_ Tryz.func22 VC_ (za_ (s:=RwF Zr_) ZS_ (za_ (s:=RoF zr_) zt_ (za_ (s:=RoF qj_) Qw_ (za_ (s:=RwF zw_) zA_ (zd_ _))))) fun args objs p v o e=>?_
 unfold jx_ at e
 split at e
 ·rename_i b p sh od e
  cases e
  refine ⟨rfl,fun hw ho hp=>?_⟩
  change List Int at b
  clear hw ho
  obtain ⟨h1,h2,h3,h4⟩:=hp
  have hl:(b.drop p.toNat).length<=100000000:=by rw [List.length_drop];omega
  by_cases he:e=0
  ·subst he
   have f0:∀ x,z5_ 0 x=x:=fun x=>if_pos rfl
   repeat'(intro t ht;first|(cases t<;>first|(cases ht;done)|(try simp only[zh_]at ht;try(exfalso;first|contradiction|omega)))|((first|refine zb_ ht ?_|refine ht ?_ ?_|refine ht.1 ?_ ?_|refine ht ?_)<;>clear ht))
   all_goals first
    | exact True.intro
    | exact ⟨h1,h2,by omega,h4⟩
    | exact hl
    | exact ⟨rfl,rfl⟩
    | (exfalso;omega)
  ·repeat'(intro t ht;first|(cases t<;>first|(cases ht;done)|(try simp only[zh_]at ht;try(exfalso;first|contradiction|omega)))|((first|refine zb_ ht ?_|refine ht ?_ ?_|refine ht.1 ?_ ?_|refine ht ?_)<;>clear ht))
   all_goals first
    | exact True.intro
    | exact ⟨h1,h2,by omega,h4⟩
    | (unfold itL5 itE5;rw [if_neg he,if_neg he,if_neg he];exact ⟨rfl,rfl⟩)
    | (exfalso;omega)
 ·cases e
theorem hZ_ {l:List VIn} {i:Nat} {d:VIn} {k:Int} (h:i < l.length):dbI (l.drop i) k=(decide ((l.getD i d).1=k) && decide (¬ k=65535) || dbI (l.drop (i+1)) k):=by
 unfold dbI snI
 rw [zz_ h d,List.any_cons]
 cases decide ((l.getD i d).1=k)<;>simp
def go_:IR:=
(sq (kr [0,1] [oD 4 (.mov cF)])
(sq (sq (.reg [oD 5 (.mov (cI 0))])
(.block 0
(.loop
(sq (sq (kr [0,1,5] [oM 6 5,
oM 7 0,
oE 8 7,
oB 9 .lss 6 8])
(.cond 9
.skip
(.exit 0)))
(sq (.block 1
(sq (kr [0,1,5] [oM 12 0,
oM 13 5,
oI 14 5 12 13,
oA 15 0 14,
oL 16 15,
oM 17 1,
oB 18 .eql 16 17,
oM 19 18,
oT 19 20 (.mov 1),
oT 19 21 (.bin .neq 20 (cI 65535)),
oP 22 19 21 cF])
(.cond 22
(sq (kr [] [oD 4 (.mov cT)])
.ret)
.skip)))
(kr [0,1,5] [oM 10 5,
oB 11 .add 10 (cI 1),
oM 5 11]))))))
(sq (kr [] [oD 4 (.mov cF)])
.ret)))
def Uu_:List RD:=[.tmp 4 true none]
theorem UV_:zn_ Tryz.prog Tryz.f54 go_ Uu_=true:=by kernel_rfl
def we_:List AV->List Obj->Option (Prop × AV)
 | [.imm ty0 l,.int .i64 k],[]=>Z1_ ty0 Y3 l fun l=>some ((True,.bool (dbI l k)))
 | [.own 0,.int .i64 k],[.row false ty0 l]=>Z1_ ty0 Y3 l fun l=>some ((l.length<=100000000,.bool (dbI l k)))
 | _,_=>none
theorem vR_:ze_ Tryz.prog 54 (RoF we_).sum:=by
 refine zj_ Tryz.func54 UV_ (zd_ _) fun args objs p v e=>?_
 unfold we_ at e
 split at e
 ·rename_i ty0 l k
  obtain rfl:=z6_ e
  replace e:=z7_ e
  cases e
  refine ⟨rfl,fun hw ho hp=>?_⟩
  change List VIn at l
  have hl:l.length<=maxLen:=(hw (.imm Y3 l) (by simp)).2
  unfold maxLen at hl
  clear hw ho
  repeat'(intro t ht;first|(cases t<;>first|(cases ht;done)|(try simp only[zh_]at ht;try(exfalso;first|contradiction|omega)))|((first|refine zb_ ht ?_|refine ht ?_ ?_|refine ht.1 ?_ ?_|refine ht ?_)<;>clear ht))
  all_goals first
   | exact True.intro
   | (intro r h1 h2;clear h1;refine h2 ⟨[0,1,5],Nat,(fun i=>i<=l.length/\dbI l k=dbI (l.drop i) k),fun i=>[.imm Y3 l,.int .i64 k,.int .i64 i],fun i=>[],fun i=>l.length - i,⟨0,⟨Nat.zero_le _,rfl⟩,rfl,rfl⟩,?_⟩;clear h2)
  rintro i ⟨hi,he⟩
  repeat'(intro t ht;first|(cases t<;>first|(cases ht;done)|(try simp only[zh_]at ht;try(exfalso;first|contradiction|omega)))|((first|refine zb_ ht ?_|refine ht ?_ ?_|refine ht.1 ?_ ?_|refine ht ?_)<;>clear ht))
  all_goals (try generalize (Ty.dflt Y3)=od at*)
  all_goals first
   | exact True.intro
   | ((try simp only [zk_,zl_,zi_] at*);omega)
   | (rw [he,List.drop_of_length_le (by omega)];exact ⟨rfl,rfl⟩)
   | (have hs:=he.trans (hZ_ (d:=od) (by omega))
      first
       | (have h1:(l.getD i od).1=k:=by assumption
          have h2:¬ k=65535:=by assumption
          rw [decide_eq_true h1,decide_eq_true h2] at hs
          rw [hs];exact ⟨rfl,rfl⟩)
       | (have h0:(decide ((l.getD i od).1=k) && decide (¬ k=65535))=false:=by
           first
            | (rw [decide_eq_false (show ¬ (l.getD i od).1=k from ht)];rfl)
            | (rw [decide_eq_false (not_not_intro (show k=65535 by assumption)),Bool.and_false])
          rw [h0,Bool.false_or] at hs
          exact ⟨i+1,⟨by omega,hs⟩,by (try dsimp only);omega,rfl,rfl⟩)
       | fail)
 ·rename_i k ty0 l
  obtain rfl:=z6_ e
  replace e:=z7_ e
  cases e
  refine ⟨rfl,fun hw ho hp=>?_⟩
  change List VIn at l
  clear hw ho
  repeat'(intro t ht;first|(cases t<;>first|(cases ht;done)|(try simp only[zh_]at ht;try(exfalso;first|contradiction|omega)))|((first|refine zb_ ht ?_|refine ht ?_ ?_|refine ht.1 ?_ ?_|refine ht ?_)<;>clear ht))
  all_goals first
   | exact True.intro
   | (intro r h1 h2;clear h1;refine h2 ⟨[0,1,5],Nat,(fun i=>i<=l.length/\dbI l k=dbI (l.drop i) k),fun i=>[.own 0,.int .i64 k,.int .i64 i],fun i=>[.row false Y3 l],fun i=>l.length - i,⟨0,⟨Nat.zero_le _,rfl⟩,rfl,rfl⟩,?_⟩;clear h2)
  rintro i ⟨hi,he⟩
  repeat'(intro t ht;first|(cases t<;>first|(cases ht;done)|(try simp only[zh_]at ht;try(exfalso;first|contradiction|omega)))|((first|refine zb_ ht ?_|refine ht ?_ ?_|refine ht.1 ?_ ?_|refine ht ?_)<;>clear ht))
  all_goals (try generalize (Ty.dflt Y3)=od at*)
  all_goals first
   | exact True.intro
   | ((try simp only [zk_,zl_,zi_] at*);omega)
   | (rw [he,List.drop_of_length_le (by omega)];exact ⟨rfl,rfl⟩)
   | (have hs:=he.trans (hZ_ (d:=od) (by omega))
      first
       | (have h1:(l.getD i od).1=k:=by assumption
          have h2:¬ k=65535:=by assumption
          rw [decide_eq_true h1,decide_eq_true h2] at hs
          rw [hs];exact ⟨rfl,rfl⟩)
       | (have h0:(decide ((l.getD i od).1=k) && decide (¬ k=65535))=false:=by
           first
            | (rw [decide_eq_false (show ¬ (l.getD i od).1=k from ht)];rfl)
            | (rw [decide_eq_false (not_not_intro (show k=65535 by assumption)),Bool.and_false])
          rw [h0,Bool.false_or] at hs
          exact ⟨i+1,⟨by omega,hs⟩,by (try dsimp only);omega,rfl,rfl⟩)
       | fail)
 ·cases e
theorem zew_ {t:Int} {x:List Int} (h:zU_ (wI t) x=0) (hb:∀ z ∈ x,0<=z/\z<=255) (hk:kI t=true):((Zi_ (wI t) x).length:Int)=zI_ (wI t)/\sI t<=x.length/\o5A t x=(if 0 < (Zi_ (wI t) x).length then (Zi_ (wI t) x).getD 0 0 else 0)/\o5B t x=(if 1 < (Zi_ (wI t) x).length then (Zi_ (wI t) x).getD 1 0 else 0):=by
 obtain ⟨_,_,p3⟩:=wB_ hb (show Zw_ (wI t) x=(Zi_ (wI t) x,0) from Prod.ext rfl h)
 have hc:=zen_ hb h
 have hw:=(g9_ hk).2
 unfold nuI at hw
 refine ⟨hc,p3,?_,?_⟩
 ·unfold o5A o5N Q5_
  rw [if_pos rfl,show (0:Int).toNat=0 from rfl,List.drop_zero]
  rcases hg:Zi_ (wI t) x with _ | ⟨a,r⟩
  ·rfl
  ·rfl
 ·unfold o5B o5N Q5_
  rw [if_pos rfl,show (0:Int).toNat=0 from rfl,List.drop_zero]
  rcases hg:Zi_ (wI t) x with _ | ⟨a,_ | ⟨b,r⟩⟩
  ·rfl
  ·rfl
  ·rfl
theorem zd4_ {acc:List VIn} {t:Int} (h:dbI acc t=true):snI acc t=true/\¬ t=65535:=by
 unfold dbI at h;simpa using h
theorem zd5_ {acc:List VIn} {t:Int} (h:dbI acc t=false):¬ (snI acc t=true/\¬ t=65535):=by
 rintro ⟨a,b⟩
 unfold dbI at h;rw [a,decide_eq_true b] at h;cases h
theorem Yr_ {acc:List VIn} {y b:List Int} {e:Int} (hl:¬ y.length=0) (hT:tlE y 8 8 776=0) (he:o5E (snI acc (tT y)) (tT y) (bd y)=e) (h0:¬ e=0) (je:inG [] b=inG acc y):idL b=[]/\idE b=e:=by
 have hi:=(bz_ (acc:=acc) hT).trans he
 have hg:=jd_ (acc:=acc) hl (by rw [hi];exact h0)
 rw [hi,<- je] at hg
 exact Wl_ (by rw [hg]) h0
theorem zdS_ {acc:List VIn} {y b:List Int} {v:VIn} (hl:¬ y.length=0) (hT:tlE y 8 8 776=0) (he:o5E (snI acc (tT y)) (tT y) (bd y)=0) (hv:o5V (snI acc (tT y)) (tT y) (bd y)=v) (je:inG [] b=inG acc y):inG [] b=inG (acc++[v]) (y.drop (tN y).toNat)/\8<=tN y/\tN y<=y.length:=by
 have hi:=(bz_ (acc:=acc) hT).trans he
 obtain ⟨n1,n2,n3⟩:=gG_ hi
 have hg:=Y9_ (acc:=acc) hl hi (by omega)
 have hv':vI acc y=v:=hv
 rw [hv'] at hg
 exact ⟨je.trans hg,n1,n2⟩
theorem zfb_ {t:Int} {x:List Int} (h:zU_ (wI t) x=0) (h2:¬ zG_ (wI t) < x.length\/t=3\/t=4\/t=65535):o5K t x=true:=by
 unfold o5K mI sI
 rw [decide_eq_true h,Bool.true_and]
 simp only [Bool.or_eq_true,decide_eq_true_eq]
 rcases h2 with h2 | h2 | h2 | h2
 ·right;omega
 ·left;left;left;exact h2
 ·left;left;right;exact h2
 ·left;right;exact h2
theorem zet_ {s:Bool} {t:Int} {x:List Int} (h:t=65535) (ho:o5K t x=true):o5E s t x=0/\o5V s t x=(t,o5A t x,o5B t x,[],o5R t x,()):=by subst h;exact zdW_ ho
theorem zfc_ {t:Int} {x:List Int} (h2:zG_ (wI t) < x.length) (h3:¬ t=3) (h4:¬ t=4) (h5:¬ t=65535):o5K t x=false:=by
 unfold o5K mI sI
 rw [decide_eq_false h3,decide_eq_false h4,decide_eq_false h5,decide_eq_false (show ¬ (x.length:Int)<=zG_ (wI t) by omega)]
 simp
def VR_:IR:=
(sq (kr [0] [oD 2 (.nilrow Y3),
oD 3 (.mov (cI 0))])
(sq (.reg [oM 18 0,
oE 19 18,
oM 4 19])
(sq (.reg [oD 5 (.nilrow Y3)])
(sq (.block 0
(.loop
(sq (sq (kr [0,4,5] [oM 20 0,
oE 21 20,
oB 22 .gtr 21 (cI 0)])
(.cond 22
.skip
(.exit 0)))
(.block 1
(sq (kr [0,4,5] [oD 24 (.build [.int .i64 0,.int .i64 0,.kb false,.int .i64 0,.int .i64 0] [(0,1,(cI 8)),(1,1,(cI 8)),(3,1,(cI 776)),(4,1,(cI 776))]),
oM 25 0,
oC 26 52 [24,25],
oM 23 26,
oX 27 23 0,
oX 28 23 1,
oX 29 23 2,
oD 6 (.box [.int .i64 0,.imm (.int .u8) []]),
oS 2 6 27,
oM 7 28,
oM 8 29])
(sq (sq (kr [0,4,5,6,7,8] [oM 30 8,
oB 31 .neq 30 (cI 0)])
(.cond 31
(sq (.reg [oM 32 8,
oD 2 (.nilrow Y3),
oM 3 32])
.ret)
.skip))
(sq (kr [0,4,5,6,7] [oA 34 0 6,
oL 35 34,
oC 36 53 [35],
oM 33 36,
oX 37 33 0,
oX 38 33 1,
oM 9 37,
oM 10 38])
(sq (sq (kr [0,4,5,6,7,9,10] [oM 39 10,
oD 40 (.un .not 39)])
(.cond 40
(sq (.reg [oD 2 (.nilrow Y3),
oD 3 (.mov (cI 769))])
.ret)
.skip))
(sq (sq (.reg [oM 41 5,
oA 42 0 6,
oL 43 42,
oC 44 54 [41,43]])
(.cond 44
(sq (kr [] [oD 2 (.nilrow Y3),
oD 3 (.mov (cI 778))])
.ret)
.skip))
(sq (kr [0,4,5,6,7,9] [oM 45 9,
oC 46 55 [45],
oM 11 46])
(sq (kr [0,4,5,6,7,9,11] [oM 48 9,
oA 49 1 6,
oL 50 49,
oC 51 56 [48,50],
oM 47 51,
oX 52 47 0,
oX 53 47 1,
oM 12 52,
oM 13 53])
(sq (sq (kr [0,4,5,6,7,11,12,13] [oM 54 13,
oB 55 .neq 54 (cI 0),
oM 56 55,
oF 56 57 (.fieldAddr 1 6),
oF 56 58 (.load none 57),
oF 56 59 (.len 58),
oF 56 60 (.mov 11),
oF 56 61 (.bin .gtr 59 60),
oF 56 62 (.mov 61),
oT 62 63 (.fieldAddr 0 6),
oT 62 64 (.load none 63),
oT 62 65 (.bin .neq 64 (cI 3)),
oF 56 66 (.pick 62 65 cF),
oF 56 67 (.mov 66),
oT 67 68 (.fieldAddr 0 6),
oT 67 69 (.load none 68),
oT 67 70 (.bin .neq 69 (cI 4)),
oF 56 71 (.pick 67 70 cF),
oF 56 72 (.mov 71),
oT 72 73 (.fieldAddr 0 6),
oT 72 74 (.load none 73),
oT 72 75 (.bin .neq 74 (cI 65535)),
oF 56 76 (.pick 72 75 cF),
oP 77 56 cT 76])
(.cond 77
(sq (kr [] [oD 2 (.nilrow Y3),
oD 3 (.mov (cI 776))])
.ret)
.skip))
(sq (kr [0,4,5,6,7,11,12] [oA 78 0 6,
oL 79 78,
oD 80 (.build [.int .i64 0,.int .u64 0,.int .u64 0,.imm Y2 [],.imm (.int .u8) []] [(0,1,79)]),
oD 14 (.box [.int .i64 0,.int .u64 0,.int .u64 0,.imm Y2 [],.imm (.int .u8) []]),
oS 5 14 80])
(sq (sq (.reg [oM 81 12,
oE 82 81,
oB 83 .gtr 82 (cI 0)])
(.cond 83
(kr [0,4,5,6,7,11,12,14] [oM 84 12,
oD 85 (.indexSl 1 84 (cI 0)),
oL 86 85,
oA 87 1 14,
oS 1 87 86])
.skip))
(sq (sq (kr [0,4,5,6,7,11,12,14] [oM 88 12,
oE 89 88,
oB 90 .gtr 89 (cI 1)])
(.cond 90
(.reg [oM 91 12,
oD 92 (.indexSl 1 91 (cI 1)),
oL 93 92,
oA 94 2 14,
oS 1 94 93])
.skip))
(sq (sq (kr [0,4,5,6,7,11,14] [oK 95 5 14,
oC 96 57 [95],
oM 15 96])
(sq (.reg [oM 97 15,
oB 98 .neq 97 (cI 0)])
(.cond 98
(sq (.reg [oM 99 15,
oD 2 (.nilrow Y3),
oM 3 99])
.ret)
.skip)))
(sq (sq (kr [0,4,5,6,7,11,14] [oA 100 0 6,
oL 101 100,
oB 102 .eql 101 (cI 65535)])
(.cond 102
(kr [0,4,5,6,7,11,14] [oA 103 1 6,
oL 104 103,
oM 105 11,
oD 106 (.slice 1 104 (some 105) none none),
oA 107 4 14,
oS 1 107 106])
(sq (kr [0,4,5,6,7,11,14] [oA 109 1 6,
oL 110 109,
oM 111 11,
oD 112 (.slice 1 110 (some 111) none none),
oC 113 58 [112],
oM 108 113,
oX 114 108 0,
oX 115 108 1,
oM 16 114,
oM 17 115])
(sq (sq (kr [0,4,5,7,14,16,17] [oM 116 17,
oB 117 .neq 116 (cI 0)])
(.cond 117
(sq (.reg [oM 118 17,
oD 2 (.nilrow Y3),
oM 3 118])
.ret)
.skip))
(.reg [oM 119 16,
oA 120 3 14,
oS 1 120 119])))))
(sq (kr [0,4,5,7,14] [oM 121 5,
oK 122 5 14,
oD 123 (.sliceAll Y3 1 [(0,5,122)]),
oD 124 (.append Y3 72 121 123),
oM 5 124])
(.reg [oM 125 0,
oM 126 7,
oD 127 (.slice 1 125 (some 126) none none),
oM 0 127])))))))))))))))))))
(sq (sq (kr [4,5] [oM 128 4,
oB 129 .gtr 128 (cI 65528)])
(.cond 129
(sq (.reg [oD 2 (.nilrow Y3),
oD 3 (.mov (cI 776))])
.ret)
.skip))
(sq (.reg [oM 130 5,
oM 2 130,
oD 3 (.mov (cI 0))])
.ret))))))
def v5_:List RD:=[.tmp 2 true (some Y3),.tmp 3 true none]
theorem Vs_:zn_ Tryz.prog Tryz.f18 VR_ v5_=true:=by kernel_rfl
def jk_:List AV->List Obj->Option (Prop × AV)
 | [.imm (.int .u8) b],[]=>some ((b.length<=100000,.tup [.imm Y3 (idL b),.int .i64 (idE b)]))
 | _,_=>none
theorem yY_:ze_ Tryz.prog 18 (RoF jk_).sum:=by
 refine zj_ Tryz.func18 Vs_ (za_ (s:=RoF wJ_) XD_ (za_ (s:=RoF Xj_) Gf_ (za_ (s:=RoF we_) vR_ (za_ (s:=RoF jp_) WO_ (za_ (s:=RoF wK_) XE_ (za_ (s:=RoF wf_) vS_ (za_ (s:=RoF jl_) yZ_ (zd_ _)))))))) fun args objs p v e=>?_
 unfold jk_ at e
 split at e
 ·rename_i b
  cases e
  refine ⟨rfl,fun hw ho hp=>?_⟩
  change List Int at b
  have hb:∀ z ∈ (b:List Int),(0:Int)<=z/\z<=255:=fun z hz=>(hw (.imm (.int .u8) b) (by simp)).1 z hz
  clear hw ho
  repeat'(intro t ht;first|(cases t<;>first|(cases ht;done)|(try simp only[zh_]at ht;try(exfalso;first|contradiction|omega)))|((first|refine zb_ ht ?_|refine ht ?_ ?_|refine ht.1 ?_ ?_|refine ht ?_)<;>clear ht))
  all_goals first
   | exact True.intro
   | (intro r h1 h2;clear h1;refine h2 ⟨[0,4,5],List VIn × List Int,(fun a=>a.1.length+a.2.length<=b.length/\(∀ z ∈ a.2,(0:Int)<=z/\z<=255)/\inG [] b=inG a.1 a.2),fun a=>[.imm (.int .u8) a.2,.int .i64 b.length,.own 0],fun a=>[.row false Y3 a.1],fun a=>a.2.length,⟨([],b),⟨by simp,hb,rfl⟩,rfl,rfl⟩,?_⟩;clear h2)
  clear hb
  rintro ⟨acc,y⟩ ⟨jl,jb,je⟩
  dsimp only at jl jb je
  by_cases hy:y.length=0
  ·repeat'(intro t ht;first|(cases t<;>first|(cases ht;done)|(try simp only[zh_]at ht;try(exfalso;first|contradiction|omega)))|((first|refine zb_ ht ?_|refine ht ?_ ?_|refine ht.1 ?_ ?_|refine ht ?_)<;>clear ht))
   all_goals first
    | exact True.intro
    | (rw [yF_ hy] at je
       first
        | (obtain ⟨d1,d2⟩:=(vd_ je).2 (by omega)
           rw [d1,d2];exact ⟨rfl,rfl⟩)
        | (obtain ⟨d1,d2⟩:=(vd_ je).1 (by omega)
           rw [d1,d2];exact ⟨rfl,rfl⟩)
        | fail)
    | (exfalso;omega)
  by_cases hT:tlE y 8 8 776=0
  ·obtain ⟨t1,t2,t3⟩:=yB_ hT
   have hbb:∀ z ∈ bd y,0<=z/\z<=255:=fun z hz=>jb z (List.mem_of_mem_take (List.mem_of_mem_drop hz))
   have hbl:=Hb_ jb
   have hsz:=Kr_ (wI (tT y))
   repeat'(intro t ht;first|(cases t<;>first|(cases ht;done)|(try simp only[zh_]at ht;try(exfalso;first|contradiction|omega)))|((first|refine zb_ ht ?_|refine ht ?_ ?_|refine ht.1 ?_ ?_|refine ht ?_)<;>clear ht))
   all_goals (try simp only [t1,t2,t3] at*)
   all_goals first
    | exact True.intro
    | ((try simp only [zk_,zl_,zi_] at*);omega)
    | exact ⟨True.intro,by decide,by omega⟩
    | (have hk:kI (tT y)=false:=ht
       obtain ⟨d1,d2⟩:=Yr_ hy hT (zbp_ hk).1 (by decide) je
       rw [d1,d2];exact ⟨rfl,True.intro⟩)
    | (have hk:kI (tT y)=true:=by assumption
       have hd:dbI acc (tT y)=true:=ht
       obtain ⟨d1,d2⟩:=Yr_ hy hT (zbo_ hk (zd4_ hd).1 (zd4_ hd).2).1 (by decide) je
       rw [d1,d2];exact ⟨rfl,True.intro⟩)
    | (have hk:kI (tT y)=true:=by assumption
       have hd:=zd5_ (show dbI acc (tT y)=false by assumption)
       have ho:o5K (tT y) (bd y)=false:=by
        first
         | exact (zbq_ (show ¬ zU_ (wI (tT y)) (bd y)=0 from ht)).1
         | exact zfc_ (by assumption) (by assumption) (by assumption) (by assumption)
       obtain ⟨d1,d2⟩:=Yr_ hy hT (UR_ hk hd ho).1 (by decide) je
       rw [d1,d2];exact ⟨rfl,True.intro⟩)
    | (have hk:kI (tT y)=true:=by assumption
       have hd:=zd5_ (show dbI acc (tT y)=false by assumption)
       have hg:zU_ (wI (tT y)) (bd y)=0:=by assumption
       obtain ⟨n1,n2,n3,n4⟩:=zew_ hg hbb hk
       unfold sI at n2
       have ho:o5K (tT y) (bd y)=true:=zfb_ hg (by omega)
       obtain ⟨p1,p2,p3,p4⟩:=yT_ hT (by decide)
       first
        | exact ⟨hsz.1,n2⟩
        | (rw [List.length_drop];omega)
        | (simp only [List.length_cons,List.length_nil];constructor<;>omega)
        | (constructor<;>omega)
        | (first | rw [if_pos (by omega)] at n3 | rw [if_neg (by omega)] at n3
           first | rw [if_pos (by omega)] at n4 | rw [if_neg (by omega)] at n4
           first
            | (have h6:tT y=65535:=ht
               obtain ⟨e1,e2⟩:=zet_ (s:=snI acc (tT y)) h6 ho
               obtain ⟨g1,g2,g3⟩:=zdS_ hy hT e1 e2 je
               refine ⟨(_,_),⟨?_,fun z hz=>jb z (List.mem_of_mem_drop hz),g1⟩,?_,rfl,?_⟩
               ·dsimp only;rw [List.length_append,List.length_singleton,List.length_drop];omega
               ·dsimp only;rw [List.length_drop];omega
               ·rw [n3,n4];rfl)
            | (have h6:¬ tT y=65535:=by
                first
                 | assumption
                 | (intro c;refine ht ?_;rw [c];exact qI_x)
               obtain ⟨e1,e2⟩:=zdV_ (s:=snI acc (tT y)) hk hd ho h6
               rw [n3,n4] at e1 e2
               first
                | (have z:=e1.trans (if_neg ht)
                   obtain ⟨d1,d2⟩:=Yr_ hy hT z ht je
                   rw [d1,d2];exact ⟨rfl,True.intro⟩)
                | (rw [if_pos (by assumption)] at e1 e2
                   first
                    | (have z:=Yr_ hy hT e1 ht je
                       obtain ⟨d1,d2⟩:=z
                       rw [d1,d2];exact ⟨rfl,True.intro⟩)
                    | (have z:=zdS_ hy hT (e1.trans ht) e2 je
                       obtain ⟨g1,g2,g3⟩:=z
                       refine ⟨(_,_),⟨?_,fun z hz=>jb z (List.mem_of_mem_drop hz),g1⟩,?_,rfl,?_⟩
                       ·dsimp only;rw [List.length_append,List.length_singleton,List.length_drop];omega
                       ·dsimp only;rw [List.length_drop];omega
                       ·rfl)
                    | fail)
                | fail)
            | fail)
        | fail)
  ·have hi:=gH_ (acc:=acc) hT
   have hg:=jd_ (acc:=acc) (y:=y) hy (by rw [hi];exact hT)
   rw [hi,<- je] at hg
   obtain ⟨d1,d2⟩:=Wl_ (b:=b) (e:=tlE y 8 8 776) (by rw [hg]) hT
   repeat'(intro t ht;first|(cases t<;>first|(cases ht;done)|(try simp only[zh_]at ht;try(exfalso;first|contradiction|omega)))|((first|refine zb_ ht ?_|refine ht ?_ ?_|refine ht.1 ?_ ?_|refine ht ?_)<;>clear ht))
   all_goals first
    | exact True.intro
    | exact ⟨rfl,by decide,by dsimp only;omega⟩
    | (rw [d1,d2];exact ⟨rfl,rfl⟩)
    | (exfalso;omega)
 ·cases e
end Go.Eng
