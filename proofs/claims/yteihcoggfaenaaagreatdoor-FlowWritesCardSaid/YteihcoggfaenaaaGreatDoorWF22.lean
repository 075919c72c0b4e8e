/- Parts of the proof: I4, I5, I6, I7, Y1, Y2, Y3. No condition. -/
import Derived.Test.YteihcoggfaenaaaGreatDoorProg
import Derived.Test.YteihcoggfaenaaaGreatDoorWF10
import Derived.KernelRfl
import Derived.Test.YteihcoggfaenaaaGreatDoorWF21
namespace Go.Eng
open Go.Proofs
set_option linter.unusedVariables false
set_option linter.unusedSimpArgs false
set_option maxRecDepth 100000
set_option maxHeartbeats 1000000
structure okI (l:List VIn):Prop where
 a:∀ i ∈ l,okL i.2.2.2.1/\i.2.2.2.2.1.length<=1000000
 n:l.length<=1000
def itL (l:List VIn):List VIt:=if gdL [] l=true then l.map itI else []
theorem hf_ {α β:Type} {l:List α} {i:Nat} (h:i < l.length) (d:α) (f:α->β):(l.take (i+1)).map f=(l.take i).map f++[f (l.getD i d)]:=by
 rw [<- ks_ (d:=d) h,List.map_append];rfl
def gd_:IR:=
(sq (kr [0] [oD 2 (.nilrow YB),
oD 3 (.mov cF)])
(sq (.reg [oD 10 (.mkmap (.int .i64) (.int .i64)),
oM 4 10])
(sq (.reg [oD 5 (.nilrow YB)])
(sq (sq (.reg [oM 11 0,
oE 12 11,
oD 13 (.mov (cI 0))])
(.block 0
(.loop
(sq (kr [4,5,11,12,13] [oB 14 .lss 13 12])
(sq (.cond 14
.skip
(.exit 0))
(sq (.block 1
(sq (.reg [oI 15 5 11 13,
oK 16 5 15,
oD 7 (.box [.int .i64 0,.int .u64 0,.int .u64 0,.imm Y2 [],.imm (.int .u8) []]),
oS 5 7 16])
(sq (kr [4,5,7,11,12,13] [oK 18 5 7,
oC 19 153 [18],
oM 17 19,
oX 20 17 0,
oX 21 17 1,
oM 8 20,
oM 9 21])
(sq (sq (kr [4,5,7,8,9,11,12,13] [oM 22 9,
oD 23 (.un .not 22),
oM 24 23,
oF 24 25 (.mov 4),
oF 24 26 (.fieldAddr 0 7),
oF 24 27 (.load none 26),
oF 24 28 (.mget (.int .i64) (.int .i64) (0:Int) false 25 27),
oF 24 29 (.bin .gtr 28 (cI 0)),
oF 24 30 (.mov 29),
oT 30 31 (.fieldAddr 0 7),
oT 30 32 (.load none 31),
oT 30 33 (.bin .neq 32 (cI 65535)),
oF 24 34 (.pick 30 33 cF),
oP 35 24 cT 34])
(.cond 35
(sq (kr [] [oD 2 (.nilrow YB),
oD 3 (.mov cF)])
.ret)
.skip))
(sq (kr [4,5,7,8,11,12,13] [oM 36 4,
oA 37 0 7,
oL 38 37,
oD 39 (.mget (.int .i64) (.int .i64) (0:Int) false 36 38),
oB 40 .add 39 (cI 1),
oN (.mput (.int .i64) (.int .i64) 36 38 40)])
(kr [4,5,7,8,11,12,13] [oM 41 5,
oA 42 0 7,
oL 43 42,
oM 44 8,
oD 45 (.buildAll 2 [(0,1,43),(1,1,44)]),
oD 46 (.sliceAll YB 1 [(0,2,45)]),
oD 47 (.append YB 32 41 46),
oM 5 47]))))))
(kr [4,5,11,12,13] [oB 48 .add 13 (cI 1),
oM 13 48])))))))
(sq (kr [5] [oM 49 5,
oM 2 49,
oD 3 (.mov cT)])
.ret)))))
def Ul_:List RD:=[.tmp 2 true (some YB),.tmp 3 true none]
theorem UO_:zk_ Tryz.prog Tryz.f123 gd_ Ul_=true:=by kernel_rfl
def Je_:List AV->List Obj->Option (Prop × AV)
 | [.imm ty0 l],[]=>qb_ ty0 Y3 l fun l=>some ((okI l,.tup [.imm YB (itL l),.bool (gdL [] l)]))
 | _,_=>none
theorem VM_:zd_ Tryz.prog 123 (RoF Je_).sum:=by
 refine zi_ Tryz.func123 UO_ (za_ (s:=RoF wS_) u0_ (zc_ _)) fun args objs p v e=>?_
 unfold Je_ at e
 split at e
 ·rename_i ty0 l
  obtain rfl:=zX_ e
  replace e:=zY_ e
  cases e
  refine ⟨rfl,fun hw ho hp=>?_⟩
  change List VIn at l
  clear hw ho
  obtain ⟨hok,hn⟩:=hp
  repeat'(intro t ht;first|(cases t<;>first|(cases ht;done)|(try simp only[zg_]at ht;try(exfalso;first|contradiction|omega)))|((first|refine zb_ ht ?_|refine ht ?_ ?_|refine ht.1 ?_ ?_|refine ht ?_)<;>clear ht))
  all_goals first
   | exact True.intro
   | (intro r h1 h2;clear h1;refine h2 ⟨[4,5,11,12,13],Nat × List (Int × Int),(fun a=>a.1<=l.length/\mOk a.2 (l.take a.1)/\gdL [] l=gdL (l.take a.1) (l.drop a.1)),fun a=>[.mapv 0,.own 1,.imm Y3 l,.int .i64 l.length,.int .i64 a.1],fun a=>[.map true (.int .i64) (.int .i64) a.2,.row false YB ((l.take a.1).map itI)],fun a=>l.length - a.1,⟨(0,[]),⟨Nat.zero_le _,Bz_,rfl⟩,rfl,rfl⟩,?_⟩;clear h2)
  rintro ⟨i,m⟩ ⟨hi,hm,he⟩
  dsimp only at hi hm he
  have hst:=fun (d:VIn) (h:i < l.length)=>he.trans (zcG_ (d:=d) h)
  repeat'(intro t ht;first|(cases t<;>first|(cases ht;done)|(try simp only[zg_]at ht;try(exfalso;first|contradiction|omega)))|((first|refine zb_ ht ?_|refine ht ?_ ?_|refine ht.1 ?_ ?_|refine ht ?_)<;>clear ht))
  all_goals (try generalize (Ty.dflt Y3)=od at*)
  all_goals first
   | exact True.intro
   | ((try simp only [zm_,zn_,zl_] at*);omega)
   | (have hge:l.length<=i:=by omega
      have g:gdL [] l=true:=by rw [he,List.drop_of_length_le hge];rfl
      have e:itL l=(l.take i).map itI:=by unfold itL;rw [if_pos g,List.take_of_length_le hge]
      rw [g,e];exact ⟨rfl,rfl⟩)
   | (have hlt:i < l.length:=by omega
      have hs:=hst od hlt
      have hr:=hm.r (l.getD i od).1
      rw [List.length_take] at hr
      have hd:=zf8_ hm (l.getD i od).1
      first
       | exact hok _ (zu_ hlt od)
       | exact (show IntKind.i64.min<=(zF_ m (l.getD i od).1).getD 0+1/\(zF_ m (l.getD i od).1).getD 0+1<=IntKind.i64.max from by simp only [zl_];omega)
       | (simp only [List.length_map,List.length_take,List.length_cons,List.length_nil];constructor<;>omega)
       | (have hsome:(bdO (l.getD i od)).isSome=false:=ht
          have g:gdL [] l=false:=by rw [hs,hsome];rfl
          have e:itL l=[]:=by unfold itL;rw [g];rfl
          rw [g,e];exact ⟨rfl,rfl⟩)
       | (have hdb:dbI (l.take i) (l.getD i od).1=true:=by
           have h1:0 < (zF_ m (l.getD i od).1).getD 0:=by assumption
           have h2:¬ (l.getD i od).1=65535:=ht
           unfold dbI;rw [<- hd,decide_eq_true h1,decide_eq_true h2];rfl
          have g:gdL [] l=false:=by rw [hs,hdb];simp
          have e:itL l=[]:=by unfold itL;rw [g];rfl
          rw [g,e];exact ⟨rfl,rfl⟩)
       | (have hsome:(bdO (l.getD i od)).isSome=true:=by assumption
          have hdb:dbI (l.take i) (l.getD i od).1=false:=by
           first
            | (have h1:¬ 0 < (zF_ m (l.getD i od).1).getD 0:=ht
               unfold dbI;rw [<- hd,decide_eq_false h1];rfl)
            | (have h2:(l.getD i od).1=65535:=ht
               unfold dbI;rw [decide_eq_false (not_not_intro h2),Bool.and_false])
          rw [hsome,hdb] at hs
          refine ⟨(i+1,kA_ m (l.getD i od).1 ((zF_ m (l.getD i od).1).getD 0+1)),⟨by dsimp only;omega,?_,?_⟩,by dsimp only;omega,rfl,?_⟩
          ·dsimp only;rw [<- ks_ (d:=od) hlt];exact BA_ hm
          ·dsimp only;rw [<- ks_ (d:=od) hlt];exact hs
          ·dsimp only;rw [hf_ hlt od itI];rfl))
 ·cases e
structure okJ (l:List VIt):Prop where
 a:∀ x ∈ l,(0<=x.1/\x.1<=65535)/\x.2.1.length % 8=4/\4<=x.2.1.length/\x.2.1.length<=65524
 n:l.length<=1000
def jnB (l:List VIt):List Int:=l.flatMap fun x=>enH x.1 x.2.1
theorem zcb_ {l:List VIt} {i:Nat} {d:VIt} (h:i < l.length):jnB (l.take (i+1))=jnB (l.take i)++enH (l.getD i d).1 (l.getD i d).2.1:=by
 unfold jnB
 rw [<- ks_ (d:=d) h,List.flatMap_append];simp
theorem zkG_ {l:List VIt} (h:okJ l) (i:Nat):(jnB (l.take i)).length<=65528*i:=by
 induction i with
 | zero=>simp [jnB]
 | succ i ih=>
   by_cases hl:i < l.length
   ·rw [zcb_ (d:=(0,[],())) hl,List.length_append,Xk_]
    have:=(h.a _ (zu_ hl (0,[],()))).2.2.2
    omega
   ·rw [List.take_of_length_le (by omega)] at ih ⊢;omega
theorem zmc_ {t:Int} {y:List Int} (ht:0<=t/\t<=65535) (h4:4<=y.length) (hl:y.length<=65524):kH_ y (qr_ [2,2] [t,4+y.length] [] (4+y.length) 0) (4+y.length) (qK_ [2,2] [t,4+y.length] [] (4+y.length) 0)=enH t y/\QT_ y (qr_ [2,2] [t,4+y.length] [] (4+y.length) 0) (4+y.length) (qK_ [2,2] [t,4+y.length] [] (4+y.length) 0)=0:=by
 obtain ⟨p1,p2⟩:=h0_ (a:=t) (n:=4+y.length) ht (by omega)
 have l4:(ze_ t 2++ze_ (4+y.length) 2).length=4:=by
  have:=Xk_ t y
  unfold enH at this;rw [List.length_append] at this;omega
 have b1:=Qd_ (x:=zR_ [2,2] [t,4+y.length]) (l:=[]) (room:=4+y.length) (by rw [p1,l4];simp;omega)
 have r1:qr_ [2,2] [t,4+y.length] [] (4+y.length) 0=ze_ t 2++ze_ (4+y.length) 2:=by
  unfold qr_;rw [if_pos p2,b1.1,p1,List.nil_append]
 have r2:qK_ [2,2] [t,4+y.length] [] (4+y.length) 0=0:=by
  unfold qK_;rw [if_pos p2,b1.2]
 rw [r1,r2]
 have b2:=Qd_ (x:=y) (l:=ze_ t 2++ze_ (4+y.length) 2) (room:=4+y.length) (by rw [l4];omega)
 exact ⟨b2.1,b2.2⟩
def zce_:IR:=
(sq (kr [0,1] [oD 2 (.boxv 0),
oD 4 (.nilrow (.int .u8)),
oD 5 (.mov (cI 0))])
(sq (sq (.reg [oK 16 5 2,
oC 17 154 [16],
oD 18 (.un .not 17)])
(.cond 18
(sq (kr [] [oD 4 (.nilrow (.int .u8)),
oD 5 (.mov (cI 10001))])
.ret)
.skip))
(sq (sq (kr [1,2] [oM 19 1,
oE 20 19,
oD 21 (.mov (cI 0))])
(.block 0
(.loop
(sq (kr [1,2,19,20,21] [oB 22 .lss 21 20])
(sq (.cond 22
.skip
(.exit 0))
(sq (.block 1
(sq (.reg [oI 23 2 19 21,
oK 24 2 23,
oD 7 (.box [.int .i64 0,.imm (.int .u8) []]),
oS 2 7 24])
(sq (kr [1,2,7,19,20,21] [oA 25 1 7,
oL 26 25,
oE 27 26,
oB 28 .add (cI 4) 27,
oM 8 28])
(sq (kr [1,2,7,8,19,20,21] [oA 29 0 7,
oL 30 29,
oB 31 .lss 30 (cI 0),
oM 32 31,
oF 32 33 (.fieldAddr 0 7),
oF 32 34 (.load none 33),
oF 32 35 (.bin .gtr 34 (cI 65535)),
oP 36 32 cT 35,
oM 37 36,
oF 37 38 (.mov 8),
oF 37 39 (.bin .gtr 38 (cI 65535)),
oP 40 37 cT 39,
oM 41 40,
oF 41 42 (.load (some 5) 2),
oF 41 43 (.mov 8),
oF 41 44 (.call false (.f 155) [42,43]),
oF 41 45 (.un .not 44),
oP 46 41 cT 45])
(.cond 46
(sq (kr [] [oD 4 (.nilrow (.int .u8)),
oD 5 (.mov (cI 10001))])
.ret)
.skip)))))
(kr [1,2,19,20,21] [oB 47 .add 21 (cI 1),
oM 21 47])))))))
(sq (kr [1,2] [oD 9 (.nilrow (.int .u8))])
(sq (sq (.reg [oM 48 1,
oE 49 48,
oD 50 (.mov (cI 0))])
(.block 2
(.loop
(sq (kr [2,9,48,49,50] [oB 51 .lss 50 49])
(sq (.cond 51
.skip
(.exit 2))
(sq (.block 3
(sq (.reg [oI 52 2 48 50,
oK 53 2 52,
oD 11 (.box [.int .i64 0,.imm (.int .u8) []]),
oS 2 11 53])
(sq (kr [2,9,11,48,49,50] [oA 54 1 11,
oL 55 54,
oE 56 55,
oB 57 .add (cI 4) 56,
oM 12 57])
(sq (kr [2,9,11,12,48,49,50] [oM 58 12,
oK 59 5 2,
oM 60 12,
oC 61 156 [59,60],
oB 62 .add 58 61,
oC 63 27 [62],
oM 13 63])
(sq (kr [2,9,11,12,13,48,49,50] [oM 64 13,
oD 65 (.sliceAll (.int .i64) 2 [(0,1,(cI 2)),(1,1,(cI 2))]),
oA 66 0 11,
oL 67 66,
oD 68 (.conv .u64 67),
oM 69 12,
oD 70 (.conv .u64 69),
oD 71 (.sliceAll (.int .u64) 2 [(0,1,68),(1,1,70)]),
oC 72 28 [64,65,71]])
(sq (kr [2,9,11,12,13,48,49,50] [oM 73 13,
oA 74 1 11,
oL 75 74,
oC 76 65 [73,75]])
(sq (kr [2,9,12,13,48,49,50] [oM 77 13,
oK 78 5 2,
oM 79 12,
oC 80 156 [78,79],
oD 81 (.mkrow (.int .u8) 1 (0:Int) 80 80),
oC 82 65 [77,81]])
(sq (kr [2,9,13,48,49,50] [oM 84 13,
oC 85 29 [84],
oM 83 85,
oX 86 83 0,
oX 87 83 1,
oM 14 86,
oM 15 87])
(sq (sq (kr [2,9,14,15,48,49,50] [oM 88 15,
oB 89 .neq 88 (cI 0)])
(.cond 89
(sq (.reg [oM 90 15,
oD 4 (.nilrow (.int .u8)),
oM 5 90])
.ret)
.skip))
(.reg [oM 91 9,
oM 92 14,
oD 93 (.append (.int .u8) 1 91 92),
oM 9 93]))))))))))
(kr [2,9,48,49,50] [oB 94 .add 50 (cI 1),
oM 50 94])))))))
(sq (kr [9] [oM 95 9,
oM 4 95,
oD 5 (.mov (cI 0))])
.ret))))))
def za4_:List RD:=[.tmp 4 true (some (.int .u8)),.tmp 5 true none]
theorem zby_:zk_ Tryz.prog Tryz.f124 zce_ za4_=true:=by kernel_rfl
def yu_:List AV->List Obj->Option (Prop × AV)
 | [.agg [.int .i64 least,.int .i64 step,.bool pad,.int .i64 bad,.int .i64 odd],.imm (.cons (.int .i64) (.cons (.sl (.int .u8)) .nil)) l],[]=>some ((pad=false/\least=8/\step=8/\bad ≠ 0/\odd ≠ 0/\okJ l,.tup [.imm (.int .u8) (jnB l),.int .i64 0]))
 | _,_=>none
theorem HP_:zd_ Tryz.prog 124 (RoF yu_).sum:=by
 refine zi_ Tryz.func124 zby_ (za_ (s:=RoF QC_) jE_ (za_ (s:=RoF Qe_) K7_ (za_ (s:=RoF qJ_) Ky_ (za_ (s:=RwF Z6_) qg_ (za_ (s:=RwF zH_) zK_ (za_ (s:=RwF zv_) zB_ (za_ (s:=RwF Ze_) ZL_ (zc_ _)))))))) fun args objs p v e=>?_
 unfold yu_ at e
 split at e
 ·rename_i least step pad bad odd l
  cases e
  refine ⟨rfl,fun hw ho hp=>?_⟩
  change List VIt at l
  clear hw ho
  obtain ⟨rfl,rfl,rfl,hbad,hodd,hok⟩:=hp
  have hn:=hok.n
  repeat'(intro t ht;first|(cases t<;>first|(cases ht;done)|(try simp only[zg_]at ht;try(exfalso;first|contradiction|omega)))|((first|refine zb_ ht ?_|refine ht ?_ ?_|refine ht.1 ?_ ?_|refine ht ?_)<;>clear ht))
  all_goals first
   | exact True.intro
   | exact ⟨by decide,by decide,by decide,by decide,hbad,hodd⟩
   | (intro r h1 h2;clear h1;refine h2 ⟨[1,2,19,20,21],Nat,(fun i=>i<=l.length),fun i=>[.imm YB l,.ptr 0 0,.imm YB l,.int .i64 l.length,.int .i64 i],fun i=>[.box [.int .i64 8,.int .i64 8,.bool false,.int .i64 bad,.int .i64 odd]],fun i=>l.length - i,⟨0,Nat.zero_le _,rfl,rfl⟩,?_⟩;clear h2)
  rintro i hi
  by_cases hlt:i < l.length
  ·have hx:=hok.a _ (zu_ hlt (Ty.dflt YB))
   have htm:((4:Int)+((l.getD i (Ty.dflt YB)).2.1.length:Int)).tmod 8=0:=by rw [Int.tmod_eq_emod_of_nonneg (by omega)];omega
   repeat'(intro t ht;first|(cases t<;>first|(cases ht;done)|(try simp only[zg_]at ht;try(exfalso;first|contradiction|omega)))|((first|refine zb_ ht ?_|refine ht ?_ ?_|refine ht.1 ?_ ?_|refine ht ?_)<;>clear ht))
   all_goals (try generalize (Ty.dflt YB)=od at*)
   all_goals first
    | exact True.intro
    | exact ⟨rfl,(by decide:(1:Int)<=8)⟩
    | ((try simp only [zm_,zn_,zl_] at*);omega)
    | (refine ⟨i+1,?_,?_,rfl,rfl⟩
       ·(try dsimp only);omega
       ·(try dsimp only);omega)
    | (exfalso;simp_all;omega)
  ·repeat'(intro t ht;first|(cases t<;>first|(cases ht;done)|(try simp only[zg_]at ht;try(exfalso;first|contradiction|omega)))|((first|refine zb_ ht ?_|refine ht ?_ ?_|refine ht.1 ?_ ?_|refine ht ?_)<;>clear ht))
   all_goals first
    | exact True.intro
    | (intro r h1 h2;clear h1;refine h2 ⟨[2,9,48,49,50],Nat,(fun i=>i<=l.length),fun i=>[.ptr 0 0,.own 1,.imm YB l,.int .i64 l.length,.int .i64 i],fun i=>[.box [.int .i64 8,.int .i64 8,.bool false,.int .i64 bad,.int .i64 odd],.row false (.int .u8) (jnB (l.take i))],fun i=>l.length - i,⟨0,Nat.zero_le _,rfl,rfl⟩,?_⟩;clear h2)
   clear ht hlt hi i
   rintro i hi
   have hjl:=zkG_ hok i
   by_cases hlt:i < l.length
   ·have hx:=hok.a _ (zu_ hlt (Ty.dflt YB))
    obtain ⟨j1,j2⟩:=zmc_ hx.1 hx.2.2.1 hx.2.2.2
    have hrm:w1_ (4+((l.getD i (Ty.dflt YB)).2.1.length:Int)+0)=4+((l.getD i (Ty.dflt YB)).2.1.length:Int):=by unfold w1_;omega
    have hel:=Xk_ (l.getD i (Ty.dflt YB)).1 (l.getD i (Ty.dflt YB)).2.1
    have hrl:(qr_ [2,2] [(l.getD i (Ty.dflt YB)).1,4+((l.getD i (Ty.dflt YB)).2.1.length:Int)] [] (4+((l.getD i (Ty.dflt YB)).2.1.length:Int)) 0).length<=1000000:=Ju_ (by decide) (by omega)
    have j3:kH_ ([]:List Int) (enH (l.getD i (Ty.dflt YB)).1 (l.getD i (Ty.dflt YB)).2.1) (4+((l.getD i (Ty.dflt YB)).2.1.length:Int)) 0=enH (l.getD i (Ty.dflt YB)).1 (l.getD i (Ty.dflt YB)).2.1:=by rw [(Qd_ (by rw [hel];simp)).1,List.append_nil]
    have j4:QT_ ([]:List Int) (enH (l.getD i (Ty.dflt YB)).1 (l.getD i (Ty.dflt YB)).2.1) (4+((l.getD i (Ty.dflt YB)).2.1.length:Int)) 0=0:=(Qd_ (by rw [hel];simp)).2
    have j5:List.replicate (Int.toNat 0) (0:Int)=[]:=rfl
    have j6:kq_ [] 0=0:=rfl
    repeat'(intro t ht;first|(cases t<;>first|(cases ht;done)|(try simp only[zg_]at ht;try(exfalso;first|contradiction|omega)))|((first|refine zb_ ht ?_|refine ht ?_ ?_|refine ht.1 ?_ ?_|refine ht ?_)<;>clear ht))
    all_goals (try generalize (Ty.dflt YB)=od at*)
    all_goals (try simp only [zm_,zn_,hrm,j1,j2,j3,j4,j5,j6,zjl_] at*)
    all_goals first
     | exact True.intro
     | ((try simp only [zm_,zn_,zl_] at*);omega)
     | (exfalso;contradiction)
     | exact ⟨by omega,by omega,by decide⟩
     | exact ⟨by omega,by omega,hrl,by omega⟩
     | exact ⟨by omega,by omega,by omega,by decide⟩
     | exact ⟨by omega,by decide⟩
     | (refine ⟨i+1,by omega,by omega,rfl,?_⟩
        rw [zcb_ (d:=od) hlt])
   ·repeat'(intro t ht;first|(cases t<;>first|(cases ht;done)|(try simp only[zg_]at ht;try(exfalso;first|contradiction|omega)))|((first|refine zb_ ht ?_|refine ht ?_ ?_|refine ht.1 ?_ ?_|refine ht ?_)<;>clear ht))
    all_goals first
     | exact True.intro
     | (rw [List.take_of_length_le (by omega)];exact ⟨rfl,rfl⟩)
 ·cases e
def gc_:IR:=
(sq (kr [] [oD 0 (.box [.int .i64 0,.int .i64 0,.kb false,.int .i64 0,.int .i64 0])])
(sq (.reg [oD 1 (.build [.int .i64 0,.int .i64 0,.kb false,.int .i64 0,.int .i64 0] [(0,1,(cI 8)),(1,1,(cI 8)),(3,1,(cI 776)),(4,1,(cI 776))]),
oS 5 0 1])
.ret))
def Uk_:List RD:=[.cell 0 (some 5) true []]
theorem UN_:zk_ Tryz.prog Tryz.f125 gc_ Uk_=true:=by kernel_rfl
def Qz_:List AV->List Obj->Option (Prop × AV)
 | [],[]=>some ((True,.agg [.int .i64 8,.int .i64 8,.bool false,.int .i64 776,.int .i64 776]))
 | _,_=>none
theorem Kq_:zd_ Tryz.prog 125 (RoF Qz_).sum:=by
 refine zi_ Tryz.func125 UN_ (zc_ _) fun args objs p v e=>?_
 unfold Qz_ at e
 split at e
 ·cases e
  refine ⟨rfl,fun hw ho hp=>?_⟩
  repeat'(intro t ht;first|(cases t<;>first|(cases ht;done)|(try simp only[zg_]at ht;try(exfalso;first|contradiction|omega)))|((first|refine zb_ ht ?_|refine ht ?_ ?_|refine ht.1 ?_ ?_|refine ht ?_)<;>clear ht))
  all_goals first
   | exact True.intro
   | exact ⟨rfl,rfl⟩
 ·cases e
theorem zmd_ (l:List VIn):jnB (l.map itI)=boI l:=by
 unfold jnB boI;rw [List.flatMap_map];rfl
theorem zl3_ {l:List VIn} (h:gdL [] l=true) (hn:l.length<=1000):okJ (l.map itI):=by
 refine ⟨fun x hx=>?_,by rw [List.length_map];exact hn⟩
 obtain ⟨i,hi,rfl⟩:=List.mem_map.1 hx
 obtain ⟨y,hy⟩:=Option.isSome_iff_exists.1 (uD_ h i hi)
 obtain ⟨b1,b2,b3⟩:=zau_ hy
 have hk:=ziT_ (jN_.1 hy).k
 have e:(itI i).2.1=y:=vJ_ hy
 rw [e]
 exact ⟨hk,b1,b2,by omega⟩
theorem zi2_ {l:List VIn} (h:gdL [] l=false):ieL l=[]/\ieE l=10001:=by
 have:rgI l=false:=by unfold rgI;rw [h];rfl
 unfold ieL ieE;rw [this];exact ⟨rfl,rfl⟩
theorem zgi_ {l:List VIn} (h:65528 < (boI l).length):ieL l=[]/\ieE l=10001:=by
 have:rgI l=false:=by unfold rgI;rw [decide_eq_false (by omega),Bool.and_false]
 unfold ieL ieE;rw [this];exact ⟨rfl,rfl⟩
theorem zln_ {l:List VIn} (h:gdL [] l=true) (h2:¬ 65528 < (boI l).length):ieL l=boI l/\ieE l=0:=by
 have:rgI l=true:=by unfold rgI;rw [h,decide_eq_true (by omega)];rfl
 unfold ieL ieE;rw [this];exact ⟨rfl,rfl⟩
def ul_:IR:=
(sq (kr [0] [oD 2 (.mov (.c (.imm (.int .u8) []))),
oD 3 (.mov (cI 0))])
(sq (kr [0] [oM 9 0,
oC 10 123 [9],
oM 8 10,
oX 11 8 0,
oX 12 8 1,
oM 4 11,
oM 5 12])
(sq (sq (kr [4,5] [oM 13 5,
oD 14 (.un .not 13)])
(.cond 14
(sq (.reg [oD 2 (.mov (.c (.imm (.int .u8) []))),
oD 3 (.mov (cI 10001))])
.ret)
.skip))
(sq (kr [4] [oC 16 125 [],
oM 17 4,
oC 18 124 [16,17],
oM 15 18,
oX 19 15 0,
oX 20 15 1,
oM 6 19,
oM 7 20])
(sq (sq (kr [6,7] [oM 21 7,
oB 22 .neq 21 (cI 0),
oM 23 22,
oF 23 24 (.mov 6),
oF 23 25 (.len 24),
oF 23 26 (.bin .gtr 25 (cI 65528)),
oP 27 23 cT 26])
(.cond 27
(sq (kr [] [oD 2 (.mov (.c (.imm (.int .u8) []))),
oD 3 (.mov (cI 10001))])
.ret)
.skip))
(sq (kr [6] [oM 28 6,
oM 2 28,
oD 3 (.mov (cI 0))])
.ret))))))
def VX_:List RD:=[.tmp 2 true (some (.int .u8)),.tmp 3 true none]
theorem V8_:zk_ Tryz.prog Tryz.f73 ul_ VX_=true:=by kernel_rfl
def js_:List AV->List Obj->Option (Prop × AV)
 | [.imm ty0 l],[]=>qb_ ty0 Y3 l fun l=>some ((okI l,.tup [.imm (.int .u8) (ieL l),.int .i64 (ieE l)]))
 | _,_=>none
theorem Y0_:zd_ Tryz.prog 73 (RoF js_).sum:=by
 refine zi_ Tryz.func73 V8_ (za_ (s:=RoF Je_) VM_ (za_ (s:=RoF Qz_) Kq_ (za_ (s:=RoF yu_) HP_ (zc_ _)))) fun args objs p v e=>?_
 unfold js_ at e
 split at e
 ·rename_i ty0 l
  obtain rfl:=zX_ e
  replace e:=zY_ e
  cases e
  refine ⟨rfl,fun hw ho hp=>?_⟩
  change List VIn at l
  clear hw ho
  have hok:=hp
  cases hg:gdL [] l with
  | false=>
    obtain ⟨e1,e2⟩:=zi2_ hg
    rw [e1,e2]
    repeat'(intro t ht;first|(cases t<;>first|(cases ht;done)|(try simp only[zg_]at ht;try(exfalso;first|contradiction|omega)))|((first|refine zb_ ht ?_|refine ht ?_ ?_|refine ht.1 ?_ ?_|refine ht ?_)<;>clear ht))
    all_goals first
     | exact True.intro
     | exact hok
     | exact ⟨rfl,rfl⟩
     | (exfalso;simp_all;done)
  | true=>
    have hj:=zl3_ hg hok.n
    have hL:itL l=l.map itI:=if_pos hg
    have hB:=zmd_ l
    repeat'(intro t ht;first|(cases t<;>first|(cases ht;done)|(try simp only[zg_]at ht;try(exfalso;first|contradiction|omega)))|((first|refine zb_ ht ?_|refine ht ?_ ?_|refine ht.1 ?_ ?_|refine ht ?_)<;>clear ht))
    all_goals (try simp only [hL,hB] at*)
    all_goals first
     | exact True.intro
     | exact hok
     | exact ⟨by decide,by decide,by decide,by decide,by decide,hj⟩
     | (exfalso;simp_all;done)
     | (obtain ⟨e1,e2⟩:=zln_ hg (by omega)
        rw [e1,e2];exact ⟨rfl,True.intro⟩)
     | (obtain ⟨e1,e2⟩:=zgi_ (l:=l) (by omega)
        rw [e1,e2];exact ⟨rfl,True.intro⟩)
 ·cases e
theorem zgj_ (l:List VIn):(ieL l).length<=65528:=by
 unfold ieL;split
 ·rename_i h;unfold rgI at h;simp only [Bool.and_eq_true,decide_eq_true_eq] at h;exact h.2
 ·exact Nat.zero_le _
def ipB (l:List Int) (room e:Int) (x:List VIn):List Int:=kH_ (ieL x) l room (zy_ e (ieE x))
def ipE (l:List Int) (room e:Int) (x:List VIn):Int:=QT_ (ieL x) l room (zy_ e (ieE x))
def B5_:IR:=
(sq (kr [0,1] [oM 7 1,
oC 8 73 [7],
oM 6 8,
oX 9 6 0,
oX 10 6 1,
oM 4 9,
oM 5 10])
(sq (kr [0,4,5] [oM 11 0,
oM 12 5,
oC 13 34 [11,12]])
(.reg [oM 14 0,
oM 15 4,
oC 16 65 [14,15]])))
def bF_:List RD:=[]
theorem Bi_:zk_ Tryz.prog Tryz.f32 B5_ bF_=true:=by kernel_rfl
def jW_:List AV->List Obj->Option (Prop × AV × List Obj)
 | [.ptr 0 0,.imm ty0 x],[.box [.own 1,.int .i64 room,.mapv 2,.int .i64 e],.row false (.int .u8) l,.map sq (.int .i64) (.int .i64) h]=>qb_ ty0 Y3 x fun x=>some ((okI x/\0<=room/\room<=1000000/\l.length<=1000000,.tup [],[.box [.own 3,.int .i64 room,.mapv 2,.int .i64 (ipE l room e x)],.dead,.map sq (.int .i64) (.int .i64) h,.row false (.int .u8) (ipB l room e x)]))
 | _,_=>none
theorem XR_:zd_ Tryz.prog 32 (RwF jW_).sum:=by
 refine qa_ Tryz.func32 Bi_ (za_ (s:=RoF js_) Y0_ (za_ (s:=RwF zA_) zD_ (za_ (s:=RwF zv_) zB_ (zc_ _)))) fun args objs p v o e=>?_
 unfold jW_ at e
 split at e
 ·rename_i ty0 x room e l sq h
  obtain rfl:=zX_ e
  replace e:=zY_ e
  cases e
  refine ⟨rfl,fun hw ho hp=>?_⟩
  change List Int at l
  have hx:=zgj_ x
  clear hw ho
  repeat'(intro t ht;first|(cases t<;>first|(cases ht;done)|(try simp only[zg_]at ht;try(exfalso;first|contradiction|omega)))|((first|refine zb_ ht ?_|refine ht ?_ ?_|refine ht.1 ?_ ?_|refine ht ?_)<;>clear ht))
  all_goals first
   | exact True.intro
   | exact hp.1
   | exact ⟨hp.2.1,hp.2.2.1,hp.2.2.2,Nat.le_trans hx (by decide)⟩
   | exact ⟨rfl,rfl⟩
 ·cases e
theorem zl4_ {t:Int} {x:List Int} (hk:¬ z7_ (wI t) x=0):o5K t x=false/\o5A t x=0/\o5B t x=0:=by
 refine ⟨by unfold o5K;rw [decide_eq_false hk];rfl,?_,?_⟩
 ·unfold o5A o5N kk_;rw [if_pos rfl,show (0:Int).toNat=0 from rfl,List.drop_zero,gq_ hk];rfl
 ·unfold o5B o5N kk_;rw [if_pos rfl,show (0:Int).toNat=0 from rfl,List.drop_zero,gq_ hk];rfl
theorem zkQ_ {t:Int} {x:List Int}:(z7_ (wI t) x=0->Ki_ (wI t) x 0 776 776 0=0/\kC_ (wI t) x 0 0=sI t)/\(¬ z7_ (wI t) x=0->Ki_ (wI t) x 0 776 776 0=776/\kC_ (wI t) x 0 0=0):=by
 have hK:=uC_ (wI t) x
 unfold Ki_ kC_
 rw [if_pos rfl,if_pos rfl,show (0:Int).toNat=0 from rfl,List.drop_zero]
 constructor
 ·intro h
  rw [if_neg (by omega),if_neg (by omega),if_neg (by omega),if_neg (by omega)]
  exact ⟨rfl,by unfold sI;omega⟩
 ·intro h
  rcases hK with h1 | h1 | h1
  ·exact absurd h1 h
  ·rw [if_pos h1,if_pos h1];exact ⟨rfl,rfl⟩
  ·rw [if_neg (by omega),if_pos h1,if_neg (by omega),if_pos h1];exact ⟨rfl,rfl⟩
theorem zlD_ (t:Int):(wI t).length<=3:=by
 unfold wI
 repeat' split
 all_goals decide
theorem zh2_ {x:List Int} {p sh:Int} (h0:0<=p) (h1:p<=x.length) (e:Int):ZZ_ (x.length - p) x p sh e=e/\(e=0->Qp_ (x.length - p) x p sh e=x.drop p.toNat):=by
 have hE:ZZ_ (x.length - p) x p sh e=e:=by unfold ZZ_;rw [if_neg (by omega),if_neg (by omega)]
 refine ⟨hE,fun h=>?_⟩
 unfold Qp_;rw [hE,if_pos h,List.take_of_length_le (by omega)]
theorem zmx_ {x:List Int} {p sh:Int} (h0:0<=p) (h1:p<=x.length) (e:Int):atE (x.length - p) x p sh e=(if e=0 then adE (x.drop p.toNat) else e)/\atL (x.length - p) x p sh e=(if e=0 then adL (x.drop p.toNat) else []):=by
 obtain ⟨a,b⟩:=zh2_ (sh:=sh) h0 h1 e
 unfold atE atL
 rw [a]
 by_cases h:e=0
 ·rw [if_pos h,if_pos h,if_pos h,if_pos h,b h];exact ⟨rfl,rfl⟩
 ·rw [if_neg h,if_neg h,if_neg h,if_neg h];exact ⟨rfl,rfl⟩
theorem zl2_ {s:Bool} {t:Int} {x:List Int} (h:kI t=false):o5E s t x=769/\o5V s t x=(t,0,0,[],[],()):=by
 unfold o5E o5V;rw [if_pos h,if_pos (.inl h)];exact ⟨rfl,rfl⟩
theorem zl1_ {s:Bool} {t:Int} {x:List Int} (h:kI t=true) (hs:s=true) (h6:¬ t=65535):o5E s t x=778/\o5V s t x=(t,0,0,[],[],()):=by
 unfold o5E o5V;rw [if_neg (by rw [h];decide),if_pos ⟨hs,h6⟩,if_pos (.inr ⟨hs,h6⟩)];exact ⟨rfl,rfl⟩
theorem zd5_ {s:Bool} {t:Int} {x:List Int} (h:kI t=true) (hs:¬ (s=true/\¬ t=65535)):o5E s t x=(if o5K t x=false then 776 else if t=65535 then 0 else if ¬ qI t (o5A t x) (o5B t x)=0 then qI t (o5A t x) (o5B t x) else adE (o5R t x))/\o5V s t x=(t,o5A t x,o5B t x,(if o5E s t x=0/\¬ t=65535 then adL (o5R t x) else []),(if o5K t x=true/\t=65535 then o5R t x else []),()):=by
 constructor
 ·unfold o5E;rw [if_neg (by rw [h];decide),if_neg hs]
 ·unfold o5V;rw [if_neg]
  rintro (c | c)
  ·rw [h] at c;cases c
  ·exact hs c
theorem zfU_ {s:Bool} {t:Int} {x:List Int} (h:kI t=true) (hs:¬ (s=true/\¬ t=65535)) (ho:o5K t x=false):o5E s t x=776/\o5V s t x=(t,o5A t x,o5B t x,[],[],()):=by
 obtain ⟨a,b⟩:=zd5_ (x:=x) h hs
 rw [if_pos ho] at a
 rw [b,a,ho,if_neg (fun c=>by cases c.1),if_neg (fun c=>by cases c.1)];exact ⟨rfl,rfl⟩
theorem zmV_ {s:Bool} {x:List Int} (ho:o5K 65535 x=true):o5E s 65535 x=0/\o5V s 65535 x=(65535,o5A 65535 x,o5B 65535 x,[],o5R 65535 x,()):=by
 obtain ⟨a,b⟩:=zd5_ (s:=s) (t:=65535) (x:=x) rfl (fun c=>c.2 rfl)
 rw [if_neg (by rw [ho];decide),if_pos rfl] at a
 rw [b,ho,if_neg (fun c=>c.2 rfl),if_pos ⟨rfl,rfl⟩];exact ⟨a,rfl⟩
theorem zmU_ {s:Bool} {t:Int} {x:List Int} (h:kI t=true) (hs:¬ (s=true/\¬ t=65535)) (ho:o5K t x=true) (h6:¬ t=65535):o5E s t x=(if qI t (o5A t x) (o5B t x)=0 then adE (o5R t x) else qI t (o5A t x) (o5B t x))/\o5V s t x=(t,o5A t x,o5B t x,(if qI t (o5A t x) (o5B t x)=0 then adL (o5R t x) else []),[],()):=by
 obtain ⟨a,b⟩:=zd5_ (x:=x) h hs
 rw [if_neg (by rw [ho];decide),if_neg h6] at a
 rw [b,a,if_neg (fun c:o5K t x=true/\t=65535=>h6 c.2)]
 by_cases hq:qI t (o5A t x) (o5B t x)=0
 ·rw [if_neg (not_not_intro hq),if_pos hq,if_pos hq]
  refine ⟨rfl,?_⟩
  by_cases h0:adE (o5R t x)=0
  ·rw [if_pos ⟨h0,h6⟩]
  ·rw [if_neg (fun c=>h0 c.1)]
   have:adL (o5R t x)=[]:=by unfold adL;rw [if_neg h0]
   rw [this]
 ·rw [if_pos hq,if_neg hq,if_neg hq,if_neg (fun c:qI t (o5A t x) (o5B t x)=0/\¬ t=65535=>hq c.1)];exact ⟨rfl,rfl⟩
def B4_:IR:=
(sq (kr [0,1] [oD 2 (.boxv 0),
oD 4 (.box [.int .i64 0,.int .u64 0,.int .u64 0,.imm Y2 [],.imm (.int .u8) []]),
oD 5 (.mov (cI 0))])
(sq (.reg [oA 12 0 2,
oL 13 12,
oD 14 (.build [.int .i64 0,.int .u64 0,.int .u64 0,.imm Y2 [],.imm (.int .u8) []] [(0,1,13)]),
oD 6 (.box [.int .i64 0,.int .u64 0,.int .u64 0,.imm Y2 [],.imm (.int .u8) []]),
oS 5 6 14])
(sq (kr [1,2,4,6] [oA 16 0 2,
oL 17 16,
oC 18 159 [17],
oM 15 18,
oX 19 15 0,
oX 20 15 1,
oX 21 15 2,
oM 7 19,
oM 8 20,
oM 9 21])
(sq (.block 0
(sq (kr [1,2,4,6,7,8,9] [oM 23 9,
oD 24 (.un .not 23),
oM 22 24])
(.cond 22
(sq (.reg [oK 25 5 6,
oS 5 4 25,
oD 5 (.mov (cI 769))])
.ret)
(sq (kr [1,2,4,6,7,8] [oM 27 1,
oA 28 0 2,
oL 29 28,
oD 30 (.mget (.int .i64) (.int .i64) (0:Int) false 27 29),
oB 31 .gtr 30 (cI 0),
oM 32 31,
oT 32 33 (.fieldAddr 0 2),
oT 32 34 (.load none 33),
oT 32 35 (.bin .neq 34 (cI 65535)),
oP 36 32 35 cF,
oM 26 36])
(.cond 26
(sq (kr [4,6] [oK 37 5 6,
oS 5 4 37,
oD 5 (.mov (cI 778))])
.ret)
.skip)))))
(sq (kr [2,4,6,7,8] [oA 38 1 2,
oL 39 38,
oC 40 41 [39,(cI 776),(cI 776)],
oM 10 40])
(sq (kr [2,4,6,7,8,10] [oM 41 10,
oM 42 7,
oC 43 42 [41,42],
oD 44 (.sliceAll (.int .u64) 2 [(0,1,(.c (.int .u64 0))),(1,1,(.c (.int .u64 0)))]),
oD 45 (.append (.int .u64) 8 43 44),
oM 11 45])
(sq (kd [2,4,6,8,10,11] [(oM 46 11,[]),
(oD 47 (.indexSl 1 46 (cI 0)),[]),
(oL 48 47,[]),
(oM 49 11,[0,0,0]),
(oD 50 (.indexSl 1 49 (cI 1)),[1,0,0]),
(oL 51 50,[2,0,0]),
(oA 52 1 6,[0,0,0]),
(oS 1 52 48,[1,0,0]),
(oA 53 2 6,[]),
(oS 1 53 51,[])])
(sq (.block 1
(sq (kr [2,4,6,8,10] [oM 64 10,
oC 65 43 [64],
oB 66 .neq 65 (cI 0),
oM 63 66])
(.cond 63
.skip
(sq (kr [2,4,6,8,10] [oM 68 8,
oD 69 (.un .not 68),
oM 70 69,
oT 70 71 (.mov 10),
oT 70 72 (.call false (.f 47) [71]),
oT 70 73 (.bin .gtr 72 (cI 0)),
oP 74 70 73 cF,
oM 67 74])
(.cond 67
(kr [4,6,10] [oM 75 10,
oC 76 44 [75,(cI 776)]])
(sq (kr [2,4,6,10] [oA 78 0 2,
oL 79 78,
oB 80 .eql 79 (cI 65535),
oM 77 80])
(.cond 77
(.reg [oM 81 10,
oC 82 99 [81],
oA 83 4 6,
oS 1 83 82])
(sq (.reg [oM 54 10,
oK 55 5 6,
oC 56 160 [55],
oC 57 44 [54,56]])
(kr [4,6,10] [oM 58 10,
oM 59 10,
oC 60 47 [59],
oC 61 161 [58,60],
oA 62 3 6,
oS 1 62 61])))))))))
(sq (kd [4,6,10] [(oK 84 5 6,[]),
(oM 85 10,[0]),
(oC 86 43 [85],[1]),
(oS 5 4 84,[]),
(oM 5 86,[])])
.ret)))))))))
def bE_:List RD:=[.cell 4 (some 5) true [],.tmp 5 true none]
theorem Bh_:zk_ Tryz.prog Tryz.f137 B4_ bE_=true:=by kernel_rfl
def jV_:List AV->List Obj->Option (Prop × AV)
 | [.agg [.int .i64 tt,.imm (.int .u8) x],.mapv 0],[.map sq (.int .i64) (.int .i64) m]=>some ((x.length<=100000,.tup [.agg [.int .i64 ((o5V (decide (0 < (zF_ m tt).getD 0)) tt x)).1,.int .u64 ((o5V (decide (0 < (zF_ m tt).getD 0)) tt x)).2.1,.int .u64 ((o5V (decide (0 < (zF_ m tt).getD 0)) tt x)).2.2.1,.imm Y2 ((o5V (decide (0 < (zF_ m tt).getD 0)) tt x)).2.2.2.1,.imm (.int .u8) ((o5V (decide (0 < (zF_ m tt).getD 0)) tt x)).2.2.2.2.1],.int .i64 (o5E (decide (0 < (zF_ m tt).getD 0)) tt x)]))
 | _,_=>none
theorem XQ_:zd_ Tryz.prog 137 (RoF jV_).sum:=by
 refine zi_ Tryz.func137 Bh_ (za_ (s:=RoF KT_) W3_ (za_ (s:=RwF Z5_) qf_ (za_ (s:=RwF ZV_) QH_ (za_ (s:=RoF zq_) zr_ (za_ (s:=RoF z0_) Zi_ (za_ (s:=RwF zs_) zx_ (za_ (s:=RwF ZB_) qq_ (za_ (s:=RoF kZ_) wZ_ (za_ (s:=RwF x6_) Gd_ (zc_ _)))))))))) fun args objs p v e=>?_
 unfold jV_ at e
 split at e
 ·rename_i tt x sq m
  cases e
  refine ⟨rfl,fun hw ho hp=>?_⟩
  change List Int at x
  clear hw ho
  change List (Int × Int) at m
  obtain ⟨c1,c2⟩:=zkQ_ (t:=tt) (x:=x)
  have hcl:=zkS_ (wI tt) x 0 0
  have hwl:=zlD_ tt
  have hll:(kk_ (wI tt) x 0 0++[0,0]).length=(kk_ (wI tt) x 0 0).length+2:=by rw [List.length_append];rfl
  cases hk:kI tt with
  | false=>
    have hk':¬ kI tt=true:=fun z=>by rw [hk] at z;cases z
    obtain ⟨e1,e2⟩:=zl2_ (s:=decide (0 < (zF_ m tt).getD 0)) (x:=x) hk
    rw [e1,e2]
    repeat'(intro t ht;first|(cases t<;>first|(cases ht;done)|(try simp only[zg_]at ht;try(exfalso;first|contradiction|omega)))|((first|refine zb_ ht ?_|refine ht ?_ ?_|refine ht.1 ?_ ?_|refine ht ?_)<;>clear ht))
    all_goals first
     | exact True.intro
     | exact ⟨rfl,rfl⟩
  | true=>
    have hk':¬ kI tt=false:=fun z=>by rw [hk] at z;cases z
    obtain ⟨w1,w2⟩:=zaI_ hk
    by_cases hs:(@LT.lt Int Int.instLTInt 0 (@Option.getD (Ty.den (.int .i64)) (@zF_ (Ty.den (.int .i64)) (Ty.den (.int .i64)) (Ty.deq (.int .i64)) m tt) (0:Int)))/\¬ tt=65535
    ·obtain ⟨e1,e2⟩:=zl1_ (s:=decide (0 < (zF_ m tt).getD 0)) (x:=x) hk (decide_eq_true hs.1) hs.2
     rw [e1,e2]
     repeat'(intro t ht;first|(cases t<;>first|(cases ht;done)|(try simp only[zg_]at ht;try(exfalso;first|contradiction|omega)))|((first|refine zb_ ht ?_|refine ht ?_ ?_|refine ht.1 ?_ ?_|refine ht ?_)<;>clear ht))
     all_goals first
      | exact True.intro
      | exact ⟨rfl,rfl⟩
      | (exfalso;omega)
    ·have hs':¬ (decide (0 < (zF_ m tt).getD 0)=true/\¬ tt=65535):=fun c=>hs ⟨of_decide_eq_true c.1,c.2⟩
     by_cases hg:z7_ (wI tt) x=0
     ·obtain ⟨q1,q2⟩:=c1 hg
      have q3:=zkR_ (w:=wI tt) (b:=x) (p:=0) (e:=0) (by decide) (by omega)
      have q4:=q3
      rw [q2] at q3
      clear c1 c2
      by_cases hmo:mI tt=true\/(x.length:Int)<=sI tt
      ·have ho:o5K tt x=true:=by unfold o5K;rw [decide_eq_true hg,Bool.true_and,Bool.or_eq_true,decide_eq_true_eq];exact hmo
       by_cases h6:tt=65535
       ·subst h6
        obtain ⟨e1,e2⟩:=zmV_ (s:=decide (0 < (zF_ m 65535).getD 0)) (x:=x) ho
        rw [e1,e2]
        repeat'(intro t ht;first|(cases t<;>first|(cases ht;done)|(try simp only[zg_]at ht;try(exfalso;first|contradiction|omega)))|((first|refine zb_ ht ?_|refine ht ?_ ?_|refine ht.1 ?_ ?_|refine ht ?_)<;>clear ht))
        all_goals first
         | exact True.intro
         | exact Nat.le_trans hp (by decide)
         | exact ⟨by decide,by omega,Nat.le_trans hp (by decide)⟩
         | exact ⟨q4.1,q4.2⟩
         | exact ⟨q4.1,q4.2,by omega,by decide⟩
         | (simp only [hll,List.length_cons,List.length_nil];first | omega | (constructor<;>omega))
         | (rw [q1,q2];exact ⟨rfl,rfl⟩)
         | (exfalso;omega)
       ·obtain ⟨e1,e2⟩:=zmU_ (x:=x) hk hs' ho h6
        rw [e1,e2]
        obtain ⟨A,B⟩:=zmx_ (sh:=776) q3.1 q3.2 (qI tt (o5A tt x) (o5B tt x))
        unfold o5R
        rw [<- A,<- B]
        repeat'(intro t ht;first|(cases t<;>first|(cases ht;done)|(try simp only[zg_]at ht;try(exfalso;first|contradiction|omega)))|((first|refine zb_ ht ?_|refine ht ?_ ?_|refine ht.1 ?_ ?_|refine ht ?_)<;>clear ht))
        all_goals first
         | exact True.intro
         | exact Nat.le_trans hp (by decide)
         | exact ⟨by decide,by omega,Nat.le_trans hp (by decide)⟩
         | exact ⟨q4.1,q4.2⟩
         | exact ⟨q4.1,q4.2,by omega,by decide⟩
         | (simp only [hll,List.length_cons,List.length_nil];first | omega | (constructor<;>omega))
         | (rw [q1,q2];exact ⟨rfl,rfl⟩)
         | (exfalso;rcases hmo with z | z<;>first | omega | (simp_all;done))
      ·have hm1:¬ mI tt=true:=fun c=>hmo (.inl c)
       have hm2:¬ (x.length:Int)<=sI tt:=fun c=>hmo (.inr c)
       have ho:o5K tt x=false:=by
        unfold o5K
        cases hmi:mI tt with
        | true=>exact absurd (.inl hmi) hmo
        | false=>rw [decide_eq_false (fun c=>hmo (.inr c)),Bool.or_false,Bool.and_false]
       obtain ⟨e1,e2⟩:=zfU_ (x:=x) hk hs' ho
       rw [e1,e2]
       repeat'(intro t ht;first|(cases t<;>first|(cases ht;done)|(try simp only[zg_]at ht;try(exfalso;first|contradiction|omega)))|((first|refine zb_ ht ?_|refine ht ?_ ?_|refine ht.1 ?_ ?_|refine ht ?_)<;>clear ht))
       all_goals first
        | exact True.intro
        | exact Nat.le_trans hp (by decide)
        | exact ⟨by decide,by omega,Nat.le_trans hp (by decide)⟩
        | exact ⟨q4.1,q4.2⟩
        | exact ⟨q4.1,q4.2,by omega,by decide⟩
        | (simp only [hll,List.length_cons,List.length_nil];first | omega | (constructor<;>omega))
        | (rw [q1];exact ⟨rfl,rfl⟩)
        | (exfalso;first | omega | (refine hmo ?_;first | (left;assumption) | (right;omega)))
     ·obtain ⟨q1,q2⟩:=c2 hg
      obtain ⟨e1,e2⟩:=zfU_ (x:=x) hk hs' (zl4_ hg).1
      rw [e1,e2]
      repeat'(intro t ht;first|(cases t<;>first|(cases ht;done)|(try simp only[zg_]at ht;try(exfalso;first|contradiction|omega)))|((first|refine zb_ ht ?_|refine ht ?_ ?_|refine ht.1 ?_ ?_|refine ht ?_)<;>clear ht))
      all_goals first
       | exact True.intro
       | exact Nat.le_trans hp (by decide)
       | exact ⟨by decide,by omega,Nat.le_trans hp (by decide)⟩
       | (simp only [hll,List.length_cons,List.length_nil];first | omega | (constructor<;>omega))
       | (rw [q1];exact ⟨rfl,rfl⟩)
       | (exfalso;omega)
 ·cases e
theorem zmi_ {acc:List VIn} {y:List Int} (h:tlE y 8 8 776=0):inE acc y=o5E (snI acc (tT y)) (tT y) (bd y):=by unfold inE;rw [if_neg (not_not_intro h)]
theorem zgh_ {acc:List VIn} {y:List Int} (h:¬ tlE y 8 8 776=0):inE acc y=tlE y 8 8 776:=by unfold inE;rw [if_pos h]
theorem HO_ {y:List Int} (h:tlE y 8 8 776=0):tlI y 8 8 776 (tT y)=tT y/\tlI y 8 8 776 (tN y)=tN y/\tlR y 8 8 776=bd y:=by
 unfold tlI tlR bd;rw [if_pos h,if_pos h,if_pos h];exact ⟨rfl,rfl,rfl⟩
theorem zgg_ {m:List (Int × Int)} {acc:List VIn} {y:List Int} (jm:mOk m acc) (hT:tlE y 8 8 776=0):o5E (decide (0 < (zF_ m (tlI y 8 8 776 (tT y))).getD 0)) (tlI y 8 8 776 (tT y)) (tlR y 8 8 776)=inE acc y/\o5V (decide (0 < (zF_ m (tlI y 8 8 776 (tT y))).getD 0)) (tlI y 8 8 776 (tT y)) (tlR y 8 8 776)=vI acc y:=by
 obtain ⟨t1,t2,t3⟩:=HO_ hT
 rw [t1,t3,zf8_ jm,zmi_ hT];exact ⟨rfl,rfl⟩
theorem vI_t {acc:List VIn} {y:List Int}:(vI acc y).1=tT y:=by
 unfold vI o5V;split<;>rfl
def hx_:IR:=
(sq (kr [0] [oD 2 (.mov (.c (.imm Y3 []))),
oD 3 (.mov (cI 0))])
(sq (.reg [oD 8 (.mkmap (.int .i64) (.int .i64)),
oM 4 8])
(sq (.block 0
(.loop
(sq (sq (kr [0,4] [oM 9 0,
oE 10 9,
oB 11 .gtr 10 (cI 0)])
(.cond 11
.skip
(.exit 0)))
(.block 1
(sq (kr [0,4] [oC 13 125 [],
oM 14 0,
oC 15 136 [13,14],
oM 12 15,
oX 16 12 0,
oX 17 12 1,
oX 18 12 2,
oD 5 (.box [.int .i64 0,.imm (.int .u8) []]),
oS 2 5 16,
oM 6 17,
oM 7 18])
(sq (sq (kr [0,4,5,6,7] [oM 19 7,
oB 20 .eql 19 (cI 0)])
(.cond 20
(kr [0,4,5,6] [oK 22 2 5,
oM 23 4,
oC 24 137 [22,23],
oM 21 24,
oX 25 21 0,
oX 26 21 1,
oM 7 26])
.skip))
(sq (sq (kr [0,4,5,6,7] [oM 27 7,
oB 28 .neq 27 (cI 0)])
(.cond 28
(sq (.reg [oM 29 7,
oD 2 (.mov (.c (.imm Y3 []))),
oM 3 29])
.ret)
.skip))
(sq (kr [0,4,5,6] [oM 30 4,
oA 31 0 5,
oL 32 31,
oD 33 (.mget (.int .i64) (.int .i64) (0:Int) false 30 32),
oB 34 .add 33 (cI 1),
oN (.mput (.int .i64) (.int .i64) 30 32 34)])
(.reg [oM 35 0,
oM 36 6,
oD 37 (.slice 1 35 (some 36) none none),
oM 0 37])))))))))
(sq (kr [] [oD 2 (.mov (.c (.imm Y3 []))),
oD 3 (.mov (cI 776))])
.ret))))
def Gx_:List RD:=[.tmp 2 true (some Y3),.tmp 3 true none]
theorem G1_:zk_ Tryz.prog Tryz.f135 hx_ Gx_=true:=by kernel_rfl
def wR_:List AV->List Obj->Option (Prop × AV)
 | [.imm (.int .u8) b],[]=>some ((b.length<=100000000/\65528 < b.length,.tup [.imm Y3 (idL b),.int .i64 (idE b)]))
 | _,_=>none
theorem uZ_:zd_ Tryz.prog 135 (RoF wR_).sum:=by
 refine zi_ Tryz.func135 G1_ (za_ (s:=RoF Qz_) Kq_ (za_ (s:=RoF JM_) WV_ (za_ (s:=RoF jV_) XQ_ (zc_ _)))) fun args objs p v e=>?_
 unfold wR_ at e
 split at e
 ·rename_i b
  cases e
  refine ⟨rfl,fun hw ho hp=>?_⟩
  change List Int at b
  have hb:∀ z ∈ (b:List Int),(0:Int)<=z/\z<=255:=fun z hz=>(hw (.imm (.int .u8) b) (by simp)).1 z hz
  clear hw ho
  obtain ⟨hp,hlong⟩:=hp
  repeat'(intro t ht;first|(cases t<;>first|(cases ht;done)|(try simp only[zg_]at ht;try(exfalso;first|contradiction|omega)))|((first|refine zb_ ht ?_|refine ht ?_ ?_|refine ht.1 ?_ ?_|refine ht ?_)<;>clear ht))
  all_goals first
   | exact True.intro
   | (intro r h1 h2;clear h1;refine h2 ⟨[0,4],List VIn × List Int × List (Int × Int),(fun a=>a.1.length<=b.length/\a.2.1.length<=b.length/\a.1.length+a.2.1.length<=b.length/\mOk a.2.2 a.1/\(∀ z ∈ a.2.1,(0:Int)<=z/\z<=255)/\inG [] b=inG a.1 a.2.1),fun a=>[.imm (.int .u8) a.2.1,.mapv 0],fun a=>[.map true (.int .i64) (.int .i64) a.2.2],fun a=>a.2.1.length,⟨([],b,[]),⟨by simp,Nat.le_refl _,by simp,Bz_,hb,rfl⟩,rfl,rfl⟩,?_⟩;clear h2)
  rintro ⟨acc,y,m⟩ ⟨ja,jy,jl,jm,jb,je⟩
  dsimp only at ja jy jl jm jb je
  repeat'(intro t ht;first|(cases t<;>first|(cases ht;done)|(try simp only[zg_]at ht;try(exfalso;first|contradiction|omega)))|((first|refine zb_ ht ?_|refine ht ?_ ?_|refine ht.1 ?_ ?_|refine ht ?_)<;>clear ht))
  all_goals first
   | exact True.intro
   | ((try simp only [zm_,zn_,zl_] at*);omega)
   | exact ⟨rfl,by decide,by dsimp only;omega⟩
   | (have h0:y.length=0:=by omega
      rw [zac_ h0] at je
      obtain ⟨d1,d2⟩:=(ze8_ je).1 (by omega)
      rw [d1,d2];exact ⟨rfl,rfl⟩)
   | (have hT:¬ tlE y 8 8 776=0:=by assumption
      have hi:=zgh_ (acc:=acc) hT
      have hg:=uA_ (acc:=acc) (y:=y) (by omega) (by rw [hi];exact hT)
      rw [hi,<- je] at hg
      obtain ⟨d1,d2⟩:=zad_ (b:=b) (e:=tlE y 8 8 776) (by rw [hg]) hT
      rw [d1,d2];exact ⟨rfl,rfl⟩)
   | (have hT:tlE y 8 8 776=0:=by assumption
      obtain ⟨t1,t2,t3⟩:=HO_ hT
      obtain ⟨i1,i2⟩:=zgg_ jm hT
      first
       | (show (tlR y 8 8 776).length<=100000;rw [t3];have:=zgB_ jb;omega)
       | (have hr:=jm.r (tlI y 8 8 776 (tT y))
          exact (show IntKind.i64.min<=(zF_ m (tlI y 8 8 776 (tT y))).getD 0+1/\(zF_ m (tlI y 8 8 776 (tT y))).getD 0+1<=IntKind.i64.max from by simp only [zl_];omega))
       | (have h0:¬ o5E (decide (0 < (zF_ m (tlI y 8 8 776 (tT y))).getD 0)) (tlI y 8 8 776 (tT y)) (tlR y 8 8 776)=0:=ht
          have hg:=uA_ (acc:=acc) (y:=y) (by omega) (by rw [<- i1];exact h0)
          rw [<- i1,<- je] at hg
          obtain ⟨d1,d2⟩:=zad_ (b:=b) (e:=o5E (decide (0 < (zF_ m (tlI y 8 8 776 (tT y))).getD 0)) (tlI y 8 8 776 (tT y)) (tlR y 8 8 776)) (by rw [hg]) h0
          rw [d1,d2];exact ⟨rfl,rfl⟩)
       | (have h0:o5E (decide (0 < (zF_ m (tlI y 8 8 776 (tT y))).getD 0)) (tlI y 8 8 776 (tT y)) (tlR y 8 8 776)=0:=by assumption
          obtain ⟨n1,n2,n3⟩:=ze5_ (i1.symm.trans h0)
          first
           | (show 0<=tlI y 8 8 776 (tN y)/\tlI y 8 8 776 (tN y)<=(y.length:Int);rw [t2];omega)
           | (have hg:=ze6_ (acc:=acc) (y:=y) (by omega) (i1.symm.trans h0) (by omega)
              have hma:=BA_ (i:=vI acc y) jm
              rw [vI_t] at hma
              refine ⟨(acc++[vI acc y],y.drop (tN y).toNat,kA_ m (tT y) ((zF_ m (tT y)).getD 0+1)),⟨?_,?_,?_,hma,fun z hz=>jb z (List.mem_of_mem_drop hz),je.trans hg⟩,?_,?_,?_⟩
              ·dsimp only;rw [List.length_append,List.length_singleton];omega
              ·dsimp only;rw [List.length_drop];omega
              ·dsimp only;rw [List.length_append,List.length_singleton,List.length_drop];omega
              ·dsimp only;rw [List.length_drop];omega
              ·dsimp only;rw [t2];try rfl
              ·dsimp only;rw [t1];try rfl)
           | fail)
       | fail)
 ·cases e
def itL5 (b:List Int) (p e:Int):List VIn:=if e=0 then idL (b.drop p.toNat) else []
def itE5 (b:List Int) (p e:Int):Int:=if e=0 then idE (b.drop p.toNat) else e
def insO (x:List VIn):Option (List Int):=if rgI x=true then some (boI x) else none
theorem zhN_ (room:Int) (x:List VIn):WrOk room (fun l e=>(ipB l room e x,ipE l room e x)) (insO x):=by
 have f0:∀ e:Int,zy_ e 0=e:=by intro e;unfold zy_;split<;>omega
 unfold insO ipB ipE
 cases hr:rgI x with
 | false=>
   have e1:ieE x=10001:=by unfold ieE;rw [hr];rfl
   rw [if_neg (by decide),e1]
   refine ⟨fun y h=>(by cases h),fun y h=>(by cases h),fun _ l=>?_,fun l e h=>?_⟩
   ·show QT_ (ieL x) l room (zy_ 0 10001) ≠ 0;exact KM_ (by decide)
   ·show QT_ (ieL x) l room (zy_ e 10001) ≠ 0;exact KM_ (QK_ h)
 | true=>
   have e1:ieE x=0:=by unfold ieE;rw [hr];rfl
   have e2:ieL x=boI x:=by unfold ieL;rw [hr];rfl
   have h:=uK_ room (boI x)
   rw [if_pos rfl,e1,e2]
   simp only [f0];exact h
def fnF (v:Option (List Int)):List Int × Int:=match v with | some y=>if (65527:Int) < y.length then ([],10001) else (y,0) | none=>([],10001)
theorem zlp_ {f:List Int->Int->List Int × Int} {v:Option (List Int)} (h:WrOk 65527 f v):((f [] 0).2=0->fnF v=((f [] 0).1,0))/\(¬ (f [] 0).2=0->fnF v=([],10001)):=by
 obtain ⟨f1,f2⟩:=h.fin (by decide)
 cases v with
 | none=>exact ⟨fun k=>absurd k (f2 fun y e=>by cases e),fun _=>rfl⟩
 | some y=>
   unfold fnF;dsimp only
   by_cases hl:(65527:Int) < y.length
   ·exact ⟨fun k=>absurd k (f2 fun y' e=>by cases e;exact hl),fun _=>if_pos hl⟩
   ·rw [f1 y rfl (by omega),if_neg hl];exact ⟨fun _=>rfl,fun k=>absurd rfl k⟩
def w14:List Int:=[8,8,1,1,2,2,2,4,4,4,2,-2]
def w11:List Int:=[8,2,1,1,4,4,2,2,8,8]
def wF (t:Int):List Int:=if t=14 then w14 else if t=11 then w11 else []
def kF (t:Int):Bool:=decide (t=14) || decide (t=11)
def qF (t:Int) (l:List Int):Int:=if t=11 then (if 3 < l.getD 2 0 then 269 else 0) else if 4 < l.getD 3 0 then 1287 else if 31 < l.getD 10 0 then 1288 else if l.getD 2 0=255/\¬ (l.getD 3 0=3\/l.getD 3 0=4) then 266 else 0
theorem kF_t {t:Int}:kF t=true ↔ t=14\/t=11:=by unfold kF;simp
theorem zca_ {t:Int} (h1:¬ t=14) (h2:¬ t=11):kF t=false/\wF t=[]:=by unfold kF wF;rw [if_neg h1,if_neg h2];simp [h1,h2]
def vF (t:Int) (n:List Int) (x:List OV) (i:List VIn):Option (List Int):=if t=14 then HJ_ (HJ_ (X1_ w14 n) (matO x)) (insO i) else HJ_ (X1_ w11 n) (matO x)
abbrev mI3 (m:VMs):=m.2.2.2.2.2.2.2.1
def zbw_ (m:VMs):VMs:=(m.1,m.2.1,[],m.2.2.2.1,m.2.2.2.2.1,[],m.2.2.2.2.2.2.1,(if m.1=14 then [] else mI3 m),m.2.2.2.2.2.2.2.2)
def wrF (m:VMs):List Int × Int:=if kF (mT m)=true/\qF (mT m) (mN m)=0/\qy_ (zbw_ m)=true then fnF (vF (mT m) (mN m) (mX m) (mI3 m)) else ([],10001)
theorem zhP_ {m:VMs} (h:¬ (kF (mT m)=true/\qF (mT m) (mN m)=0/\qy_ (zbw_ m)=true)):wrF m=([],10001):=if_neg h
def fL1 (w n:List Int) (x:List OV):List Int:=mpB x (qr_ w n [] 65527 0) 65527 (qK_ w n [] 65527 0)
def fE1 (w n:List Int) (x:List OV):Int:=mpE x (qr_ w n [] 65527 0) 65527 (qK_ w n [] 65527 0)
def fL2 (n:List Int) (x:List OV) (i:List VIn):List Int:=ipB (fL1 w14 n x) 65527 (fE1 w14 n x) i
def fE2 (n:List Int) (x:List OV) (i:List VIn):Int:=ipE (fL1 w14 n x) 65527 (fE1 w14 n x) i
theorem zlq_ (n:List Int) (x:List OV) (i:List VIn):(fE2 n x i=0->fnF (vF 14 n x i)=(fL2 n x i,0))/\(¬ fE2 n x i=0->fnF (vF 14 n x i)=([],10001))/\(¬ qK_ w14 n [] 65527 0=0->¬ fE2 n x i=0):=by
 have h:=zlp_ (((zdn_ 65527 w14 n).seq (yP_ 65527 x)).seq (zhN_ 65527 i))
 exact ⟨h.1,h.2,fun e=>(zhN_ 65527 i).ne _ _ ((yP_ 65527 x).ne _ _ e)⟩
theorem zlr_ (n:List Int) (x:List OV) (i:List VIn):(fE1 w11 n x=0->fnF (vF 11 n x i)=(fL1 w11 n x,0))/\(¬ fE1 w11 n x=0->fnF (vF 11 n x i)=([],10001))/\(¬ qK_ w11 n [] 65527 0=0->¬ fE1 w11 n x=0):=by
 have h:=zlp_ ((zdn_ 65527 w11 n).seq (yP_ 65527 x))
 exact ⟨h.1,h.2,fun e=>(yP_ 65527 x).ne _ _ e⟩
theorem ba_ {w n l:List Int} {room e:Int} (h:qK_ w n l room e=0):ZM_ w n=true:=by
 cases hk:ZM_ w n with
 | true=>rfl
 | false=>unfold qK_ at h;rw [hk,if_neg (by decide)] at h;unfold zy_ at h;split at h<;>omega
theorem cntF:zo_ w14=11/\zo_ w11=10/\zP_ w14=40/\zP_ w11=40:=by decide
theorem lF {t:Int} {l:List Int} (hk:kF t=true) (h:(l.length:Int)=zo_ (wF t)):(t=14/\l.length=11)\/(t=11/\l.length=10):=by
 obtain ⟨c1,c2,_⟩:=cntF
 rcases kF_t.1 hk with rfl | rfl
 ·rw [show wF 14=w14 from rfl,c1] at h;exact .inl ⟨rfl,by omega⟩
 ·rw [show wF 11=w11 from rfl,c2] at h;exact .inr ⟨rfl,by omega⟩
theorem qF_7 {l:List Int} (h:4 < l.getD 3 0):qF 14 l=1287:=by unfold qF;rw [if_neg (by decide),if_pos h]
theorem qF_8 {l:List Int} (h1:¬ 4 < l.getD 3 0) (h:31 < l.getD 10 0):qF 14 l=1288:=by unfold qF;rw [if_neg (by decide),if_neg h1,if_pos h]
theorem qF_6 {l:List Int} (h1:¬ 4 < l.getD 3 0) (h2:¬ 31 < l.getD 10 0) (h:l.getD 2 0=255) (h3:¬ l.getD 3 0=3) (h4:¬ l.getD 3 0=4):qF 14 l=266:=by unfold qF;rw [if_neg (by decide),if_neg h1,if_neg h2,if_pos ⟨h,fun c=>c.elim h3 h4⟩]
theorem qF_0 {l:List Int} (h1:¬ 4 < l.getD 3 0) (h2:¬ 31 < l.getD 10 0) (h:¬ l.getD 2 0=255\/l.getD 3 0=3\/l.getD 3 0=4):qF 14 l=0:=by
 unfold qF;rw [if_neg (by decide),if_neg h1,if_neg h2,if_neg]
 rintro ⟨a,b⟩
 rcases h with h | h
 ·exact h a
 ·exact b h
theorem or34 {a b:Int} (h:(decide (a=3) || decide (b=4))=true):a=3\/b=4:=by simpa using h
theorem zf1_ {a b:Int} (h:(decide (a=3) || decide (b=4))=false):¬ a=3/\¬ b=4:=by simpa using h
def B6_:IR:=
(sq (kr [0] [oD 2 (.mov (.c (.imm (.int .i64) []))),
oD 3 (.mov cF)])
(sq (sq (.reg [oM 4 0])
(.block 0
(sq (.reg [oB 6 .eql 4 (cI 14),
oM 5 6])
(.cond 5
(sq (.reg [oD 7 (.sliceAll (.int .i64) 12 [(0,1,(cI 8)),(1,1,(cI 8)),(2,1,(cI 1)),(3,1,(cI 1)),(4,1,(cI 2)),(5,1,(cI 2)),(6,1,(cI 2)),(7,1,(cI 4)),(8,1,(cI 4)),(9,1,(cI 4)),(10,1,(cI 2)),(11,1,(cI (-2)))]),
oM 2 7,
oD 3 (.mov cT)])
.ret)
(sq (.reg [oB 9 .eql 4 (cI 11),
oM 8 9])
(.cond 8
(sq (kr [] [oD 10 (.sliceAll (.int .i64) 10 [(0,1,(cI 8)),(1,1,(cI 2)),(2,1,(cI 1)),(3,1,(cI 1)),(4,1,(cI 4)),(5,1,(cI 4)),(6,1,(cI 2)),(7,1,(cI 2)),(8,1,(cI 8)),(9,1,(cI 8))]),
oM 2 10,
oD 3 (.mov cT)])
.ret)
.skip))))))
(sq (kr [] [oD 2 (.mov (.c (.imm (.int .i64) []))),
oD 3 (.mov cF)])
.ret)))
def bG_:List RD:=[.tmp 2 true (some (.int .i64)),.tmp 3 true none]
theorem Bj_:zk_ Tryz.prog Tryz.f26 B6_ bG_=true:=by kernel_rfl
def QN_:List AV->List Obj->Option (Prop × AV)
 | [.int .i64 tt],[]=>some ((True,.tup [.imm (.int .i64) (wF tt),.bool (kF tt)]))
 | _,_=>none
theorem kS_:zd_ Tryz.prog 26 (RoF QN_).sum:=by
 refine zi_ Tryz.func26 Bj_ (zc_ _) fun args objs p v e=>?_
 unfold QN_ at e
 split at e
 ·rename_i tt
  cases e
  refine ⟨rfl,fun hw ho hp=>?_⟩
  clear hw ho
  repeat'(intro t ht;first|(cases t<;>first|(cases ht;done)|(try simp only[zg_]at ht;try(exfalso;first|contradiction|omega)))|((first|refine zb_ ht ?_|refine ht ?_ ?_|refine ht.1 ?_ ?_|refine ht ?_)<;>clear ht))
  all_goals first
   | exact True.intro
   | (have h:=zca_ (t:=tt) (by assumption) (by assumption)
      rw [h.1,h.2];exact ⟨rfl,rfl⟩)
   | (subst_vars;exact ⟨rfl,rfl⟩)
 ·cases e
def zcx_:IR:=
(sq (kr [0] [oD 2 (.mov cF)])
(sq (kr [0] [oM 6 0,
oC 7 26 [6],
oM 5 7,
oX 8 5 0,
oX 9 5 1,
oM 3 8,
oM 4 9])
(sq (kr [4] [oM 10 4,
oM 2 10])
.ret)))
def zbo_:List RD:=[.tmp 2 true none]
theorem zbR_:zk_ Tryz.prog Tryz.f11 zcx_ zbo_=true:=by kernel_rfl
def wT_:List AV->List Obj->Option (Prop × AV)
 | [.int .i64 tt],[]=>some ((True,.bool (kF tt)))
 | _,_=>none
theorem yW_:zd_ Tryz.prog 11 (RoF wT_).sum:=by
 refine zi_ Tryz.func11 zbR_ (za_ (s:=RoF QN_) kS_ (zc_ _)) fun args objs p v e=>?_
 unfold wT_ at e
 split at e
 ·rename_i tt
  cases e
  refine ⟨rfl,fun hw ho hp=>?_⟩
  repeat'(intro t ht;first|(cases t<;>first|(cases ht;done)|(try simp only[zg_]at ht;try(exfalso;first|contradiction|omega)))|((first|refine zb_ ht ?_|refine ht ?_ ?_|refine ht.1 ?_ ?_|refine ht ?_)<;>clear ht))
  all_goals first
   | exact True.intro
   | exact ⟨rfl,rfl⟩
 ·cases e
def zeM_:IR:=
(sq (kr [0] [oD 2 (.mov cF)])
(sq (kr [0] [oM 3 0,
oB 4 .eql 3 (cI 14),
oM 5 4,
oF 5 6 (.mov 0),
oF 5 7 (.bin .eql 6 (cI 11)),
oP 8 5 cT 7,
oM 2 8])
.ret))
def zdI_:List RD:=[.tmp 2 true none]
theorem zeb_:zk_ Tryz.prog Tryz.f12 zeM_ zdI_=true:=by kernel_rfl
def Xr_:List AV->List Obj->Option (Prop × AV)
 | [.int .i64 tt],[]=>some ((True,.bool (kF tt)))
 | _,_=>none
theorem Va_:zd_ Tryz.prog 12 (RoF Xr_).sum:=by
 refine zi_ Tryz.func12 zeb_ (zc_ _) fun args objs p v e=>?_
 unfold Xr_ at e
 split at e
 ·rename_i tt
  cases e
  refine ⟨rfl,fun hw ho hp=>?_⟩
  clear hw ho
  repeat'(intro t ht;first|(cases t<;>first|(cases ht;done)|(try simp only[zg_]at ht;try(exfalso;first|contradiction|omega)))|((first|refine zb_ ht ?_|refine ht ?_ ?_|refine ht.1 ?_ ?_|refine ht ?_)<;>clear ht))
  all_goals first
   | exact True.intro
   | exact ⟨rfl,rfl⟩
   | (subst_vars;exact ⟨rfl,rfl⟩)
   | (unfold kF;refine ⟨congrArg AV.bool ?_,rfl⟩;simp_all;done)
 ·cases e
def zeL_:IR:=
(sq (kr [0] [oD 2 (.mov (.c (.imm (.int .i64) [])))])
(sq (sq (.reg [oM 3 0,
oB 4 .eql 3 (cI 14)])
(.cond 4
(sq (.reg [oD 5 (.sliceAll (.int .i64) 12 [(0,1,(cI 8)),(1,1,(cI 8)),(2,1,(cI 1)),(3,1,(cI 1)),(4,1,(cI 2)),(5,1,(cI 2)),(6,1,(cI 2)),(7,1,(cI 4)),(8,1,(cI 4)),(9,1,(cI 4)),(10,1,(cI 2)),(11,1,(cI (-2)))]),
oM 2 5])
.ret)
.skip))
(sq (.reg [oD 6 (.sliceAll (.int .i64) 10 [(0,1,(cI 8)),(1,1,(cI 2)),(2,1,(cI 1)),(3,1,(cI 1)),(4,1,(cI 4)),(5,1,(cI 4)),(6,1,(cI 2)),(7,1,(cI 2)),(8,1,(cI 8)),(9,1,(cI 8))]),
oM 2 6])
.ret)))
def zdH_:List RD:=[.tmp 2 true (some (.int .i64))]
theorem zea_:zk_ Tryz.prog Tryz.f36 zeL_ zdH_=true:=by kernel_rfl
def vO_:List AV->List Obj->Option (Prop × AV)
 | [.int .i64 tt],[]=>some ((kF tt=true,.imm (.int .i64) (wF tt)))
 | _,_=>none
theorem zaM_:zd_ Tryz.prog 36 (RoF vO_).sum:=by
 refine zi_ Tryz.func36 zea_ (zc_ _) fun args objs p v e=>?_
 unfold vO_ at e
 split at e
 ·rename_i tt
  cases e
  refine ⟨rfl,fun hw ho hp=>?_⟩
  clear hw ho
  have hk:=kF_t.1 hp
  repeat'(intro t ht;first|(cases t<;>first|(cases ht;done)|(try simp only[zg_]at ht;try(exfalso;first|contradiction|omega)))|((first|refine zb_ ht ?_|refine ht ?_ ?_|refine ht.1 ?_ ?_|refine ht ?_)<;>clear ht))
  all_goals first
   | exact True.intro
   | (subst_vars;exact ⟨rfl,rfl⟩)
   | (have h:tt=11:=by omega
      subst h;exact ⟨rfl,rfl⟩)
 ·cases e
def um_:IR:=
(sq (kr [0] [oD 1 (.mov cF)])
(sq (kr [0] [oL 2 0,
oD 3 (.indexSl 1 2 (cI 3)),
oL 4 3,
oB 5 .eql 4 (.c (.int .u64 3)),
oM 6 5,
oF 6 7 (.load none 0),
oF 6 8 (.indexSl 1 7 (cI 3)),
oF 6 9 (.load none 8),
oF 6 10 (.bin .eql 9 (.c (.int .u64 4))),
oP 11 6 cT 10,
oM 1 11])
.ret))
def VY_:List RD:=[.tmp 1 true none]
theorem V9_:zk_ Tryz.prog Tryz.f68 um_ VY_=true:=by kernel_rfl
def jt_:List AV->List Obj->Option (Prop × AV)
 | [.ptr 0 0],[.box [.imm (.int .u64) l]]=>some ((4<=l.length,.bool (decide (l.getD 3 0=3) || decide (l.getD 3 0=4))))
 | _,_=>none
theorem Y1_:zd_ Tryz.prog 68 (RoF jt_).sum:=by
 refine zi_ Tryz.func68 V9_ (zc_ _) fun args objs p v e=>?_
 unfold jt_ at e
 split at e
 ·rename_i l
  cases e
  refine ⟨rfl,fun hw ho hp=>?_⟩
  change List Int at l
  clear hw ho
  repeat'(intro t ht;first|(cases t<;>first|(cases ht;done)|(try simp only[zg_]at ht;try(exfalso;first|contradiction|omega)))|((first|refine zb_ ht ?_|refine ht ?_ ?_|refine ht.1 ?_ ?_|refine ht ?_)<;>clear ht))
  all_goals first
   | exact True.intro
   | omega
   | (constructor<;>omega)
   | exact ⟨rfl,rfl⟩
   | (refine ⟨congrArg AV.bool ?_,rfl⟩;rw [show decide (l.getD 3 0=3)=false from decide_eq_false (by assumption),Bool.false_or];rfl)
   | (refine ⟨congrArg AV.bool ?_,rfl⟩;rw [show decide (l.getD 3 0=3)=true from decide_eq_true (by assumption),Bool.true_or];done)
 ·cases e
def hA_:IR:=
(sq (kr [0,1] [oD 3 (.boxv 1),
oD 4 (.mov (cI 0))])
(sq (.reg [oD 6 (.mkfn 68 [] [3]),
oM 5 6])
(sq (.block 0
(sq (kr [0,3,5] [oM 8 0,
oB 9 .eql 8 (cI 11),
oM 10 9,
oT 10 11 (.load none 3),
oT 10 12 (.indexSl 1 11 (cI 2)),
oT 10 13 (.load none 12),
oT 10 14 (.bin .gtr 13 (.c (.int .u64 3))),
oP 15 10 14 cF,
oM 7 15])
(.cond 7
(sq (kr [] [oD 4 (.mov (cI 269))])
.ret)
(sq (kr [0,3,5] [oM 17 0,
oB 18 .eql 17 (cI 11),
oM 16 18])
(.cond 16
.skip
(sq (kr [3,5] [oL 20 3,
oD 21 (.indexSl 1 20 (cI 3)),
oL 22 21,
oB 23 .gtr 22 (.c (.int .u64 4)),
oM 19 23])
(.cond 19
(sq (.reg [oD 4 (.mov (cI 1287))])
.ret)
(sq (kr [3,5] [oL 25 3,
oD 26 (.indexSl 1 25 (cI 10)),
oL 27 26,
oB 28 .gtr 27 (.c (.int .u64 31)),
oM 24 28])
(.cond 24
(sq (.reg [oD 4 (.mov (cI 1288))])
.ret)
(sq (kr [3,5] [oL 30 3,
oD 31 (.indexSl 1 30 (cI 2)),
oL 32 31,
oB 33 .eql 32 (.c (.int .u64 255)),
oM 34 33,
oT 34 35 (.mov 5),
oT 34 36 (.call false 35 []),
oT 34 37 (.un .not 36),
oP 38 34 37 cF,
oM 29 38])
(.cond 29
(sq (kr [] [oD 4 (.mov (cI 266))])
.ret)
.skip)))))))))))
(sq (kr [] [oD 4 (.mov (cI 0))])
.ret))))
def GA_:List RD:=[.tmp 4 true none]
theorem G4_:zk_ Tryz.prog Tryz.f30 hA_ GA_=true:=by kernel_rfl
def kd_:List AV->List Obj->Option (Prop × AV)
 | [.int .i64 tt,.imm (.int .u64) l],[]=>some ((kF tt=true/\(l.length:Int)=zo_ (wF tt),.int .i64 (qF tt l)))
 | _,_=>none
theorem K9_:zd_ Tryz.prog 30 (RoF kd_).sum:=by
 refine zi_ Tryz.func30 G4_ (za_ (s:=RoF jt_) Y1_ (zc_ _)) fun args objs p v e=>?_
 unfold kd_ at e
 split at e
 ·rename_i tt l
  cases e
  refine ⟨rfl,fun hw ho hp=>?_⟩
  change List Int at l
  have hl:=lF hp.1 hp.2
  clear hw ho hp
  rcases hl with ⟨rfl,hl⟩ | ⟨rfl,hl⟩
  ·repeat'(intro t ht;first|(cases t<;>first|(cases ht;done)|(try simp only[zg_]at ht;try(exfalso;first|contradiction|omega)))|((first|refine zb_ ht ?_|refine ht ?_ ?_|refine ht.1 ?_ ?_|refine ht ?_)<;>clear ht))
   all_goals first
    | exact True.intro
    | omega
    | (constructor<;>omega)
    | (rw [qF_7 (by assumption)];exact ⟨rfl,rfl⟩)
    | (rw [qF_8 (by assumption) (by assumption)];exact ⟨rfl,rfl⟩)
    | (rw [qF_0 (by assumption) (by assumption) (.inl (by assumption))];exact ⟨rfl,rfl⟩)
    | (rw [qF_0 (by assumption) (by assumption) (.inr (or34 ht))];exact ⟨rfl,rfl⟩)
    | (rw [qF_0 (by assumption) (by assumption) (.inr (.inl (by assumption)))];exact ⟨rfl,rfl⟩)
    | (rw [qF_0 (by assumption) (by assumption) (.inr (.inr (by assumption)))];exact ⟨rfl,rfl⟩)
    | (rw [qF_6 (by assumption) (by assumption) (by assumption) (zf1_ ht).1 (zf1_ ht).2];exact ⟨rfl,rfl⟩)
    | (rw [qF_6 (by assumption) (by assumption) (by assumption) (by assumption) (by assumption)];exact ⟨rfl,rfl⟩)
  ·have e:qF 11 l=if 3 < l.getD 2 0 then 269 else 0:=if_pos rfl
   repeat'(intro t ht;first|(cases t<;>first|(cases ht;done)|(try simp only[zg_]at ht;try(exfalso;first|contradiction|omega)))|((first|refine zb_ ht ?_|refine ht ?_ ?_|refine ht.1 ?_ ?_|refine ht ?_)<;>clear ht))
   all_goals first
    | exact True.intro
    | omega
    | (constructor<;>omega)
    | (rw [e,if_pos (by assumption)];exact ⟨rfl,rfl⟩)
    | (rw [e,if_neg (by assumption)];exact ⟨rfl,rfl⟩)
 ·cases e
def BI_:IR:=
(sq (kr [0,1] [oD 4 (.mov (cI 0))])
(sq (sq (.reg [oM 5 0,
oB 6 .eql 5 (cI 11)])
(.cond 6
(sq (sq (.reg [oM 7 1,
oD 8 (.indexSl 1 7 (cI 2)),
oL 9 8,
oB 10 .gtr 9 (.c (.int .u64 3))])
(.cond 10
(sq (kr [] [oD 4 (.mov (cI 269))])
.ret)
.skip))
(sq (kr [] [oD 4 (.mov (cI 0))])
.ret))
.skip))
(sq (sq (.reg [oM 11 1,
oD 12 (.indexSl 1 11 (cI 3)),
oL 13 12,
oB 14 .gtr 13 (.c (.int .u64 4))])
(.cond 14
(sq (kr [] [oD 4 (.mov (cI 1287))])
.ret)
.skip))
(sq (sq (kr [1] [oM 15 1,
oD 16 (.indexSl 1 15 (cI 10)),
oL 17 16,
oB 18 .gtr 17 (.c (.int .u64 31))])
(.cond 18
(sq (.reg [oD 4 (.mov (cI 1288))])
.ret)
.skip))
(sq (sq (kr [1] [oM 19 1,
oD 20 (.indexSl 1 19 (cI 2)),
oL 21 20,
oB 22 .eql 21 (.c (.int .u64 255)),
oM 23 22,
oT 23 24 (.mov 1),
oT 23 25 (.indexSl 1 24 (cI 3)),
oT 23 26 (.load none 25),
oT 23 27 (.bin .neq 26 (.c (.int .u64 3))),
oP 28 23 27 cF,
oM 29 28,
oT 29 30 (.mov 1),
oT 29 31 (.indexSl 1 30 (cI 3)),
oT 29 32 (.load none 31),
oT 29 33 (.bin .neq 32 (.c (.int .u64 4))),
oP 34 29 33 cF])
(.cond 34
(sq (kr [] [oD 4 (.mov (cI 266))])
.ret)
.skip))
(sq (kr [] [oD 4 (.mov (cI 0))])
.ret))))))
def bi_:List RD:=[.tmp 4 true none]
theorem bV_:zk_ Tryz.prog Tryz.f40 BI_ bi_=true:=by kernel_rfl
def xT_:List AV->List Obj->Option (Prop × AV)
 | [.int .i64 tt,.imm (.int .u64) l],[]=>some ((kF tt=true/\(l.length:Int)=zo_ (wF tt),.int .i64 (qF tt l)))
 | _,_=>none
theorem g0_:zd_ Tryz.prog 40 (RoF xT_).sum:=by
 refine zi_ Tryz.func40 bV_ (zc_ _) fun args objs p v e=>?_
 unfold xT_ at e
 split at e
 ·rename_i tt l
  cases e
  refine ⟨rfl,fun hw ho hp=>?_⟩
  change List Int at l
  have hl:=lF hp.1 hp.2
  clear hw ho hp
  rcases hl with ⟨rfl,hl⟩ | ⟨rfl,hl⟩
  ·repeat'(intro t ht;first|(cases t<;>first|(cases ht;done)|(try simp only[zg_]at ht;try(exfalso;first|contradiction|omega)))|((first|refine zb_ ht ?_|refine ht ?_ ?_|refine ht.1 ?_ ?_|refine ht ?_)<;>clear ht))
   all_goals first
    | exact True.intro
    | omega
    | (constructor<;>omega)
    | (rw [qF_7 (by assumption)];exact ⟨rfl,rfl⟩)
    | (rw [qF_8 (by assumption) (by assumption)];exact ⟨rfl,rfl⟩)
    | (rw [qF_0 (by assumption) (by assumption) (.inl (by assumption))];exact ⟨rfl,rfl⟩)
    | (rw [qF_0 (by assumption) (by assumption) (.inr (or34 ht))];exact ⟨rfl,rfl⟩)
    | (rw [qF_0 (by assumption) (by assumption) (.inr (.inl (by assumption)))];exact ⟨rfl,rfl⟩)
    | (rw [qF_0 (by assumption) (by assumption) (.inr (.inr (by assumption)))];exact ⟨rfl,rfl⟩)
    | (rw [qF_6 (by assumption) (by assumption) (by assumption) (zf1_ ht).1 (zf1_ ht).2];exact ⟨rfl,rfl⟩)
    | (rw [qF_6 (by assumption) (by assumption) (by assumption) (by assumption) (by assumption)];exact ⟨rfl,rfl⟩)
  ·have e:qF 11 l=if 3 < l.getD 2 0 then 269 else 0:=if_pos rfl
   repeat'(intro t ht;first|(cases t<;>first|(cases ht;done)|(try simp only[zg_]at ht;try(exfalso;first|contradiction|omega)))|((first|refine zb_ ht ?_|refine ht ?_ ?_|refine ht.1 ?_ ?_|refine ht ?_)<;>clear ht))
   all_goals first
    | exact True.intro
    | omega
    | (constructor<;>omega)
    | (rw [e,if_pos (by assumption)];exact ⟨rfl,rfl⟩)
    | (rw [e,if_neg (by assumption)];exact ⟨rfl,rfl⟩)
 ·cases e
def vs_:IR:=
(sq (kr [0] [oD 2 (.nilrow (.int .u8))])
(sq (sq (.reg [oM 3 0,
oD 4 (.isnil false 3)])
(.cond 4
(sq (.reg [oD 2 (.nilrow (.int .u8))])
.ret)
.skip))
(sq (.reg [oD 5 (.slice0 (.int .u8)),
oM 6 0,
oD 7 (.append (.int .u8) 1 5 6),
oM 2 7])
.ret)))
def va_:List RD:=[.tmp 2 false none]
theorem vj_:zk_ Tryz.prog Tryz.f67 vs_ va_=true:=by kernel_rfl
def Kt_:List AV->List Obj->Option (Prop × AV × List Obj)
 | [.imm (.int .u8) b],[]=>some ((b.length<=140737488355328,.own 0,[.row false (.int .u8) b]))
 | _,_=>none
theorem yX_:zd_ Tryz.prog 67 (RwF Kt_).sum:=by
 refine qa_ Tryz.func67 vj_ (zc_ _) fun args objs p v o e=>?_
 unfold Kt_ at e
 split at e
 ·rename_i b
  cases e
  refine ⟨rfl,fun hw ho hp=>?_⟩
  change List Int at b
  repeat'(intro t ht;first|(cases t<;>first|(cases ht;done)|(try simp only[zg_]at ht))|((first|refine zb_ ht ?_|refine ht ?_ ?_|refine ht.1 ?_ ?_|refine ht ?_)<;>clear ht))
  all_goals first
   | (simp only [zN_,List.length_nil,Nat.zero_add,Nat.mul_one];omega)
   | exact ⟨rfl,rfl⟩
   | (have e:b=[]:=by simp_all
      subst e;exact ⟨rfl,rfl⟩)
 ·cases e
def JB_:IR:=
(sq (kr [0] [oD 2 (.nilrow (.int .u8)),
oD 3 (.mov (cI 0))])
(sq (.block 0
(sq (.reg [oM 5 0,
oC 6 66 [5],
oM 4 6])
(.cond 4
(sq (.reg [oD 2 (.nilrow (.int .u8)),
oD 3 (.mov (cI 10001))])
.ret)
(sq (kr [0] [oM 8 0,
oD 9 (.nilck 8),
oA 10 3 9,
oL 11 10,
oB 12 .neq 11 (cI 0),
oM 7 12])
(.cond 7
(sq (kd [0] [(oM 13 0,[]),
(oD 14 (.nilck 13),[]),
(oA 15 3 14,[]),
(oL 16 15,[]),
(oD 2 (.nilrow (.int .u8)),[0,0,0,0]),
(oM 3 16,[])])
.ret)
(sq (kr [0] [oM 18 0,
oD 19 (.nilck 18),
oA 20 2 19,
oL 21 20,
oD 22 (.mlen 21),
oB 23 .gtr 22 (cI 0),
oM 17 23])
(.cond 17
(sq (kr [] [oD 2 (.nilrow (.int .u8)),
oD 3 (.mov (cI 10001))])
.ret)
.skip)))))))
(sq (kr [0] [oM 24 0,
oD 25 (.nilck 24),
oA 26 0 25,
oL 27 26,
oC 28 67 [27],
oM 2 28,
oD 3 (.mov (cI 0))])
.ret)))
def Jw_:List RD:=[.tmp 2 false none,.tmp 3 false none]
theorem Jz_:zk_ Tryz.prog Tryz.f29 JB_ Jw_=true:=by kernel_rfl
def ZO_:List AV->List Obj->Option (Prop × AV × List Obj)
 | [.ptr 0 0],[.box [.own 1,.int .i64 room,.mapv 2,.int .i64 e],.row false (.int .u8) l,.map sq (.int .i64) (.int .i64) h]=>some ((l.length<=140737488355328/\h.length<=140737488355328,.tup [.own 3,.int .i64 (kq_ h e)],[.box [.own 1,.int .i64 room,.mapv 2,.int .i64 e],.row false (.int .u8) l,.map sq (.int .i64) (.int .i64) h,.row false (.int .u8) (qI_ l h e)]))
 | _,_=>none
theorem Qr_:zd_ Tryz.prog 29 (RwF ZO_).sum:=by
 refine qa_ Tryz.func29 Jz_ (za_ (s:=RoF z1_) Zj_ (za_ (s:=RwF Kt_) yX_ (zc_ _))) fun args objs p v o e=>?_
 unfold ZO_ at e
 split at e
 ·rename_i room e l sq h
  cases e
  refine ⟨rfl,fun hw ho hp=>?_⟩
  change List Int at l
  change List (Int × Int) at h
  repeat'(intro t ht;first|(cases t<;>first|(cases ht;done)|(try simp only[zg_]at ht))|((first|refine zb_ ht ?_|refine ht ?_ ?_|refine ht.1 ?_ ?_|refine ht ?_)<;>clear ht))
  all_goals first
   | exact True.intro
   | exact hp.1
   | exact hp.2
   | (have h0:e=0:=by assumption
      have h1:h.length=0:=by omega
      have e1:kq_ h e=0:=by unfold kq_;rw [if_pos h0,if_pos h1]
      have e2:qI_ l h e=l:=by unfold qI_ jj_;rw [decide_eq_true h0,decide_eq_true h1];rfl
      rw [e1,e2];exact ⟨rfl,rfl⟩)
   | (have hb:jj_ h e=false:=by unfold jj_;simp only [Bool.and_eq_false_iff,decide_eq_false_iff_not];omega
      unfold qI_ kq_;rw [hb]
      first
       | (rw [if_neg (by assumption)];exact ⟨rfl,rfl⟩)
       | (have h0:e=0:=by assumption
          have h1:¬ h.length=0:=by omega
          rw [if_pos h0,if_neg h1];exact ⟨rfl,rfl⟩))
 ·cases e
end Go.Eng
