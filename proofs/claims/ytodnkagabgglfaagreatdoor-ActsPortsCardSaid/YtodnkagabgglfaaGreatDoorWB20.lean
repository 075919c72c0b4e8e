/- Parts of the proof: Z1, F6, Z3, Z4, Z2, H5, H6, K1, K3, K4, K5, K6, K7, P1, V1, HE, HH. No condition. -/
import Derived.Test.YtodnkagabgglfaaGreatDoorProg
import Derived.Test.YtodnkagabgglfaaGreatDoorWB10
import Derived.KernelRfl
import Derived.Test.YtodnkagabgglfaaGreatDoorWB17
import Derived.Test.YtodnkagabgglfaaGreatDoorWB15
import Derived.Test.YtodnkagabgglfaaGreatDoorWB16
import Derived.Test.YtodnkagabgglfaaGreatDoorWB13
import Derived.Test.YtodnkagabgglfaaGreatDoorWB18
import Derived.Test.YtodnkagabgglfaaGreatDoorWB19
namespace Go.Eng
open Go.Proofs
set_option linter.unusedVariables false
set_option linter.unusedSimpArgs false
set_option maxRecDepth 100000
set_option maxHeartbeats 1000000
def Gh_:IR:=
(sq (kr [0,1] [oD 4 (.nilrow (.int .u8)),
oD 5 (.mov cF)])
(sq (sq (kr [0,1] [oM 9 0,
oC 10 106 [9],
oD 11 (.un .not 10),
oM 12 11,
oF 12 13 (.mov 0),
oF 12 14 (.call false (.f 111) [13]),
oF 12 15 (.mov 1),
oF 12 16 (.len 15),
oF 12 17 (.bin .neq 14 16),
oP 18 12 cT 17])
(.cond 18
(sq (kr [] [oD 4 (.nilrow (.int .u8)),
oD 5 (.mov cF)])
.ret)
.skip))
(sq (kr [0,1] [oD 6 (.nilrow (.int .u8))])
(sq (.reg [oD 7 (.mov (cI 0))])
(sq (sq (.reg [oD 8 (.mov (cI 0))])
(.block 0
(.loop
(sq (sq (kr [0,1,6,7,8] [oM 19 8,
oM 20 0,
oE 21 20,
oB 22 .lss 19 21])
(.cond 22
.skip
(.exit 0)))
(sq (.block 1
(sq (sq (kr [0,1,6,7,8] [oM 25 0,
oM 26 8,
oI 27 1 25 26,
oL 28 27,
oB 29 .lss 28 (cI 0)])
(.cond 29
(sq (kr [0,1,6,7,8] [oM 30 6,
oM 31 0,
oM 32 8,
oI 33 1 31 32,
oL 34 33,
oD 35 (.un .neg 34),
oD 36 (.appendz (.int .u8) 1 (0:Int) 30 35),
oM 6 36])
(.exit 1))
.skip))
(sq (sq (kd [0,1,6,7,8] [(oM 37 1,[]),
(oM 38 7,[0]),
(oI 39 1 37 38,[]),
(oL 40 39,[]),
(oM 41 0,[0,0,0,0]),
(oM 42 8,[0,0,0,0,0]),
(oI 43 1 41 42,[2,0,0,0]),
(oL 44 43,[3,0,0,0]),
(oC 45 112 [40,44],[]),
(oD 46 (.un .not 45),[])])
(.cond 46
(sq (kr [] [oD 4 (.nilrow (.int .u8)),
oD 5 (.mov cF)])
.ret)
.skip))
(sq (kd [0,1,6,7,8] [(oM 47 6,[]),
(oM 48 1,[0]),
(oM 49 7,[0,0]),
(oI 50 1 48 49,[2]),
(oL 51 50,[3]),
(oM 52 0,[0,0,0,0,0]),
(oM 53 8,[0,0,0,0,0,0]),
(oI 54 1 52 53,[2,0,0,0,0]),
(oL 55 54,[3,0,0,0,0]),
(oC 56 50 [51,55],[8]),
(oD 57 (.append (.int .u8) 1 47 56),[]),
(oM 6 57,[])])
(kr [0,1,6,7,8] [oM 58 7,
oB 59 .add 58 (cI 1),
oM 7 59])))))
(kr [0,1,6,7,8] [oM 23 8,
oB 24 .add 23 (cI 1),
oM 8 24]))))))
(sq (kr [6] [oM 60 6,
oM 4 60,
oD 5 (.mov cT)])
.ret))))))
def gq_:List RD:=[.tmp 4 false none,.tmp 5 false none]
theorem gO_:zl_ Tryz.prog Tryz.f78 Gh_ gq_=true:=by kernel_rfl
def Wh_:List AV->List Obj->Option (Prop × AV × List Obj)
 | [.imm (.int .i64) w,.imm (.int .u64) xs],[]=>some ((True,.tup [.own 0,.bool (QN_ w xs)],[.row false (.int .u8) (qd_ w xs)]))
 | _,_=>none
theorem VR_:ze_ Tryz.prog 78 (RwF Wh_).sum:=by
 refine qn_ Tryz.func78 gO_ (zb_ (s:=RoF jb_) WY_ (zb_ (s:=RoF jc_) WZ_ (zb_ (s:=RoF xN_) U3_ (zb_ (s:=RwF jT_) ww_ (zd_ _))))) fun args objs p v o e=>?_
 unfold Wh_ at e
 split at e
 ·rename_i w xs
  cases e
  refine ⟨rfl,fun hw ho hp=>?_⟩
  change List Int at w
  change List Int at xs
  have hx:xs.length<=maxLen:=(hw (.imm (.int .u64) xs) (by simp)).2
  unfold maxLen at hx
  repeat'(intro t ht;first|(cases t<;>first|(cases ht;done)|(try simp only[zh_]at ht))|((first|refine za_ ht ?_|refine ht ?_ ?_|refine ht.1 ?_ ?_|refine ht ?_)<;>clear ht))
  all_goals first
   | exact True.intro
   | (intro r h1 h2;clear h1;refine h2 ⟨[0,1,6,7,8],Nat × Nat × List Int,(fun a=>a.1<=w.length/\(a.2.2.length:Int)=KF_ zr_ w a.1/\KF_ ZI_ w a.1=a.2.1/\qA_ w xs []=qA_ (w.drop a.1) (xs.drop a.2.1) a.2.2),fun a=>[.imm (.int .i64) w,.imm (.int .u64) xs,.own 0,.int .i64 a.2.1,.int .i64 a.1],fun a=>[.row false (.int .u8) a.2.2],fun a=>w.length - a.1,⟨(0,0,[]),⟨Nat.zero_le _,rfl,rfl,rfl⟩,rfl,rfl⟩,?_⟩;clear h2)
   | ((try simp only [zn_,zo_,zi_] at*);omega)
   | (have hn:¬ (z4_ w=true/\zw_ w=xs.length):=fun h=>by simp_all
      unfold qd_ QN_ Kq_;rw [if_neg hn];exact ⟨rfl,rfl⟩)
  rintro ⟨i,k,b⟩ ⟨hi,hb,hk,he⟩
  dsimp only at hi hb hk he
  have hr:z4_ w=true:=by assumption
  have hc:zw_ w=xs.length:=by assumption
  have hsum:(w.map ZI_).sum=xs.length:=by unfold zw_ at hc;rwa [if_pos hr] at hc
  have hl:=(Zt_.1 hr).1
  have hs:=xZ_ hr i
  have h1:=xY_ hr i
  repeat'(intro t ht;first|(cases t<;>first|(cases ht;done)|(try simp only[zh_]at ht))|((first|refine za_ ht ?_|refine ht ?_ ?_|refine ht.1 ?_ ?_|refine ht ?_)<;>clear ht))
  all_goals first
   | ((try simp only [zn_,zo_,zi_] at*);omega)
   | (have hge:w.length<=i:=by omega
      rw [List.drop_of_length_le hge] at he
      have hf:Kq_ w xs=some b:=by unfold Kq_;rw [if_pos ⟨hr,hc⟩,he];rfl
      unfold qd_ QN_;rw [hf];exact ⟨rfl,rfl⟩)
   | skip
  all_goals have hlt:i < w.length:=by omega
  all_goals have hkk:=(Zt_.1 hr).2 _ (zZ_ (α:=Int) hlt 0)
  all_goals first
   | ((try simp only [zn_,zo_,zi_] at*);omega)
   | (have hn:w.getD i 0 < 0:=by assumption
      have ha:=jQ_ hn
      have h0:ZI_ (w.getD i 0)=0:=if_neg (by omega)
      have hbl:=zk_ (n:=0) (w:=0 - w.getD i 0) (by omega)
      first
       | ((try simp only [zn_,zo_,zi_] at*);omega)
       | (refine ⟨(i+1,k,b++zf_ 0 (0 - w.getD i 0)),⟨hlt,?_,?_,?_⟩,by dsimp only;omega,rfl,?_⟩
          ·rw [ZC_ zr_ hlt,ha];simp only [List.length_append];omega
          ·rw [ZC_ ZI_ hlt,h0];dsimp only;omega
          ·rw [he];exact ho_ hlt hn
          ·dsimp only;rw [<- Yh_];rfl))
   | (have hn:¬ w.getD i 0 < 0:=by assumption
      have hlt2:=Bt_ (w:=w) (i:=i) hlt (by omega)
      have h2:k < xs.length:=by omega
      first
       | ((try simp only [zn_,zo_,zi_] at*);omega)
       | (have h8:=zaR_ (by assumption) hkk.2.1
          have hf:Kq_ w xs=none:=by unfold Kq_;rw [if_pos ⟨hr,hc⟩,he];exact Ue_ hlt hn h2 h8.1 h8.2
          unfold qd_ QN_;rw [hf];exact ⟨rfl,rfl⟩)
       | (have h8:=zcA_ (by assumption)
          have ha:=WF_ hn
          have h0:ZI_ (w.getD i 0)=1:=if_pos (by omega)
          have hbl:=zk_ (n:=xs.getD k 0) (w:=w.getD i 0) (by omega)
          first
           | (simp only [ZF_];(try simp only [zn_,zo_,zi_] at*);omega)
           | (refine ⟨(i+1,k+1,b++zf_ (xs.getD k 0) (w.getD i 0)),⟨hlt,?_,?_,?_⟩,by dsimp only;omega,rfl,rfl⟩
              ·rw [ZC_ zr_ hlt,ha];simp only [List.length_append];omega
              ·rw [ZC_ ZI_ hlt,h0];dsimp only;omega
              ·rw [he];exact Ud_ hlt hn h2 h8)))
 ·cases e
def v0_:IR:=
(sq (kr [0] [oD 1 (.boxv 0),
oD 2 (.nilrow (.int .u8))])
(sq (.reg [oD 3 (.nilrow (.int .u8))])
(sq (sq (.reg [oA 5 0 1,
oL 6 5,
oB 7 .eql 6 (cI 65535)])
(.cond 7
(kr [1] [oA 8 3 1,
oL 9 8,
oC 10 50 [9,(cI 4)],
oM 3 10])
.skip))
(sq (kd [1,3] [(oM 11 3,[]),
(oA 12 4 1,[0]),
(oL 13 12,[1]),
(oD 14 (.append (.int .u8) 1 11 13),[]),
(oA 15 5 1,[0,0,0,0]),
(oL 16 15,[1,0,0,0]),
(oD 17 (.append (.int .u8) 1 14 16),[]),
(oM 3 17,[])])
(sq (kr [1,3] [oA 18 1 1,
oL 19 18,
oB 20 .mul (cI 2) 19,
oM 4 20])
(sq (sq (.reg [oA 21 2 1,
oL 22 21])
(.cond 22
(kr [1,3,4] [oM 23 4,
oB 24 .add 23 (cI 1),
oM 4 24])
.skip))
(sq (kr [1,3,4] [oA 25 0 1,
oL 26 25,
oD 27 (.conv .u64 26),
oC 28 50 [27,(cI 2)],
oM 29 4,
oD 30 (.conv .u8 29),
oM 31 3,
oE 32 31,
oD 33 (.conv .u8 32),
oD 34 (.sliceAll (.int .u8) 2 [(0,1,30),(1,1,33)]),
oD 35 (.append (.int .u8) 1 28 34),
oM 36 3,
oD 37 (.append (.int .u8) 1 35 36),
oM 2 37])
.ret)))))))
def vp_:List RD:=[.tmp 2 false none]
theorem vH_:zl_ Tryz.prog Tryz.f76 v0_ vp_=true:=by kernel_rfl
def jr_:List AV->List Obj->Option (Prop × AV × List Obj)
 | [.agg [.int .i64 c,.int .i64 f,.bool h,.int .u64 x,.imm (.int .u8) v,.imm (.int .u8) m]],[]=>some ((0<=f/\f<=127/\0<=c/\c<=65535/\v.length<=100/\m.length<=100,.own 0,[.row false (.int .u8) (ZH_ c f h x v m)]))
 | _,_=>none
theorem Yp_:ze_ Tryz.prog 76 (RwF jr_).sum:=by
 refine qn_ Tryz.func76 vH_ (zb_ (s:=RwF jT_) ww_ (zd_ _)) fun args objs p v o e=>?_
 unfold jr_ at e
 split at e
 ·rename_i c f h x v m
  cases e
  refine ⟨rfl,fun hw ho hp=>?_⟩
  change List Int at v
  change List Int at m
  have hx:=zk_ (n:=x) (w:=4) (by decide)
  have hc2:=zk_ (n:=c) (w:=2) (by decide)
  cases h<;>by_cases hc:c=65535
  all_goals repeat'(intro t ht;first|(cases t<;>first|(cases ht;done)|(try simp only[zh_]at ht))|((first|refine za_ ht ?_|refine ht ?_ ?_|refine ht.1 ?_ ?_|refine ht ?_)<;>clear ht))
  all_goals first
   | exact True.intro
   | exact (by decide)
   | contradiction
   | ((try simp only [zn_,zo_,zi_] at*);omega)
   | (simp only [List.length_append,List.length_cons,List.length_nil,ZF_];(try simp only [zn_,zo_,zi_] at*);omega)
   | (refine ⟨rfl,?_⟩;(try simp only [ZF_]);unfold ZH_ JM_;simp_all;done)
 ·cases e
def bP_:IR:=
(sq (kr [0] [oD 2 (.mov (.c (.imm (.int .i64) []))),
oD 3 (.mov cF)])
(sq (sq (.reg [oM 4 0])
(.block 0
(sq (.reg [oB 6 .eql 4 (cI 0),
oM 5 6])
(.cond 5
(sq (.reg [oD 7 (.sliceAll (.int .i64) 3 [(0,1,(cI 4)),(1,1,(cI 2)),(2,1,(cI (-6)))]),
oM 2 7,
oD 3 (.mov cT)])
.ret)
(sq (sq (.reg [oB 9 .eql 4 (cI 22),
oM 8 9])
(.cond 8
.skip
(sq (kr [4] [oB 10 .eql 4 (cI 21),
oM 8 10])
(.cond 8
.skip
(.reg [oB 11 .eql 4 (cI 65535),
oM 8 11])))))
(.cond 8
(sq (kr [] [oD 12 (.sliceAll (.int .i64) 1 [(0,1,(cI 4))]),
oM 2 12,
oD 3 (.mov cT)])
.ret)
(sq (sq (kr [4] [oB 14 .eql 4 (cI 15),
oM 13 14])
(.cond 13
.skip
(.reg [oB 15 .eql 4 (cI 23),
oM 13 15])))
(.cond 13
(sq (.reg [oD 16 (.sliceAll (.int .i64) 2 [(0,1,(cI 1)),(1,1,(cI (-3)))]),
oM 2 16,
oD 3 (.mov cT)])
.ret)
(sq (sq (.reg [oB 18 .eql 4 (cI 11),
oM 17 18])
(.cond 17
.skip
(sq (kr [4] [oB 19 .eql 4 (cI 12),
oM 17 19])
(.cond 17
.skip
(sq (.reg [oB 20 .eql 4 (cI 16),
oM 17 20])
(.cond 17
.skip
(sq (.reg [oB 21 .eql 4 (cI 18),
oM 17 21])
(.cond 17
.skip
(sq (kr [4] [oB 22 .eql 4 (cI 24),
oM 17 22])
(.cond 17
.skip
(.reg [oB 23 .eql 4 (cI 27),
oM 17 23])))))))))))
(.cond 17
(sq (kr [] [oD 24 (.sliceAll (.int .i64) 1 [(0,1,(cI (-4)))]),
oM 2 24,
oD 3 (.mov cT)])
.ret)
(sq (sq (kr [4] [oB 26 .eql 4 (cI 17),
oM 25 26])
(.cond 25
.skip
(sq (.reg [oB 27 .eql 4 (cI 19),
oM 25 27])
(.cond 25
.skip
(sq (.reg [oB 28 .eql 4 (cI 20),
oM 25 28])
(.cond 25
.skip
(kr [4] [oB 29 .eql 4 (cI 26),
oM 25 29])))))))
(.cond 25
(sq (kr [] [oD 30 (.sliceAll (.int .i64) 2 [(0,1,(cI 2)),(1,1,(cI (-2)))]),
oM 2 30,
oD 3 (.mov cT)])
.ret)
.skip))))))))))))
(sq (kr [] [oD 2 (.mov (.c (.imm (.int .i64) []))),
oD 3 (.mov cF)])
.ret)))
def bf_:List RD:=[.tmp 2 true (some (.int .i64)),.tmp 3 true none]
theorem bu_:zl_ Tryz.prog Tryz.f65 bP_ bf_=true:=by kernel_rfl
def yM_:List AV->List Obj->Option (Prop × AV)
 | [.int .i64 q],[]=>some ((True,.tup [.imm (.int .i64) (zt_ q),.bool (VW_ q)]))
 | _,_=>none
theorem GU_:ze_ Tryz.prog 65 (RoF yM_).sum:=by
 refine zm_ Tryz.func65 bu_ (zd_ _) fun args objs p v e=>?_
 unfold yM_ at e
 split at e
 ·rename_i q
  cases e
  refine ⟨rfl,fun hw ho hp=>?_⟩
  clear hw ho
  repeat'(intro t ht;first|(cases t<;>first|(cases ht;done)|(try simp only[zh_]at ht;try(exfalso;first|contradiction|omega)))|((first|refine za_ ht ?_|refine ht ?_ ?_|refine ht.1 ?_ ?_|refine ht ?_)<;>clear ht))
  all_goals first
   | exact True.intro
   | (have h:=By_ (t:=q) (by omega)
      rw [h.1,h.2];exact ⟨rfl,rfl⟩)
   | (subst_vars;exact ⟨rfl,rfl⟩)
   | (have h:q=0\/(q=22\/q=21\/q=65535)\/(q=15\/q=23)\/(q=17\/q=19\/q=26\/q=20)\/(q=11\/q=12\/q=16\/q=18\/q=24\/q=27):=by omega
      rcases h with rfl | (rfl | rfl | rfl) | (rfl | rfl) | (rfl | rfl | rfl | rfl) | (rfl | rfl | rfl | rfl | rfl | rfl)<;>first | (exfalso;omega) | exact ⟨rfl,rfl⟩)
 ·cases e
def Gb_:IR:=
(sq (kr [0,1] [oD 4 (.mov (cI 0))])
(sq (sq (.reg [oM 5 0])
(.block 0
(sq (.reg [oB 7 .eql 5 (cI 0),
oM 6 7])
(.cond 6
(sq (.reg [oM 8 1,
oB 9 .eql 8 (.c (.int .u64 0))])
(.cond 9
(sq (kr [] [oD 4 (.mov (cI 517))])
.ret)
.skip))
(sq (.reg [oB 11 .eql 5 (cI 22),
oM 10 11])
(.cond 10
(sq (kr [1] [oM 12 1,
oB 13 .gtr 12 (.c (.int .u64 4294967040))])
(.cond 13
(sq (.reg [oD 4 (.mov (cI 522))])
.ret)
.skip))
(sq (kr [1,5] [oB 15 .eql 5 (cI 17),
oM 14 15])
(.cond 14
(sq (kr [1] [oM 16 1,
oB 17 .neq 16 (.c (.int .u64 33024)),
oM 18 17,
oT 18 19 (.mov 1),
oT 18 20 (.bin .neq 19 (.c (.int .u64 34984))),
oP 21 18 20 cF])
(.cond 21
(sq (kr [] [oD 4 (.mov (cI 518))])
.ret)
.skip))
(sq (.reg [oB 23 .eql 5 (cI 19),
oM 22 23])
(.cond 22
(sq (kr [1] [oM 24 1,
oB 25 .neq 24 (.c (.int .u64 34887)),
oM 26 25,
oT 26 27 (.mov 1),
oT 26 28 (.bin .neq 27 (.c (.int .u64 34888))),
oP 29 26 28 cF])
(.cond 29
(sq (kr [] [oD 4 (.mov (cI 518))])
.ret)
.skip))
(sq (.reg [oB 31 .eql 5 (cI 26),
oM 30 31])
(.cond 30
(sq (kr [1] [oM 32 1,
oB 33 .neq 32 (.c (.int .u64 35047))])
(.cond 33
(sq (.reg [oD 4 (.mov (cI 518))])
.ret)
.skip))
.skip))))))))))))
(sq (kr [] [oD 4 (.mov (cI 0))])
.ret)))
def gk_:List RD:=[.tmp 4 true none]
theorem gI_:zl_ Tryz.prog Tryz.f68 Gb_ gk_=true:=by kernel_rfl
def Wc_:List AV->List Obj->Option (Prop × AV)
 | [.int .i64 q,.int .u64 n],[]=>some ((True,.int .i64 (uS_ q n)))
 | _,_=>none
theorem VM_:ze_ Tryz.prog 68 (RoF Wc_).sum:=by
 refine zm_ Tryz.func68 gI_ (zd_ _) fun args objs p v e=>?_
 unfold Wc_ at e
 split at e
 ·rename_i q n
  cases e
  refine ⟨rfl,fun hw ho hp=>?_⟩
  clear hw ho
  repeat'(intro t ht;first|(cases t<;>first|(cases ht;done)|(try simp only[zh_]at ht;try(exfalso;first|contradiction|omega)))|((first|refine za_ ht ?_|refine ht ?_ ?_|refine ht.1 ?_ ?_|refine ht ?_)<;>clear ht))
  all_goals first
   | exact True.intro
   | (refine ⟨congrArg (AV.int .i64) ?_,rfl⟩;unfold uS_;repeat' split
      all_goals first | rfl | omega)
 ·cases e
def h3_:IR:=
(sq (kr [0,1] [oD 2 (.boxv 0),
oD 4 (.mov (.c (.imm (.int .u64) [])))])
(sq (kr [1,2] [oA 6 1 2,
oL 7 6,
oA 8 2 2,
oL 9 8,
oD 10 (.sliceAll (.int .u64) 2 [(0,1,7),(1,1,9)]),
oM 5 10])
(sq (kr [1,5] [oM 11 5,
oM 12 1,
oC 13 111 [12],
oD 14 (.slice 1 11 none (some 13) none),
oM 4 14])
.ret)))
def G7_:List RD:=[.tmp 4 true (some (.int .u64))]
theorem hv_:zl_ Tryz.prog Tryz.f77 h3_ G7_=true:=by kernel_rfl
def xI_:List AV->List Obj->Option (Prop × AV)
 | [.agg [.int .i64 q,.int .u64 a,.int .u64 b,.int .i64 c,.int .i64 f,.bool h,.int .u64 x,.imm (.int .u8) v,.imm (.int .u8) m,.imm (.int .u8) d],.imm (.int .i64) w],[]=>some ((0<=zw_ w/\zw_ w<=2,.imm (.int .u64) ([a,b].take (zw_ w).toNat)))
 | _,_=>none
theorem UY_:ze_ Tryz.prog 77 (RoF xI_).sum:=by
 refine zm_ Tryz.func77 hv_ (zb_ (s:=RoF jc_) WZ_ (zd_ _)) fun args objs p v e=>?_
 unfold xI_ at e
 split at e
 ·rename_i q a b c f h x v m d w
  cases e
  refine ⟨rfl,fun hw ho hp=>?_⟩
  change List Int at v
  change List Int at m
  change List Int at d
  change List Int at w
  clear hw ho
  repeat'(intro t ht;first|(cases t<;>first|(cases ht;done)|(try simp only[zh_]at ht;try(exfalso;first|contradiction|omega)))|((first|refine za_ ht ?_|refine ht ?_ ?_|refine ht.1 ?_ ?_|refine ht ?_)<;>clear ht))
  all_goals first
   | exact True.intro
   | exact hp
   | ((try simp only [zn_,zo_,zi_] at*);omega)
   | exact ⟨rfl,rfl⟩
 ·cases e
theorem vm_ {q a b c f:Int} {h:Bool} {x:Int} {v m d:List Int} (hx:0<=x) (hv:∀ x ∈ v,0<=x/\x<=255) (hm:∀ x ∈ m,0<=x/\x<=255):zH_ (zv_ c f h x v m) q a b c f h x v m d=zH_ (KM_ c f h x v m) q a b c f h x v m d:=by rw [u7_ hx hv hm]
def YE_:IR:=
(sq (kr [0] [oD 2 (.mov cF)])
(sq (kr [0] [oM 6 0,
oC 7 109 [6],
oM 5 7,
oX 8 5 0,
oX 9 5 1,
oD 3 (.box [.str [],.int .i64 0,.int .i64 0,.kb false,.int .i64 0,.imm (.int .u64) []]),
oS 6 3 8,
oM 4 9])
(sq (kr [0,4] [oM 10 4,
oM 11 10,
oT 11 12 (.mov 0),
oT 11 13 (.bin .gtr 12 (cI 2)),
oP 14 11 13 cF,
oM 15 14,
oT 15 16 (.mov 0),
oT 15 17 (.bin .neq 16 (cI 39)),
oP 18 15 17 cF,
oM 2 18])
.ret)))
def Yu_:List RD:=[.tmp 2 true none]
theorem Yz_:zl_ Tryz.prog Tryz.f74 YE_ Yu_=true:=by kernel_rfl
def KT_:List AV->List Obj->Option (Prop × AV)
 | [.int .i64 n],[]=>some ((True,.bool (W2_ n)))
 | _,_=>none
theorem XX_:ze_ Tryz.prog 74 (RoF KT_).sum:=by
 refine zm_ Tryz.func74 Yz_ (zb_ (s:=RoF jS_) j1_ (zd_ _)) fun args objs p v e=>?_
 unfold KT_ at e
 split at e
 ·rename_i n
  cases e
  refine ⟨rfl,fun hw ho hp=>?_⟩
  repeat'(intro t ht;first|(cases t<;>first|(cases ht;done)|(try simp only[zh_]at ht))|((first|refine za_ ht ?_|refine ht ?_ ?_|refine ht.1 ?_ ?_|refine ht ?_)<;>clear ht))
  all_goals try (try simp only [zn_,zo_,zi_] at*)
  all_goals first
   | exact True.intro
   | (refine ⟨?_,trivial⟩;unfold W2_;congr 1;rw [Bool.eq_iff_iff];first | (have h:=qp_.1 (by assumption);simp at*;omega) | (have h:=K9_.1 (by assumption);simp at*;omega) | (simp at*;omega))
 ·cases e
end Go.Eng
namespace Go.Eng
open Go.Proofs
set_option linter.unusedVariables false
set_option linter.unusedSimpArgs false
set_option maxRecDepth 100000
set_option maxHeartbeats 1000000
set_option maxHeartbeats 8000000
end Go.Eng
namespace Go.Eng
open Go.Proofs
set_option linter.unusedVariables false
set_option linter.unusedSimpArgs false
set_option maxRecDepth 100000
set_option maxHeartbeats 1000000
theorem UF_ {q a b c f:Int} {h:Bool} {x:Int} {v m d:List Int} (hr:zH_ (zv_ c f h x v m) q a b c f h x v m d=true):ZB_ q a b (Zj_ c f h x v m) d=ZB_ q a b (ZH_ c f h x v m) d:=by
 by_cases h25:q=25
 ·obtain ⟨_,_,_,_,_,_,hR⟩:=jD_ h25 hr
  rw [YV_ hR]
 ·unfold ZB_;rw [if_neg h25,if_neg h25]
theorem G0_ {R:Bool} {q a b c f:Int} {h:Bool} {x:Int} {v m d:List Int} (hr:zH_ R q a b c f h x v m d=true):0<=q/\q<=65535:=by
 by_cases h25:q=25
 ·omega
 ·exact YN_ (.inl (kh_ h25 hr).1)
theorem zal_ {c f:Int} {h:Bool} {x:Int} {v m:List Int} (hs:Kg_ c f h x v m 0 0 false 0 [] []=true):h=false:=by
 cases h with
 | false=>rfl
 | true=>unfold Kg_ at hs;simp at hs
def h4_:IR:=
(sq (kr [0] [oD 1 (.boxv 0),
oD 2 (.mov (.c (.imm (.int .u8) []))),
oD 3 (.mov cF)])
(sq (.reg [oD 13 (.build [.int .i64 0,.int .i64 0,.kb false,.int .u64 0,.imm (.int .u8) [],.imm (.int .u8) []] []),
oD 4 (.box [.int .i64 0,.int .i64 0,.kb false,.int .u64 0,.imm (.int .u8) [],.imm (.int .u8) []]),
oS 6 4 13])
(sq (sq (.reg [oA 14 0 1,
oL 15 14,
oB 16 .eql 15 (cI 25)])
(.cond 16
(sq (kr [1] [oA 17 3 1,
oK 18 6 17,
oD 5 (.box [.int .i64 0,.int .i64 0,.kb false,.int .u64 0,.imm (.int .u8) [],.imm (.int .u8) []]),
oS 6 5 18])
(sq (kr [1,5] [oA 19 1 1,
oL 20 19,
oB 21 .eql 20 (.c (.int .u64 0)),
oM 22 21,
oT 22 23 (.fieldAddr 2 1),
oT 22 24 (.load none 23),
oT 22 25 (.bin .eql 24 (.c (.int .u64 0))),
oP 26 22 25 cF,
oM 27 26,
oT 27 28 (.fieldAddr 9 1),
oT 27 29 (.load none 28),
oT 27 30 (.len 29),
oT 27 31 (.bin .eql 30 (cI 0)),
oP 32 27 31 cF,
oM 33 32,
oT 33 34 (.fieldAddr 0 5),
oT 33 35 (.load none 34),
oT 33 36 (.bin .eql 35 (cI 32768)),
oP 37 33 36 cF,
oM 38 37,
oT 38 39 (.fieldAddr 2 5),
oT 38 40 (.load none 39),
oT 38 41 (.un .not 40),
oP 42 38 41 cF,
oM 43 42,
oT 43 44 (.fieldAddr 1 5),
oT 43 45 (.load none 44),
oT 43 46 (.call false (.f 74) [45]),
oP 47 43 46 cF,
oM 48 47,
oT 48 49 (.load (some 6) 5),
oT 48 50 (.call false (.f 75) [49]),
oP 51 48 50 cF,
oM 6 51])
(sq (sq (kr [5,6] [oM 52 6,
oD 53 (.un .not 52)])
(.cond 53
(sq (.reg [oD 2 (.mov (.c (.imm (.int .u8) []))),
oD 3 (.mov cF)])
.ret)
.skip))
(sq (.reg [oK 54 6 5,
oC 55 76 [54],
oM 7 55])
(sq (.block 0
(.loop
(sq (sq (kr [7] [oM 56 7,
oE 57 56,
oB 58 .rem 57 (cI 8),
oB 59 .neq 58 (cI 4)])
(.cond 59
.skip
(.exit 0)))
(.block 1
(.reg [oM 60 7,
oD 61 (.sliceAll (.int .u8) 1 [(0,1,(.c (.int .u8 0)))]),
oD 62 (.append (.int .u8) 1 60 61),
oM 7 62])))))
(sq (kr [7] [oM 63 7,
oM 2 63,
oD 3 (.mov cT)])
.ret))))))
.skip))
(sq (kr [1,4] [oA 65 0 1,
oL 66 65,
oC 67 65 [66],
oM 64 67,
oX 68 64 0,
oX 69 64 1,
oM 8 68,
oM 9 69])
(sq (sq (kr [1,4,8,9] [oM 70 9,
oD 71 (.un .not 70),
oM 72 71,
oF 72 73 (.fieldAddr 3 1),
oF 72 74 (.load (some 6) 73),
oF 72 75 (.load (some 6) 4),
oF 72 76 (.call false (.f 69) [74,75]),
oF 72 77 (.un .not 76),
oP 78 72 cT 77,
oM 79 78,
oF 79 80 (.fieldAddr 3 1),
oF 79 81 (.fieldAddr 2 80),
oF 79 82 (.load none 81),
oP 83 79 cT 82,
oM 84 83,
oF 84 85 (.fieldAddr 0 1),
oF 84 86 (.load none 85),
oF 84 87 (.fieldAddr 1 1),
oF 84 88 (.load none 87),
oF 84 89 (.call false (.f 68) [86,88]),
oF 84 90 (.bin .neq 89 (cI 0)),
oP 91 84 cT 90])
(.cond 91
(sq (kr [] [oD 2 (.mov (.c (.imm (.int .u8) []))),
oD 3 (.mov cF)])
.ret)
.skip))
(sq (kr [1,8] [oK 92 10 1,
oM 93 8,
oC 94 77 [92,93],
oM 10 94])
(sq (kr [1,8,10] [oM 96 8,
oM 97 10,
oC 98 78 [96,97],
oM 95 98,
oX 99 95 0,
oX 100 95 1,
oM 11 99,
oM 12 100])
(sq (sq (kr [1,10,11,12] [oM 101 12,
oD 102 (.un .not 101),
oM 103 102,
oF 103 104 (.mov 10),
oF 103 105 (.len 104),
oF 103 106 (.bin .lss 105 (cI 2)),
oF 103 107 (.mov 106),
oT 107 108 (.fieldAddr 2 1),
oT 107 109 (.load none 108),
oT 107 110 (.bin .neq 109 (.c (.int .u64 0))),
oF 103 111 (.pick 107 110 cF),
oP 112 103 cT 111,
oM 113 112,
oF 113 114 (.mov 10),
oF 113 115 (.len 114),
oF 113 116 (.bin .lss 115 (cI 1)),
oF 113 117 (.mov 116),
oT 117 118 (.fieldAddr 1 1),
oT 117 119 (.load none 118),
oT 117 120 (.bin .neq 119 (.c (.int .u64 0))),
oF 113 121 (.pick 117 120 cF),
oP 122 113 cT 121,
oM 123 122,
oF 123 124 (.fieldAddr 0 1),
oF 123 125 (.load none 124),
oF 123 126 (.bin .neq 125 (cI 65535)),
oF 123 127 (.mov 126),
oT 127 128 (.fieldAddr 9 1),
oT 127 129 (.load none 128),
oT 127 130 (.len 129),
oT 127 131 (.bin .gtr 130 (cI 0)),
oF 123 132 (.pick 127 131 cF),
oP 133 123 cT 132,
oM 134 133,
oF 134 135 (.fieldAddr 9 1),
oF 134 136 (.load none 135),
oF 134 137 (.len 136),
oF 134 138 (.bin .rem 137 (cI 8)),
oF 134 139 (.bin .neq 138 (cI 0)),
oP 140 134 cT 139,
oM 141 140,
oF 141 142 (.fieldAddr 9 1),
oF 141 143 (.load none 142),
oF 141 144 (.len 143),
oF 141 145 (.bin .gtr 144 (cI 65520)),
oP 146 141 cT 145])
(.cond 146
(sq (kr [] [oD 2 (.mov (.c (.imm (.int .u8) []))),
oD 3 (.mov cF)])
.ret)
.skip))
(sq (kr [1,11] [oM 147 11,
oA 148 9 1,
oL 149 148,
oD 150 (.append (.int .u8) 1 147 149),
oM 2 150,
oD 3 (.mov cT)])
.ret)))))))))
def G8_:List RD:=[.tmp 2 true (some (.int .u8)),.tmp 3 true none]
theorem hw_:zl_ Tryz.prog Tryz.f49 h4_ G8_=true:=by kernel_rfl
def xJ_:List AV->List Obj->Option (Prop × AV)
 | [.agg [.int .i64 q,.int .u64 a,.int .u64 b,.int .i64 c,.int .i64 f,.bool h,.int .u64 x,.imm (.int .u8) v,.imm (.int .u8) m,.imm (.int .u8) d]],[]=>some ((v.length<=100000/\m.length<=100000/\d.length<=100000,.tup [.imm (.int .u8) (if zH_ (KM_ c f h x v m) q a b c f h x v m d=true then ZB_ q a b (ZH_ c f h x v m) d else []),.bool (zH_ (KM_ c f h x v m) q a b c f h x v m d)]))
 | _,_=>none
theorem UZ_:ze_ Tryz.prog 49 (RoF xJ_).sum:=by
 refine zm_ Tryz.func49 hw_ (zb_ (s:=RoF KT_) XX_ (zb_ (s:=RoF Wf_) VP_ (zb_ (s:=RwF jr_) Yp_ (zb_ (s:=RoF yM_) GU_ (zb_ (s:=RoF xL_) U1_ (zb_ (s:=RoF Wc_) VM_ (zb_ (s:=RoF xI_) UY_ (zb_ (s:=RwF Wh_) VR_ (zd_ _))))))))) fun args objs p v e=>?_
 unfold xJ_ at e
 split at e
 ·rename_i q a b c f h x v m d
  cases e
  refine ⟨rfl,fun hw ho hp=>?_⟩
  change List Int at v
  change List Int at m
  change List Int at d
  have hx0:0<=x:=((hw _ (List.mem_cons_self ..)) (.int .u64 x) (by simp)).1
  have hv0:∀ z ∈ (v:List Int),(0:Int)<=z/\z<=255:=fun z hz=>((hw _ (List.mem_cons_self ..)) (.imm (.int .u8) v) (by simp)).1 z hz
  have hm0:∀ z ∈ (m:List Int),(0:Int)<=z/\z<=255:=fun z hz=>((hw _ (List.mem_cons_self ..)) (.imm (.int .u8) m) (by simp)).1 z hz
  clear hw ho
  have hcn:=Vm_ q
  have hsz:=vh_ q
  have hRO:=u7_ (c:=c) (f:=f) (h:=h) hx0 hv0 hm0
  have hcl:((([a,b].take (zw_ (zt_ q)).toNat).length:Nat):Int)=zw_ (zt_ q):=by rw [List.length_take];simp only [List.length_cons,List.length_nil];omega
  have hpl:([a,b].take (zw_ (zt_ q)).toNat).length=(zw_ (zt_ q)).toNat:=by rw [List.length_take];simp only [List.length_cons,List.length_nil];omega
  by_cases h25:q=25
  ·have hR:zH_ (KM_ c f h x v m) q a b c f h x v m d=(decide (a=0) && decide (b=0) && decide (d.length=0) && (decide (c=32768) && !h && W2_ f && KM_ c f h x v m)):=if_pos h25
   cases hr:zH_ (KM_ c f h x v m) q a b c f h x v m d with
   | false=>
     rw [hR] at hr
     repeat'(intro t ht;first|(cases t<;>first|(cases ht;done)|(try simp only[zh_]at ht;try(exfalso;first|contradiction|omega)))|((first|refine za_ ht ?_|refine ht ?_ ?_|refine ht.1 ?_ ?_|refine ht ?_)<;>clear ht))
     all_goals first
      | exact True.intro
      | exact hp
      | exact ⟨hp.1,hp.2.1⟩
      | omega
      | exact ⟨rfl,by first | rfl | exact True.intro⟩
      | (exfalso;simp_all;done)
   | true=>
     obtain ⟨ha,hb,hd,hc,hh,hs,hRr⟩:=jD_ h25 hr
     have hBB:ZB_ q a b (ZH_ c f h x v m) d=ZH_ c f h x v m++List.replicate ((8 - (4+(ZH_ c f h x v m).length) % 8) % 8) 0:=if_pos h25
     have hn:=qw_ (hRO.trans hRr)
     have hsL:=(wB_ (hRO.trans hRr)).2
     rw [YV_ (hRO.trans hRr)] at hsL
     repeat'(intro t ht;first|(cases t<;>first|(cases ht;done)|(try simp only[zh_]at ht;try(exfalso;first|contradiction|omega)))|((first|refine za_ ht ?_|refine ht ?_ ?_|refine ht.1 ?_ ?_|refine ht ?_)<;>clear ht))
     all_goals first
      | exact True.intro
      | exact ⟨hp.1,hp.2.1⟩
      | exact ⟨hn.1,hn.2.1,by omega,by omega,by omega,by omega⟩
      | omega
      | (exfalso;simp_all;done)
      | (intro r h1 h2;clear h1;refine h2 ⟨[7],Nat,(fun i=>i<=(8 - (4+(ZH_ c f h x v m).length) % 8) % 8),fun _=>[.own 0],fun i=>[.row false (.int .u8) (ZH_ c f h x v m++List.replicate i 0)],fun i=>8 - i,⟨0,Nat.zero_le _,rfl,congrArg (fun l=>[Obj.row false (.int .u8) l]) (List.append_nil _).symm⟩,?_⟩;clear h2)
     rintro i hi
     (try dsimp only at hi)
     have hlen:(ZH_ c f h x v m++List.replicate i (0:Int)).length=(ZH_ c f h x v m).length+i:=by rw [List.length_append,List.length_replicate]
     repeat'(intro t ht;first|(cases t<;>first|(cases ht;done)|(try simp only[zh_]at ht))|((first|refine za_ ht ?_|refine ht ?_ ?_|refine ht.1 ?_ ?_|refine ht ?_)<;>clear ht))
     all_goals (try simp only [hlen,kE_ (Int.natCast_nonneg _)] at*)
     all_goals first
      | exact True.intro
      | omega
      | ((try simp only [zn_,zo_,zi_] at*);omega)
      | (refine ⟨i+1,?_,?_,rfl,?_⟩
         ·(try dsimp only);omega
         ·(try dsimp only);omega
         ·simp only [ZF_,List.replicate_succ',List.append_assoc])
      | (simp only [List.length_cons,List.length_nil];constructor<;>omega)
      | (refine ⟨?_,by first | rfl | exact True.intro⟩;rw [hBB,show i=(8 - (4+(ZH_ c f h x v m).length) % 8) % 8 by omega];rfl)
  ·have hR:zH_ (KM_ c f h x v m) q a b c f h x v m d=(VW_ q && Kg_ c f h x v m 0 0 false 0 [] [] && decide (uS_ q a=0) && QN_ (zt_ q) ([a,b].take (zw_ (zt_ q)).toNat) && (decide (2<=zw_ (zt_ q)) || decide (b=0)) && (decide (1<=zw_ (zt_ q)) || decide (a=0)) && (if q=65535 then decide ((d.length:Int).tmod 8=0) && decide ((d.length:Int)<=65520) else decide (d.length=0))):=if_neg h25
   cases hr:zH_ (KM_ c f h x v m) q a b c f h x v m d with
   | false=>
     rw [hR] at hr
     repeat'(intro t ht;first|(cases t<;>first|(cases ht;done)|(try simp only[zh_]at ht;try(exfalso;first|contradiction|omega)))|((first|refine za_ ht ?_|refine ht ?_ ?_|refine ht.1 ?_ ?_|refine ht ?_)<;>clear ht))
     all_goals first
      | exact True.intro
      | exact hp
      | exact ⟨hp.1,hp.2.1⟩
      | exact hcn
      | omega
      | exact ⟨rfl,by first | rfl | exact True.intro⟩
      | (exfalso
         simp only [hcl] at*
         refine absurd ?_ (Bool.eq_false_iff.1 hr)
         simp only [Bool.and_eq_true,Bool.or_eq_true,decide_eq_true_eq]
         refine ⟨⟨⟨⟨⟨⟨by assumption,by assumption⟩,by assumption⟩,by assumption⟩,by omega⟩,by omega⟩,?_⟩
         first
          | (rw [if_pos (by assumption)];simp only [Bool.and_eq_true,decide_eq_true_eq];exact ⟨by assumption,by omega⟩)
          | (rw [if_neg (by assumption)];simp only [decide_eq_true_eq];omega))
   | true=>
     obtain ⟨k1,k2,k3,k4,k5,k6,k7⟩:=kh_ h25 hr
     unfold KN_ at k4
     have hh:=zal_ k2
     have hB:ZB_ q a b (ZH_ c f h x v m) d=qd_ (zt_ q) ([a,b].take (zw_ (zt_ q)).toNat)++d:=if_neg h25
     have hps:=X8_ k4
     repeat'(intro t ht;first|(cases t<;>first|(cases ht;done)|(try simp only[zh_]at ht;try(exfalso;first|contradiction|omega)))|((first|refine za_ ht ?_|refine ht ?_ ?_|refine ht.1 ?_ ?_|refine ht ?_)<;>clear ht))
     all_goals first
      | exact True.intro
      | exact hp
      | exact ⟨hp.1,hp.2.1⟩
      | exact hcn
      | omega
      | (constructor<;>omega)
      | (simp only [ZF_];constructor<;>omega)
      | (refine ⟨?_,by first | rfl | exact True.intro⟩;rw [hB];rfl)
      | (exfalso;simp_all;done)
      | (exfalso;simp_all;omega)
 ·cases e
def uA_:IR:=
(sq (kr [0] [oD 1 (.boxv 0),
oD 2 (.mov (.c (.imm (.int .u8) []))),
oD 3 (.mov (cI 0))])
(sq (kr [1] [oK 7 10 1,
oC 8 49 [7],
oM 6 8,
oX 9 6 0,
oX 10 6 1,
oM 4 9,
oM 5 10])
(sq (sq (kr [1,4,5] [oM 11 5,
oD 12 (.un .not 11)])
(.cond 12
(sq (.reg [oD 2 (.mov (.c (.imm (.int .u8) []))),
oD 3 (.mov (cI 10001))])
.ret)
.skip))
(sq (kr [1,4] [oA 13 0 1,
oL 14 13,
oD 15 (.conv .u64 14),
oC 16 50 [15,(cI 2)],
oM 17 4,
oE 18 17,
oB 19 .add (cI 4) 18,
oD 20 (.conv .u64 19),
oC 21 50 [20,(cI 2)],
oD 22 (.append (.int .u8) 1 16 21),
oM 23 4,
oD 24 (.append (.int .u8) 1 22 23),
oM 2 24,
oD 3 (.mov (cI 0))])
.ret))))
def V1_:List RD:=[.tmp 2 true (some (.int .u8)),.tmp 3 true none]
theorem ui_:zl_ Tryz.prog Tryz.f32 uA_ V1_=true:=by kernel_rfl
def Jx_:List AV->List Obj->Option (Prop × AV)
 | [.agg [.int .i64 q,.int .u64 a,.int .u64 b,.int .i64 c,.int .i64 f,.bool h,.int .u64 x,.imm (.int .u8) v,.imm (.int .u8) m,.imm (.int .u8) d]],[]=>some ((v.length<=100000/\m.length<=100000/\d.length<=100000,.tup [.imm (.int .u8) (if zH_ (KM_ c f h x v m) q a b c f h x v m d=true then xC_ q a b (ZH_ c f h x v m) d else []),.int .i64 (if zH_ (KM_ c f h x v m) q a b c f h x v m d=true then 0 else 10001)]))
 | _,_=>none
theorem Y7_:ze_ Tryz.prog 32 (RoF Jx_).sum:=by
 refine zm_ Tryz.func32 ui_ (zb_ (s:=RoF xJ_) UZ_ (zb_ (s:=RwF jT_) ww_ (zd_ _))) fun args objs p v e=>?_
 unfold Jx_ at e
 split at e
 ·rename_i q a b c f h x v m d
  cases e
  refine ⟨rfl,fun hw ho hp=>?_⟩
  change List Int at v
  change List Int at m
  change List Int at d
  have hx0:0<=x:=((hw _ (List.mem_cons_self ..)) (.int .u64 x) (by simp)).1
  have hv0:∀ z ∈ (v:List Int),(0:Int)<=z/\z<=255:=fun z hz=>((hw _ (List.mem_cons_self ..)) (.imm (.int .u8) v) (by simp)).1 z hz
  have hm0:∀ z ∈ (m:List Int),(0:Int)<=z/\z<=255:=fun z hz=>((hw _ (List.mem_cons_self ..)) (.imm (.int .u8) m) (by simp)).1 z hz
  clear hw ho
  have hRA:=vm_ (q:=q) (a:=a) (b:=b) (c:=c) (f:=f) (h:=h) (d:=d) hx0 hv0 hm0
  cases hr:zH_ (KM_ c f h x v m) q a b c f h x v m d with
  | false=>
    repeat'(intro t ht;first|(cases t<;>first|(cases ht;done)|(try simp only[zh_]at ht;try(exfalso;first|contradiction|omega)))|((first|refine za_ ht ?_|refine ht ?_ ?_|refine ht.1 ?_ ?_|refine ht ?_)<;>clear ht))
    all_goals first
     | exact True.intro
     | exact hp
     | exact ⟨rfl,by first | rfl | exact True.intro⟩
     | (exfalso;simp_all;done)
  | true=>
    have hro:=hRA.trans hr
    obtain ⟨_,s1,_,_⟩:=jC_ hro
    rw [UF_ hro] at s1
    have hq:=G0_ hr
    have l2:=zk_ (n:=q) (w:=2) (by decide)
    have l3:=zk_ (n:=(4+(ZB_ q a b (ZH_ c f h x v m) d).length)) (w:=2) (by decide)
    repeat'(intro t ht;first|(cases t<;>first|(cases ht;done)|(try simp only[zh_]at ht;try(exfalso;first|contradiction|omega)))|((first|refine za_ ht ?_|refine ht ?_ ?_|refine ht.1 ?_ ?_|refine ht ?_)<;>clear ht))
    all_goals (try simp only [hr,if_true,ZF_] at*)
    all_goals first
     | exact True.intro
     | exact hp
     | omega
     | ((try simp only [zn_,zo_,zi_] at*);omega)
     | (constructor<;>omega)
     | (simp only [List.length_append];constructor<;>omega)
     | exact ⟨rfl,by first | rfl | exact True.intro⟩
     | (exfalso;simp_all;done)
 ·cases e
def rrA (a:AC):Bool:=zH_ (KM_ a.2.2.2.1.1 a.2.2.2.1.2.1 a.2.2.2.1.2.2.1 a.2.2.2.1.2.2.2.1 a.2.2.2.1.2.2.2.2.1 a.2.2.2.1.2.2.2.2.2.1) a.1 a.2.1 a.2.2.1 a.2.2.2.1.1 a.2.2.2.1.2.1 a.2.2.2.1.2.2.1 a.2.2.2.1.2.2.2.1 a.2.2.2.1.2.2.2.2.1 a.2.2.2.1.2.2.2.2.2.1 a.2.2.2.2.1
def erA (a:AC):List Int:=xC_ a.1 a.2.1 a.2.2.1 (ZH_ a.2.2.2.1.1 a.2.2.2.1.2.1 a.2.2.2.1.2.2.1 a.2.2.2.1.2.2.2.1 a.2.2.2.1.2.2.2.2.1 a.2.2.2.1.2.2.2.2.2.1) a.2.2.2.2.1
def bysA (a:AC):Prop:=0<=a.2.2.2.1.2.2.2.1/\(∀ x ∈ a.2.2.2.1.2.2.2.2.1,0<=x/\x<=255)/\(∀ x ∈ a.2.2.2.1.2.2.2.2.2.1,0<=x/\x<=255)/\(∀ x ∈ a.2.2.2.2.1,0<=x/\x<=255)/\(0<=a.2.1/\a.2.1<=18446744073709551615)/\(0<=a.2.2.1/\a.2.2.1<=18446744073709551615)
theorem zff_ {l:List AC} (h:Ty.wf (.sl Y2) l):∀ o ∈ l,bysA o:=fun o ho=>by
 obtain ⟨h1,h2,h3,⟨g1,g2,g3,g4,g5,g6,_⟩,h5,_⟩:=h.1 o ho
 have u8:∀ {v:List Int},Ty.wf (.sl (.int .u8)) v->∀ x ∈ v,0<=x/\x<=255:=fun {v} hv x hx=>by
  have:=hv.1 x hx;unfold Ty.wf inK at this;rw [zeW_,zeX_] at this;exact this
 have u64:∀ {n:Int},Ty.wf (.int .u64) n->0<=n/\n<=18446744073709551615:=fun {n} hn=>by
  unfold Ty.wf inK at hn;rw [g3_,g4_] at hn;exact hn
 exact ⟨(u64 g4).1,u8 g5,u8 g6,u8 h5,u64 h2,u64 h3⟩
theorem zeK_ {a:AC} (h:bysA a):rrA a=rgA a:=(vm_ h.1 h.2.1 h.2.2.1).symm
theorem ze7_ {a:AC} (h:rgA a=true):erA a=ebA a:=by
 have:=UF_ h
 unfold erA ebA xC_;rw [this]
theorem zcW_ {l:List AC} {i:Nat} {d:AC} (h:i < l.length):boA (l.take (i+1))=boA (l.take i)++ebA (l.getD i d):=by
 unfold boA
 rw [<- Wo_ (d:=d) h,List.flatMap_append];simp
theorem zfd_ {l:List AC} (h:l.all rgA=true):(boA l).length<=65528*l.length:=by
 obtain ⟨b1,_⟩:=YX_ l h
 have:=H1_ (l:=l) l.length (Nat.le_refl _)
 rw [U8_ (Nat.le_refl _)] at this;omega
def uz_:IR:=
(sq (kr [0] [oD 2 (.nilrow (.int .u8)),
oD 3 (.mov (cI 0))])
(sq (.reg [oD 4 (.nilrow (.int .u8))])
(sq (sq (.reg [oD 5 (.mov (cI 0))])
(.block 0
(.loop
(sq (sq (kr [0,4,5] [oM 8 5,
oM 9 0,
oE 10 9,
oB 11 .lss 8 10])
(.cond 11
.skip
(.exit 0)))
(sq (.block 1
(sq (kr [0,4,5] [oM 15 0,
oM 16 5,
oI 17 10 15 16,
oK 18 10 17,
oC 19 32 [18],
oM 14 19,
oX 20 14 0,
oX 21 14 1,
oM 6 20,
oM 7 21])
(sq (sq (kr [0,4,5,6,7] [oM 22 7,
oB 23 .neq 22 (cI 0)])
(.cond 23
(sq (.reg [oM 24 7,
oD 2 (.nilrow (.int .u8)),
oM 3 24])
.ret)
.skip))
(.reg [oM 25 4,
oM 26 6,
oD 27 (.append (.int .u8) 1 25 26),
oM 4 27]))))
(kr [0,4,5] [oM 12 5,
oB 13 .add 12 (cI 1),
oM 5 13]))))))
(sq (sq (kr [0,4] [oM 28 0,
oE 29 28,
oB 30 .gtr 29 (cI 64),
oM 31 30,
oF 31 32 (.mov 4),
oF 31 33 (.len 32),
oF 31 34 (.bin .gtr 33 (cI 65528)),
oP 35 31 cT 34])
(.cond 35
(sq (kr [] [oD 2 (.nilrow (.int .u8)),
oD 3 (.mov (cI 10001))])
.ret)
.skip))
(sq (kr [4] [oM 36 4,
oM 2 36,
oD 3 (.mov (cI 0))])
.ret)))))
def V0_:List RD:=[.tmp 2 true (some (.int .u8)),.tmp 3 true none]
theorem uh_:zl_ Tryz.prog Tryz.f10 uz_ V0_=true:=by kernel_rfl
def Jw_:List AV->List Obj->Option (Prop × AV)
 | [.imm ty0 l],[]=>ja_ ty0 Y2 l fun l=>some ((okL l,.tup [.imm (.int .u8) (alL l),.int .i64 (alE l)]))
 | _,_=>none
theorem Y6_:ze_ Tryz.prog 10 (RoF Jw_).sum:=by
 refine zm_ Tryz.func10 uh_ (zb_ (s:=RoF Jx_) Y7_ (zd_ _)) fun args objs p v e=>?_
 unfold Jw_ at e
 split at e
 ·rename_i ty0 l
  obtain rfl:=QW_ e
  replace e:=QX_ e
  cases e
  refine ⟨rfl,fun hw ho hp=>?_⟩
  change List AC at l
  have hby:=zff_ (l:=l) (hw (.imm Y2 l) (by simp))
  clear hw ho
  have hok:=hp
  have hn:=hok.n
  repeat'(intro t ht;first|(cases t<;>first|(cases ht;done)|(try simp only[zh_]at ht))|((first|refine za_ ht ?_|refine ht ?_ ?_|refine ht.1 ?_ ?_|refine ht ?_)<;>clear ht))
  all_goals first
   | exact True.intro
   | (intro r h1 h2;clear h1;refine h2 ⟨[0,4,5],Nat,(fun i=>i<=l.length/\(l.take i).all rgA=true),fun i=>[.imm Y2 l,.own 0,.int .i64 i],fun i=>[.row false (.int .u8) (boA (l.take i))],fun i=>l.length - i,⟨0,⟨Nat.zero_le _,rfl⟩,rfl,rfl⟩,?_⟩;clear h2)
  rintro i ⟨hi,he⟩
  have hbo:=zfd_ he
  rw [zbj_ hi] at hbo
  repeat'(intro t ht;first|(cases t<;>first|(cases ht;done)|(try simp only[zh_]at ht;try(exfalso;first|contradiction|omega)))|((first|refine za_ ht ?_|refine ht ?_ ?_|refine ht.1 ?_ ?_|refine ht ?_)<;>clear ht))
  all_goals (try generalize (Ty.dflt Y2)=od at*)
  all_goals first
   | exact True.intro
   | ((try simp only [zn_,zo_,zi_] at*);omega)
   | (have hlt:i < l.length:=by omega
      have hq:=zeK_ (hby _ (zZ_ hlt od))
      have hlen:=hok.a _ (zZ_ hlt od)
      first
       | exact hlen
       | (have hk:rrA (l.getD i od)=false:=by
           cases hk:rrA (l.getD i od) with
           | false=>rfl
           | true=>
             have:(if rrA (l.getD i od)=true then (0:Int) else 10001)=0:=if_pos hk
             first | contradiction | (exfalso;simp_all;done)
          have hno:rgL l=false:=by
           cases h:rgL l with
           | false=>rfl
           | true=>
             have:=List.all_eq_true.1 (ki_ h).1 _ (zZ_ hlt od)
             rw [<- hq,hk] at this;cases this
          have e1:(if rrA (l.getD i od)=true then (0:Int) else 10001)=10001:=by rw [hk];rfl
          unfold alL alE;rw [hno]
          refine ⟨congrArg (fun z=>AV.tup [_,AV.int .i64 z]) e1,by first | rfl | exact True.intro⟩)
       | (have hk:rrA (l.getD i od)=true:=by
           cases hk:rrA (l.getD i od) with
           | true=>rfl
           | false=>
             have:(if rrA (l.getD i od)=true then (0:Int) else 10001)=10001:=by rw [hk];rfl
             exfalso;unfold rrA at this hk;simp_all;done
          have hr:rgA (l.getD i od)=true:=hq.symm.trans hk
          have h8:=Y1_ hr
          have e1:(if rrA (l.getD i od)=true then erA (l.getD i od) else [])=ebA (l.getD i od):=(if_pos hk).trans (ze7_ hr)
          have e2:(if zH_ (KM_ ((l.getD i od)).2.2.2.1.1 ((l.getD i od)).2.2.2.1.2.1 ((l.getD i od)).2.2.2.1.2.2.1 ((l.getD i od)).2.2.2.1.2.2.2.1 ((l.getD i od)).2.2.2.1.2.2.2.2.1 ((l.getD i od)).2.2.2.1.2.2.2.2.2.1) ((l.getD i od)).1 ((l.getD i od)).2.1 ((l.getD i od)).2.2.1 ((l.getD i od)).2.2.2.1.1 ((l.getD i od)).2.2.2.1.2.1 ((l.getD i od)).2.2.2.1.2.2.1 ((l.getD i od)).2.2.2.1.2.2.2.1 ((l.getD i od)).2.2.2.1.2.2.2.2.1 ((l.getD i od)).2.2.2.1.2.2.2.2.2.1 ((l.getD i od)).2.2.2.2.1=true then xC_ (l.getD i od).1 (l.getD i od).2.1 (l.getD i od).2.2.1 (ZH_ ((l.getD i od)).2.2.2.1.1 ((l.getD i od)).2.2.2.1.2.1 ((l.getD i od)).2.2.2.1.2.2.1 ((l.getD i od)).2.2.2.1.2.2.2.1 ((l.getD i od)).2.2.2.1.2.2.2.2.1 ((l.getD i od)).2.2.2.1.2.2.2.2.2.1) (l.getD i od).2.2.2.2.1 else [])=ebA (l.getD i od):=e1
          first
           | (simp only [ZF_,Int.toNat_natCast,e2];constructor<;>omega)
           | (refine ⟨i+1,⟨by omega,yH_ hlt he hr⟩,by dsimp only;omega,rfl,?_⟩
              dsimp only
              rw [zcW_ (d:=od) hlt]
              simp only [ZF_,Int.toNat_natCast,e2];done)))
   | (have hge:l.length<=i:=by omega
      have ha:=Vz_ hge he
      rw [List.take_of_length_le hge] at*
      cases hr:rgL l with
      | true=>
        obtain ⟨_,h2,h3,_⟩:=ki_ hr
        unfold alL alE;rw [hr]
        first
         | (exfalso;omega)
         | exact ⟨rfl,by first | rfl | exact True.intro⟩
      | false=>
        unfold alL alE;rw [hr]
        first
         | exact ⟨rfl,by first | rfl | exact True.intro⟩
         | (exfalso;have:=zeO_ ha (by omega) (by omega);rw [hr] at this;cases this))
 ·cases e
abbrev BK:=Int × Int × Int × List AC × Unit
instance:DecidableEq (List AC × Unit):=inferInstance
instance:DecidableEq BK:=inferInstance
structure okB (l:List BK):Prop where
 a:∀ o ∈ l,okL o.2.2.2.1
 n:l.length<=1000000
abbrev P8:=Int × Int × Int × Int × Int × Int × Int × Int × Unit
abbrev PV:=Int × Int × List Int × P8 × Unit
instance:DecidableEq (Int × Int × Int × Int × Unit):=inferInstance
instance:DecidableEq P8:=inferInstance
instance:DecidableEq PV:=inferInstance
abbrev VIn:=Int × Int × Int × List AC × List Int × Unit
instance:DecidableEq (List Int × Unit):=inferInstance
instance:DecidableEq (List AC × List Int × Unit):=inferInstance
instance:DecidableEq (Int × List AC × List Int × Unit):=inferInstance
instance:DecidableEq (Int × Int × List AC × List Int × Unit):=inferInstance
instance:DecidableEq VIn:=inferInstance
abbrev VBd:=Int × Int × Int × Int × List Int × Unit
instance:DecidableEq (List Int × Unit):=inferInstance
instance:DecidableEq (Int × List Int × Unit):=inferInstance
instance:DecidableEq (Int × Int × List Int × Unit):=inferInstance
instance:DecidableEq (Int × Int × Int × List Int × Unit):=inferInstance
instance:DecidableEq VBd:=inferInstance
abbrev VPr:=Int × Int × List Int × Unit
instance:DecidableEq (List Int × Unit):=inferInstance
instance:DecidableEq (Int × List Int × Unit):=inferInstance
instance:DecidableEq VPr:=inferInstance
abbrev VQu:=Int × Int × List VPr × Unit
instance:DecidableEq (List VPr × Unit):=inferInstance
instance:DecidableEq (Int × List VPr × Unit):=inferInstance
instance:DecidableEq VQu:=inferInstance
abbrev VFe:=Int × List Int × List Int × Unit
instance:DecidableEq (List Int × Unit):=inferInstance
instance:DecidableEq (List Int × List Int × Unit):=inferInstance
instance:DecidableEq VFe:=inferInstance
abbrev VTb:=Int × List Int × Int × Int × Int × Int × List VFe × Unit
instance:DecidableEq (List VFe × Unit):=inferInstance
instance:DecidableEq (Int × List VFe × Unit):=inferInstance
instance:DecidableEq (Int × Int × List VFe × Unit):=inferInstance
instance:DecidableEq (Int × Int × Int × List VFe × Unit):=inferInstance
instance:DecidableEq (Int × Int × Int × Int × List VFe × Unit):=inferInstance
instance:DecidableEq (List Int × Int × Int × Int × Int × List VFe × Unit):=inferInstance
instance:DecidableEq VTb:=inferInstance
abbrev VEl:=Int × List Int × Unit
instance:DecidableEq (List Int × Unit):=inferInstance
instance:DecidableEq VEl:=inferInstance
abbrev VPa:=List Int × List (List Int) × List OV × List VIn × List BK × List VBd × List (List Int) × List PV × List VTb × List Int × Unit
instance:DecidableEq (List Int × Unit):=inferInstance
instance:DecidableEq (List VTb × List Int × Unit):=inferInstance
instance:DecidableEq (List PV × List VTb × List Int × Unit):=inferInstance
instance:DecidableEq (List (List Int) × List PV × List VTb × List Int × Unit):=inferInstance
instance:DecidableEq (List VBd × List (List Int) × List PV × List VTb × List Int × Unit):=inferInstance
instance:DecidableEq (List BK × List VBd × List (List Int) × List PV × List VTb × List Int × Unit):=inferInstance
instance:DecidableEq (List VIn × List BK × List VBd × List (List Int) × List PV × List VTb × List Int × Unit):=inferInstance
instance:DecidableEq (List OV × List VIn × List BK × List VBd × List (List Int) × List PV × List VTb × List Int × Unit):=inferInstance
instance:DecidableEq (List (List Int) × List OV × List VIn × List BK × List VBd × List (List Int) × List PV × List VTb × List Int × Unit):=inferInstance
instance:DecidableEq VPa:=inferInstance
abbrev VMs:=Int × Int × List Int × List Int × List VEl × List OV × List AC × List VIn × List BK × List VBd × List VQu × List PV × Int × Int × List VPa × Unit
instance:DecidableEq (List VPa × Unit):=inferInstance
instance:DecidableEq (Int × List VPa × Unit):=inferInstance
instance:DecidableEq (Int × Int × List VPa × Unit):=inferInstance
instance:DecidableEq (List PV × Int × Int × List VPa × Unit):=inferInstance
instance:DecidableEq (List VQu × List PV × Int × Int × List VPa × Unit):=inferInstance
instance:DecidableEq (List VBd × List VQu × List PV × Int × Int × List VPa × Unit):=inferInstance
instance:DecidableEq (List BK × List VBd × List VQu × List PV × Int × Int × List VPa × Unit):=inferInstance
instance:DecidableEq (List VIn × List BK × List VBd × List VQu × List PV × Int × Int × List VPa × Unit):=inferInstance
instance:DecidableEq (List AC × List VIn × List BK × List VBd × List VQu × List PV × Int × Int × List VPa × Unit):=inferInstance
instance:DecidableEq (List OV × List AC × List VIn × List BK × List VBd × List VQu × List PV × Int × Int × List VPa × Unit):=inferInstance
instance:DecidableEq (List VEl × List OV × List AC × List VIn × List BK × List VBd × List VQu × List PV × Int × Int × List VPa × Unit):=inferInstance
instance:DecidableEq (List Int × List VEl × List OV × List AC × List VIn × List BK × List VBd × List VQu × List PV × Int × Int × List VPa × Unit):=inferInstance
instance:DecidableEq (List Int × List Int × List VEl × List OV × List AC × List VIn × List BK × List VBd × List VQu × List PV × Int × Int × List VPa × Unit):=inferInstance
instance:DecidableEq (Int × List Int × List Int × List VEl × List OV × List AC × List VIn × List BK × List VBd × List VQu × List PV × Int × Int × List VPa × Unit):=inferInstance
instance:DecidableEq VMs:=inferInstance
def h8_:IR:=
(sq (kr [0,1] [oD 4 (.mov cF)])
(sq (sq (kr [0,1] [oM 6 0,
oE 7 6,
oM 8 1,
oE 9 8,
oB 10 .neq 7 9])
(.cond 10
(sq (.reg [oD 4 (.mov cF)])
.ret)
.skip))
(sq (sq (kr [0,1] [oD 5 (.mov (cI 0))])
(.block 0
(.loop
(sq (sq (kr [0,1,5] [oM 11 5,
oM 12 0,
oE 13 12,
oB 14 .lss 11 13])
(.cond 14
.skip
(.exit 0)))
(sq (.block 1
(sq (kd [0,1,5] [(oM 17 0,[]),
(oM 18 5,[0]),
(oI 19 1 17 18,[]),
(oL 20 19,[]),
(oM 21 1,[0,0,0,0]),
(oM 22 5,[0,0,0,0,0]),
(oI 23 1 21 22,[2,0,0,0]),
(oL 24 23,[3,0,0,0]),
(oB 25 .neq 20 24,[])])
(.cond 25
(sq (kr [] [oD 4 (.mov cF)])
.ret)
.skip)))
(kr [0,1,5] [oM 15 5,
oB 16 .add 15 (cI 1),
oM 5 16]))))))
(sq (kr [] [oD 4 (.mov cT)])
.ret))))
def hc_:List RD:=[.tmp 4 true none]
theorem hA_:zl_ Tryz.prog Tryz.f18 h8_ hc_=true:=by kernel_rfl
def KU_:List AV->List Obj->Option (Prop × AV)
 | [.imm (.int .u64) a,.imm (.int .u64) b],[]=>some ((True,.bool (decide ((a:List Int)=b))))
 | _,_=>none
theorem j2_:ze_ Tryz.prog 18 (RoF KU_).sum:=by
 refine zm_ Tryz.func18 hA_ (zd_ _) fun args objs p v e=>?_
 unfold KU_ at e
 split at e
 ·rename_i a b
  cases e
  refine ⟨rfl,fun hw ho hp=>?_⟩
  change List Int at a
  change List Int at b
  change List Int at a
  change List Int at b
  have hl:a.length<=maxLen:=(hw (.imm (.int .u64) a) (by simp)).2
  unfold maxLen at hl
  clear hw ho
  repeat'(intro t ht;first|(cases t<;>first|(cases ht;done)|(try simp only[zh_]at ht))|((first|refine za_ ht ?_|refine ht ?_ ?_|refine ht.1 ?_ ?_|refine ht ?_)<;>clear ht))
  all_goals first
   | (have hne:a ≠ b:=fun h=>(by assumption:¬ (a.length:Int)=b.length) (by rw [h])
      refine ⟨?_,rfl⟩;rw [decide_eq_false hne];done)
   | (intro r h1 h2;clear h1;refine h2 ⟨[0,1,5],Nat,(fun i=>i<=a.length/\a.take i=b.take i),fun i=>[.imm (.int .u64) a,.imm (.int .u64) b,.int .i64 i],fun _=>[],fun i=>a.length - i,⟨0,⟨Nat.zero_le _,rfl⟩,rfl,rfl⟩,?_⟩;clear h2)
  rintro i ⟨hi,he⟩
  have hl2:a.length=b.length:=by omega
  repeat'(intro t ht;first|(cases t<;>first|(cases ht;done)|(try simp only[zh_]at ht;try(exfalso;first|contradiction|omega)))|((first|refine za_ ht ?_|refine ht ?_ ?_|refine ht.1 ?_ ?_|refine ht ?_)<;>clear ht))
  all_goals first
   | exact True.intro
   | ((try simp only [zn_,zo_,zi_] at*);omega)
   | (have e:=zef_ he (by omega) hl2
      refine ⟨?_,rfl⟩;rw [decide_eq_true e];done)
   | (have hne:a ≠ b:=tkNe (d:=0) (i:=i) (by assumption)
      refine ⟨?_,rfl⟩;rw [decide_eq_false hne];done)
   | exact ⟨i+1,⟨by omega,zbi_ he (by omega) hl2 (d:=0) (by assumption)⟩,by (try simp only [zn_,zo_,zi_] at*);omega,rfl,rfl⟩
   | skip
 ·cases e
def Hf_:IR:=
(sq (kr [] [oD 0 (.mov cF)])
(sq (kr [] [oC 9 21 [(.c (.imm (.int .u8) []))],
oM 8 9,
oX 10 8 0,
oX 11 8 1,
oM 1 10,
oM 2 11])
(sq (.reg [oD 12 (.build [.int .i64 0,.int .u64 0,.int .u64 0,.int .i64 0,.int .i64 0,.kb false,.int .u64 0,.imm (.int .u8) [],.imm (.int .u8) [],.imm (.int .u8) []] [(1,1,(.c (.int .u64 3))),(2,1,(.c (.int .u64 1)))]),
oD 3 (.box [.int .i64 0,.int .u64 0,.int .u64 0,.int .i64 0,.int .i64 0,.kb false,.int .u64 0,.imm (.int .u8) [],.imm (.int .u8) [],.imm (.int .u8) []]),
oS 10 3 12])
(sq (kr [1,2,3] [oK 14 10 3,
oD 15 (.build [.int .i64 0,.int .u64 0,.int .u64 0,.int .i64 0,.int .i64 0,.kb false,.int .u64 0,.imm (.int .u8) [],.imm (.int .u8) [],.imm (.int .u8) []] [(0,1,(cI 18))]),
oD 16 (.build [.int .i64 0,.int .u64 0,.int .u64 0,.int .i64 0,.int .i64 0,.kb false,.int .u64 0,.imm (.int .u8) [],.imm (.int .u8) [],.imm (.int .u8) []] [(1,1,(.c (.int .u64 1)))]),
oD 17 (.sliceAll Y2 3 [(0,10,14),(10,10,15),(20,10,16)]),
oC 18 9 [17],
oM 13 18,
oX 19 13 0,
oX 20 13 1,
oM 4 19,
oM 5 20])
(sq (kr [1,2,4,5] [oM 22 4,
oC 23 21 [22],
oM 21 23,
oX 24 21 0,
oX 25 21 1,
oM 6 24,
oM 7 25])
(sq (kr [1,2,4,5,6,7] [oM 26 2,
oB 27 .eql 26 (cI 0),
oM 28 27,
oT 28 29 (.mov 1),
oT 28 30 (.len 29),
oT 28 31 (.bin .eql 30 (cI 0)),
oP 32 28 31 cF,
oM 33 32,
oT 33 34 (.mov 5),
oT 33 35 (.bin .eql 34 (cI 0)),
oP 36 33 35 cF,
oM 37 36,
oT 37 38 (.mov 4),
oT 37 39 (.len 38),
oT 37 40 (.bin .eql 39 (cI 40)),
oP 41 37 40 cF,
oM 42 41,
oT 42 43 (.mov 7),
oT 42 44 (.bin .eql 43 (cI 0)),
oP 45 42 44 cF,
oM 46 45,
oT 46 47 (.mov 6),
oT 46 48 (.len 47),
oT 46 49 (.bin .eql 48 (cI 3)),
oP 50 46 49 cF,
oM 51 50,
oT 51 52 (.mov 6),
oT 51 53 (.call false (.f 19) [52]),
oT 51 54 (.sliceAll (.int .u64) 2 [(0,1,(.c (.int .u64 1))),(1,1,(.c (.int .u64 3)))]),
oT 51 55 (.call false (.f 18) [53,54]),
oP 56 51 55 cF,
oM 57 56,
oT 57 58 (.mov 6),
oT 57 59 (.call false (.f 16) [58]),
oT 57 60 (.bin .eql 59 (cI 40)),
oP 61 57 60 cF,
oM 0 61])
.ret))))))
def hj_:List RD:=[.tmp 0 true none]
theorem hH_:zl_ Tryz.prog Tryz.f8 Hf_ hj_=true:=by kernel_rfl
def JD_:List AV->List Obj->Option (Prop × AV)
 | [],[]=>some ((True,.bool true))
 | _,_=>none
theorem x4_:ze_ Tryz.prog 8 (RoF JD_).sum:=by
 refine zm_ Tryz.func8 hH_ (zb_ (s:=RoF ju_) Ys_ (zb_ (s:=RoF kK_) JK_ (zb_ (s:=RoF Q4_) KJ_ (zb_ (s:=RoF KU_) j2_ (zb_ (s:=RoF kZ_) jj_ (zd_ _)))))) fun args objs p v e=>?_
 unfold JD_ at e
 split at e
 ·cases e
  refine ⟨rfl,fun hw ho hp=>?_⟩
  clear hw ho
  obtain ⟨n1,n2⟩:=s13n
  obtain ⟨e1,e2⟩:=s13e
  obtain ⟨d1,d2⟩:=s13d
  have z1:alE [((0:Int),(3:Int),(1:Int),((0:Int),(0:Int),false,(0:Int),([]:List Int),([]:List Int),()),([]:List Int),()),(18,0,0,(0,0,false,0,[],[],()),[],()),(0,1,0,(0,0,false,0,[],[],()),[],())]=0:=e2
  have z2:adE (alL [((0:Int),(3:Int),(1:Int),((0:Int),(0:Int),false,(0:Int),([]:List Int),([]:List Int),()),([]:List Int),()),(18,0,0,(0,0,false,0,[],[],()),[],()),(0,1,0,(0,0,false,0,[],[],()),[],())])=0:=by show adE (alL L13)=0;rw [e1];exact d2
  have z3:adL (alL [((0:Int),(3:Int),(1:Int),((0:Int),(0:Int),false,(0:Int),([]:List Int),([]:List Int),()),([]:List Int),()),(18,0,0,(0,0,false,0,[],[],()),[],()),(0,1,0,(0,0,false,0,[],[],()),[],())])=L13:=by show adL (alL L13)=L13;rw [e1];exact d1
  have z4:(alL [((0:Int),(3:Int),(1:Int),((0:Int),(0:Int),false,(0:Int),([]:List Int),([]:List Int),()),([]:List Int),()),(18,0,0,(0,0,false,0,[],[],()),[],()),(0,1,0,(0,0,false,0,[],[],()),[],())]).length=40:=by show (alL L13).length=40;rw [e1];exact s13l
  have z5:=s13p
  have z6:=s13z
  have z7:=s13o
  have z9:L13.length=3:=rfl
  have zA:(adL (alL [((0:Int),(3:Int),(1:Int),((0:Int),(0:Int),false,(0:Int),([]:List Int),([]:List Int),()),([]:List Int),()),(18,0,0,(0,0,false,0,[],[],()),[],()),(0,1,0,(0,0,false,0,[],[],()),[],())])).length<=60000:=by rw [z3];decide
  have zB:okL (adL (alL [((0:Int),(3:Int),(1:Int),((0:Int),(0:Int),false,(0:Int),([]:List Int),([]:List Int),()),([]:List Int),()),(18,0,0,(0,0,false,0,[],[],()),[],()),(0,1,0,(0,0,false,0,[],[],()),[],())])):=by rw [z3];exact z7
  have zC:poA (adL (alL [((0:Int),(3:Int),(1:Int),((0:Int),(0:Int),false,(0:Int),([]:List Int),([]:List Int),()),([]:List Int),()),(18,0,0,(0,0,false,0,[],[],()),[],()),(0,1,0,(0,0,false,0,[],[],()),[],())]))=[1,3]:=by rw [z3];exact z5
  have zD:szL (adL (alL [((0:Int),(3:Int),(1:Int),((0:Int),(0:Int),false,(0:Int),([]:List Int),([]:List Int),()),([]:List Int),()),(18,0,0,(0,0,false,0,[],[],()),[],()),(0,1,0,(0,0,false,0,[],[],()),[],())]))=40:=by rw [z3];exact z6
  repeat'(intro t ht;first|(cases t<;>first|(cases ht;done)|(try simp only[zh_]at ht;try(exfalso;first|contradiction|omega)))|((first|refine za_ ht ?_|refine ht ?_ ?_|refine ht.1 ?_ ?_|refine ht ?_)<;>clear ht))
  all_goals first
   | exact True.intro
   | exact z7
   | exact zA
   | exact zB
   | exact Nat.le_trans (Nat.le_of_eq z4) (by decide)
   | (rw [n1] at ht;exact absurd rfl ht)
   | (rw [z3] at ht;exact absurd rfl ht)
   | (rw [z4] at ht;exact absurd rfl ht)
   | exact absurd zC ht
   | exact ⟨congrArg AV.bool (decide_eq_true zD),rfl⟩
   | exact (by decide:([]:List Int).length<=100000000)
   | exact ⟨rfl,rfl⟩
 ·cases e
theorem zbG_ (a:List Int) (x:Int):poF (a++[x])=kr_ x (poF a):=by unfold poF;rw [List.foldl_append];rfl
def Vy_ (o:List Int) (x:Int):Bool:=o.any fun y=>decide (y=x)
theorem Vx_ (o:List Int) (x:Int):Vy_ o x=true ↔ x ∈ o:=by
 unfold Vy_
 rw [List.any_eq_true]
 constructor
 ·rintro ⟨y,h1,h2⟩;rw [<- of_decide_eq_true h2];exact h1
 ·intro h;exact ⟨x,h,decide_eq_true rfl⟩
theorem UK_ {o:List Int} {k:Nat} {x:Int} (h:k < o.length):Vy_ (o.take (k+1)) x=(Vy_ (o.take k) x || decide (o.getD k 0=x)):=by
 unfold Vy_
 rw [<- Wo_ (d:=0) h,List.any_append,List.any_cons,List.any_nil,Bool.or_false]
def atM (x:Int) (o:List Int) (k:Nat):Nat:=if k < atU x o then k else atU x o
theorem zfN_ (x:Int) (o:List Int):atM x o 0=0:=by unfold atM;split<;>omega
theorem B1_ (x:Int) {o:List Int} {k:Nat} (h:o.length<=k):atM x o k=atU x o:=by unfold atM;have:=Bd_ x o;split<;>omega
theorem zfL_ {x:Int} {o:List Int} {k:Nat} (hs:Sst o) (h:k < o.length) (hx:o.getD k 0 < x):atM x o (k+1)=k+1:=by
 have:=(Bc_ x o k hs h).1 hx
 unfold atM;split<;>omega
theorem zfM_ {x:Int} {o:List Int} {k:Nat} (hs:Sst o) (h:k < o.length) (hx:¬ o.getD k 0 < x):atM x o (k+1)=atM x o k:=by
 have:¬ k < atU x o:=fun c=>hx ((Bc_ x o k hs h).2 c)
 unfold atM;split<;>(try split)<;>omega
theorem zdN_ {x:Int} {o:List Int} {k:Nat} (hs:Sst o) (hk:o.length<=k) (h:Vy_ (o.take k) x=false):[]++List.take (atM x o k) (List.drop (Int.toNat 0) o)++[x]++List.take ((o.length:Int) - (atM x o k:Int)).toNat (List.drop (atM x o k) o)=kr_ x o:=by
 rw [List.take_of_length_le hk] at h
 have hx:x ∉ o:=fun c=>by rw [(Vx_ o x).2 c] at h;cases h
 rw [B1_ x hk,BS_ x o hs hx,List.take_of_length_le (l:=o.drop (atU x o)) (by rw [List.length_drop];omega)];rfl
theorem zci_ {x:Int} {o:List Int} {k:Nat} (hs:Sst o) (hk:o.length<=k) (h:Vy_ (o.take k) x=true):kr_ x o=o:=by
 rw [List.take_of_length_le hk] at h
 exact BR_ x o hs ((Vx_ o x).1 h)
def Ga_:IR:=
(sq (kr [0] [oD 2 (.nilrow (.int .u64))])
(sq (.reg [oD 3 (.nilrow (.int .u64))])
(sq (sq (.reg [oD 4 (.mov (cI 0))])
(.block 0
(.loop
(sq (sq (kr [0,3,4] [oM 9 4,
oM 10 0,
oE 11 10,
oB 12 .lss 9 11])
(.cond 12
.skip
(.exit 0)))
(sq (.block 1
(sq (sq (kr [0,3,4] [oM 15 0,
oM 16 4,
oI 17 10 15 16,
oA 18 0 17,
oL 19 18,
oB 20 .neq 19 (cI 0)])
(.cond 20
(.exit 1)
.skip))
(sq (kr [0,3,4] [oD 5 (.mov (cI 0)),
oD 6 (.mov cF)])
(sq (sq (.reg [oD 7 (.mov (cI 0))])
(.block 2
(.loop
(sq (sq (kr [0,3,4,5,6,7] [oM 21 7,
oM 22 3,
oE 23 22,
oB 24 .lss 21 23])
(.cond 24
.skip
(.exit 2)))
(sq (.block 3
(sq (kd [0,3,4,5,6,7] [(oM 27 6,[]),
(oM 28 27,[]),
(oF 28 29 (.mov 3),[]),
(oF 28 30 (.mov 7),[0]),
(oF 28 31 (.indexSl 1 29 30),[]),
(oF 28 32 (.load none 31),[]),
(oF 28 33 (.mov 0),[0,0,0,0]),
(oF 28 34 (.mov 4),[0,0,0,0,0]),
(oF 28 35 (.indexSl 10 33 34),[2,0,0,0]),
(oF 28 36 (.fieldAddr 1 35),[3,0,0,0]),
(oF 28 37 (.load none 36),[4,0,0,0]),
(oF 28 38 (.bin .eql 32 37),[]),
(oP 39 28 cT 38,[]),
(oM 6 39,[])])
(sq (kd [0,3,4,5,6,7] [(oM 40 3,[]),
(oM 41 7,[0]),
(oI 42 1 40 41,[]),
(oL 43 42,[]),
(oM 44 0,[0,0,0,0]),
(oM 45 4,[0,0,0,0,0]),
(oI 46 10 44 45,[2,0,0,0]),
(oA 47 1 46,[3,0,0,0]),
(oL 48 47,[4,0,0,0]),
(oB 49 .lss 43 48,[])])
(.cond 49
(kr [0,3,4,6,7] [oM 50 7,
oB 51 .add 50 (cI 1),
oM 5 51])
.skip))))
(kr [0,3,4,5,6,7] [oM 25 7,
oB 26 .add 25 (cI 1),
oM 7 26]))))))
(sq (kr [0,3,4,5,6] [oM 52 6,
oD 53 (.un .not 52)])
(.cond 53
(sq (kr [0,3,4,5] [oD 54 (.slice0 (.int .u64)),
oM 55 3,
oM 56 5,
oD 57 (.slice 1 55 none (some 56) none),
oD 58 (.append (.int .u64) 8 54 57),
oM 8 58])
(sq (kr [0,3,4,5,8] [oM 59 8,
oM 60 0,
oM 61 4,
oI 62 10 60 61,
oA 63 1 62,
oL 64 63,
oD 65 (.sliceAll (.int .u64) 1 [(0,1,64)]),
oD 66 (.append (.int .u64) 8 59 65),
oM 8 66])
(kr [0,3,4,5,8] [oM 67 8,
oM 68 3,
oM 69 5,
oD 70 (.slice 1 68 (some 69) none none),
oD 71 (.append (.int .u64) 8 67 70),
oM 3 71])))
.skip))))))
(kr [0,3,4] [oM 13 4,
oB 14 .add 13 (cI 1),
oM 4 14]))))))
(sq (kr [3] [oM 72 3,
oM 2 72])
.ret))))
def gj_:List RD:=[.tmp 2 true (some (.int .u64))]
theorem gH_:zl_ Tryz.prog Tryz.f20 Ga_ gj_=true:=by kernel_rfl
def Wb_:List AV->List Obj->Option (Prop × AV)
 | [.imm ty0 l],[]=>ja_ ty0 Y2 l fun l=>some ((l.length<=1000000,.imm (.int .u64) (poA l)))
 | _,_=>none
theorem VL_:ze_ Tryz.prog 20 (RoF Wb_).sum:=by
 refine zm_ Tryz.func20 gH_ (zd_ _) fun args objs p v e=>?_
 unfold Wb_ at e
 split at e
 ·rename_i ty0 l
  obtain rfl:=QW_ e
  replace e:=QX_ e
  cases e
  refine ⟨rfl,fun hw ho hp=>?_⟩
  change List AC at l
  clear hw ho
  have hl:=hp
  repeat'(intro t ht;first|(cases t<;>first|(cases ht;done)|(try simp only[zh_]at ht;try(exfalso;first|contradiction|omega)))|((first|refine za_ ht ?_|refine ht ?_ ?_|refine ht.1 ?_ ?_|refine ht ?_)<;>clear ht))
  all_goals first
   | exact True.intro
   | (intro r h1 h2;clear h1;refine h2 ⟨[0,3,4],Nat,(fun i=>i<=l.length),fun i=>[.imm Y2 l,.own 0,.int .i64 i],fun i=>[.row false (.int .u64) (poF (Kr_ (l.take i)))],fun i=>l.length - i,⟨0,Nat.zero_le _,rfl,rfl⟩,?_⟩;clear h2)
  rintro i hi
  have hol:=Xf_ (l.take i)
  have hpl:=gA_ (Kr_ (l.take i)) []
  rw [List.length_take] at hol
  have hs:=Wr_ (Kr_ (l.take i))
  change (poF (Kr_ (l.take i))).length<=_ at hpl
  rw [List.length_nil] at hpl
  have hst:∀ d,i < l.length->(l.getD i d).1=0->poF (Kr_ (l.take (i+1)))=kr_ (l.getD i d).2.1 (poF (Kr_ (l.take i))):=fun d h1 h2=>by
   rw [Ws_ h1 d,if_pos h2,zbG_]
  have hsk:∀ d,i < l.length->¬ (l.getD i d).1=0->poF (Kr_ (l.take (i+1)))=poF (Kr_ (l.take i)):=fun d h1 h2=>by
   rw [Ws_ h1 d,if_neg h2,List.append_nil]
  repeat'(intro t ht;first|(cases t<;>first|(cases ht;done)|(try simp only[zh_]at ht;try(exfalso;first|contradiction|omega)))|((first|refine za_ ht ?_|refine ht ?_ ?_|refine ht.1 ?_ ?_|refine ht ?_)<;>clear ht))
  all_goals first
   | exact True.intro
   | omega
   | ((try dsimp only);constructor<;>omega)
   | ((try dsimp only);simp only [zi_];omega)
   | (have e9:l.take i=l:=List.take_of_length_le (by omega)
      rw [e9];exact ⟨rfl,rfl⟩)
   | (have e9:=hsk _ (by omega) ht
      refine ⟨i+1,?_,?_,rfl,?_⟩
      ·dsimp only;omega
      ·dsimp only;omega
      ·dsimp only;rw [e9])
   | (intro r h1 h2;clear h1;refine h2 ⟨[0,3,4,5,6,7],Nat,(fun k=>k<=(poF (Kr_ (l.take i))).length),fun k=>[.imm Y2 l,.own 0,.int .i64 i,.int .i64 (atM (l.getD i (Y2).dflt).2.1 (poF (Kr_ (l.take i))) k),.bool (Vy_ ((poF (Kr_ (l.take i))).take k) (l.getD i (Y2).dflt).2.1),.int .i64 k],fun _=>[.row false (.int .u64) (poF (Kr_ (l.take i)))],fun k=>(poF (Kr_ (l.take i))).length - k,⟨0,Nat.zero_le _,(by dsimp only;rw [zfN_];rfl),rfl⟩,?_⟩;clear h2)
  rintro k hk
  have hit:i < l.length:=by omega
  have hx0:(l.getD i (Y2).dflt).1=0:=by assumption
  have hst':=hst _ hit hx0
  clear hst hsk
  generalize poF (Kr_ (l.take i))=o at*
  have h1:=fun h=>UK_ (o:=o) (k:=k) (x:=(l.getD i (Y2).dflt).2.1) h
  have h2:=fun h=>zfL_ (x:=(l.getD i (Y2).dflt).2.1) (o:=o) (k:=k) hs h
  have h3:=fun h=>zfM_ (x:=(l.getD i (Y2).dflt).2.1) (o:=o) (k:=k) hs h
  have h4:=fun h=>B1_ (l.getD i (Y2).dflt).2.1 (o:=o) (k:=k) h
  have h5:=Bd_ (l.getD i (Y2).dflt).2.1 o
  have h6:=fun (h:o.length<=k) a=>zdN_ (x:=(l.getD i (Y2).dflt).2.1) hs h a
  have h7:=fun (h:o.length<=k) a=>zci_ (x:=(l.getD i (Y2).dflt).2.1) hs h a
  repeat'(intro t ht;first|(cases t<;>first|(cases ht;done)|(try simp only[zh_]at ht;try(exfalso;first|contradiction|omega)))|((first|refine za_ ht ?_|refine ht ?_ ?_|refine ht.1 ?_ ?_|refine ht ?_)<;>clear ht))
  all_goals (try simp only [Int.toNat_natCast,Int.sub_zero] at*)
  all_goals (try rename Vy_ _ _=_=>hany)
  all_goals first
   | exact True.intro
   | omega
   | (constructor<;>omega)
   | ((try dsimp only);simp only [zi_];omega)
   | (have e1:=h1 (by omega)
      first
       | (have e2:=h2 (by omega) ht
          refine ⟨k+1,?_,?_,?_,by first | rfl | exact True.intro⟩
          ·(try dsimp only);omega
          ·(try dsimp only);omega
          ·(try dsimp only);rw [e1,e2,hany];rfl)
       | (have e2:=h3 (by omega) ht
          refine ⟨k+1,?_,?_,?_,by first | rfl | exact True.intro⟩
          ·(try dsimp only);omega
          ·(try dsimp only);omega
          ·(try dsimp only);rw [e1,e2,hany];rfl))
   | (have e1:=h4 (by omega)
      simp only [List.length_append,List.length_take,List.length_drop,List.length_cons,List.length_nil];constructor<;>omega)
   | (have e1:=h6 (by omega) hany
      refine ⟨i+1,?_,?_,rfl,?_⟩
      ·(try dsimp only);omega
      ·(try dsimp only);omega
      ·(try dsimp only);rw [hst',<- e1])
   | (have e1:=h7 (by omega) hany
      refine ⟨i+1,?_,?_,rfl,?_⟩
      ·(try dsimp only);omega
      ·(try dsimp only);omega
      ·(try dsimp only);rw [hst',e1])
 ·cases e
end Go.Eng
