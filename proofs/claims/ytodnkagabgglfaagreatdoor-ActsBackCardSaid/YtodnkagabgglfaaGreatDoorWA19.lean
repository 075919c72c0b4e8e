/- Parts of the proof: Z1, F6, Z3, Z4, Z2, H5, H6, K1, K3, K4, K5, K6, K7, P1, V1, HE, HF. No condition. -/
import Derived.Test.YtodnkagabgglfaaGreatDoorProg
import Derived.Test.YtodnkagabgglfaaGreatDoorWA10
import Derived.KernelRfl
import Derived.Test.YtodnkagabgglfaaGreatDoorWA17
import Derived.Test.YtodnkagabgglfaaGreatDoorWA14
import Derived.Test.YtodnkagabgglfaaGreatDoorWA15
import Derived.Test.YtodnkagabgglfaaGreatDoorWA12
import Derived.Test.YtodnkagabgglfaaGreatDoorWA18
namespace Go.Eng
open Go.Proofs
set_option linter.unusedVariables false
set_option linter.unusedSimpArgs false
set_option maxRecDepth 100000
set_option maxHeartbeats 1000000
def HL_:IR:=
(sq (kr [0] [oD 2 (.mov (.c (.imm (.int .i64) []))),
oD 3 (.mov cF)])
(sq (sq (.reg [oM 4 0])
(.block 0
(sq (.reg [oB 6 .eql 4 (cI 0),
oM 5 6])
(.cond 5
(sq (.reg [oD 7 (.sliceAll (.int .i64) 3 [(0,1,(cI 4)),(1,1,(cI 2)),(2,1,(cI (-6)))]),
oM 2 7,
oD 3 (.mov cT)])
.ret)
(sq (sq (.reg [oB 9 .eql 4 (cI 22),
oM 8 9])
(.cond 8
.skip
(sq (kr [4] [oB 10 .eql 4 (cI 21),
oM 8 10])
(.cond 8
.skip
(.reg [oB 11 .eql 4 (cI 65535),
oM 8 11])))))
(.cond 8
(sq (kr [] [oD 12 (.sliceAll (.int .i64) 1 [(0,1,(cI 4))]),
oM 2 12,
oD 3 (.mov cT)])
.ret)
(sq (sq (kr [4] [oB 14 .eql 4 (cI 15),
oM 13 14])
(.cond 13
.skip
(.reg [oB 15 .eql 4 (cI 23),
oM 13 15])))
(.cond 13
(sq (.reg [oD 16 (.sliceAll (.int .i64) 2 [(0,1,(cI 1)),(1,1,(cI (-3)))]),
oM 2 16,
oD 3 (.mov cT)])
.ret)
(sq (sq (.reg [oB 18 .eql 4 (cI 11),
oM 17 18])
(.cond 17
.skip
(sq (kr [4] [oB 19 .eql 4 (cI 12),
oM 17 19])
(.cond 17
.skip
(sq (.reg [oB 20 .eql 4 (cI 16),
oM 17 20])
(.cond 17
.skip
(sq (.reg [oB 21 .eql 4 (cI 18),
oM 17 21])
(.cond 17
.skip
(sq (kr [4] [oB 22 .eql 4 (cI 24),
oM 17 22])
(.cond 17
.skip
(.reg [oB 23 .eql 4 (cI 27),
oM 17 23])))))))))))
(.cond 17
(sq (kr [] [oD 24 (.sliceAll (.int .i64) 1 [(0,1,(cI (-4)))]),
oM 2 24,
oD 3 (.mov cT)])
.ret)
(sq (sq (kr [4] [oB 26 .eql 4 (cI 17),
oM 25 26])
(.cond 25
.skip
(sq (.reg [oB 27 .eql 4 (cI 19),
oM 25 27])
(.cond 25
.skip
(sq (.reg [oB 28 .eql 4 (cI 20),
oM 25 28])
(.cond 25
.skip
(kr [4] [oB 29 .eql 4 (cI 26),
oM 25 29])))))))
(.cond 25
(sq (kr [] [oD 30 (.sliceAll (.int .i64) 2 [(0,1,(cI 2)),(1,1,(cI (-2)))]),
oM 2 30,
oD 3 (.mov cT)])
.ret)
.skip))))))))))))
(sq (kr [] [oD 2 (.mov (.c (.imm (.int .i64) []))),
oD 3 (.mov cF)])
.ret)))
def h8_:List RD:=[.tmp 2 true (some (.int .i64)),.tmp 3 true none]
theorem Ho_:zn_ Tryz.prog Tryz.f65 HL_ h8_=true:=by kernel_rfl
def Xp_:List AV->List Obj->Option (Prop × AV)
 | [.int .i64 q],[]=>some ((True,.tup [.imm (.int .i64) (zq_ q),.bool (y2_ q)]))
 | _,_=>none
theorem gI_:ze_ Tryz.prog 65 (RoF Xp_).sum:=by
 refine zm_ Tryz.func65 Ho_ (zd_ _) fun args objs p v e=>?_
 unfold Xp_ at e
 split at e
 ·rename_i q
  cases e
  refine ⟨rfl,fun hw ho hp=>?_⟩
  clear hw ho
  repeat'(intro t ht;first|(cases t<;>first|(cases ht;done)|(try simp only[zh_]at ht;try(exfalso;first|contradiction|omega)))|((first|refine za_ ht ?_|refine ht ?_ ?_|refine ht.1 ?_ ?_|refine ht ?_)<;>clear ht))
  all_goals first
   | exact True.intro
   | (have h:=bq_ (t:=q) (by omega)
      rw [h.1,h.2];exact ⟨rfl,rfl⟩)
   | (subst_vars;exact ⟨rfl,rfl⟩)
   | (have h:q=0\/(q=22\/q=21\/q=65535)\/(q=15\/q=23)\/(q=17\/q=19\/q=26\/q=20)\/(q=11\/q=12\/q=16\/q=18\/q=24\/q=27):=by omega
      rcases h with rfl | (rfl | rfl | rfl) | (rfl | rfl) | (rfl | rfl | rfl | rfl) | (rfl | rfl | rfl | rfl | rfl | rfl)<;>first | (exfalso;omega) | exact ⟨rfl,rfl⟩)
 ·cases e
def UR_:IR:=
(sq (kr [0,1] [oD 4 (.mov (cI 0))])
(sq (sq (.reg [oM 5 0])
(.block 0
(sq (.reg [oB 7 .eql 5 (cI 0),
oM 6 7])
(.cond 6
(sq (.reg [oM 8 1,
oB 9 .eql 8 (.c (.int .u64 0))])
(.cond 9
(sq (kr [] [oD 4 (.mov (cI 517))])
.ret)
.skip))
(sq (.reg [oB 11 .eql 5 (cI 22),
oM 10 11])
(.cond 10
(sq (kr [1] [oM 12 1,
oB 13 .gtr 12 (.c (.int .u64 4294967040))])
(.cond 13
(sq (.reg [oD 4 (.mov (cI 522))])
.ret)
.skip))
(sq (kr [1,5] [oB 15 .eql 5 (cI 17),
oM 14 15])
(.cond 14
(sq (kr [1] [oM 16 1,
oB 17 .neq 16 (.c (.int .u64 33024)),
oM 18 17,
oT 18 19 (.mov 1),
oT 18 20 (.bin .neq 19 (.c (.int .u64 34984))),
oP 21 18 20 cF])
(.cond 21
(sq (kr [] [oD 4 (.mov (cI 518))])
.ret)
.skip))
(sq (.reg [oB 23 .eql 5 (cI 19),
oM 22 23])
(.cond 22
(sq (kr [1] [oM 24 1,
oB 25 .neq 24 (.c (.int .u64 34887)),
oM 26 25,
oT 26 27 (.mov 1),
oT 26 28 (.bin .neq 27 (.c (.int .u64 34888))),
oP 29 26 28 cF])
(.cond 29
(sq (kr [] [oD 4 (.mov (cI 518))])
.ret)
.skip))
(sq (.reg [oB 31 .eql 5 (cI 26),
oM 30 31])
(.cond 30
(sq (kr [1] [oM 32 1,
oB 33 .neq 32 (.c (.int .u64 35047))])
(.cond 33
(sq (.reg [oD 4 (.mov (cI 518))])
.ret)
.skip))
.skip))))))))))))
(sq (kr [] [oD 4 (.mov (cI 0))])
.ret)))
def u3_:List RD:=[.tmp 4 true none]
theorem Us_:zn_ Tryz.prog Tryz.f68 UR_ u3_=true:=by kernel_rfl
def wb_:List AV->List Obj->Option (Prop × AV)
 | [.int .i64 q,.int .u64 n],[]=>some ((True,.int .i64 (vf_ q n)))
 | _,_=>none
theorem vw_:ze_ Tryz.prog 68 (RoF wb_).sum:=by
 refine zm_ Tryz.func68 Us_ (zd_ _) fun args objs p v e=>?_
 unfold wb_ at e
 split at e
 ·rename_i q n
  cases e
  refine ⟨rfl,fun hw ho hp=>?_⟩
  clear hw ho
  repeat'(intro t ht;first|(cases t<;>first|(cases ht;done)|(try simp only[zh_]at ht;try(exfalso;first|contradiction|omega)))|((first|refine za_ ht ?_|refine ht ?_ ?_|refine ht.1 ?_ ?_|refine ht ?_)<;>clear ht))
  all_goals first
   | exact True.intro
   | (refine ⟨congrArg (AV.int .i64) ?_,rfl⟩;unfold vf_;repeat' split
      all_goals first | rfl | omega)
 ·cases e
def HQ_:IR:=
(sq (kr [0] [oD 1 (.boxv 0),
oD 2 (.mov cF)])
(sq (kr [1] [oA 3 0 1,
oL 4 3,
oB 5 .geq 4 (cI 4),
oM 6 5,
oT 6 7 (.fieldAddr 0 1),
oT 6 8 (.load none 7),
oT 6 9 (.bin .leq 8 (cI 60000)),
oP 10 6 9 cF,
oM 11 10,
oT 11 12 (.fieldAddr 1 1),
oT 11 13 (.load none 12),
oT 11 14 (.bin .geq 13 (cI 1)),
oP 15 11 14 cF,
oM 16 15,
oT 16 17 (.fieldAddr 1 1),
oT 16 18 (.load none 17),
oT 16 19 (.bin .leq 18 (cI 64)),
oP 20 16 19 cF,
oM 21 20,
oT 21 22 (.fieldAddr 3 1),
oT 21 23 (.load none 22),
oT 21 24 (.bin .neq 23 (cI 0)),
oP 25 21 24 cF,
oM 26 25,
oT 26 27 (.fieldAddr 4 1),
oT 26 28 (.load none 27),
oT 26 29 (.bin .neq 28 (cI 0)),
oP 30 26 29 cF,
oM 2 30])
.ret))
def Hd_:List RD:=[.tmp 2 true none]
theorem Ht_:zn_ Tryz.prog Tryz.f102 HQ_ Hd_=true:=by kernel_rfl
def Xu_:List AV->List Obj->Option (Prop × AV)
 | [.agg [.int .i64 least,.int .i64 step,.bool pad,.int .i64 bad,.int .i64 odd]],[]=>some ((4<=least/\least<=60000/\1<=step/\step<=64/\bad ≠ 0/\odd ≠ 0,.bool true))
 | _,_=>none
theorem gN_:ze_ Tryz.prog 102 (RoF Xu_).sum:=by
 refine zm_ Tryz.func102 Ht_ (zd_ _) fun args objs p v e=>?_
 unfold Xu_ at e
 split at e
 ·rename_i least step pad bad odd
  cases e
  refine ⟨rfl,fun hw ho hp=>?_⟩
  clear hw ho
  obtain ⟨h1,h2,h3,h4,h5,h6⟩:=hp
  repeat'(intro t ht;first|(cases t<;>first|(cases ht;done)|(try simp only[zh_]at ht;try(exfalso;first|contradiction|omega)))|((first|refine za_ ht ?_|refine ht ?_ ?_|refine ht.1 ?_ ?_|refine ht ?_)<;>clear ht))
  all_goals first
   | exact True.intro
   | exact ⟨rfl,rfl⟩
   | (exfalso;omega)
   | (refine ⟨congrArg AV.bool ?_,rfl⟩;simp;omega)
 ·cases e
def HP_:IR:=
(sq (kr [0,1] [oD 2 (.boxv 0),
oD 4 (.box [.int .i64 0,.imm (.int .u8) []]),
oD 5 (.mov (cI 0)),
oD 6 (.mov (cI 0))])
(sq (sq (.reg [oK 10 5 2,
oC 11 102 [10],
oD 12 (.un .not 11)])
(.cond 12
(sq (kr [4] [oD 13 (.build [.int .i64 0,.imm (.int .u8) []] []),
oS 2 4 13,
oD 5 (.mov (cI 0)),
oD 6 (.mov (cI 10001))])
.ret)
.skip))
(sq (sq (kr [1,2,4] [oM 14 1,
oE 15 14,
oB 16 .lss 15 (cI 4)])
(.cond 16
(sq (kd [2,4] [(oD 17 (.build [.int .i64 0,.imm (.int .u8) []] []),[]),
(oA 18 3 2,[0]),
(oL 19 18,[1]),
(oS 2 4 17,[0,0]),
(oD 5 (.mov (cI 0)),[1,0]),
(oM 6 19,[])])
.ret)
.skip))
(sq (kr [1,2,4] [oM 20 1,
oD 21 (.slice 1 20 (some (cI 2)) (some (cI 4)) none),
oC 22 103 [21],
oD 23 (.conv .i64 22),
oM 7 23])
(sq (sq (kr [1,2,4,7] [oM 24 7,
oA 25 0 2,
oL 26 25,
oB 27 .lss 24 26,
oM 28 27,
oF 28 29 (.fieldAddr 2 2),
oF 28 30 (.load none 29),
oF 28 31 (.un .not 30),
oF 28 32 (.mov 31),
oT 32 33 (.mov 7),
oT 32 34 (.fieldAddr 1 2),
oT 32 35 (.load none 34),
oT 32 36 (.bin .rem 33 35),
oT 32 37 (.bin .neq 36 (cI 0)),
oF 28 38 (.pick 32 37 cF),
oP 39 28 cT 38])
(.cond 39
(sq (kd [2,4] [(oD 40 (.build [.int .i64 0,.imm (.int .u8) []] []),[]),
(oA 41 3 2,[0]),
(oL 42 41,[1]),
(oS 2 4 40,[0,0]),
(oD 5 (.mov (cI 0)),[1,0]),
(oM 6 42,[])])
.ret)
.skip))
(sq (kr [1,2,4,7] [oM 43 7,
oM 8 43])
(sq (sq (.reg [oA 44 2 2,
oL 45 44])
(.cond 45
(kr [1,2,4,7] [oM 46 7,
oM 47 7,
oA 48 1 2,
oL 49 48,
oC 50 104 [47,49],
oB 51 .add 46 50,
oM 8 51])
.skip))
(sq (sq (kr [1,2,4,7,8] [oM 52 8,
oM 53 1,
oE 54 53,
oB 55 .gtr 52 54])
(.cond 55
(sq (kd [2,4] [(oD 56 (.build [.int .i64 0,.imm (.int .u8) []] []),[]),
(oA 57 3 2,[0]),
(oL 58 57,[1]),
(oS 2 4 56,[0,0]),
(oD 5 (.mov (cI 0)),[1,0]),
(oM 6 58,[])])
.ret)
.skip))
(sq (sq (.reg [oM 59 7,
oM 9 59])
(.block 0
(.loop
(sq (sq (kr [1,2,4,7,8,9] [oM 60 9,
oM 61 8,
oB 62 .lss 60 61])
(.cond 62
.skip
(.exit 0)))
(sq (.block 1
(sq (kr [1,2,4,7,8,9] [oM 65 1,
oM 66 9,
oI 67 1 65 66,
oL 68 67,
oB 69 .neq 68 (.c (.int .u8 0))])
(.cond 69
(sq (kd [2,4] [(oD 70 (.build [.int .i64 0,.imm (.int .u8) []] []),[]),
(oA 71 4 2,[0]),
(oL 72 71,[1]),
(oS 2 4 70,[0,0]),
(oD 5 (.mov (cI 0)),[1,0]),
(oM 6 72,[])])
.ret)
.skip)))
(kr [1,2,4,7,8,9] [oM 63 9,
oB 64 .add 63 (cI 1),
oM 9 64]))))))
(sq (kd [1,4,7,8] [(oM 73 1,[]),
(oD 74 (.slice 1 73 none (some (cI 2)) none),[]),
(oC 75 103 [74],[]),
(oD 76 (.conv .i64 75),[]),
(oD 77 (.slice0 (.int .u8)),[0,0,0,0]),
(oM 78 1,[0,0,0,0,0]),
(oM 79 7,[0,0,0,0,0,0]),
(oD 80 (.slice 1 78 (some (cI 4)) (some 79) none),[2,0,0,0,0]),
(oD 81 (.append (.int .u8) 1 77 80),[4]),
(oD 82 (.buildAll 2 [(0,1,76),(1,1,81)]),[]),
(oM 83 8,[0,0,0,0,0,0,0,0,0,0]),
(oS 2 4 82,[0]),
(oM 5 83,[]),
(oD 6 (.mov (cI 0)),[])])
.ret))))))))))
def Hc_:List RD:=[.cell 4 (some 2) true [],.tmp 5 true none,.tmp 6 true none]
theorem Hs_:zn_ Tryz.prog Tryz.f63 HP_ Hc_=true:=by kernel_rfl
def Xt_:List AV->List Obj->Option (Prop × AV)
 | [.agg [.int .i64 least,.int .i64 step,.bool pad,.int .i64 bad,.int .i64 odd],.imm (.int .u8) b],[]=>some ((pad=false/\(4<=least/\least<=60000/\1<=step/\step<=64/\bad ≠ 0/\odd ≠ 0)/\b.length<=140737488355328,.tup [.agg [.int .i64 (tlI b least step bad (tT b)),.imm (.int .u8) (tlR b least step bad)],.int .i64 (tlI b least step bad (tN b)),.int .i64 (tlE b least step bad)]))
 | _,_=>none
theorem gM_:ze_ Tryz.prog 63 (RoF Xt_).sum:=by
 refine zm_ Tryz.func63 Hs_ (zb_ (s:=RoF Xu_) gN_ (zb_ (s:=RoF Q5_) Kh_ (zd_ _))) fun args objs p v e=>?_
 unfold Xt_ at e
 split at e
 ·rename_i least step pad bad odd b
  cases e
  refine ⟨rfl,fun hw ho hp=>?_⟩
  change List Int at b
  have hb:∀ x ∈ (b:List Int),(0:Int)<=x/\x<=255:=fun x hx=>(hw _ (by simp:AV.imm (.int .u8) b ∈ _)).1 x hx
  clear hw ho
  obtain ⟨rfl,hs,hl⟩:=hp
  have hs':=hs
  obtain ⟨h1,h2,h3,h4',h5,h6⟩:=hs'
  have hT:0<=tT b/\tT b<=65535:=K6_ (a:=0) hb
  have hN:0<=tN b/\tN b<=65535:=K6_ (a:=2) hb
  have v1:z9_ ((b.take (4:Int).toNat).drop (2:Int).toNat)=tN b:=by unfold tN;rw [List.drop_take];rfl
  have v2:z9_ ((b.take (2:Int).toNat).drop (0:Int).toNat)=tT b:=rfl
  have v3:z9_ (b.take (2:Int).toNat)=tT b:=rfl
  have hl2:(b.take 2).length<=8:=by rw [List.length_take];omega
  have hl4:((b.take 4).drop 2).length<=8:=by rw [List.length_drop,List.length_take];omega
  have hm:=yu_ (a:=tN b) (s:=step) hN.1 h3
  repeat'(intro t ht;first|(cases t<;>first|(cases ht;done)|(try simp only[zh_]at ht;try(exfalso;first|contradiction|omega)))|((first|refine za_ ht ?_|refine ht ?_ ?_|refine ht.1 ?_ ?_|refine ht ?_)<;>clear ht))
  all_goals (try simp only [v1,v2,v3] at*)
  all_goals first
   | exact True.intro
   | exact hs
   | exact hl2
   | exact hl4
   | omega
   | ((try simp only [zk_,zl_,zi_] at*);omega)
   | (have hE:tlE b least step bad=bad:=by
       unfold tlE
       by_cases h4:b.length < 4
       ·exact if_pos h4
       ·rw [if_neg h4]
        by_cases hq:tN b < least\/¬ (tN b).tmod step=0
        ·exact if_pos hq
        ·rw [if_neg hq];exact if_pos (by omega)
      unfold tlI tlR;simp only [hE,if_neg h5];first | done | exact ⟨rfl,by first | rfl | exact True.intro⟩ | exact ⟨trivial,trivial⟩)
   | (intro r h1 h2;refine h1 ⟨1,?_⟩;clear h1 h2)
  all_goals repeat'(intro t ht;first|(cases t<;>first|(cases ht;done)|(try simp only[zh_]at ht;try(exfalso;first|contradiction|omega)))|((first|refine za_ ht ?_|refine ht ?_ ?_|refine ht.1 ?_ ?_|refine ht ?_)<;>clear ht))
  all_goals (try simp only [v1,v2,v3] at*)
  all_goals first
   | exact True.intro
   | omega
   | exact hl2
   | exact hl4
   | (have hT':0<=z9_ (List.take (Int.toNat 2) b)/\z9_ (List.take (Int.toNat 2) b)<=65535:=hT;(try simp only [zk_,zl_,zi_] at*);omega)
   | (simp only [List.length_drop,List.length_take,List.length_nil];constructor<;>omega)
   | ((try simp only [zk_,zl_,zi_] at*);omega)
   | (have hE:tlE b least step bad=0:=by unfold tlE;rw [if_neg (by omega),if_neg (by omega)];exact if_neg (by omega)
      unfold tlI tlR;simp only [hE,if_true];first | done | exact ⟨rfl,by first | rfl | exact True.intro⟩ | exact ⟨trivial,trivial⟩)
 ·cases e
def yi_:IR:=
(sq (kr [0] [oD 2 (.mov cF)])
(sq (kr [0] [oM 6 0,
oC 7 109 [6],
oM 5 7,
oX 8 5 0,
oX 9 5 1,
oD 3 (.box [.str [],.int .i64 0,.int .i64 0,.kb false,.int .i64 0,.imm (.int .u64) []]),
oS 6 3 8,
oM 4 9])
(sq (kr [0,4] [oM 10 4,
oM 11 10,
oT 11 12 (.mov 0),
oT 11 13 (.bin .gtr 12 (cI 2)),
oP 14 11 13 cF,
oM 15 14,
oT 15 16 (.mov 0),
oT 15 17 (.bin .neq 16 (cI 39)),
oP 18 15 17 cF,
oM 2 18])
.ret)))
def X6_:List RD:=[.tmp 2 true none]
theorem yc_:zn_ Tryz.prog Tryz.f74 yi_ X6_=true:=by kernel_rfl
def kV_:List AV->List Obj->Option (Prop × AV)
 | [.int .i64 n],[]=>some ((True,.bool (Js_ n)))
 | _,_=>none
theorem xC_:ze_ Tryz.prog 74 (RoF kV_).sum:=by
 refine zm_ Tryz.func74 yc_ (zb_ (s:=RoF KI_) KQ_ (zd_ _)) fun args objs p v e=>?_
 unfold kV_ at e
 split at e
 ·rename_i n
  cases e
  refine ⟨rfl,fun hw ho hp=>?_⟩
  repeat'(intro t ht;first|(cases t<;>first|(cases ht;done)|(try simp only[zh_]at ht))|((first|refine za_ ht ?_|refine ht ?_ ?_|refine ht.1 ?_ ?_|refine ht ?_)<;>clear ht))
  all_goals try (try simp only [zk_,zl_,zi_] at*)
  all_goals first
   | exact True.intro
   | (refine ⟨?_,trivial⟩;unfold Js_;congr 1;rw [Bool.eq_iff_iff];first | (have h:=Z7_.1 (by assumption);simp at*;omega) | (have h:=k8_.1 (by assumption);simp at*;omega) | (simp at*;omega))
 ·cases e
theorem gA_:∀ (w:List Int),0<=(w.map zr_).sum
 | []=>Int.le_refl _
 | n :: r=>by
   have ha:0<=zr_ n:=by unfold zr_;split<;>omega
   have hr:=gA_ r
   rw [List.map_cons,List.sum_cons];omega
theorem YW_:∀ (w b o:List Int),(ZU_ w b o).2=1->(b.length:Int) < (w.map zr_).sum
 | [],b,o,h=>by cases h
 | n :: r,b,o,h=>by
   have ha:0<=zr_ n:=by unfold zr_;split<;>omega
   have hr:=gA_ r
   simp only [ZU_] at h
   rw [List.map_cons,List.sum_cons]
   split at h
   ·omega
   ·split at h
    ·have:=YW_ r _ _ h;rw [List.length_drop] at this;omega
    ·split at h
     ·have:=YW_ r _ _ h;rw [List.length_drop] at this;omega
     ·exact absurd h (by decide)
theorem za4_ {w b:List Int} (h:ZG_ w b=1):(b.length:Int) < zF_ w:=by
 unfold ZG_ Z1_ at h
 split at h
 ·rename_i c
  unfold zF_;rw [if_pos c];exact YW_ _ _ _ h
 ·exact absurd h (by decide)
theorem rI_0 {b:List Int} (h:rE b=0):(∀ x,rI b x=x)/\∀ l,rR b l=l:=⟨fun _=>if_pos h,fun _=>if_pos h⟩
theorem zd5_ {b:List Int} (hb:∀ x ∈ b,0<=x/\x<=255):∀ x ∈ bd b,0<=x/\x<=255:=fun x hx=>hb x (List.mem_of_mem_take (List.mem_of_mem_drop hx))
theorem zd4_ {b:List Int} (h:tlE b 8 8 514=0):4<=(bd b).length:=by
 unfold tlE at h
 split at h
 ·cases h
 ·split at h
  ·cases h
  ·split at h
   ·cases h
   ·unfold bd;rw [List.length_drop,List.length_take];omega
def HK_:IR:=
(sq (kr [0] [oD 2 (.box [.int .i64 0,.int .i64 0,.kb false,.int .u64 0,.imm (.int .u8) [],.imm (.int .u8) []]),
oD 3 (.mov (cI 0))])
(sq (kr [0,2] [oM 9 0,
oC 10 105 [9],
oM 8 10,
oX 11 8 0,
oX 12 8 1,
oX 13 8 2,
oD 4 (.box [.int .i64 0,.int .i64 0,.kb false,.int .u64 0,.imm (.int .u8) [],.imm (.int .u8) []]),
oS 6 4 11,
oM 5 12,
oM 6 13])
(sq (.block 0
(sq (kr [0,2,4,5,6] [oM 15 6,
oB 16 .eql 15 (cI 1026),
oM 14 16])
(.cond 14
(sq (.reg [oK 17 6 4,
oS 6 2 17,
oD 3 (.mov (cI 527))])
.ret)
(sq (.reg [oM 19 6,
oB 20 .eql 19 (cI 1031),
oM 18 20])
(.cond 18
(sq (kr [2,4] [oK 21 6 4,
oS 6 2 21,
oD 3 (.mov (cI 526))])
.ret)
(sq (kr [0,2,4,5,6] [oM 23 6,
oB 24 .neq 23 (cI 0),
oM 22 24])
(.cond 22
(sq (.reg [oK 25 6 4,
oS 6 2 25,
oD 3 (.mov (cI 528))])
.ret)
(sq (kr [0,2,4,5] [oA 27 0 4,
oL 28 27,
oB 29 .neq 28 (cI 32768),
oM 30 29,
oF 30 31 (.fieldAddr 1 4),
oF 30 32 (.load none 31),
oF 30 33 (.call false (.f 74) [32]),
oF 30 34 (.un .not 33),
oP 35 30 cT 34,
oM 26 35])
(.cond 26
(sq (kr [2,4] [oK 36 6 4,
oS 6 2 36,
oD 3 (.mov (cI 526))])
.ret)
(sq (kr [0,2,4,5] [oA 38 2 4,
oL 39 38,
oM 37 39])
(.cond 37
(sq (.reg [oK 40 6 4,
oS 6 2 40,
oD 3 (.mov (cI 528))])
.ret)
(sq (kr [0,2,4,5] [oM 42 0,
oE 43 42,
oM 44 5,
oB 45 .add 44 (cI 8),
oB 46 .geq 43 45,
oM 47 46,
oF 47 48 (.mov 0),
oF 47 49 (.len 48),
oF 47 50 (.mov 5),
oF 47 51 (.bin .lss 49 50),
oP 52 47 cT 51,
oM 41 52])
(.cond 41
(sq (kr [2,4] [oK 53 6 4,
oS 6 2 53,
oD 3 (.mov (cI 527))])
.ret)
.skip)))))))))))))
(sq (sq (kr [0,2,4,5] [oM 54 5,
oM 7 54])
(.block 1
(.loop
(sq (sq (kr [0,2,4,7] [oM 55 7,
oM 56 0,
oE 57 56,
oB 58 .lss 55 57])
(.cond 58
.skip
(.exit 1)))
(sq (.block 2
(sq (kr [0,2,4,7] [oM 61 0,
oM 62 7,
oI 63 1 61 62,
oL 64 63,
oB 65 .neq 64 (.c (.int .u8 0))])
(.cond 65
(sq (.reg [oK 66 6 4,
oS 6 2 66,
oD 3 (.mov (cI 528))])
.ret)
.skip)))
(kr [0,2,4,7] [oM 59 7,
oB 60 .add 59 (cI 1),
oM 7 60]))))))
(sq (kr [2,4] [oK 67 6 4,
oS 6 2 67,
oD 3 (.mov (cI 0))])
.ret)))))
def h7_:List RD:=[.cell 2 (some 6) true [],.tmp 3 true none]
theorem Hn_:zn_ Tryz.prog Tryz.f64 HK_ h7_=true:=by kernel_rfl
def Xo_:List AV->List Obj->Option (Prop × AV)
 | [.imm (.int .u8) b],[]=>some ((b.length<=140737,.tup [.agg [.int .i64 (rI b (zp_ b)),.int .i64 (rI b (zt_ b)),.bool ((if rE b=0 then zT_ b else false)),.int .u64 (rI b (qp_ b)),.imm (.int .u8) (rR b (Zg_ b)),.imm (.int .u8) (rR b (Zh_ b))],.int .i64 (Ky_ b)]))
 | _,_=>none
theorem gH_:ze_ Tryz.prog 64 (RoF Xo_).sum:=by
 refine zm_ Tryz.func64 Hn_ (zb_ (s:=RoF jp_) yQ_ (zb_ (s:=RoF kV_) xC_ (zd_ _))) fun args objs p v e=>?_
 unfold Xo_ at e
 split at e
 ·rename_i b
  cases e
  refine ⟨rfl,fun hw ho hp=>?_⟩
  change List Int at b
  have hb:∀ x ∈ (b:List Int),(0:Int)<=x/\x<=255:=fun x hx=>(hw (.imm (.int .u8) b) (by simp)).1 x hx
  clear hw ho
  have hdl:=bO_ hb
  by_cases h0:rE b=0
  ·obtain ⟨_,_,hN,hNl⟩:=gh_ hb (hdl.trans h0)
   have hS:Ky_ b=if ¬ (zp_ b=32768/\Js_ (zt_ b)=true) then 526 else if zT_ b=true then 528 else if Zk_ b+8<=b.length then 527 else if zU_ (b.drop (Zk_ b).toNat)=true then 0 else 528:=if_pos (hdl.trans h0)
   obtain ⟨i1,i2⟩:=rI_0 h0
   rw [i1,i1,i1,i2,i2,if_pos h0]
   repeat'(intro t ht;first|(cases t<;>first|(cases ht;done)|(try simp only[zh_]at ht))|((first|refine za_ ht ?_|refine ht ?_ ?_|refine ht.1 ?_ ?_|refine ht ?_)<;>clear ht))
   all_goals first
    | exact True.intro
    | omega
    | contradiction
    | (intro r h1 h2;clear h1;refine h2 ⟨[0,2,4,7],Nat,(fun i=>i<=b.length/\zU_ (b.drop (Zk_ b).toNat)=zU_ (b.drop i)),fun i=>[.imm (.int .u8) b,.ptr 0 0,.ptr 1 0,.int .i64 i],fun _=>[.box [.int .i64 0,.int .i64 0,.bool false,.int .u64 0,.imm (.int .u8) [],.imm (.int .u8) []],.box [.int .i64 (zp_ b),.int .i64 (zt_ b),.bool (zT_ b),.int .u64 (qp_ b),.imm (.int .u8) (Zg_ b),.imm (.int .u8) (Zh_ b)]],fun i=>b.length - i,⟨(Zk_ b).toNat,⟨by omega,rfl⟩,(by simp only [i1,Int.toNat_of_nonneg hN];try rfl),(by simp only [i1,i2,h0,if_true];try rfl)⟩,?_⟩;clear h2)
    | (simp only [i1,zch_,zci_];omega)
    | (exfalso;simp only [i1] at*;omega)
    | (have hS2:=hS;simp only [i1,i2,if_pos h0] at*;rw [hS2];simp_all;done)
   rintro i ⟨hi,he⟩
   (try dsimp only at hi he)
   repeat'(intro t ht;first|(cases t<;>first|(cases ht;done)|(try simp only[zh_]at ht))|((first|refine za_ ht ?_|refine ht ?_ ?_|refine ht.1 ?_ ?_|refine ht ?_)<;>clear ht))
   all_goals (try simp only [i1,if_pos h0] at*)
   all_goals first
    | exact True.intro
    | omega
    | ((try simp only [zk_,zl_,zi_] at*);omega)
    | (have hge:b.length<=i:=by omega
       rw [List.drop_of_length_le hge] at he
       have hS0:Ky_ b=0:=by
        rw [hS,if_neg (not_not_intro ⟨by assumption,by assumption⟩),if_neg (show ¬ zT_ b=true from fun h=>by simp_all),if_neg (by assumption),he];rfl
       rw [hS0];exact ⟨rfl,by first | rfl | exact True.intro⟩)
    | (have hlt:i < b.length:=by omega
       rw [zD_ hlt 0] at he
       unfold zU_ at he
       rw [List.all_cons] at he
       first
        | (have hk:decide (b.getD i 0=0)=true:=decide_eq_true (by assumption)
           rw [hk,Bool.true_and] at he
           exact ⟨i+1,⟨hlt,he⟩,by omega,rfl,by first | rfl | exact True.intro⟩)
        | (have hk:decide (b.getD i 0=0)=false:=decide_eq_false (by assumption)
           rw [hk,Bool.false_and] at he
           have hS0:Ky_ b=528:=by
            rw [hS,if_neg (not_not_intro ⟨by assumption,by assumption⟩),if_neg (show ¬ zT_ b=true from fun h=>by simp_all),if_neg (by assumption)]
            unfold zU_;rw [he];rfl
           rw [hS0];exact ⟨rfl,by first | rfl | exact True.intro⟩))
  ·have hd0:¬ zR_ b=0:=fun h=>h0 (hdl.symm.trans h)
   have hS:Ky_ b=if zR_ b=1026 then 527 else if zR_ b=1031 then 526 else 528:=if_neg hd0
   rw [hdl] at hS
   repeat'(intro t ht;first|(cases t<;>first|(cases ht;done)|(try simp only[zh_]at ht;try(exfalso;first|contradiction|omega)))|((first|refine za_ ht ?_|refine ht ?_ ?_|refine ht.1 ?_ ?_|refine ht ?_)<;>clear ht))
   all_goals first
    | exact True.intro
    | omega
    | contradiction
    | (have hS2:=hS;rw [if_pos (show rE b=1026 by assumption)] at hS2;rw [hS2];exact ⟨rfl,by first | rfl | exact True.intro⟩)
    | (have hS2:=hS;rw [if_neg (show ¬ rE b=1026 by assumption),if_pos (show rE b=1031 by assumption)] at hS2;rw [hS2];exact ⟨rfl,by first | rfl | exact True.intro⟩)
    | (have hS2:=hS;rw [if_neg (show ¬ rE b=1026 by assumption),if_neg (show ¬ rE b=1031 by assumption)] at hS2;rw [hS2];exact ⟨rfl,by first | rfl | exact True.intro⟩)
 ·cases e
end Go.Eng
namespace Go.Eng
open Go.Proofs
set_option linter.unusedVariables false
set_option linter.unusedSimpArgs false
set_option maxRecDepth 100000
set_option maxHeartbeats 1000000
set_option maxHeartbeats 8000000
def Vn_:IR:=
(sq (kr [0] [oD 2 (.box [.int .i64 0,.int .u64 0,.int .u64 0,.int .i64 0,.int .i64 0,.kb false,.int .u64 0,.nils,.nils,.nils]),
oD 3 (.mov (cI 0)),
oD 4 (.mov (cI 0))])
(sq (kr [0,2] [oD 18 (.build [.int .i64 0,.int .i64 0,.kb false,.int .i64 0,.int .i64 0] [(0,1,(cI 8)),(1,1,(cI 8)),(3,1,(cI 514)),(4,1,(cI 514))]),
oM 19 0,
oC 20 63 [18,19],
oM 17 20,
oX 21 17 0,
oX 22 17 1,
oX 23 17 2,
oD 5 (.box [.int .i64 0,.nils]),
oS 2 5 21,
oM 6 22,
oM 7 23])
(sq (sq (kr [2,5,6,7] [oM 24 7,
oB 25 .neq 24 (cI 0)])
(.cond 25
(sq (.reg [oD 26 (.build [.int .i64 0,.int .u64 0,.int .u64 0,.int .i64 0,.int .i64 0,.kb false,.int .u64 0,.nils,.nils,.nils] []),
oM 27 7,
oS 10 2 26,
oD 3 (.mov (cI 0)),
oM 4 27])
.ret)
.skip))
(sq (kr [2,5,6] [oA 28 0 5,
oL 29 28,
oD 30 (.build [.int .i64 0,.int .u64 0,.int .u64 0,.int .i64 0,.int .i64 0,.kb false,.int .u64 0,.nils,.nils,.nils] [(0,1,29)]),
oD 8 (.box [.int .i64 0,.int .u64 0,.int .u64 0,.int .i64 0,.int .i64 0,.kb false,.int .u64 0,.nils,.nils,.nils]),
oS 10 8 30])
(sq (sq (.reg [oA 31 0 8,
oL 32 31,
oB 33 .eql 32 (cI 25)])
(.cond 33
(sq (kr [2,5,6,8] [oA 35 1 5,
oL 36 35,
oC 37 64 [36],
oM 34 37,
oX 38 34 0,
oX 39 34 1,
oD 9 (.box [.int .i64 0,.int .i64 0,.kb false,.int .u64 0,.nils,.nils]),
oS 6 9 38,
oM 10 39])
(sq (sq (kr [2,6,8,9,10] [oM 40 10,
oB 41 .neq 40 (cI 0)])
(.cond 41
(sq (.reg [oD 42 (.build [.int .i64 0,.int .u64 0,.int .u64 0,.int .i64 0,.int .i64 0,.kb false,.int .u64 0,.nils,.nils,.nils] []),
oM 43 10,
oS 10 2 42,
oD 3 (.mov (cI 0)),
oM 4 43])
.ret)
.skip))
(sq (kr [2,6,8,9] [oK 44 6 9,
oA 45 3 8,
oS 6 45 44])
(sq (.reg [oK 46 10 8,
oM 47 6,
oS 10 2 46,
oM 3 47,
oD 4 (.mov (cI 0))])
.ret))))
.skip))
(sq (kr [2,5,6,8] [oA 49 0 8,
oL 50 49,
oC 51 65 [50],
oM 48 51,
oX 52 48 0,
oX 53 48 1,
oM 11 52,
oM 12 53])
(sq (sq (kr [2,5,6,8,11,12] [oM 54 12,
oD 55 (.un .not 54)])
(.cond 55
(sq (.reg [oD 56 (.build [.int .i64 0,.int .u64 0,.int .u64 0,.int .i64 0,.int .i64 0,.kb false,.int .u64 0,.nils,.nils,.nils] []),
oS 10 2 56,
oD 3 (.mov (cI 0)),
oD 4 (.mov (cI 513))])
.ret)
.skip))
(sq (.reg [oM 57 11,
oC 58 66 [57],
oM 13 58])
(sq (sq (kr [2,5,6,8,11,13] [oA 59 0 8,
oL 60 59,
oB 61 .neq 60 (cI 65535),
oM 62 61,
oT 62 63 (.fieldAddr 1 5),
oT 62 64 (.load none 63),
oT 62 65 (.len 64),
oT 62 66 (.mov 13),
oT 62 67 (.bin .neq 65 66),
oP 68 62 67 cF])
(.cond 68
(sq (kr [2] [oD 69 (.build [.int .i64 0,.int .u64 0,.int .u64 0,.int .i64 0,.int .i64 0,.kb false,.int .u64 0,.nils,.nils,.nils] []),
oS 10 2 69,
oD 3 (.mov (cI 0)),
oD 4 (.mov (cI 514))])
.ret)
.skip))
(sq (kr [2,5,6,8,11,13] [oM 71 11,
oA 72 1 5,
oL 73 72,
oC 74 67 [71,73],
oM 70 74,
oX 75 70 0,
oX 76 70 1,
oM 14 75,
oM 15 76])
(sq (sq (kr [2,5,6,8,13,14,15] [oM 77 15,
oB 78 .neq 77 (cI 0)])
(.cond 78
(sq (.reg [oD 79 (.build [.int .i64 0,.int .u64 0,.int .u64 0,.int .i64 0,.int .i64 0,.kb false,.int .u64 0,.nils,.nils,.nils] []),
oS 10 2 79,
oD 3 (.mov (cI 0)),
oD 4 (.mov (cI 518))])
.ret)
.skip))
(sq (sq (.reg [oM 80 14,
oE 81 80,
oB 82 .gtr 81 (cI 0)])
(.cond 82
(kr [2,5,6,8,13,14] [oM 83 14,
oD 84 (.indexSl 1 83 (cI 0)),
oL 85 84,
oA 86 1 8,
oS 1 86 85])
.skip))
(sq (sq (kr [2,5,6,8,13,14] [oM 87 14,
oE 88 87,
oB 89 .gtr 88 (cI 1)])
(.cond 89
(.reg [oM 90 14,
oD 91 (.indexSl 1 90 (cI 1)),
oL 92 91,
oA 93 2 8,
oS 1 93 92])
.skip))
(sq (sq (kr [2,5,6,8,13] [oA 94 0 8,
oL 95 94,
oA 96 1 8,
oL 97 96,
oC 98 68 [95,97],
oM 16 98])
(sq (.reg [oM 99 16,
oB 100 .neq 99 (cI 0)])
(.cond 100
(sq (kr [2,16] [oD 101 (.build [.int .i64 0,.int .u64 0,.int .u64 0,.int .i64 0,.int .i64 0,.kb false,.int .u64 0,.nils,.nils,.nils] []),
oM 102 16,
oS 10 2 101,
oD 3 (.mov (cI 0)),
oM 4 102])
.ret)
.skip)))
(sq (kd [2,5,6,8,13] [(oA 103 9 8,[]),
(oL 104 103,[]),
(oA 105 1 5,[0,0]),
(oL 106 105,[1,0]),
(oM 107 13,[0,0,0,0]),
(oD 108 (.slice 1 106 (some 107) none none),[3,0]),
(oD 109 (.append (.int .u8) 1 104 108),[]),
(oA 110 9 8,[]),
(oS 1 110 109,[])])
(sq (kr [2,6,8] [oK 111 10 8,
oM 112 6,
oS 10 2 111,
oM 3 112,
oD 4 (.mov (cI 0))])
.ret))))))))))))))))
def vL_:List RD:=[.cell 2 (some 10) true [none,none,none,none,none,none,none,(some (.int .u8)),(some (.int .u8)),(some (.int .u8))],.tmp 3 true none,.tmp 4 true none]
theorem v4_:zn_ Tryz.prog Tryz.f40 Vn_ vL_=true:=by kernel_rfl
def jn_:List AV->List Obj->Option (Prop × AV)
 | [.imm (.int .u8) b],[]=>some ((b.length<=100000,.tup [.agg [.int .i64 (acI b (tT b)),.int .u64 (acA b 0),.int .u64 (acA b 1),.int .i64 (acS b (zp_ (bd b))),.int .i64 (acS b (zt_ (bd b))),.bool (acH b),.int .u64 (acS b (qp_ (bd b))),.imm (.int .u8) (acV b (Zg_ (bd b))),.imm (.int .u8) (acV b (Zh_ (bd b))),.imm (.int .u8) (acD b)],.int .i64 (acI b (tN b)),.int .i64 (acE b)]))
 | _,_=>none
theorem yO_:ze_ Tryz.prog 40 (RoF jn_).sum:=by
 refine zm_ Tryz.func40 v4_ (zb_ (s:=RoF Xt_) gM_ (zb_ (s:=RoF Xo_) gH_ (zb_ (s:=RoF Xp_) gI_ (zb_ (s:=RoF WB_) uP_ (zb_ (s:=RoF Xv_) gO_ (zb_ (s:=RoF wb_) vw_ (zd_ _))))))) fun args objs p v e=>?_
 unfold jn_ at e
 split at e
 ·rename_i b
  cases e
  refine ⟨rfl,fun hw ho hp=>?_⟩
  change List Int at b
  have hb:∀ x ∈ (b:List Int),(0:Int)<=x/\x<=255:=fun x hx=>(hw (.imm (.int .u8) b) (by simp)).1 x hx
  clear hw ho
  have hbl:=zc1_ hb
  have hbb:=zd5_ hb
  have hs:(False=False)/\(4<=(8:Int)/\(8:Int)<=60000/\1<=(8:Int)/\(8:Int)<=64/\(514:Int) ≠ 0/\(514:Int) ≠ 0):=⟨rfl,by decide,by decide,by decide,by decide,by decide,by decide⟩
  by_cases hT:tlE b 8 8 514=0
  ·have hI:∀ x,tlI b 8 8 514 x=x:=fun x=>if_pos hT
   have hR:tlR b 8 8 514=bd b:=if_pos hT
   have hge:=zd4_ hT
   by_cases h25:tT b=25
   ·have hE:acE b=Ky_ (bd b):=by unfold acE;rw [if_neg (not_not_intro hT),if_pos h25]
    by_cases h0:Ky_ (bd b)=0
    ·have hd0:zR_ (bd b)=0:=Classical.byContradiction fun h=>by
      unfold Ky_ at h0;rw [if_neg h] at h0
      split at h0
      ·cases h0
      ·split at h0<;>cases h0
     have hr0:rE (bd b)=0:=(bO_ hbb).symm.trans hd0
     obtain ⟨hdI,hdR⟩:=rI_0 hr0
     obtain ⟨n1,n2,n3,n4,n5,n6⟩:=zbz_ (hE.trans h0) h25
     rw [n1,n2,n2,n3,n3,n3,n4,n5,n5,n6,n1,hE,h0]
     repeat'(intro t ht;first|(cases t<;>first|(cases ht;done)|(try simp only[zh_]at ht;try(exfalso;first|contradiction|omega)))|((first|refine za_ ht ?_|refine ht ?_ ?_|refine ht.1 ?_ ?_|refine ht ?_)<;>clear ht))
     all_goals (try simp only [hT,hI,hR,h0,h25,hdI,hdR,if_pos hr0,not_true_eq_false] at*)
     all_goals first
      | exact True.intro
      | omega
      | exact ⟨by first | rfl | exact True.intro,⟨by decide,by decide,by decide,by decide,by decide,by decide⟩,by omega⟩
      | exact ⟨rfl,by first | rfl | exact True.intro⟩
      | exact ⟨True.intro,True.intro⟩
      | (exfalso;simp_all;done)
    ·obtain ⟨n1,n2,n3,n4,n5,n6⟩:=Kp_ (b:=b) (by rw [hE];exact h0)
     rw [n1,n2,n2,n3,n3,n3,n4,n5,n5,n6,n1,hE]
     repeat'(intro t ht;first|(cases t<;>first|(cases ht;done)|(try simp only[zh_]at ht;try(exfalso;first|contradiction|omega)))|((first|refine za_ ht ?_|refine ht ?_ ?_|refine ht.1 ?_ ?_|refine ht ?_)<;>clear ht))
     all_goals (try simp only [hT,hI,hR,h25,not_true_eq_false] at*)
     all_goals first
      | exact True.intro
      | omega
      | exact ⟨by first | rfl | exact True.intro,⟨by decide,by decide,by decide,by decide,by decide,by decide⟩,by omega⟩
      | exact ⟨rfl,by first | rfl | exact True.intro⟩
      | exact ⟨True.intro,True.intro⟩
      | (exfalso;simp_all;done)
   ·cases hK:y2_ (tT b) with
    | false=>
      have hE:acE b=513:=by unfold acE;rw [if_neg (not_not_intro hT),if_neg h25,hK];rfl
      obtain ⟨n1,n2,n3,n4,n5,n6⟩:=Kp_ (b:=b) (by rw [hE];decide)
      rw [n1,n2,n2,n3,n3,n3,n4,n5,n5,n6,n1,hE]
      repeat'(intro t ht;first|(cases t<;>first|(cases ht;done)|(try simp only[zh_]at ht;try(exfalso;first|contradiction|omega)))|((first|refine za_ ht ?_|refine ht ?_ ?_|refine ht.1 ?_ ?_|refine ht ?_)<;>clear ht))
      all_goals (try simp only [hT,hI,hR,not_true_eq_false] at*)
      all_goals first
       | exact True.intro
       | omega
       | exact ⟨by first | rfl | exact True.intro,⟨by decide,by decide,by decide,by decide,by decide,by decide⟩,by omega⟩
       | exact ⟨rfl,by first | rfl | exact True.intro⟩
       | exact ⟨True.intro,True.intro⟩
       | (exfalso;simp_all;done)
    | true=>
      have hE:acE b=plE (tT b) (bd b):=by unfold acE;rw [if_neg (not_not_intro hT),if_neg h25,if_pos hK]
      have hz:=xG_ (tT b)
      have hcn:=Xb_ (tT b)
      have h65:tT b=65535->zF_ (zq_ (tT b))=4:=fun h=>by rw [h];decide
      by_cases hm:¬ tT b=65535/\¬ ((bd b).length:Int)=zF_ (zq_ (tT b))
      ·have hE2:acE b=514:=hE.trans (if_pos hm)
       obtain ⟨n1,n2,n3,n4,n5,n6⟩:=Kp_ (b:=b) (by rw [hE2];decide)
       rw [n1,n2,n2,n3,n3,n3,n4,n5,n5,n6,n1,hE2]
       repeat'(intro t ht;first|(cases t<;>first|(cases ht;done)|(try simp only[zh_]at ht;try(exfalso;first|contradiction|omega)))|((first|refine za_ ht ?_|refine ht ?_ ?_|refine ht.1 ?_ ?_|refine ht ?_)<;>clear ht))
       all_goals (try simp only [hT,hI,hR,not_true_eq_false] at*)
       all_goals first
        | exact True.intro
        | omega
        | exact ⟨by first | rfl | exact True.intro,⟨by decide,by decide,by decide,by decide,by decide,by decide⟩,by omega⟩
        | exact ⟨rfl,by first | rfl | exact True.intro⟩
        | exact ⟨True.intro,True.intro⟩
        | (exfalso;simp_all;done)
      ·have hsz:zF_ (zq_ (tT b))<=(bd b).length:=by
        by_cases h6:tT b=65535
        ·have:=h65 h6;omega
        ·have:((bd b).length:Int)=zF_ (zq_ (tT b)):=Classical.byContradiction fun h=>hm ⟨h6,h⟩
         omega
       have hk1:¬ ZG_ (zq_ (tT b)) (bd b)=1:=fun h=>by have:=za4_ h;omega
       by_cases hk0:ZG_ (zq_ (tT b)) (bd b)=0
       ·have hE2:acE b=vf_ (tT b) ((ZN_ (zq_ (tT b)) (bd b)).getD 0 0):=hE.trans ((if_neg hm).trans (by rw [hk0];rfl))
        have hl:=ha_ hbb hk0
        by_cases hf:vf_ (tT b) ((ZN_ (zq_ (tT b)) (bd b)).getD 0 0)=0
        ·obtain ⟨n1,n2,n3,n4,n5,n6⟩:=zbA_ (hE2.trans hf) h25
         rw [n1,n2,n2,n3,n3,n3,n4,n5,n5,n6,n1,hE2,hf]
         rcases hL:ZN_ (zq_ (tT b)) (bd b) with _ | ⟨u,_ | ⟨w,_ | ⟨w2,r2⟩⟩⟩
         ·have hlen:(ZN_ (zq_ (tT b)) (bd b)).length=0:=by rw [hL];rfl
          rw [hL] at hl hf
          repeat'(intro t ht;first|(cases t<;>first|(cases ht;done)|(try simp only[zh_]at ht;try(exfalso;first|contradiction|omega)))|((first|refine za_ ht ?_|refine ht ?_ ?_|refine ht.1 ?_ ?_|refine ht ?_)<;>clear ht))
          all_goals (try simp only [hT,hI,hR,hL,hk0,List.getD_nil,List.length_nil,not_true_eq_false] at*)
          all_goals first
           | exact True.intro
           | omega
           | exact ⟨by first | rfl | exact True.intro,⟨by decide,by decide,by decide,by decide,by decide,by decide⟩,by omega⟩
           | exact ⟨by omega,by omega⟩
           | (simp only [List.length_drop];constructor<;>omega)
           | exact ⟨rfl,by first | rfl | exact True.intro⟩
           | exact ⟨True.intro,True.intro⟩
           | (exfalso;simp only [List.length_cons,List.length_nil] at*;omega)
           | (exfalso;simp_all;done)
         ·have hlen:(ZN_ (zq_ (tT b)) (bd b)).length=1:=by rw [hL];rfl
          rw [hL] at hl hf
          repeat'(intro t ht;first|(cases t<;>first|(cases ht;done)|(try simp only[zh_]at ht;try(exfalso;first|contradiction|omega)))|((first|refine za_ ht ?_|refine ht ?_ ?_|refine ht.1 ?_ ?_|refine ht ?_)<;>clear ht))
          all_goals (try simp only [hT,hI,hR,hL,hk0,not_true_eq_false] at*)
          all_goals first
           | exact True.intro
           | omega
           | exact ⟨by first | rfl | exact True.intro,⟨by decide,by decide,by decide,by decide,by decide,by decide⟩,by omega⟩
           | exact ⟨by omega,by omega⟩
           | (simp only [List.length_drop];constructor<;>omega)
           | exact ⟨rfl,by first | rfl | exact True.intro⟩
           | exact ⟨True.intro,True.intro⟩
           | (exfalso;simp only [List.length_cons,List.length_nil] at*;omega)
           | (exfalso;simp_all;done)
         ·have hlen:(ZN_ (zq_ (tT b)) (bd b)).length=2:=by rw [hL];rfl
          rw [hL] at hl hf
          repeat'(intro t ht;first|(cases t<;>first|(cases ht;done)|(try simp only[zh_]at ht;try(exfalso;first|contradiction|omega)))|((first|refine za_ ht ?_|refine ht ?_ ?_|refine ht.1 ?_ ?_|refine ht ?_)<;>clear ht))
          all_goals (try simp only [hT,hI,hR,hL,hk0,not_true_eq_false] at*)
          all_goals first
           | exact True.intro
           | omega
           | exact ⟨by first | rfl | exact True.intro,⟨by decide,by decide,by decide,by decide,by decide,by decide⟩,by omega⟩
           | exact ⟨by omega,by omega⟩
           | (simp only [List.length_drop];constructor<;>omega)
           | exact ⟨rfl,by first | rfl | exact True.intro⟩
           | exact ⟨True.intro,True.intro⟩
           | (exfalso;simp only [List.length_cons,List.length_nil] at*;omega)
           | (exfalso;simp_all;done)
         ·rw [hL] at hl;simp only [List.length_cons] at hl;omega
        ·obtain ⟨n1,n2,n3,n4,n5,n6⟩:=Kp_ (b:=b) (by rw [hE2];exact hf)
         rw [n1,n2,n2,n3,n3,n3,n4,n5,n5,n6,n1,hE2]
         rcases hL:ZN_ (zq_ (tT b)) (bd b) with _ | ⟨u,_ | ⟨w,_ | ⟨w2,r2⟩⟩⟩
         ·have hlen:(ZN_ (zq_ (tT b)) (bd b)).length=0:=by rw [hL];rfl
          rw [hL] at hl hf
          repeat'(intro t ht;first|(cases t<;>first|(cases ht;done)|(try simp only[zh_]at ht;try(exfalso;first|contradiction|omega)))|((first|refine za_ ht ?_|refine ht ?_ ?_|refine ht.1 ?_ ?_|refine ht ?_)<;>clear ht))
          all_goals (try simp only [hT,hI,hR,hL,hk0,List.getD_nil,List.length_nil,not_true_eq_false] at*)
          all_goals first
           | exact True.intro
           | omega
           | exact ⟨by first | rfl | exact True.intro,⟨by decide,by decide,by decide,by decide,by decide,by decide⟩,by omega⟩
           | exact ⟨by omega,by omega⟩
           | exact ⟨rfl,by first | rfl | exact True.intro⟩
           | exact ⟨True.intro,True.intro⟩
           | (exfalso;simp only [List.length_cons,List.length_nil] at*;omega)
           | (exfalso;simp_all;done)
         ·have hlen:(ZN_ (zq_ (tT b)) (bd b)).length=1:=by rw [hL];rfl
          rw [hL] at hl hf
          repeat'(intro t ht;first|(cases t<;>first|(cases ht;done)|(try simp only[zh_]at ht;try(exfalso;first|contradiction|omega)))|((first|refine za_ ht ?_|refine ht ?_ ?_|refine ht.1 ?_ ?_|refine ht ?_)<;>clear ht))
          all_goals (try simp only [hT,hI,hR,hL,hk0,not_true_eq_false] at*)
          all_goals first
           | exact True.intro
           | omega
           | exact ⟨by first | rfl | exact True.intro,⟨by decide,by decide,by decide,by decide,by decide,by decide⟩,by omega⟩
           | exact ⟨by omega,by omega⟩
           | exact ⟨rfl,by first | rfl | exact True.intro⟩
           | exact ⟨True.intro,True.intro⟩
           | (exfalso;simp only [List.length_cons,List.length_nil] at*;omega)
           | (exfalso;simp_all;done)
         ·have hlen:(ZN_ (zq_ (tT b)) (bd b)).length=2:=by rw [hL];rfl
          rw [hL] at hl hf
          repeat'(intro t ht;first|(cases t<;>first|(cases ht;done)|(try simp only[zh_]at ht;try(exfalso;first|contradiction|omega)))|((first|refine za_ ht ?_|refine ht ?_ ?_|refine ht.1 ?_ ?_|refine ht ?_)<;>clear ht))
          all_goals (try simp only [hT,hI,hR,hL,hk0,not_true_eq_false] at*)
          all_goals first
           | exact True.intro
           | omega
           | exact ⟨by first | rfl | exact True.intro,⟨by decide,by decide,by decide,by decide,by decide,by decide⟩,by omega⟩
           | exact ⟨by omega,by omega⟩
           | exact ⟨rfl,by first | rfl | exact True.intro⟩
           | exact ⟨True.intro,True.intro⟩
           | (exfalso;simp only [List.length_cons,List.length_nil] at*;omega)
           | (exfalso;simp_all;done)
         ·rw [hL] at hl;simp only [List.length_cons] at hl;omega
       ·have hk2:ZG_ (zq_ (tT b)) (bd b)=2:=by
         rcases U9_ (zq_ (tT b)) (bd b) with h | h | h
         ·exact absurd h hk0
         ·exact absurd h hk1
         ·exact h
        have hE2:acE b=518:=hE.trans ((if_neg hm).trans (by rw [hk2];rfl))
        obtain ⟨n1,n2,n3,n4,n5,n6⟩:=Kp_ (b:=b) (by rw [hE2];decide)
        rw [n1,n2,n2,n3,n3,n3,n4,n5,n5,n6,n1,hE2]
        repeat'(intro t ht;first|(cases t<;>first|(cases ht;done)|(try simp only[zh_]at ht;try(exfalso;first|contradiction|omega)))|((first|refine za_ ht ?_|refine ht ?_ ?_|refine ht.1 ?_ ?_|refine ht ?_)<;>clear ht))
        all_goals (try simp only [hT,hI,hR,hk2,not_true_eq_false] at*)
        all_goals first
         | exact True.intro
         | omega
         | exact ⟨by first | rfl | exact True.intro,⟨by decide,by decide,by decide,by decide,by decide,by decide⟩,by omega⟩
         | exact ⟨rfl,by first | rfl | exact True.intro⟩
         | exact ⟨True.intro,True.intro⟩
         | (exfalso;simp_all;done)
  ·have hE:acE b=tlE b 8 8 514:=by unfold acE;rw [if_pos hT]
   obtain ⟨n1,n2,n3,n4,n5,n6⟩:=Kp_ (b:=b) (by rw [hE];exact hT)
   rw [n1,n2,n2,n3,n3,n3,n4,n5,n5,n6,n1,hE]
   repeat'(intro t ht;first|(cases t<;>first|(cases ht;done)|(try simp only[zh_]at ht;try(exfalso;first|contradiction|omega)))|((first|refine za_ ht ?_|refine ht ?_ ?_|refine ht.1 ?_ ?_|refine ht ?_)<;>clear ht))
   all_goals first
    | exact True.intro
    | exact ⟨by first | rfl | exact True.intro,⟨by decide,by decide,by decide,by decide,by decide,by decide⟩,by omega⟩
    | exact ⟨rfl,by first | rfl | exact True.intro⟩
 ·cases e
end Go.Eng
namespace Go.Eng
open Go.Proofs
set_option linter.unusedVariables false
set_option linter.unusedSimpArgs false
set_option maxRecDepth 100000
set_option maxHeartbeats 1000000
def bysA (a:AC):Prop:=0<=a.2.2.2.1.2.2.2.1/\(∀ x ∈ a.2.2.2.1.2.2.2.2.1,0<=x/\x<=255)/\(∀ x ∈ a.2.2.2.1.2.2.2.2.2.1,0<=x/\x<=255)/\(∀ x ∈ a.2.2.2.2.1,0<=x/\x<=255)/\(0<=a.2.1/\a.2.1<=18446744073709551615)/\(0<=a.2.2.1/\a.2.2.1<=18446744073709551615)
theorem zby_ {l:List AC} (h:Ty.wf (.sl Y2) l):∀ o ∈ l,bysA o:=fun o ho=>by
 obtain ⟨h1,h2,h3,⟨g1,g2,g3,g4,g5,g6,_⟩,h5,_⟩:=h.1 o ho
 have u8:∀ {v:List Int},Ty.wf (.sl (.int .u8)) v->∀ x ∈ v,0<=x/\x<=255:=fun {v} hv x hx=>by
  have:=hv.1 x hx;unfold Ty.wf inK at this;rw [zdn_,zdo_] at this;exact this
 have u64:∀ {n:Int},Ty.wf (.int .u64) n->0<=n/\n<=18446744073709551615:=fun {n} hn=>by
  unfold Ty.wf inK at hn;rw [bF_,bH_] at hn;exact hn
 exact ⟨(u64 g4).1,u8 g5,u8 g6,u8 h5,u64 h2,u64 h3⟩
def Vm_:IR:=
(sq (kr [0] [oD 2 (.nilrow Y2),
oD 3 (.mov (cI 0))])
(sq (.reg [oM 9 0,
oE 10 9,
oM 4 10])
(sq (.reg [oD 5 (.nilrow Y2)])
(sq (.block 0
(.loop
(sq (sq (kr [0,4,5] [oM 11 0,
oE 12 11,
oB 13 .gtr 12 (cI 0)])
(.cond 13
.skip
(.exit 0)))
(.block 1
(sq (sq (.reg [oM 14 5,
oE 15 14,
oB 16 .eql 15 (cI 64)])
(.cond 16
(sq (kr [] [oD 2 (.nilrow Y2),
oD 3 (.mov (cI 520))])
.ret)
.skip))
(sq (kr [0,4,5] [oM 18 0,
oC 19 40 [18],
oM 17 19,
oX 20 17 0,
oX 21 17 1,
oX 22 17 2,
oD 6 (.box [.int .i64 0,.int .u64 0,.int .u64 0,.int .i64 0,.int .i64 0,.kb false,.int .u64 0,.imm (.int .u8) [],.imm (.int .u8) [],.imm (.int .u8) []]),
oS 10 6 20,
oM 7 21,
oM 8 22])
(sq (sq (kr [0,4,5,6,7,8] [oM 23 8,
oB 24 .neq 23 (cI 0)])
(.cond 24
(sq (.reg [oM 25 8,
oD 2 (.nilrow Y2),
oM 3 25])
.ret)
.skip))
(sq (kr [0,4,5,6,7] [oM 26 5,
oK 27 10 6,
oD 28 (.sliceAll Y2 1 [(0,10,27)]),
oD 29 (.append Y2 128 26 28),
oM 5 29])
(.reg [oM 30 0,
oM 31 7,
oD 32 (.slice 1 30 (some 31) none none),
oM 0 32])))))))))
(sq (sq (kr [4,5] [oM 33 4,
oB 34 .gtr 33 (cI 65528)])
(.cond 34
(sq (.reg [oD 2 (.nilrow Y2),
oD 3 (.mov (cI 514))])
.ret)
.skip))
(sq (.reg [oM 35 5,
oM 2 35,
oD 3 (.mov (cI 0))])
.ret))))))
def vK_:List RD:=[.tmp 2 true (some Y2),.tmp 3 true none]
theorem v3_:zn_ Tryz.prog Tryz.f22 Vm_ vK_=true:=by kernel_rfl
def jm_:List AV->List Obj->Option (Prop × AV)
 | [.imm (.int .u8) b],[]=>some ((b.length<=100000,.tup [.imm Y2 (adL b),.int .i64 (adE b)]))
 | _,_=>none
theorem yN_:ze_ Tryz.prog 22 (RoF jm_).sum:=by
 refine zm_ Tryz.func22 v3_ (zb_ (s:=RoF jn_) yO_ (zd_ _)) fun args objs p v e=>?_
 unfold jm_ at e
 split at e
 ·rename_i b
  cases e
  refine ⟨rfl,fun hw ho hp=>?_⟩
  change List Int at b
  clear hw ho
  repeat'(intro t ht;first|(cases t<;>first|(cases ht;done)|(try simp only[zh_]at ht))|((first|refine za_ ht ?_|refine ht ?_ ?_|refine ht.1 ?_ ?_|refine ht ?_)<;>clear ht))
  all_goals first
   | exact True.intro
   | (intro r h1 h2;clear h1;refine h2 ⟨[0,4,5],List AC × List Int,(fun a=>a.1.length<=64/\a.2.length<=b.length/\alG [] b=alG a.1 a.2),fun a=>[.imm (.int .u8) a.2,.int .i64 b.length,.own 0],fun a=>[.row false Y2 a.1],fun a=>a.2.length,⟨([],b),⟨Nat.zero_le _,Nat.le_refl _,rfl⟩,rfl,rfl⟩,?_⟩;clear h2)
  rintro ⟨acc,y⟩ ⟨j1,j2,j3⟩
  dsimp only at j1 j2 j3
  repeat'(intro t ht;first|(cases t<;>first|(cases ht;done)|(try simp only[zh_]at ht;try(exfalso;first|contradiction|omega)))|((first|refine za_ ht ?_|refine ht ?_ ?_|refine ht.1 ?_ ?_|refine ht ?_)<;>clear ht))
  all_goals (try dsimp only at*)
  all_goals first
   | exact True.intro
   | ((try simp only [zk_,zl_,zi_] at*);omega)
   | omega
   | exact ⟨rfl,rfl⟩
   | (have hg:=wC_ (acc:=acc) (y:=y) (by omega)
      rw [<- j3] at hg
      first
       | (obtain ⟨d1,d2⟩:=(Wv_ hg).1 (by omega)
          rw [d1,d2];exact ⟨rfl,rfl⟩)
       | (obtain ⟨d1,d2⟩:=(Wv_ hg).2 (by omega)
          rw [d1,d2];exact ⟨rfl,rfl⟩))
   | (simp only [zA_,List.length_cons,List.length_nil];constructor<;>omega)
   | (have hm:=vl_ (acc:=acc) (y:=y) (by omega) (by omega)
      rw [<- j3] at hm
      obtain ⟨d1,d2⟩:=vn_ (b:=b) (e:=520) (by rw [hm]) (by decide)
      rw [d1,d2];exact ⟨rfl,rfl⟩)
   | (have h0:acE y=0:=by assumption
      obtain ⟨g1,g2,_⟩:=gq_ h0
      have e1:∀ x,acI y x=x:=fun x=>if_pos h0
      first
       | (rw [e1];constructor<;>omega)
       | (have hm:=vk_ (acc:=acc) (by omega) (by omega) h0 (by omega)
          refine ⟨(acc++[vA y],y.drop (tN y).toNat),⟨?_,?_,j3.trans hm⟩,?_,?_,?_⟩
          ·simp only [List.length_append,List.length_cons,List.length_nil];omega
          ·dsimp only;rw [List.length_drop];omega
          ·dsimp only;rw [List.length_drop];omega
          ·dsimp only;rw [e1];rfl
          ·dsimp only;rw [e1];rfl))
   | (have h0:¬ acE y=0:=by assumption
      have hm:=yD_ (acc:=acc) (y:=y) (by omega) (by omega) h0
      rw [<- j3] at hm
      obtain ⟨d1,d2⟩:=vn_ (b:=b) (e:=acE y) (by rw [hm]) h0
      rw [d1,d2];exact ⟨rfl,rfl⟩)
 ·cases e
def atL (n:Int) (b:List Int) (p sh e:Int):List AC:=if ZY_ n b p sh e=0 then adL (Qb_ n b p sh e) else []
def atE (n:Int) (b:List Int) (p sh e:Int):Int:=if ZY_ n b p sh e=0 then adE (Qb_ n b p sh e) else ZY_ n b p sh e
theorem b4_ {n:Int} {b:List Int} {p sh e:Int}:(Qb_ n b p sh e).length<=b.length:=by
 unfold Qb_;split
 ·rw [List.length_drop,List.length_take];omega
 ·simp
def U3_:IR:=
(sq (kr [0,1] [oD 4 (.mov (.c (.imm Y2 [])))])
(sq (.reg [oM 8 0,
oM 9 1,
oC 10 25 [8,9],
oM 5 10])
(sq (sq (.reg [oM 11 0,
oC 12 27 [11],
oB 13 .neq 12 (cI 0)])
(.cond 13
(sq (kr [] [oD 4 (.mov (.c (.imm Y2 [])))])
.ret)
.skip))
(sq (kr [0,5] [oM 15 5,
oC 16 21 [15],
oM 14 16,
oX 17 14 0,
oX 18 14 1,
oM 6 17,
oM 7 18])
(sq (kr [0,6,7] [oM 19 0,
oM 20 7,
oC 21 43 [19,20]])
(sq (.reg [oM 22 6,
oM 4 22])
.ret))))))
def Uf_:List RD:=[.tmp 4 true (some Y2)]
theorem UE_:zn_ Tryz.prog Tryz.f26 U3_ Uf_=true:=by kernel_rfl
def wi_:List AV->List Obj->Option (Prop × AV × List Obj)
 | [.ptr 0 0,.int .i64 n],[.box [.imm (.int .u8) b,.int .i64 p,.int .i64 sh,.int .i64 od,.int .i64 e,.bool true]]=>some ((0<=p/\p<=b.length/\b.length<=100000000/\sh ≠ 0,.imm Y2 (atL n b p sh e),[.box [.imm (.int .u8) b,.int .i64 (jB_ n b p sh e),.int .i64 sh,.int .i64 od,.int .i64 (atE n b p sh e),.bool true]]))
 | _,_=>none
theorem vD_:ze_ Tryz.prog 26 (RwF wi_).sum:=by
 refine qS_ Tryz.func26 UE_ (zb_ (s:=RwF zJ_) zZ_ (zb_ (s:=RoF zy_) zI_ (zb_ (s:=RoF qa_) qY_ (zb_ (s:=RwF zN_) z6_ (zd_ _))))) fun args objs p v o e=>?_
 unfold wi_ at e
 split at e
 ·rename_i n b p sh od e
  cases e
  refine ⟨rfl,fun hw ho hp=>?_⟩
  change List Int at b
  clear hw ho
  obtain ⟨h1,h2,h3,h4⟩:=hp
  have hl:=b4_ (n:=n) (b:=b) (p:=p) (sh:=sh) (e:=e)
  by_cases he:ZY_ n b p sh e=0
  ·have f0:∀ x,Ze_ 0 x=x:=fun x=>if_pos rfl
   have k1:atL n b p sh e=adL (Qb_ n b p sh e):=if_pos he
   have k2:atE n b p sh e=adE (Qb_ n b p sh e):=if_pos he
   rw [k1,k2]
   clear k1 k2
   repeat'(intro t ht;first|(cases t<;>first|(cases ht;done)|(try simp only[zh_]at ht))|((first|refine za_ ht ?_|refine ht ?_ ?_|refine ht.1 ?_ ?_|refine ht ?_)<;>clear ht))
   all_goals (try simp only [he,f0] at*)
   all_goals first
    | exact True.intro
    | contradiction
    | exact ⟨h1,h2,by omega,h4⟩
    | omega
    | exact ⟨rfl,by first | rfl | exact True.intro⟩
    | exact ⟨True.intro,True.intro⟩
    | (exfalso;simp_all;done)
  ·repeat'(intro t ht;first|(cases t<;>first|(cases ht;done)|(try simp only[zh_]at ht;try(exfalso;first|contradiction|omega)))|((first|refine za_ ht ?_|refine ht ?_ ?_|refine ht.1 ?_ ?_|refine ht ?_)<;>clear ht))
   all_goals first
    | exact True.intro
    | exact ⟨h1,h2,by omega,h4⟩
    | (unfold atL atE;rw [if_neg he,if_neg he];exact ⟨rfl,by first | rfl | exact True.intro⟩)
    | (exfalso;simp_all;done)
 ·cases e
abbrev BK:=Int × Int × Int × List AC × Unit
instance:DecidableEq (List AC × Unit):=inferInstance
instance:DecidableEq BK:=inferInstance
structure okB (l:List BK):Prop where
 a:∀ o ∈ l,okL o.2.2.2.1
 n:l.length<=1000000
abbrev P8:=Int × Int × Int × Int × Int × Int × Int × Int × Unit
abbrev PV:=Int × Int × List Int × P8 × Unit
instance:DecidableEq (Int × Int × Int × Int × Unit):=inferInstance
instance:DecidableEq P8:=inferInstance
instance:DecidableEq PV:=inferInstance
abbrev VIn:=Int × Int × Int × List AC × List Int × Unit
instance:DecidableEq (List Int × Unit):=inferInstance
instance:DecidableEq (List AC × List Int × Unit):=inferInstance
instance:DecidableEq (Int × List AC × List Int × Unit):=inferInstance
instance:DecidableEq (Int × Int × List AC × List Int × Unit):=inferInstance
instance:DecidableEq VIn:=inferInstance
abbrev VBd:=Int × Int × Int × Int × List Int × Unit
instance:DecidableEq (List Int × Unit):=inferInstance
instance:DecidableEq (Int × List Int × Unit):=inferInstance
instance:DecidableEq (Int × Int × List Int × Unit):=inferInstance
instance:DecidableEq (Int × Int × Int × List Int × Unit):=inferInstance
instance:DecidableEq VBd:=inferInstance
abbrev VPr:=Int × Int × List Int × Unit
instance:DecidableEq (List Int × Unit):=inferInstance
instance:DecidableEq (Int × List Int × Unit):=inferInstance
instance:DecidableEq VPr:=inferInstance
abbrev VQu:=Int × Int × List VPr × Unit
instance:DecidableEq (List VPr × Unit):=inferInstance
instance:DecidableEq (Int × List VPr × Unit):=inferInstance
instance:DecidableEq VQu:=inferInstance
abbrev VFe:=Int × List Int × List Int × Unit
instance:DecidableEq (List Int × Unit):=inferInstance
instance:DecidableEq (List Int × List Int × Unit):=inferInstance
instance:DecidableEq VFe:=inferInstance
abbrev VTb:=Int × List Int × Int × Int × Int × Int × List VFe × Unit
instance:DecidableEq (List VFe × Unit):=inferInstance
instance:DecidableEq (Int × List VFe × Unit):=inferInstance
instance:DecidableEq (Int × Int × List VFe × Unit):=inferInstance
instance:DecidableEq (Int × Int × Int × List VFe × Unit):=inferInstance
instance:DecidableEq (Int × Int × Int × Int × List VFe × Unit):=inferInstance
instance:DecidableEq (List Int × Int × Int × Int × Int × List VFe × Unit):=inferInstance
instance:DecidableEq VTb:=inferInstance
abbrev VEl:=Int × List Int × Unit
instance:DecidableEq (List Int × Unit):=inferInstance
instance:DecidableEq VEl:=inferInstance
abbrev VPa:=List Int × List (List Int) × List OV × List VIn × List BK × List VBd × List (List Int) × List PV × List VTb × List Int × Unit
instance:DecidableEq (List Int × Unit):=inferInstance
instance:DecidableEq (List VTb × List Int × Unit):=inferInstance
instance:DecidableEq (List PV × List VTb × List Int × Unit):=inferInstance
instance:DecidableEq (List (List Int) × List PV × List VTb × List Int × Unit):=inferInstance
instance:DecidableEq (List VBd × List (List Int) × List PV × List VTb × List Int × Unit):=inferInstance
instance:DecidableEq (List BK × List VBd × List (List Int) × List PV × List VTb × List Int × Unit):=inferInstance
instance:DecidableEq (List VIn × List BK × List VBd × List (List Int) × List PV × List VTb × List Int × Unit):=inferInstance
instance:DecidableEq (List OV × List VIn × List BK × List VBd × List (List Int) × List PV × List VTb × List Int × Unit):=inferInstance
instance:DecidableEq (List (List Int) × List OV × List VIn × List BK × List VBd × List (List Int) × List PV × List VTb × List Int × Unit):=inferInstance
instance:DecidableEq VPa:=inferInstance
abbrev VMs:=Int × Int × List Int × List Int × List VEl × List OV × List AC × List VIn × List BK × List VBd × List VQu × List PV × Int × Int × List VPa × Unit
instance:DecidableEq (List VPa × Unit):=inferInstance
instance:DecidableEq (Int × List VPa × Unit):=inferInstance
instance:DecidableEq (Int × Int × List VPa × Unit):=inferInstance
instance:DecidableEq (List PV × Int × Int × List VPa × Unit):=inferInstance
instance:DecidableEq (List VQu × List PV × Int × Int × List VPa × Unit):=inferInstance
instance:DecidableEq (List VBd × List VQu × List PV × Int × Int × List VPa × Unit):=inferInstance
instance:DecidableEq (List BK × List VBd × List VQu × List PV × Int × Int × List VPa × Unit):=inferInstance
instance:DecidableEq (List VIn × List BK × List VBd × List VQu × List PV × Int × Int × List VPa × Unit):=inferInstance
instance:DecidableEq (List AC × List VIn × List BK × List VBd × List VQu × List PV × Int × Int × List VPa × Unit):=inferInstance
instance:DecidableEq (List OV × List AC × List VIn × List BK × List VBd × List VQu × List PV × Int × Int × List VPa × Unit):=inferInstance
instance:DecidableEq (List VEl × List OV × List AC × List VIn × List BK × List VBd × List VQu × List PV × Int × Int × List VPa × Unit):=inferInstance
instance:DecidableEq (List Int × List VEl × List OV × List AC × List VIn × List BK × List VBd × List VQu × List PV × Int × Int × List VPa × Unit):=inferInstance
instance:DecidableEq (List Int × List Int × List VEl × List OV × List AC × List VIn × List BK × List VBd × List VQu × List PV × Int × Int × List VPa × Unit):=inferInstance
instance:DecidableEq (Int × List Int × List Int × List VEl × List OV × List AC × List VIn × List BK × List VBd × List VQu × List PV × Int × Int × List VPa × Unit):=inferInstance
instance:DecidableEq VMs:=inferInstance
def GW_:IR:=
(sq (kr [0,1] [oD 4 (.mov cF)])
(sq (sq (kr [0,1] [oM 6 0,
oE 7 6,
oM 8 1,
oE 9 8,
oB 10 .neq 7 9])
(.cond 10
(sq (.reg [oD 4 (.mov cF)])
.ret)
.skip))
(sq (sq (kr [0,1] [oD 5 (.mov (cI 0))])
(.block 0
(.loop
(sq (sq (kr [0,1,5] [oM 11 5,
oM 12 0,
oE 13 12,
oB 14 .lss 11 13])
(.cond 14
.skip
(.exit 0)))
(sq (.block 1
(sq (kd [0,1,5] [(oM 17 0,[]),
(oM 18 5,[0]),
(oI 19 1 17 18,[]),
(oL 20 19,[]),
(oM 21 1,[0,0,0,0]),
(oM 22 5,[0,0,0,0,0]),
(oI 23 1 21 22,[2,0,0,0]),
(oL 24 23,[3,0,0,0]),
(oB 25 .neq 20 24,[])])
(.cond 25
(sq (kr [] [oD 4 (.mov cF)])
.ret)
.skip)))
(kr [0,1,5] [oM 15 5,
oB 16 .add 15 (cI 1),
oM 5 16]))))))
(sq (kr [] [oD 4 (.mov cT)])
.ret))))
def g3_:List RD:=[.tmp 4 true none]
theorem Gp_:zn_ Tryz.prog Tryz.f18 GW_ g3_=true:=by kernel_rfl
def WC_:List AV->List Obj->Option (Prop × AV)
 | [.imm (.int .u64) a,.imm (.int .u64) b],[]=>some ((True,.bool (decide ((a:List Int)=b))))
 | _,_=>none
theorem uQ_:ze_ Tryz.prog 18 (RoF WC_).sum:=by
 refine zm_ Tryz.func18 Gp_ (zd_ _) fun args objs p v e=>?_
 unfold WC_ at e
 split at e
 ·rename_i a b
  cases e
  refine ⟨rfl,fun hw ho hp=>?_⟩
  change List Int at a
  change List Int at b
  change List Int at a
  change List Int at b
  have hl:a.length<=maxLen:=(hw (.imm (.int .u64) a) (by simp)).2
  unfold maxLen at hl
  clear hw ho
  repeat'(intro t ht;first|(cases t<;>first|(cases ht;done)|(try simp only[zh_]at ht))|((first|refine za_ ht ?_|refine ht ?_ ?_|refine ht.1 ?_ ?_|refine ht ?_)<;>clear ht))
  all_goals first
   | (have hne:a ≠ b:=fun h=>(by assumption:¬ (a.length:Int)=b.length) (by rw [h])
      refine ⟨?_,rfl⟩;rw [decide_eq_false hne];done)
   | (intro r h1 h2;clear h1;refine h2 ⟨[0,1,5],Nat,(fun i=>i<=a.length/\a.take i=b.take i),fun i=>[.imm (.int .u64) a,.imm (.int .u64) b,.int .i64 i],fun _=>[],fun i=>a.length - i,⟨0,⟨Nat.zero_le _,rfl⟩,rfl,rfl⟩,?_⟩;clear h2)
  rintro i ⟨hi,he⟩
  have hl2:a.length=b.length:=by omega
  repeat'(intro t ht;first|(cases t<;>first|(cases ht;done)|(try simp only[zh_]at ht;try(exfalso;first|contradiction|omega)))|((first|refine za_ ht ?_|refine ht ?_ ?_|refine ht.1 ?_ ?_|refine ht ?_)<;>clear ht))
  all_goals first
   | exact True.intro
   | ((try simp only [zk_,zl_,zi_] at*);omega)
   | (have e:=bm_ he (by omega) hl2
      refine ⟨?_,rfl⟩;rw [decide_eq_true e];done)
   | (have hne:a ≠ b:=tkNe (d:=0) (i:=i) (by assumption)
      refine ⟨?_,rfl⟩;rw [decide_eq_false hne];done)
   | exact ⟨i+1,⟨by omega,uJ_ he (by omega) hl2 (d:=0) (by assumption)⟩,by (try simp only [zk_,zl_,zi_] at*);omega,rfl,rfl⟩
   | skip
 ·cases e
def G3_:IR:=
(sq (kr [] [oD 0 (.mov cF)])
(sq (kr [] [oC 9 21 [(.c (.imm (.int .u8) []))],
oM 8 9,
oX 10 8 0,
oX 11 8 1,
oM 1 10,
oM 2 11])
(sq (.reg [oD 12 (.build [.int .i64 0,.int .u64 0,.int .u64 0,.int .i64 0,.int .i64 0,.kb false,.int .u64 0,.imm (.int .u8) [],.imm (.int .u8) [],.imm (.int .u8) []] [(1,1,(.c (.int .u64 3))),(2,1,(.c (.int .u64 1)))]),
oD 3 (.box [.int .i64 0,.int .u64 0,.int .u64 0,.int .i64 0,.int .i64 0,.kb false,.int .u64 0,.imm (.int .u8) [],.imm (.int .u8) [],.imm (.int .u8) []]),
oS 10 3 12])
(sq (kr [1,2,3] [oK 14 10 3,
oD 15 (.build [.int .i64 0,.int .u64 0,.int .u64 0,.int .i64 0,.int .i64 0,.kb false,.int .u64 0,.imm (.int .u8) [],.imm (.int .u8) [],.imm (.int .u8) []] [(0,1,(cI 18))]),
oD 16 (.build [.int .i64 0,.int .u64 0,.int .u64 0,.int .i64 0,.int .i64 0,.kb false,.int .u64 0,.imm (.int .u8) [],.imm (.int .u8) [],.imm (.int .u8) []] [(1,1,(.c (.int .u64 1)))]),
oD 17 (.sliceAll Y2 3 [(0,10,14),(10,10,15),(20,10,16)]),
oC 18 9 [17],
oM 13 18,
oX 19 13 0,
oX 20 13 1,
oM 4 19,
oM 5 20])
(sq (kr [1,2,4,5] [oM 22 4,
oC 23 21 [22],
oM 21 23,
oX 24 21 0,
oX 25 21 1,
oM 6 24,
oM 7 25])
(sq (kr [1,2,4,5,6,7] [oM 26 2,
oB 27 .eql 26 (cI 0),
oM 28 27,
oT 28 29 (.mov 1),
oT 28 30 (.len 29),
oT 28 31 (.bin .eql 30 (cI 0)),
oP 32 28 31 cF,
oM 33 32,
oT 33 34 (.mov 5),
oT 33 35 (.bin .eql 34 (cI 0)),
oP 36 33 35 cF,
oM 37 36,
oT 37 38 (.mov 4),
oT 37 39 (.len 38),
oT 37 40 (.bin .eql 39 (cI 40)),
oP 41 37 40 cF,
oM 42 41,
oT 42 43 (.mov 7),
oT 42 44 (.bin .eql 43 (cI 0)),
oP 45 42 44 cF,
oM 46 45,
oT 46 47 (.mov 6),
oT 46 48 (.len 47),
oT 46 49 (.bin .eql 48 (cI 3)),
oP 50 46 49 cF,
oM 51 50,
oT 51 52 (.mov 6),
oT 51 53 (.call false (.f 19) [52]),
oT 51 54 (.sliceAll (.int .u64) 2 [(0,1,(.c (.int .u64 1))),(1,1,(.c (.int .u64 3)))]),
oT 51 55 (.call false (.f 18) [53,54]),
oP 56 51 55 cF,
oM 57 56,
oT 57 58 (.mov 6),
oT 57 59 (.call false (.f 16) [58]),
oT 57 60 (.bin .eql 59 (cI 40)),
oP 61 57 60 cF,
oM 0 61])
.ret))))))
def Ga_:List RD:=[.tmp 0 true none]
theorem Gw_:zn_ Tryz.prog Tryz.f8 G3_ Ga_=true:=by kernel_rfl
def jv_:List AV->List Obj->Option (Prop × AV)
 | [],[]=>some ((True,.bool true))
 | _,_=>none
theorem WV_:ze_ Tryz.prog 8 (RoF jv_).sum:=by
 refine zm_ Tryz.func8 Gw_ (zb_ (s:=RoF qa_) qY_ (zb_ (s:=RoF QT_) jD_ (zb_ (s:=RoF jz_) yX_ (zb_ (s:=RoF WC_) uQ_ (zb_ (s:=RoF Q8_) Kk_ (zd_ _)))))) fun args objs p v e=>?_
 unfold jv_ at e
 split at e
 ·cases e
  refine ⟨rfl,fun hw ho hp=>?_⟩
  clear hw ho
  obtain ⟨n1,n2⟩:=s13n
  obtain ⟨e1,e2⟩:=s13e
  obtain ⟨d1,d2⟩:=s13d
  have z1:alE [((0:Int),(3:Int),(1:Int),((0:Int),(0:Int),false,(0:Int),([]:List Int),([]:List Int),()),([]:List Int),()),(18,0,0,(0,0,false,0,[],[],()),[],()),(0,1,0,(0,0,false,0,[],[],()),[],())]=0:=e2
  have z2:adE (alL [((0:Int),(3:Int),(1:Int),((0:Int),(0:Int),false,(0:Int),([]:List Int),([]:List Int),()),([]:List Int),()),(18,0,0,(0,0,false,0,[],[],()),[],()),(0,1,0,(0,0,false,0,[],[],()),[],())])=0:=by show adE (alL L13)=0;rw [e1];exact d2
  have z3:adL (alL [((0:Int),(3:Int),(1:Int),((0:Int),(0:Int),false,(0:Int),([]:List Int),([]:List Int),()),([]:List Int),()),(18,0,0,(0,0,false,0,[],[],()),[],()),(0,1,0,(0,0,false,0,[],[],()),[],())])=L13:=by show adL (alL L13)=L13;rw [e1];exact d1
  have z4:(alL [((0:Int),(3:Int),(1:Int),((0:Int),(0:Int),false,(0:Int),([]:List Int),([]:List Int),()),([]:List Int),()),(18,0,0,(0,0,false,0,[],[],()),[],()),(0,1,0,(0,0,false,0,[],[],()),[],())]).length=40:=by show (alL L13).length=40;rw [e1];exact s13l
  have z5:=s13p
  have z6:=s13z
  have z7:=s13o
  have z8:(v1_ L13).length<=12:=by decide
  have z9:L13.length=3:=rfl
  have zA:(adL (alL [((0:Int),(3:Int),(1:Int),((0:Int),(0:Int),false,(0:Int),([]:List Int),([]:List Int),()),([]:List Int),()),(18,0,0,(0,0,false,0,[],[],()),[],()),(0,1,0,(0,0,false,0,[],[],()),[],())])).length<=1000000/\(v1_ (adL (alL [((0:Int),(3:Int),(1:Int),((0:Int),(0:Int),false,(0:Int),([]:List Int),([]:List Int),()),([]:List Int),()),(18,0,0,(0,0,false,0,[],[],()),[],()),(0,1,0,(0,0,false,0,[],[],()),[],())]))).length<=12:=by rw [z3];exact ⟨by decide,z8⟩
  have zB:okL (adL (alL [((0:Int),(3:Int),(1:Int),((0:Int),(0:Int),false,(0:Int),([]:List Int),([]:List Int),()),([]:List Int),()),(18,0,0,(0,0,false,0,[],[],()),[],()),(0,1,0,(0,0,false,0,[],[],()),[],())])):=by rw [z3];exact z7
  have zC:poA (adL (alL [((0:Int),(3:Int),(1:Int),((0:Int),(0:Int),false,(0:Int),([]:List Int),([]:List Int),()),([]:List Int),()),(18,0,0,(0,0,false,0,[],[],()),[],()),(0,1,0,(0,0,false,0,[],[],()),[],())]))=[1,3]:=by rw [z3];exact z5
  have zD:szL (adL (alL [((0:Int),(3:Int),(1:Int),((0:Int),(0:Int),false,(0:Int),([]:List Int),([]:List Int),()),([]:List Int),()),(18,0,0,(0,0,false,0,[],[],()),[],()),(0,1,0,(0,0,false,0,[],[],()),[],())]))=40:=by rw [z3];exact z6
  repeat'(intro t ht;first|(cases t<;>first|(cases ht;done)|(try simp only[zh_]at ht;try(exfalso;first|contradiction|omega)))|((first|refine za_ ht ?_|refine ht ?_ ?_|refine ht.1 ?_ ?_|refine ht ?_)<;>clear ht))
  all_goals first
   | exact True.intro
   | exact z7
   | exact zA
   | exact zB
   | exact Nat.le_trans (Nat.le_of_eq z4) (by decide)
   | (rw [n1] at ht;exact absurd rfl ht)
   | (rw [z3] at ht;exact absurd rfl ht)
   | (rw [z4] at ht;exact absurd rfl ht)
   | exact absurd zC ht
   | exact ⟨congrArg AV.bool (decide_eq_true zD),rfl⟩
   | exact (by decide:([]:List Int).length<=100000000)
   | exact ⟨rfl,rfl⟩
 ·cases e
def Wm_:IR:=
(sq (kr [0,1,2] [oD 6 (.mov cF)])
(sq (sq (kr [0,1,2] [oM 15 0,
oE 16 15,
oB 17 .gtr 16 (cI 1500),
oM 18 17,
oF 18 19 (.mov 1),
oF 18 20 (.len 19),
oF 18 21 (.bin .gtr 20 (cI 100)),
oP 22 18 cT 21])
(.cond 22
(sq (kr [] [oC 23 8 [],
oM 6 23])
.ret)
.skip))
(sq (kr [0,1,2] [oM 25 0,
oC 26 21 [25],
oM 24 26,
oX 27 24 0,
oX 28 24 1,
oM 7 27,
oM 8 28])
(sq (kr [0,1,2,7,8] [oM 30 0,
oC 31 22 [30],
oM 29 31,
oX 32 29 0,
oX 33 29 1,
oM 9 32,
oM 10 33])
(sq (sq (kr [0,1,2,7,8,9,10] [oM 34 7,
oM 35 9,
oC 36 23 [34,35],
oD 37 (.un .not 36),
oM 38 37,
oF 38 39 (.mov 8),
oF 38 40 (.mov 10),
oF 38 41 (.bin .neq 39 40),
oP 42 38 cT 41])
(.cond 42
(sq (kr [] [oD 6 (.mov cF)])
.ret)
.skip))
(sq (kr [0,1,2] [oD 43 (.slice0 (.int .u8)),
oM 44 1,
oD 45 (.append (.int .u8) 1 43 44),
oM 46 0,
oD 47 (.append (.int .u8) 1 45 46),
oC 48 24 [47,(cI 263),(cI 269)],
oM 11 48])
(sq (kr [0,1,2,11] [oM 49 11,
oM 50 1,
oE 51 50,
oC 52 25 [49,51]])
(sq (.reg [oM 53 11,
oM 54 2,
oC 55 26 [53,54],
oM 12 55])
(sq (sq (kr [0,1,2,11,12] [oM 56 2,
oB 57 .lss 56 (cI 0),
oM 58 57,
oF 58 59 (.mov 2),
oF 58 60 (.mov 0),
oF 58 61 (.len 60),
oF 58 62 (.bin .gtr 59 61),
oP 63 58 cT 62])
(.cond 63
(sq (kr [0,2,11,12] [oM 64 12,
oE 65 64,
oB 66 .eql 65 (cI 0),
oM 67 66,
oT 67 68 (.mov 11),
oT 67 69 (.call false (.f 27) [68]),
oT 67 70 (.bin .eql 69 (cI 10001)),
oT 67 71 (.mov 70),
oT 71 72 (.mov 2),
oT 71 73 (.bin .lss 72 (cI 0)),
oT 67 74 (.pick 71 73 cF),
oT 67 75 (.mov 74),
oF 75 76 (.mov 11),
oF 75 77 (.call false (.f 27) [76]),
oF 75 78 (.bin .eql 77 (cI 263)),
oF 75 79 (.mov 78),
oT 79 80 (.mov 2),
oT 79 81 (.mov 0),
oT 79 82 (.len 81),
oT 79 83 (.bin .gtr 80 82),
oF 75 84 (.pick 79 83 cF),
oT 67 85 (.pick 75 cT 84),
oP 86 67 85 cF,
oM 87 86,
oT 87 88 (.call false (.f 8) []),
oP 89 87 88 cF,
oM 6 89])
.ret)
.skip))
(sq (kr [0,1,2,11,12] [oM 91 0,
oM 92 2,
oD 93 (.slice 1 91 none (some 92) none),
oC 94 22 [93],
oM 90 94,
oX 95 90 0,
oX 96 90 1,
oM 13 95,
oM 14 96])
(sq (kr [1,2,11,12,13,14] [oM 97 12,
oM 98 13,
oC 99 23 [97,98],
oM 100 99,
oT 100 101 (.mov 11),
oT 100 102 (.call false (.f 27) [101]),
oT 100 103 (.mov 14),
oT 100 104 (.bin .eql 102 103),
oP 105 100 104 cF,
oM 106 105,
oT 106 107 (.mov 14),
oT 106 108 (.bin .neq 107 (cI 0)),
oT 106 109 (.mov 108),
oF 109 110 (.mov 11),
oF 109 111 (.call false (.f 28) [110]),
oF 109 112 (.mov 1),
oF 109 113 (.len 112),
oF 109 114 (.mov 2),
oF 109 115 (.bin .add 113 114),
oF 109 116 (.bin .eql 111 115),
oT 106 117 (.pick 109 cT 116),
oP 118 106 117 cF,
oM 119 118,
oT 119 120 (.call false (.f 8) []),
oP 121 119 120 cF,
oM 6 121])
.ret)))))))))))
def w8_:List RD:=[.tmp 6 true none]
theorem We_:zn_ Tryz.prog Tryz.f5 Wm_ w8_=true:=by kernel_rfl
def Qn_:List AV->List Obj->Option (Prop × AV)
 | [.imm (.int .u8) b,.imm (.int .u8) x,.int .i64 n],[]=>some ((True,.bool true))
 | _,_=>none
theorem wJ_:ze_ Tryz.prog 5 (RoF Qn_).sum:=by
 refine zm_ Tryz.func5 We_ (zb_ (s:=RoF jv_) WV_ (zb_ (s:=RoF qa_) qY_ (zb_ (s:=RoF jm_) yN_ (zb_ (s:=RoF jl_) WQ_ (zb_ (s:=RwF qI_) Qd_ (zb_ (s:=RwF zJ_) zZ_ (zb_ (s:=RwF wi_) vD_ (zb_ (s:=RoF zy_) zI_ (zb_ (s:=RoF ZJ_) qj_ (zd_ _)))))))))) fun args objs p v e=>?_
 unfold Qn_ at e
 split at e
 ·rename_i b x n
  cases e
  refine ⟨rfl,fun hw ho hp=>?_⟩
  change List Int at b
  change List Int at x
  clear hw ho
  by_cases hc:b.length<=1500/\x.length<=100
  ·obtain ⟨c1,c2⟩:=hc
   obtain ⟨k1,k2,k3⟩:=k1_ (n:=x.length) (p:=0) (sh:=263) (b:=x++b) (by omega) (by rw [List.length_append];omega)
   have hlen:(x++b).length=x.length+b.length:=List.length_append
   have p0:(0:Int)+(x.length:Int)=x.length:=Int.zero_add _
   by_cases hn:n < 0\/(b.length:Int) < n
   ·have hE:ZY_ n (x++b) (x.length) 263 0=if n < 0 then 10001 else 263:=by
     unfold ZY_
     by_cases h:n < 0
     ·rw [if_pos h,if_pos h];rfl
     ·rw [if_neg h,if_neg h,if_pos (by omega)];rfl
    have hne:¬ ZY_ n (x++b) (x.length) 263 0=0:=by rw [hE];split<;>decide
    have q1:atL n (x++b) (x.length) 263 0=[]:=by unfold atL;rw [if_neg hne]
    have q2:atE n (x++b) (x.length) 263 0=if n < 0 then 10001 else 263:=by unfold atE;rw [if_neg hne,hE]
    repeat'(intro t ht;first|(cases t<;>first|(cases ht;done)|(try simp only[zh_]at ht))|((first|refine za_ ht ?_|refine ht ?_ ?_|refine ht.1 ?_ ?_|refine ht ?_)<;>clear ht))
    all_goals (try simp only [zA_,List.nil_append,k1,k2,k3,p0,q1,q2] at*)
    all_goals first
     | exact True.intro
     | contradiction
     | omega
     | exact ⟨rfl,by first | rfl | exact True.intro⟩
     | (constructor<;>(try simp only [List.length_nil])<;>omega)
     | (exfalso;omega)
     | (exfalso;simp_all;done)
     | ((try simp only [zk_,zl_,zi_] at*);omega)
   ·obtain ⟨t1,t2,t3⟩:=k1_ (n:=n) (p:=x.length) (sh:=263) (b:=x++b) (by omega) (by omega)
    have hd:((x++b).take ((x.length:Int)+n).toNat).drop (x.length:Int).toNat=b.take n.toNat:=by
     rw [Int.toNat_natCast,show ((x.length:Int)+n).toNat=x.length+n.toNat by omega,List.drop_take,List.drop_left]
     congr 1;omega
    rw [hd] at t1
    have q1:atL n (x++b) (x.length) 263 0=adL (b.take n.toNat):=by unfold atL;rw [t3,if_pos rfl,t1]
    have q2:atE n (x++b) (x.length) 263 0=adE (b.take n.toNat):=by unfold atE;rw [t3,if_pos rfl,t1]
    have hbt:(b.take n.toNat).length<=100000:=by rw [List.length_take];omega
    repeat'(intro t ht;first|(cases t<;>first|(cases ht;done)|(try simp only[zh_]at ht))|((first|refine za_ ht ?_|refine ht ?_ ?_|refine ht.1 ?_ ?_|refine ht ?_)<;>clear ht))
    all_goals (try simp only [zA_,List.nil_append,k1,k2,k3,p0,q1,q2,t2] at*)
    all_goals first
     | exact True.intro
     | contradiction
     | omega
     | exact ⟨rfl,by first | rfl | exact True.intro⟩
     | (constructor<;>(try simp only [List.length_nil])<;>omega)
     | (exfalso;omega)
     | (exfalso;simp_all;done)
     | ((try simp only [zk_,zl_,zi_] at*);omega)
  ·repeat'(intro t ht;first|(cases t<;>first|(cases ht;done)|(try simp only[zh_]at ht;try(exfalso;first|contradiction|omega)))|((first|refine za_ ht ?_|refine ht ?_ ?_|refine ht.1 ?_ ?_|refine ht ?_)<;>clear ht))
   all_goals first
    | exact True.intro
    | exact ⟨rfl,rfl⟩
    | (exfalso;omega)
    | (exfalso;simp_all;done)
 ·cases e
end Go.Eng
