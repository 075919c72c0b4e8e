/- Parts of the proof: Z1, F6, Z3, Z4, Z2, H5, H6, K1, H7, K3, K4, K5, K6, K7, P1. No condition. -/
import Derived.Test.YteihcoggfaenaaaGreatDoorProg
import Derived.Test.YteihcoggfaenaaaGreatDoorWG10
import Derived.KernelRfl
import Derived.Test.YteihcoggfaenaaaGreatDoorWG18
import Derived.Test.YteihcoggfaenaaaGreatDoorWG14
import Derived.Test.YteihcoggfaenaaaGreatDoorWG16
import Derived.Test.YteihcoggfaenaaaGreatDoorWG12
namespace Go.Eng
open Go.Proofs
set_option linter.unusedVariables false
set_option linter.unusedSimpArgs false
set_option maxRecDepth 100000
set_option maxHeartbeats 1000000
def zeH_:IR:=
(sq (kr [0] [oD 2 (.mov (.c (.imm (.int .i64) []))),
oD 3 (.mov cF)])
(sq (sq (.reg [oM 4 0])
(.block 0
(sq (.reg [oB 6 .eql 4 (cI 0),
oM 5 6])
(.cond 5
(sq (.reg [oD 7 (.sliceAll (.int .i64) 3 [(0,1,(cI 4)),(1,1,(cI 2)),(2,1,(cI (-6)))]),
oM 2 7,
oD 3 (.mov cT)])
.ret)
(sq (sq (.reg [oB 9 .eql 4 (cI 22),
oM 8 9])
(.cond 8
.skip
(sq (kr [4] [oB 10 .eql 4 (cI 21),
oM 8 10])
(.cond 8
.skip
(.reg [oB 11 .eql 4 (cI 65535),
oM 8 11])))))
(.cond 8
(sq (kr [] [oD 12 (.sliceAll (.int .i64) 1 [(0,1,(cI 4))]),
oM 2 12,
oD 3 (.mov cT)])
.ret)
(sq (sq (kr [4] [oB 14 .eql 4 (cI 15),
oM 13 14])
(.cond 13
.skip
(.reg [oB 15 .eql 4 (cI 23),
oM 13 15])))
(.cond 13
(sq (.reg [oD 16 (.sliceAll (.int .i64) 2 [(0,1,(cI 1)),(1,1,(cI (-3)))]),
oM 2 16,
oD 3 (.mov cT)])
.ret)
(sq (sq (.reg [oB 18 .eql 4 (cI 11),
oM 17 18])
(.cond 17
.skip
(sq (kr [4] [oB 19 .eql 4 (cI 12),
oM 17 19])
(.cond 17
.skip
(sq (.reg [oB 20 .eql 4 (cI 16),
oM 17 20])
(.cond 17
.skip
(sq (.reg [oB 21 .eql 4 (cI 18),
oM 17 21])
(.cond 17
.skip
(sq (kr [4] [oB 22 .eql 4 (cI 24),
oM 17 22])
(.cond 17
.skip
(.reg [oB 23 .eql 4 (cI 27),
oM 17 23])))))))))))
(.cond 17
(sq (kr [] [oD 24 (.sliceAll (.int .i64) 1 [(0,1,(cI (-4)))]),
oM 2 24,
oD 3 (.mov cT)])
.ret)
(sq (sq (kr [4] [oB 26 .eql 4 (cI 17),
oM 25 26])
(.cond 25
.skip
(sq (.reg [oB 27 .eql 4 (cI 19),
oM 25 27])
(.cond 25
.skip
(sq (.reg [oB 28 .eql 4 (cI 20),
oM 25 28])
(.cond 25
.skip
(kr [4] [oB 29 .eql 4 (cI 26),
oM 25 29])))))))
(.cond 25
(sq (kr [] [oD 30 (.sliceAll (.int .i64) 2 [(0,1,(cI 2)),(1,1,(cI (-2)))]),
oM 2 30,
oD 3 (.mov cT)])
.ret)
.skip))))))))))))
(sq (kr [] [oD 2 (.mov (.c (.imm (.int .i64) []))),
oD 3 (.mov cF)])
.ret)))
def zdW_:List RD:=[.tmp 2 true (some (.int .i64)),.tmp 3 true none]
theorem zeg_:zm_ Tryz.prog Tryz.f168 zeH_ zdW_=true:=by kernel_rfl
def vV_:List AV->List Obj->Option (Prop × AV)
 | [.int .i64 q],[]=>some ((True,.tup [.imm (.int .i64) (zE_ q),.bool (Gm_ q)]))
 | _,_=>none
theorem zaH_:zd_ Tryz.prog 168 (RoF vV_).sum:=by
 refine zi_ Tryz.func168 zeg_ (zc_ _) fun args objs p v e=>?_
 unfold vV_ at e
 split at e
 ·rename_i q
  cases e
  refine ⟨rfl,fun hw ho hp=>?_⟩
  clear hw ho
  repeat'(intro t ht;first|(cases t<;>first|(cases ht;done)|(try simp only[zg_]at ht;try(exfalso;first|contradiction|omega)))|((first|refine zb_ ht ?_|refine ht ?_ ?_|refine ht.1 ?_ ?_|refine ht ?_)<;>clear ht))
  all_goals first
   | exact True.intro
   | (have h:=zfn_ (t:=q) (by omega)
      rw [h.1,h.2];exact ⟨rfl,rfl⟩)
   | (subst_vars;exact ⟨rfl,rfl⟩)
   | (have h:q=0\/(q=22\/q=21\/q=65535)\/(q=15\/q=23)\/(q=17\/q=19\/q=26\/q=20)\/(q=11\/q=12\/q=16\/q=18\/q=24\/q=27):=by omega
      rcases h with rfl | (rfl | rfl | rfl) | (rfl | rfl) | (rfl | rfl | rfl | rfl) | (rfl | rfl | rfl | rfl | rfl | rfl)<;>first | (exfalso;omega) | exact ⟨rfl,rfl⟩)
 ·cases e
def BH_:IR:=
(sq (kr [0,1] [oD 4 (.mov (cI 0))])
(sq (sq (.reg [oM 5 0])
(.block 0
(sq (.reg [oB 7 .eql 5 (cI 0),
oM 6 7])
(.cond 6
(sq (.reg [oM 8 1,
oB 9 .eql 8 (.c (.int .u64 0))])
(.cond 9
(sq (kr [] [oD 4 (.mov (cI 517))])
.ret)
.skip))
(sq (.reg [oB 11 .eql 5 (cI 22),
oM 10 11])
(.cond 10
(sq (kr [1] [oM 12 1,
oB 13 .gtr 12 (.c (.int .u64 4294967040))])
(.cond 13
(sq (.reg [oD 4 (.mov (cI 522))])
.ret)
.skip))
(sq (kr [1,5] [oB 15 .eql 5 (cI 17),
oM 14 15])
(.cond 14
(sq (kr [1] [oM 16 1,
oB 17 .neq 16 (.c (.int .u64 33024)),
oM 18 17,
oT 18 19 (.mov 1),
oT 18 20 (.bin .neq 19 (.c (.int .u64 34984))),
oP 21 18 20 cF])
(.cond 21
(sq (kr [] [oD 4 (.mov (cI 518))])
.ret)
.skip))
(sq (.reg [oB 23 .eql 5 (cI 19),
oM 22 23])
(.cond 22
(sq (kr [1] [oM 24 1,
oB 25 .neq 24 (.c (.int .u64 34887)),
oM 26 25,
oT 26 27 (.mov 1),
oT 26 28 (.bin .neq 27 (.c (.int .u64 34888))),
oP 29 26 28 cF])
(.cond 29
(sq (kr [] [oD 4 (.mov (cI 518))])
.ret)
.skip))
(sq (.reg [oB 31 .eql 5 (cI 26),
oM 30 31])
(.cond 30
(sq (kr [1] [oM 32 1,
oB 33 .neq 32 (.c (.int .u64 35047))])
(.cond 33
(sq (.reg [oD 4 (.mov (cI 518))])
.ret)
.skip))
.skip))))))))))))
(sq (kr [] [oD 4 (.mov (cI 0))])
.ret)))
def bp_:List RD:=[.tmp 4 true none]
theorem b0_:zm_ Tryz.prog Tryz.f169 BH_ bp_=true:=by kernel_rfl
def Xe_:List AV->List Obj->Option (Prop × AV)
 | [.int .i64 q,.int .u64 n],[]=>some ((True,.int .i64 (gP_ q n)))
 | _,_=>none
theorem g9_:zd_ Tryz.prog 169 (RoF Xe_).sum:=by
 refine zi_ Tryz.func169 b0_ (zc_ _) fun args objs p v e=>?_
 unfold Xe_ at e
 split at e
 ·rename_i q n
  cases e
  refine ⟨rfl,fun hw ho hp=>?_⟩
  clear hw ho
  repeat'(intro t ht;first|(cases t<;>first|(cases ht;done)|(try simp only[zg_]at ht;try(exfalso;first|contradiction|omega)))|((first|refine zb_ ht ?_|refine ht ?_ ?_|refine ht.1 ?_ ?_|refine ht ?_)<;>clear ht))
  all_goals first
   | exact True.intro
   | (refine ⟨congrArg (AV.int .i64) ?_,rfl⟩;unfold gP_;repeat' split
      all_goals first | rfl | omega)
 ·cases e
def zeL_:IR:=
(sq (kr [0] [oD 1 (.boxv 0),
oD 2 (.mov cF)])
(sq (kr [1] [oA 3 0 1,
oL 4 3,
oB 5 .geq 4 (cI 4),
oM 6 5,
oT 6 7 (.fieldAddr 0 1),
oT 6 8 (.load none 7),
oT 6 9 (.bin .leq 8 (cI 60000)),
oP 10 6 9 cF,
oM 11 10,
oT 11 12 (.fieldAddr 1 1),
oT 11 13 (.load none 12),
oT 11 14 (.bin .geq 13 (cI 1)),
oP 15 11 14 cF,
oM 16 15,
oT 16 17 (.fieldAddr 1 1),
oT 16 18 (.load none 17),
oT 16 19 (.bin .leq 18 (cI 64)),
oP 20 16 19 cF,
oM 21 20,
oT 21 22 (.fieldAddr 3 1),
oT 21 23 (.load none 22),
oT 21 24 (.bin .neq 23 (cI 0)),
oP 25 21 24 cF,
oM 26 25,
oT 26 27 (.fieldAddr 4 1),
oT 26 28 (.load none 27),
oT 26 29 (.bin .neq 28 (cI 0)),
oP 30 26 29 cF,
oM 2 30])
.ret))
def zd0_:List RD:=[.tmp 2 true none]
theorem zek_:zm_ Tryz.prog Tryz.f142 zeL_ zd0_=true:=by kernel_rfl
def vY_:List AV->List Obj->Option (Prop × AV)
 | [.agg [.int .i64 least,.int .i64 step,.bool pad,.int .i64 bad,.int .i64 odd]],[]=>some ((4<=least/\least<=60000/\1<=step/\step<=64/\bad ≠ 0/\odd ≠ 0,.bool true))
 | _,_=>none
theorem zaK_:zd_ Tryz.prog 142 (RoF vY_).sum:=by
 refine zi_ Tryz.func142 zek_ (zc_ _) fun args objs p v e=>?_
 unfold vY_ at e
 split at e
 ·rename_i least step pad bad odd
  cases e
  refine ⟨rfl,fun hw ho hp=>?_⟩
  clear hw ho
  obtain ⟨h1,h2,h3,h4,h5,h6⟩:=hp
  repeat'(intro t ht;first|(cases t<;>first|(cases ht;done)|(try simp only[zg_]at ht;try(exfalso;first|contradiction|omega)))|((first|refine zb_ ht ?_|refine ht ?_ ?_|refine ht.1 ?_ ?_|refine ht ?_)<;>clear ht))
  all_goals first
   | exact True.intro
   | exact ⟨rfl,rfl⟩
   | (exfalso;omega)
   | (refine ⟨congrArg AV.bool ?_,rfl⟩;simp;omega)
 ·cases e
def zeK_:IR:=
(sq (kr [0,1] [oD 2 (.boxv 0),
oD 4 (.box [.int .i64 0,.imm (.int .u8) []]),
oD 5 (.mov (cI 0)),
oD 6 (.mov (cI 0))])
(sq (sq (.reg [oK 10 5 2,
oC 11 142 [10],
oD 12 (.un .not 11)])
(.cond 12
(sq (kr [4] [oD 13 (.build [.int .i64 0,.imm (.int .u8) []] []),
oS 2 4 13,
oD 5 (.mov (cI 0)),
oD 6 (.mov (cI 10001))])
.ret)
.skip))
(sq (sq (kr [1,2,4] [oM 14 1,
oE 15 14,
oB 16 .lss 15 (cI 4)])
(.cond 16
(sq (kd [2,4] [(oD 17 (.build [.int .i64 0,.imm (.int .u8) []] []),[]),
(oA 18 3 2,[0]),
(oL 19 18,[1]),
(oS 2 4 17,[0,0]),
(oD 5 (.mov (cI 0)),[1,0]),
(oM 6 19,[])])
.ret)
.skip))
(sq (kr [1,2,4] [oM 20 1,
oD 21 (.slice 1 20 (some (cI 2)) (some (cI 4)) none),
oC 22 101 [21],
oD 23 (.conv .i64 22),
oM 7 23])
(sq (sq (kr [1,2,4,7] [oM 24 7,
oA 25 0 2,
oL 26 25,
oB 27 .lss 24 26,
oM 28 27,
oF 28 29 (.fieldAddr 2 2),
oF 28 30 (.load none 29),
oF 28 31 (.un .not 30),
oF 28 32 (.mov 31),
oT 32 33 (.mov 7),
oT 32 34 (.fieldAddr 1 2),
oT 32 35 (.load none 34),
oT 32 36 (.bin .rem 33 35),
oT 32 37 (.bin .neq 36 (cI 0)),
oF 28 38 (.pick 32 37 cF),
oP 39 28 cT 38])
(.cond 39
(sq (kd [2,4] [(oD 40 (.build [.int .i64 0,.imm (.int .u8) []] []),[]),
(oA 41 3 2,[0]),
(oL 42 41,[1]),
(oS 2 4 40,[0,0]),
(oD 5 (.mov (cI 0)),[1,0]),
(oM 6 42,[])])
.ret)
.skip))
(sq (kr [1,2,4,7] [oM 43 7,
oM 8 43])
(sq (sq (.reg [oA 44 2 2,
oL 45 44])
(.cond 45
(kr [1,2,4,7] [oM 46 7,
oM 47 7,
oA 48 1 2,
oL 49 48,
oC 50 143 [47,49],
oB 51 .add 46 50,
oM 8 51])
.skip))
(sq (sq (kr [1,2,4,7,8] [oM 52 8,
oM 53 1,
oE 54 53,
oB 55 .gtr 52 54])
(.cond 55
(sq (kd [2,4] [(oD 56 (.build [.int .i64 0,.imm (.int .u8) []] []),[]),
(oA 57 3 2,[0]),
(oL 58 57,[1]),
(oS 2 4 56,[0,0]),
(oD 5 (.mov (cI 0)),[1,0]),
(oM 6 58,[])])
.ret)
.skip))
(sq (sq (.reg [oM 59 7,
oM 9 59])
(.block 0
(.loop
(sq (sq (kr [1,2,4,7,8,9] [oM 60 9,
oM 61 8,
oB 62 .lss 60 61])
(.cond 62
.skip
(.exit 0)))
(sq (.block 1
(sq (kr [1,2,4,7,8,9] [oM 65 1,
oM 66 9,
oI 67 1 65 66,
oL 68 67,
oB 69 .neq 68 (.c (.int .u8 0))])
(.cond 69
(sq (kd [2,4] [(oD 70 (.build [.int .i64 0,.imm (.int .u8) []] []),[]),
(oA 71 4 2,[0]),
(oL 72 71,[1]),
(oS 2 4 70,[0,0]),
(oD 5 (.mov (cI 0)),[1,0]),
(oM 6 72,[])])
.ret)
.skip)))
(kr [1,2,4,7,8,9] [oM 63 9,
oB 64 .add 63 (cI 1),
oM 9 64]))))))
(sq (kd [1,4,7,8] [(oM 73 1,[]),
(oD 74 (.slice 1 73 none (some (cI 2)) none),[]),
(oC 75 101 [74],[]),
(oD 76 (.conv .i64 75),[]),
(oD 77 (.slice0 (.int .u8)),[0,0,0,0]),
(oM 78 1,[0,0,0,0,0]),
(oM 79 7,[0,0,0,0,0,0]),
(oD 80 (.slice 1 78 (some (cI 4)) (some 79) none),[2,0,0,0,0]),
(oD 81 (.append (.int .u8) 1 77 80),[4]),
(oD 82 (.buildAll 2 [(0,1,76),(1,1,81)]),[]),
(oM 83 8,[0,0,0,0,0,0,0,0,0,0]),
(oS 2 4 82,[0]),
(oM 5 83,[]),
(oD 6 (.mov (cI 0)),[])])
.ret))))))))))
def zdZ_:List RD:=[.cell 4 (some 2) true [],.tmp 5 true none,.tmp 6 true none]
theorem zej_:zm_ Tryz.prog Tryz.f105 zeK_ zdZ_=true:=by kernel_rfl
def XK_:List AV->List Obj->Option (Prop × AV)
 | [.agg [.int .i64 least,.int .i64 step,.bool pad,.int .i64 bad,.int .i64 odd],.imm (.int .u8) b],[]=>some ((pad=false/\(4<=least/\least<=60000/\1<=step/\step<=64/\bad ≠ 0/\odd ≠ 0)/\b.length<=140737488355328,.tup [.agg [.int .i64 (tlI b least step bad (tT b)),.imm (.int .u8) (tlR b least step bad)],.int .i64 (tlI b least step bad (tN b)),.int .i64 (tlE b least step bad)]))
 | _,_=>none
theorem Vb_:zd_ Tryz.prog 105 (RoF XK_).sum:=by
 refine zi_ Tryz.func105 zej_ (za_ (s:=RoF vY_) zaK_ (za_ (s:=RoF QJ_) kQ_ (zc_ _))) fun args objs p v e=>?_
 unfold XK_ at e
 split at e
 ·rename_i least step pad bad odd b
  cases e
  refine ⟨rfl,fun hw ho hp=>?_⟩
  change List Int at b
  have hb:∀ x ∈ (b:List Int),(0:Int)<=x/\x<=255:=fun x hx=>(hw _ (by simp:AV.imm (.int .u8) b ∈ _)).1 x hx
  clear hw ho
  obtain ⟨rfl,hs,hl⟩:=hp
  have hs':=hs
  obtain ⟨h1,h2,h3,h4',h5,h6⟩:=hs'
  have hT:0<=tT b/\tT b<=65535:=jI_ (a:=0) hb
  have hN:0<=tN b/\tN b<=65535:=jI_ (a:=2) hb
  have v1:Zd_ ((b.take (4:Int).toNat).drop (2:Int).toNat)=tN b:=by unfold tN;rw [List.drop_take];rfl
  have v2:Zd_ ((b.take (2:Int).toNat).drop (0:Int).toNat)=tT b:=rfl
  have v3:Zd_ (b.take (2:Int).toNat)=tT b:=rfl
  have hl2:(b.take 2).length<=8:=by rw [List.length_take];omega
  have hl4:((b.take 4).drop 2).length<=8:=by rw [List.length_drop,List.length_take];omega
  have hm:=Xv_ (a:=tN b) (s:=step) hN.1 h3
  repeat'(intro t ht;first|(cases t<;>first|(cases ht;done)|(try simp only[zg_]at ht;try(exfalso;first|contradiction|omega)))|((first|refine zb_ ht ?_|refine ht ?_ ?_|refine ht.1 ?_ ?_|refine ht ?_)<;>clear ht))
  all_goals (try simp only [v1,v2,v3] at*)
  all_goals first
   | exact True.intro
   | exact hs
   | exact hl2
   | exact hl4
   | omega
   | ((try simp only [zk_,zl_,zj_] at*);omega)
   | (have hE:tlE b least step bad=bad:=by
       unfold tlE
       by_cases h4:b.length < 4
       ·exact if_pos h4
       ·rw [if_neg h4]
        by_cases hq:tN b < least\/¬ (tN b).tmod step=0
        ·exact if_pos hq
        ·rw [if_neg hq];exact if_pos (by omega)
      unfold tlI tlR;simp only [hE,if_neg h5];first | done | exact ⟨rfl,by first | rfl | exact True.intro⟩ | exact ⟨trivial,trivial⟩)
   | (intro r h1 h2;refine h1 ⟨1,?_⟩;clear h1 h2)
  all_goals repeat'(intro t ht;first|(cases t<;>first|(cases ht;done)|(try simp only[zg_]at ht;try(exfalso;first|contradiction|omega)))|((first|refine zb_ ht ?_|refine ht ?_ ?_|refine ht.1 ?_ ?_|refine ht ?_)<;>clear ht))
  all_goals (try simp only [v1,v2,v3] at*)
  all_goals first
   | exact True.intro
   | omega
   | exact hl2
   | exact hl4
   | (have hT':0<=Zd_ (List.take (Int.toNat 2) b)/\Zd_ (List.take (Int.toNat 2) b)<=65535:=hT;(try simp only [zk_,zl_,zj_] at*);omega)
   | (simp only [List.length_drop,List.length_take,List.length_nil];constructor<;>omega)
   | ((try simp only [zk_,zl_,zj_] at*);omega)
   | (have hE:tlE b least step bad=0:=by unfold tlE;rw [if_neg (by omega),if_neg (by omega)];exact if_neg (by omega)
      unfold tlI tlR;simp only [hE,if_true];first | done | exact ⟨rfl,by first | rfl | exact True.intro⟩ | exact ⟨trivial,trivial⟩)
 ·cases e
def uc_:IR:=
(sq (kr [0] [oD 2 (.mov cF)])
(sq (kr [0] [oM 6 0,
oC 7 138 [6],
oM 5 7,
oX 8 5 0,
oX 9 5 1,
oD 3 (.box [.str [],.int .i64 0,.int .i64 0,.kb false,.int .i64 0,.imm (.int .u64) []]),
oS 6 3 8,
oM 4 9])
(sq (kr [0,4] [oM 10 4,
oM 11 10,
oT 11 12 (.mov 0),
oT 11 13 (.bin .gtr 12 (cI 2)),
oP 14 11 13 cF,
oM 15 14,
oT 15 16 (.mov 0),
oT 15 17 (.bin .neq 16 (cI 39)),
oP 18 15 17 cF,
oM 2 18])
.ret)))
def VM_:List RD:=[.tmp 2 true none]
theorem VY_:zm_ Tryz.prog Tryz.f183 uc_ VM_=true:=by kernel_rfl
def jj_:List AV->List Obj->Option (Prop × AV)
 | [.int .i64 n],[]=>some ((True,.bool (X1_ n)))
 | _,_=>none
theorem YV_:zd_ Tryz.prog 183 (RoF jj_).sum:=by
 refine zi_ Tryz.func183 VY_ (za_ (s:=RoF jk_) K4_ (zc_ _)) fun args objs p v e=>?_
 unfold jj_ at e
 split at e
 ·rename_i n
  cases e
  refine ⟨rfl,fun hw ho hp=>?_⟩
  repeat'(intro t ht;first|(cases t<;>first|(cases ht;done)|(try simp only[zg_]at ht))|((first|refine zb_ ht ?_|refine ht ?_ ?_|refine ht.1 ?_ ?_|refine ht ?_)<;>clear ht))
  all_goals try (try simp only [zk_,zl_,zj_] at*)
  all_goals first
   | exact True.intro
   | (refine ⟨?_,trivial⟩;unfold X1_;congr 1;rw [Bool.eq_iff_iff];first | (have h:=qc_.1 (by assumption);simp at*;omega) | (have h:=jO_.1 (by assumption);simp at*;omega) | (simp at*;omega))
 ·cases e
theorem zaz_:∀ (w:List Int),0<=(w.map zr_).sum
 | []=>Int.le_refl _
 | n :: r=>by
   have ha:0<=zr_ n:=by unfold zr_;split<;>omega
   have hr:=zaz_ r
   rw [List.map_cons,List.sum_cons];omega
theorem gt_:∀ (w b o:List Int),(ZE_ w b o).2=1->(b.length:Int) < (w.map zr_).sum
 | [],b,o,h=>by cases h
 | n :: r,b,o,h=>by
   have ha:0<=zr_ n:=by unfold zr_;split<;>omega
   have hr:=zaz_ r
   simp only [ZE_] at h
   rw [List.map_cons,List.sum_cons]
   split at h
   ·omega
   ·split at h
    ·have:=gt_ r _ _ h;rw [List.length_drop] at this;omega
    ·split at h
     ·have:=gt_ r _ _ h;rw [List.length_drop] at this;omega
     ·exact absurd h (by decide)
theorem zix_ {w b:List Int} (h:zQ_ w b=1):(b.length:Int) < zD_ w:=by
 unfold zQ_ Zy_ at h
 split at h
 ·rename_i c
  unfold zD_;rw [if_pos c];exact gt_ _ _ _ h
 ·exact absurd h (by decide)
theorem rI_0 {b:List Int} (h:rE b=0):(∀ x,rI b x=x)/\∀ l,rR b l=l:=⟨fun _=>if_pos h,fun _=>if_pos h⟩
theorem zm5_ {b:List Int} (hb:∀ x ∈ b,0<=x/\x<=255):∀ x ∈ bd b,0<=x/\x<=255:=fun x hx=>hb x (List.mem_of_mem_take (List.mem_of_mem_drop hx))
theorem zm4_ {b:List Int} (h:tlE b 8 8 514=0):4<=(bd b).length:=by
 unfold tlE at h
 split at h
 ·cases h
 ·split at h
  ·cases h
  ·split at h
   ·cases h
   ·unfold bd;rw [List.length_drop,List.length_take];omega
def zeG_:IR:=
(sq (kr [0] [oD 2 (.box [.int .i64 0,.int .i64 0,.kb false,.int .u64 0,.imm (.int .u8) [],.imm (.int .u8) []]),
oD 3 (.mov (cI 0))])
(sq (kr [0,2] [oM 9 0,
oC 10 103 [9],
oM 8 10,
oX 11 8 0,
oX 12 8 1,
oX 13 8 2,
oD 4 (.box [.int .i64 0,.int .i64 0,.kb false,.int .u64 0,.imm (.int .u8) [],.imm (.int .u8) []]),
oS 6 4 11,
oM 5 12,
oM 6 13])
(sq (.block 0
(sq (kr [0,2,4,5,6] [oM 15 6,
oB 16 .eql 15 (cI 1026),
oM 14 16])
(.cond 14
(sq (.reg [oK 17 6 4,
oS 6 2 17,
oD 3 (.mov (cI 527))])
.ret)
(sq (.reg [oM 19 6,
oB 20 .eql 19 (cI 1031),
oM 18 20])
(.cond 18
(sq (kr [2,4] [oK 21 6 4,
oS 6 2 21,
oD 3 (.mov (cI 526))])
.ret)
(sq (kr [0,2,4,5,6] [oM 23 6,
oB 24 .neq 23 (cI 0),
oM 22 24])
(.cond 22
(sq (.reg [oK 25 6 4,
oS 6 2 25,
oD 3 (.mov (cI 528))])
.ret)
(sq (kr [0,2,4,5] [oA 27 0 4,
oL 28 27,
oB 29 .neq 28 (cI 32768),
oM 30 29,
oF 30 31 (.fieldAddr 1 4),
oF 30 32 (.load none 31),
oF 30 33 (.call false (.f 183) [32]),
oF 30 34 (.un .not 33),
oP 35 30 cT 34,
oM 26 35])
(.cond 26
(sq (kr [2,4] [oK 36 6 4,
oS 6 2 36,
oD 3 (.mov (cI 526))])
.ret)
(sq (kr [0,2,4,5] [oA 38 2 4,
oL 39 38,
oM 37 39])
(.cond 37
(sq (.reg [oK 40 6 4,
oS 6 2 40,
oD 3 (.mov (cI 528))])
.ret)
(sq (kr [0,2,4,5] [oM 42 0,
oE 43 42,
oM 44 5,
oB 45 .add 44 (cI 8),
oB 46 .geq 43 45,
oM 47 46,
oF 47 48 (.mov 0),
oF 47 49 (.len 48),
oF 47 50 (.mov 5),
oF 47 51 (.bin .lss 49 50),
oP 52 47 cT 51,
oM 41 52])
(.cond 41
(sq (kr [2,4] [oK 53 6 4,
oS 6 2 53,
oD 3 (.mov (cI 527))])
.ret)
.skip)))))))))))))
(sq (sq (kr [0,2,4,5] [oM 54 5,
oM 7 54])
(.block 1
(.loop
(sq (sq (kr [0,2,4,7] [oM 55 7,
oM 56 0,
oE 57 56,
oB 58 .lss 55 57])
(.cond 58
.skip
(.exit 1)))
(sq (.block 2
(sq (kr [0,2,4,7] [oM 61 0,
oM 62 7,
oI 63 1 61 62,
oL 64 63,
oB 65 .neq 64 (.c (.int .u8 0))])
(.cond 65
(sq (.reg [oK 66 6 4,
oS 6 2 66,
oD 3 (.mov (cI 528))])
.ret)
.skip)))
(kr [0,2,4,7] [oM 59 7,
oB 60 .add 59 (cI 1),
oM 7 60]))))))
(sq (kr [2,4] [oK 67 6 4,
oS 6 2 67,
oD 3 (.mov (cI 0))])
.ret)))))
def zdV_:List RD:=[.cell 2 (some 6) true [],.tmp 3 true none]
theorem zef_:zm_ Tryz.prog Tryz.f167 zeG_ zdV_=true:=by kernel_rfl
def vU_:List AV->List Obj->Option (Prop × AV)
 | [.imm (.int .u8) b],[]=>some ((b.length<=140737,.tup [.agg [.int .i64 (rI b (zu_ b)),.int .i64 (rI b (zz_ b)),.bool ((if rE b=0 then z5_ b else false)),.int .u64 (rI b (qf_ b)),.imm (.int .u8) (rR b (Zp_ b)),.imm (.int .u8) (rR b (Zq_ b))],.int .i64 (xk_ b)]))
 | _,_=>none
theorem zaG_:zd_ Tryz.prog 167 (RoF vU_).sum:=by
 refine zi_ Tryz.func167 zef_ (za_ (s:=RoF KK_) W7_ (za_ (s:=RoF jj_) YV_ (zc_ _))) fun args objs p v e=>?_
 unfold vU_ at e
 split at e
 ·rename_i b
  cases e
  refine ⟨rfl,fun hw ho hp=>?_⟩
  change List Int at b
  have hb:∀ x ∈ (b:List Int),(0:Int)<=x/\x<=255:=fun x hx=>(hw (.imm (.int .u8) b) (by simp)).1 x hx
  clear hw ho
  have hdl:=zad_ hb
  by_cases h0:rE b=0
  ·obtain ⟨_,_,hN,hNl⟩:=zac_ hb (hdl.trans h0)
   have hS:xk_ b=if ¬ (zu_ b=32768/\X1_ (zz_ b)=true) then 526 else if z5_ b=true then 528 else if z9_ b+8<=b.length then 527 else if zT_ (b.drop (z9_ b).toNat)=true then 0 else 528:=if_pos (hdl.trans h0)
   obtain ⟨i1,i2⟩:=rI_0 h0
   rw [i1,i1,i1,i2,i2,if_pos h0]
   repeat'(intro t ht;first|(cases t<;>first|(cases ht;done)|(try simp only[zg_]at ht))|((first|refine zb_ ht ?_|refine ht ?_ ?_|refine ht.1 ?_ ?_|refine ht ?_)<;>clear ht))
   all_goals first
    | exact True.intro
    | omega
    | contradiction
    | (intro r h1 h2;clear h1;refine h2 ⟨[0,2,4,7],Nat,(fun i=>i<=b.length/\zT_ (b.drop (z9_ b).toNat)=zT_ (b.drop i)),fun i=>[.imm (.int .u8) b,.ptr 0 0,.ptr 1 0,.int .i64 i],fun _=>[.box [.int .i64 0,.int .i64 0,.bool false,.int .u64 0,.imm (.int .u8) [],.imm (.int .u8) []],.box [.int .i64 (zu_ b),.int .i64 (zz_ b),.bool (z5_ b),.int .u64 (qf_ b),.imm (.int .u8) (Zp_ b),.imm (.int .u8) (Zq_ b)]],fun i=>b.length - i,⟨(z9_ b).toNat,⟨by omega,rfl⟩,(by simp only [i1,Int.toNat_of_nonneg hN];try rfl),(by simp only [i1,i2,h0,if_true];try rfl)⟩,?_⟩;clear h2)
    | (simp only [i1,Bt_,Bv_];omega)
    | (exfalso;simp only [i1] at*;omega)
    | (have hS2:=hS;simp only [i1,i2,if_pos h0] at*;rw [hS2];simp_all;done)
   rintro i ⟨hi,he⟩
   (try dsimp only at hi he)
   repeat'(intro t ht;first|(cases t<;>first|(cases ht;done)|(try simp only[zg_]at ht))|((first|refine zb_ ht ?_|refine ht ?_ ?_|refine ht.1 ?_ ?_|refine ht ?_)<;>clear ht))
   all_goals (try simp only [i1,if_pos h0] at*)
   all_goals first
    | exact True.intro
    | omega
    | ((try simp only [zk_,zl_,zj_] at*);omega)
    | (have hge:b.length<=i:=by omega
       rw [List.drop_of_length_le hge] at he
       have hS0:xk_ b=0:=by
        rw [hS,if_neg (not_not_intro ⟨by assumption,by assumption⟩),if_neg (show ¬ z5_ b=true from fun h=>by simp_all),if_neg (by assumption),he];rfl
       rw [hS0];exact ⟨rfl,by first | rfl | exact True.intro⟩)
    | (have hlt:i < b.length:=by omega
       rw [zw_ hlt 0] at he
       unfold zT_ at he
       rw [List.all_cons] at he
       first
        | (have hk:decide (b.getD i 0=0)=true:=decide_eq_true (by assumption)
           rw [hk,Bool.true_and] at he
           exact ⟨i+1,⟨hlt,he⟩,by omega,rfl,by first | rfl | exact True.intro⟩)
        | (have hk:decide (b.getD i 0=0)=false:=decide_eq_false (by assumption)
           rw [hk,Bool.false_and] at he
           have hS0:xk_ b=528:=by
            rw [hS,if_neg (not_not_intro ⟨by assumption,by assumption⟩),if_neg (show ¬ z5_ b=true from fun h=>by simp_all),if_neg (by assumption)]
            unfold zT_;rw [he];rfl
           rw [hS0];exact ⟨rfl,by first | rfl | exact True.intro⟩))
  ·have hd0:¬ zK_ b=0:=fun h=>h0 (hdl.symm.trans h)
   have hS:xk_ b=if zK_ b=1026 then 527 else if zK_ b=1031 then 526 else 528:=if_neg hd0
   rw [hdl] at hS
   repeat'(intro t ht;first|(cases t<;>first|(cases ht;done)|(try simp only[zg_]at ht;try(exfalso;first|contradiction|omega)))|((first|refine zb_ ht ?_|refine ht ?_ ?_|refine ht.1 ?_ ?_|refine ht ?_)<;>clear ht))
   all_goals first
    | exact True.intro
    | omega
    | contradiction
    | (have hS2:=hS;rw [if_pos (show rE b=1026 by assumption)] at hS2;rw [hS2];exact ⟨rfl,by first | rfl | exact True.intro⟩)
    | (have hS2:=hS;rw [if_neg (show ¬ rE b=1026 by assumption),if_pos (show rE b=1031 by assumption)] at hS2;rw [hS2];exact ⟨rfl,by first | rfl | exact True.intro⟩)
    | (have hS2:=hS;rw [if_neg (show ¬ rE b=1026 by assumption),if_neg (show ¬ rE b=1031 by assumption)] at hS2;rw [hS2];exact ⟨rfl,by first | rfl | exact True.intro⟩)
 ·cases e
end Go.Eng
namespace Go.Eng
open Go.Proofs
set_option linter.unusedVariables false
set_option linter.unusedSimpArgs false
set_option maxRecDepth 100000
set_option maxHeartbeats 1000000
set_option maxHeartbeats 8000000
def hv_:IR:=
(sq (kr [0] [oD 2 (.box [.int .i64 0,.int .u64 0,.int .u64 0,.int .i64 0,.int .i64 0,.kb false,.int .u64 0,.nils,.nils,.nils]),
oD 3 (.mov (cI 0)),
oD 4 (.mov (cI 0))])
(sq (kr [0,2] [oD 18 (.build [.int .i64 0,.int .i64 0,.kb false,.int .i64 0,.int .i64 0] [(0,1,(cI 8)),(1,1,(cI 8)),(3,1,(cI 514)),(4,1,(cI 514))]),
oM 19 0,
oC 20 105 [18,19],
oM 17 20,
oX 21 17 0,
oX 22 17 1,
oX 23 17 2,
oD 5 (.box [.int .i64 0,.nils]),
oS 2 5 21,
oM 6 22,
oM 7 23])
(sq (sq (kr [2,5,6,7] [oM 24 7,
oB 25 .neq 24 (cI 0)])
(.cond 25
(sq (.reg [oD 26 (.build [.int .i64 0,.int .u64 0,.int .u64 0,.int .i64 0,.int .i64 0,.kb false,.int .u64 0,.nils,.nils,.nils] []),
oM 27 7,
oS 10 2 26,
oD 3 (.mov (cI 0)),
oM 4 27])
.ret)
.skip))
(sq (kr [2,5,6] [oA 28 0 5,
oL 29 28,
oD 30 (.build [.int .i64 0,.int .u64 0,.int .u64 0,.int .i64 0,.int .i64 0,.kb false,.int .u64 0,.nils,.nils,.nils] [(0,1,29)]),
oD 8 (.box [.int .i64 0,.int .u64 0,.int .u64 0,.int .i64 0,.int .i64 0,.kb false,.int .u64 0,.nils,.nils,.nils]),
oS 10 8 30])
(sq (sq (.reg [oA 31 0 8,
oL 32 31,
oB 33 .eql 32 (cI 25)])
(.cond 33
(sq (kr [2,5,6,8] [oA 35 1 5,
oL 36 35,
oC 37 167 [36],
oM 34 37,
oX 38 34 0,
oX 39 34 1,
oD 9 (.box [.int .i64 0,.int .i64 0,.kb false,.int .u64 0,.nils,.nils]),
oS 6 9 38,
oM 10 39])
(sq (sq (kr [2,6,8,9,10] [oM 40 10,
oB 41 .neq 40 (cI 0)])
(.cond 41
(sq (.reg [oD 42 (.build [.int .i64 0,.int .u64 0,.int .u64 0,.int .i64 0,.int .i64 0,.kb false,.int .u64 0,.nils,.nils,.nils] []),
oM 43 10,
oS 10 2 42,
oD 3 (.mov (cI 0)),
oM 4 43])
.ret)
.skip))
(sq (kr [2,6,8,9] [oK 44 6 9,
oA 45 3 8,
oS 6 45 44])
(sq (.reg [oK 46 10 8,
oM 47 6,
oS 10 2 46,
oM 3 47,
oD 4 (.mov (cI 0))])
.ret))))
.skip))
(sq (kr [2,5,6,8] [oA 49 0 8,
oL 50 49,
oC 51 168 [50],
oM 48 51,
oX 52 48 0,
oX 53 48 1,
oM 11 52,
oM 12 53])
(sq (sq (kr [2,5,6,8,11,12] [oM 54 12,
oD 55 (.un .not 54)])
(.cond 55
(sq (.reg [oD 56 (.build [.int .i64 0,.int .u64 0,.int .u64 0,.int .i64 0,.int .i64 0,.kb false,.int .u64 0,.nils,.nils,.nils] []),
oS 10 2 56,
oD 3 (.mov (cI 0)),
oD 4 (.mov (cI 513))])
.ret)
.skip))
(sq (.reg [oM 57 11,
oC 58 49 [57],
oM 13 58])
(sq (sq (kr [2,5,6,8,11,13] [oA 59 0 8,
oL 60 59,
oB 61 .neq 60 (cI 65535),
oM 62 61,
oT 62 63 (.fieldAddr 1 5),
oT 62 64 (.load none 63),
oT 62 65 (.len 64),
oT 62 66 (.mov 13),
oT 62 67 (.bin .neq 65 66),
oP 68 62 67 cF])
(.cond 68
(sq (kr [2] [oD 69 (.build [.int .i64 0,.int .u64 0,.int .u64 0,.int .i64 0,.int .i64 0,.kb false,.int .u64 0,.nils,.nils,.nils] []),
oS 10 2 69,
oD 3 (.mov (cI 0)),
oD 4 (.mov (cI 514))])
.ret)
.skip))
(sq (kr [2,5,6,8,11,13] [oM 71 11,
oA 72 1 5,
oL 73 72,
oC 74 48 [71,73],
oM 70 74,
oX 75 70 0,
oX 76 70 1,
oM 14 75,
oM 15 76])
(sq (sq (kr [2,5,6,8,13,14,15] [oM 77 15,
oB 78 .neq 77 (cI 0)])
(.cond 78
(sq (.reg [oD 79 (.build [.int .i64 0,.int .u64 0,.int .u64 0,.int .i64 0,.int .i64 0,.kb false,.int .u64 0,.nils,.nils,.nils] []),
oS 10 2 79,
oD 3 (.mov (cI 0)),
oD 4 (.mov (cI 518))])
.ret)
.skip))
(sq (sq (.reg [oM 80 14,
oE 81 80,
oB 82 .gtr 81 (cI 0)])
(.cond 82
(kr [2,5,6,8,13,14] [oM 83 14,
oD 84 (.indexSl 1 83 (cI 0)),
oL 85 84,
oA 86 1 8,
oS 1 86 85])
.skip))
(sq (sq (kr [2,5,6,8,13,14] [oM 87 14,
oE 88 87,
oB 89 .gtr 88 (cI 1)])
(.cond 89
(.reg [oM 90 14,
oD 91 (.indexSl 1 90 (cI 1)),
oL 92 91,
oA 93 2 8,
oS 1 93 92])
.skip))
(sq (sq (kr [2,5,6,8,13] [oA 94 0 8,
oL 95 94,
oA 96 1 8,
oL 97 96,
oC 98 169 [95,97],
oM 16 98])
(sq (.reg [oM 99 16,
oB 100 .neq 99 (cI 0)])
(.cond 100
(sq (kr [2,16] [oD 101 (.build [.int .i64 0,.int .u64 0,.int .u64 0,.int .i64 0,.int .i64 0,.kb false,.int .u64 0,.nils,.nils,.nils] []),
oM 102 16,
oS 10 2 101,
oD 3 (.mov (cI 0)),
oM 4 102])
.ret)
.skip)))
(sq (kd [2,5,6,8,13] [(oA 103 9 8,[]),
(oL 104 103,[]),
(oA 105 1 5,[0,0]),
(oL 106 105,[1,0]),
(oM 107 13,[0,0,0,0]),
(oD 108 (.slice 1 106 (some 107) none none),[3,0]),
(oD 109 (.append (.int .u8) 1 104 108),[]),
(oA 110 9 8,[]),
(oS 1 110 109,[])])
(sq (kr [2,6,8] [oK 111 10 8,
oM 112 6,
oS 10 2 111,
oM 3 112,
oD 4 (.mov (cI 0))])
.ret))))))))))))))))
def Gq_:List RD:=[.cell 2 (some 10) true [none,none,none,none,none,none,none,(some (.int .u8)),(some (.int .u8)),(some (.int .u8))],.tmp 3 true none,.tmp 4 true none]
theorem GW_:zm_ Tryz.prog Tryz.f144 hv_ Gq_=true:=by kernel_rfl
def wV_:List AV->List Obj->Option (Prop × AV)
 | [.imm (.int .u8) b],[]=>some ((b.length<=100000,.tup [.agg [.int .i64 (acI b (tT b)),.int .u64 (acA b 0),.int .u64 (acA b 1),.int .i64 (acS b (zu_ (bd b))),.int .i64 (acS b (zz_ (bd b))),.bool (acH b),.int .u64 (acS b (qf_ (bd b))),.imm (.int .u8) (acV b (Zp_ (bd b))),.imm (.int .u8) (acV b (Zq_ (bd b))),.imm (.int .u8) (acD b)],.int .i64 (acI b (tN b)),.int .i64 (acE b)]))
 | _,_=>none
theorem uU_:zd_ Tryz.prog 144 (RoF wV_).sum:=by
 refine zi_ Tryz.func144 GW_ (za_ (s:=RoF XK_) Vb_ (za_ (s:=RoF vU_) zaG_ (za_ (s:=RoF vV_) zaH_ (za_ (s:=RoF jl_) JY_ (za_ (s:=RoF JN_) W8_ (za_ (s:=RoF Xe_) g9_ (zc_ _))))))) fun args objs p v e=>?_
 unfold wV_ at e
 split at e
 ·rename_i b
  cases e
  refine ⟨rfl,fun hw ho hp=>?_⟩
  change List Int at b
  have hb:∀ x ∈ (b:List Int),(0:Int)<=x/\x<=255:=fun x hx=>(hw (.imm (.int .u8) b) (by simp)).1 x hx
  clear hw ho
  have hbl:=gN_ hb
  have hbb:=zm5_ hb
  have hs:(False=False)/\(4<=(8:Int)/\(8:Int)<=60000/\1<=(8:Int)/\(8:Int)<=64/\(514:Int) ≠ 0/\(514:Int) ≠ 0):=⟨rfl,by decide,by decide,by decide,by decide,by decide,by decide⟩
  by_cases hT:tlE b 8 8 514=0
  ·have hI:∀ x,tlI b 8 8 514 x=x:=fun x=>if_pos hT
   have hR:tlR b 8 8 514=bd b:=if_pos hT
   have hge:=zm4_ hT
   by_cases h25:tT b=25
   ·have hE:acE b=xk_ (bd b):=by unfold acE;rw [if_neg (not_not_intro hT),if_pos h25]
    by_cases h0:xk_ (bd b)=0
    ·have hd0:zK_ (bd b)=0:=Classical.byContradiction fun h=>by
      unfold xk_ at h0;rw [if_neg h] at h0
      split at h0
      ·cases h0
      ·split at h0<;>cases h0
     have hr0:rE (bd b)=0:=(zad_ hbb).symm.trans hd0
     obtain ⟨hdI,hdR⟩:=rI_0 hr0
     obtain ⟨n1,n2,n3,n4,n5,n6⟩:=zjb_ (hE.trans h0) h25
     rw [n1,n2,n2,n3,n3,n3,n4,n5,n5,n6,n1,hE,h0]
     repeat'(intro t ht;first|(cases t<;>first|(cases ht;done)|(try simp only[zg_]at ht;try(exfalso;first|contradiction|omega)))|((first|refine zb_ ht ?_|refine ht ?_ ?_|refine ht.1 ?_ ?_|refine ht ?_)<;>clear ht))
     all_goals (try simp only [hT,hI,hR,h0,h25,hdI,hdR,if_pos hr0,not_true_eq_false] at*)
     all_goals first
      | exact True.intro
      | omega
      | exact ⟨by first | rfl | exact True.intro,⟨by decide,by decide,by decide,by decide,by decide,by decide⟩,by omega⟩
      | exact ⟨rfl,by first | rfl | exact True.intro⟩
      | exact ⟨True.intro,True.intro⟩
      | (exfalso;simp_all;done)
    ·obtain ⟨n1,n2,n3,n4,n5,n6⟩:=j6_ (b:=b) (by rw [hE];exact h0)
     rw [n1,n2,n2,n3,n3,n3,n4,n5,n5,n6,n1,hE]
     repeat'(intro t ht;first|(cases t<;>first|(cases ht;done)|(try simp only[zg_]at ht;try(exfalso;first|contradiction|omega)))|((first|refine zb_ ht ?_|refine ht ?_ ?_|refine ht.1 ?_ ?_|refine ht ?_)<;>clear ht))
     all_goals (try simp only [hT,hI,hR,h25,not_true_eq_false] at*)
     all_goals first
      | exact True.intro
      | omega
      | exact ⟨by first | rfl | exact True.intro,⟨by decide,by decide,by decide,by decide,by decide,by decide⟩,by omega⟩
      | exact ⟨rfl,by first | rfl | exact True.intro⟩
      | exact ⟨True.intro,True.intro⟩
      | (exfalso;simp_all;done)
   ·cases hK:Gm_ (tT b) with
    | false=>
      have hE:acE b=513:=by unfold acE;rw [if_neg (not_not_intro hT),if_neg h25,hK];rfl
      obtain ⟨n1,n2,n3,n4,n5,n6⟩:=j6_ (b:=b) (by rw [hE];decide)
      rw [n1,n2,n2,n3,n3,n3,n4,n5,n5,n6,n1,hE]
      repeat'(intro t ht;first|(cases t<;>first|(cases ht;done)|(try simp only[zg_]at ht;try(exfalso;first|contradiction|omega)))|((first|refine zb_ ht ?_|refine ht ?_ ?_|refine ht.1 ?_ ?_|refine ht ?_)<;>clear ht))
      all_goals (try simp only [hT,hI,hR,not_true_eq_false] at*)
      all_goals first
       | exact True.intro
       | omega
       | exact ⟨by first | rfl | exact True.intro,⟨by decide,by decide,by decide,by decide,by decide,by decide⟩,by omega⟩
       | exact ⟨rfl,by first | rfl | exact True.intro⟩
       | exact ⟨True.intro,True.intro⟩
       | (exfalso;simp_all;done)
    | true=>
      have hE:acE b=plE (tT b) (bd b):=by unfold acE;rw [if_neg (not_not_intro hT),if_neg h25,if_pos hK]
      have hz:=u8_ (tT b)
      have hcn:=gG_ (tT b)
      have h65:tT b=65535->zD_ (zE_ (tT b))=4:=fun h=>by rw [h];decide
      by_cases hm:¬ tT b=65535/\¬ ((bd b).length:Int)=zD_ (zE_ (tT b))
      ·have hE2:acE b=514:=hE.trans (if_pos hm)
       obtain ⟨n1,n2,n3,n4,n5,n6⟩:=j6_ (b:=b) (by rw [hE2];decide)
       rw [n1,n2,n2,n3,n3,n3,n4,n5,n5,n6,n1,hE2]
       repeat'(intro t ht;first|(cases t<;>first|(cases ht;done)|(try simp only[zg_]at ht;try(exfalso;first|contradiction|omega)))|((first|refine zb_ ht ?_|refine ht ?_ ?_|refine ht.1 ?_ ?_|refine ht ?_)<;>clear ht))
       all_goals (try simp only [hT,hI,hR,not_true_eq_false] at*)
       all_goals first
        | exact True.intro
        | omega
        | exact ⟨by first | rfl | exact True.intro,⟨by decide,by decide,by decide,by decide,by decide,by decide⟩,by omega⟩
        | exact ⟨rfl,by first | rfl | exact True.intro⟩
        | exact ⟨True.intro,True.intro⟩
        | (exfalso;simp_all;done)
      ·have hsz:zD_ (zE_ (tT b))<=(bd b).length:=by
        by_cases h6:tT b=65535
        ·have:=h65 h6;omega
        ·have:((bd b).length:Int)=zD_ (zE_ (tT b)):=Classical.byContradiction fun h=>hm ⟨h6,h⟩
         omega
       have hk1:¬ zQ_ (zE_ (tT b)) (bd b)=1:=fun h=>by have:=zix_ h;omega
       by_cases hk0:zQ_ (zE_ (tT b)) (bd b)=0
       ·have hE2:acE b=gP_ (tT b) ((zG_ (zE_ (tT b)) (bd b)).getD 0 0):=hE.trans ((if_neg hm).trans (by rw [hk0];rfl))
        have hl:=zcU_ hbb hk0
        by_cases hf:gP_ (tT b) ((zG_ (zE_ (tT b)) (bd b)).getD 0 0)=0
        ·obtain ⟨n1,n2,n3,n4,n5,n6⟩:=zjc_ (hE2.trans hf) h25
         rw [n1,n2,n2,n3,n3,n3,n4,n5,n5,n6,n1,hE2,hf]
         rcases hL:zG_ (zE_ (tT b)) (bd b) with _ | ⟨u,_ | ⟨w,_ | ⟨w2,r2⟩⟩⟩
         ·have hlen:(zG_ (zE_ (tT b)) (bd b)).length=0:=by rw [hL];rfl
          rw [hL] at hl hf
          repeat'(intro t ht;first|(cases t<;>first|(cases ht;done)|(try simp only[zg_]at ht;try(exfalso;first|contradiction|omega)))|((first|refine zb_ ht ?_|refine ht ?_ ?_|refine ht.1 ?_ ?_|refine ht ?_)<;>clear ht))
          all_goals (try simp only [hT,hI,hR,hL,hk0,List.getD_nil,List.length_nil,not_true_eq_false] at*)
          all_goals first
           | exact True.intro
           | omega
           | exact ⟨by first | rfl | exact True.intro,⟨by decide,by decide,by decide,by decide,by decide,by decide⟩,by omega⟩
           | exact ⟨by omega,by omega⟩
           | (simp only [List.length_drop];constructor<;>omega)
           | exact ⟨rfl,by first | rfl | exact True.intro⟩
           | exact ⟨True.intro,True.intro⟩
           | (exfalso;simp only [List.length_cons,List.length_nil] at*;omega)
           | (exfalso;simp_all;done)
         ·have hlen:(zG_ (zE_ (tT b)) (bd b)).length=1:=by rw [hL];rfl
          rw [hL] at hl hf
          repeat'(intro t ht;first|(cases t<;>first|(cases ht;done)|(try simp only[zg_]at ht;try(exfalso;first|contradiction|omega)))|((first|refine zb_ ht ?_|refine ht ?_ ?_|refine ht.1 ?_ ?_|refine ht ?_)<;>clear ht))
          all_goals (try simp only [hT,hI,hR,hL,hk0,not_true_eq_false] at*)
          all_goals first
           | exact True.intro
           | omega
           | exact ⟨by first | rfl | exact True.intro,⟨by decide,by decide,by decide,by decide,by decide,by decide⟩,by omega⟩
           | exact ⟨by omega,by omega⟩
           | (simp only [List.length_drop];constructor<;>omega)
           | exact ⟨rfl,by first | rfl | exact True.intro⟩
           | exact ⟨True.intro,True.intro⟩
           | (exfalso;simp only [List.length_cons,List.length_nil] at*;omega)
           | (exfalso;simp_all;done)
         ·have hlen:(zG_ (zE_ (tT b)) (bd b)).length=2:=by rw [hL];rfl
          rw [hL] at hl hf
          repeat'(intro t ht;first|(cases t<;>first|(cases ht;done)|(try simp only[zg_]at ht;try(exfalso;first|contradiction|omega)))|((first|refine zb_ ht ?_|refine ht ?_ ?_|refine ht.1 ?_ ?_|refine ht ?_)<;>clear ht))
          all_goals (try simp only [hT,hI,hR,hL,hk0,not_true_eq_false] at*)
          all_goals first
           | exact True.intro
           | omega
           | exact ⟨by first | rfl | exact True.intro,⟨by decide,by decide,by decide,by decide,by decide,by decide⟩,by omega⟩
           | exact ⟨by omega,by omega⟩
           | (simp only [List.length_drop];constructor<;>omega)
           | exact ⟨rfl,by first | rfl | exact True.intro⟩
           | exact ⟨True.intro,True.intro⟩
           | (exfalso;simp only [List.length_cons,List.length_nil] at*;omega)
           | (exfalso;simp_all;done)
         ·rw [hL] at hl;simp only [List.length_cons] at hl;omega
        ·obtain ⟨n1,n2,n3,n4,n5,n6⟩:=j6_ (b:=b) (by rw [hE2];exact hf)
         rw [n1,n2,n2,n3,n3,n3,n4,n5,n5,n6,n1,hE2]
         rcases hL:zG_ (zE_ (tT b)) (bd b) with _ | ⟨u,_ | ⟨w,_ | ⟨w2,r2⟩⟩⟩
         ·have hlen:(zG_ (zE_ (tT b)) (bd b)).length=0:=by rw [hL];rfl
          rw [hL] at hl hf
          repeat'(intro t ht;first|(cases t<;>first|(cases ht;done)|(try simp only[zg_]at ht;try(exfalso;first|contradiction|omega)))|((first|refine zb_ ht ?_|refine ht ?_ ?_|refine ht.1 ?_ ?_|refine ht ?_)<;>clear ht))
          all_goals (try simp only [hT,hI,hR,hL,hk0,List.getD_nil,List.length_nil,not_true_eq_false] at*)
          all_goals first
           | exact True.intro
           | omega
           | exact ⟨by first | rfl | exact True.intro,⟨by decide,by decide,by decide,by decide,by decide,by decide⟩,by omega⟩
           | exact ⟨by omega,by omega⟩
           | exact ⟨rfl,by first | rfl | exact True.intro⟩
           | exact ⟨True.intro,True.intro⟩
           | (exfalso;simp only [List.length_cons,List.length_nil] at*;omega)
           | (exfalso;simp_all;done)
         ·have hlen:(zG_ (zE_ (tT b)) (bd b)).length=1:=by rw [hL];rfl
          rw [hL] at hl hf
          repeat'(intro t ht;first|(cases t<;>first|(cases ht;done)|(try simp only[zg_]at ht;try(exfalso;first|contradiction|omega)))|((first|refine zb_ ht ?_|refine ht ?_ ?_|refine ht.1 ?_ ?_|refine ht ?_)<;>clear ht))
          all_goals (try simp only [hT,hI,hR,hL,hk0,not_true_eq_false] at*)
          all_goals first
           | exact True.intro
           | omega
           | exact ⟨by first | rfl | exact True.intro,⟨by decide,by decide,by decide,by decide,by decide,by decide⟩,by omega⟩
           | exact ⟨by omega,by omega⟩
           | exact ⟨rfl,by first | rfl | exact True.intro⟩
           | exact ⟨True.intro,True.intro⟩
           | (exfalso;simp only [List.length_cons,List.length_nil] at*;omega)
           | (exfalso;simp_all;done)
         ·have hlen:(zG_ (zE_ (tT b)) (bd b)).length=2:=by rw [hL];rfl
          rw [hL] at hl hf
          repeat'(intro t ht;first|(cases t<;>first|(cases ht;done)|(try simp only[zg_]at ht;try(exfalso;first|contradiction|omega)))|((first|refine zb_ ht ?_|refine ht ?_ ?_|refine ht.1 ?_ ?_|refine ht ?_)<;>clear ht))
          all_goals (try simp only [hT,hI,hR,hL,hk0,not_true_eq_false] at*)
          all_goals first
           | exact True.intro
           | omega
           | exact ⟨by first | rfl | exact True.intro,⟨by decide,by decide,by decide,by decide,by decide,by decide⟩,by omega⟩
           | exact ⟨by omega,by omega⟩
           | exact ⟨rfl,by first | rfl | exact True.intro⟩
           | exact ⟨True.intro,True.intro⟩
           | (exfalso;simp only [List.length_cons,List.length_nil] at*;omega)
           | (exfalso;simp_all;done)
         ·rw [hL] at hl;simp only [List.length_cons] at hl;omega
       ·have hk2:zQ_ (zE_ (tT b)) (bd b)=2:=by
         rcases KF_ (zE_ (tT b)) (bd b) with h | h | h
         ·exact absurd h hk0
         ·exact absurd h hk1
         ·exact h
        have hE2:acE b=518:=hE.trans ((if_neg hm).trans (by rw [hk2];rfl))
        obtain ⟨n1,n2,n3,n4,n5,n6⟩:=j6_ (b:=b) (by rw [hE2];decide)
        rw [n1,n2,n2,n3,n3,n3,n4,n5,n5,n6,n1,hE2]
        repeat'(intro t ht;first|(cases t<;>first|(cases ht;done)|(try simp only[zg_]at ht;try(exfalso;first|contradiction|omega)))|((first|refine zb_ ht ?_|refine ht ?_ ?_|refine ht.1 ?_ ?_|refine ht ?_)<;>clear ht))
        all_goals (try simp only [hT,hI,hR,hk2,not_true_eq_false] at*)
        all_goals first
         | exact True.intro
         | omega
         | exact ⟨by first | rfl | exact True.intro,⟨by decide,by decide,by decide,by decide,by decide,by decide⟩,by omega⟩
         | exact ⟨rfl,by first | rfl | exact True.intro⟩
         | exact ⟨True.intro,True.intro⟩
         | (exfalso;simp_all;done)
  ·have hE:acE b=tlE b 8 8 514:=by unfold acE;rw [if_pos hT]
   obtain ⟨n1,n2,n3,n4,n5,n6⟩:=j6_ (b:=b) (by rw [hE];exact hT)
   rw [n1,n2,n2,n3,n3,n3,n4,n5,n5,n6,n1,hE]
   repeat'(intro t ht;first|(cases t<;>first|(cases ht;done)|(try simp only[zg_]at ht;try(exfalso;first|contradiction|omega)))|((first|refine zb_ ht ?_|refine ht ?_ ?_|refine ht.1 ?_ ?_|refine ht ?_)<;>clear ht))
   all_goals first
    | exact True.intro
    | exact ⟨by first | rfl | exact True.intro,⟨by decide,by decide,by decide,by decide,by decide,by decide⟩,by omega⟩
    | exact ⟨rfl,by first | rfl | exact True.intro⟩
 ·cases e
end Go.Eng
namespace Go.Eng
open Go.Proofs
set_option linter.unusedVariables false
set_option linter.unusedSimpArgs false
set_option maxRecDepth 100000
set_option maxHeartbeats 1000000
def hu_:IR:=
(sq (kr [0] [oD 2 (.nilrow Y2),
oD 3 (.mov (cI 0))])
(sq (.reg [oM 9 0,
oE 10 9,
oM 4 10])
(sq (.reg [oD 5 (.nilrow Y2)])
(sq (.block 0
(.loop
(sq (sq (kr [0,4,5] [oM 11 0,
oE 12 11,
oB 13 .gtr 12 (cI 0)])
(.cond 13
.skip
(.exit 0)))
(.block 1
(sq (sq (.reg [oM 14 5,
oE 15 14,
oB 16 .eql 15 (cI 64)])
(.cond 16
(sq (kr [] [oD 2 (.nilrow Y2),
oD 3 (.mov (cI 520))])
.ret)
.skip))
(sq (kr [0,4,5] [oM 18 0,
oC 19 144 [18],
oM 17 19,
oX 20 17 0,
oX 21 17 1,
oX 22 17 2,
oD 6 (.box [.int .i64 0,.int .u64 0,.int .u64 0,.int .i64 0,.int .i64 0,.kb false,.int .u64 0,.imm (.int .u8) [],.imm (.int .u8) [],.imm (.int .u8) []]),
oS 10 6 20,
oM 7 21,
oM 8 22])
(sq (sq (kr [0,4,5,6,7,8] [oM 23 8,
oB 24 .neq 23 (cI 0)])
(.cond 24
(sq (.reg [oM 25 8,
oD 2 (.nilrow Y2),
oM 3 25])
.ret)
.skip))
(sq (kr [0,4,5,6,7] [oM 26 5,
oK 27 10 6,
oD 28 (.sliceAll Y2 1 [(0,10,27)]),
oD 29 (.append Y2 128 26 28),
oM 5 29])
(.reg [oM 30 0,
oM 31 7,
oD 32 (.slice 1 30 (some 31) none none),
oM 0 32])))))))))
(sq (sq (kr [4,5] [oM 33 4,
oB 34 .gtr 33 (cI 65528)])
(.cond 34
(sq (.reg [oD 2 (.nilrow Y2),
oD 3 (.mov (cI 514))])
.ret)
.skip))
(sq (.reg [oM 35 5,
oM 2 35,
oD 3 (.mov (cI 0))])
.ret))))))
def Gp_:List RD:=[.tmp 2 true (some Y2),.tmp 3 true none]
theorem GV_:zm_ Tryz.prog Tryz.f108 hu_ Gp_=true:=by kernel_rfl
def wU_:List AV->List Obj->Option (Prop × AV)
 | [.imm (.int .u8) b],[]=>some ((b.length<=100000,.tup [.imm Y2 (adL b),.int .i64 (adE b)]))
 | _,_=>none
theorem uT_:zd_ Tryz.prog 108 (RoF wU_).sum:=by
 refine zi_ Tryz.func108 GV_ (za_ (s:=RoF wV_) uU_ (zc_ _)) fun args objs p v e=>?_
 unfold wU_ at e
 split at e
 ·rename_i b
  cases e
  refine ⟨rfl,fun hw ho hp=>?_⟩
  change List Int at b
  clear hw ho
  repeat'(intro t ht;first|(cases t<;>first|(cases ht;done)|(try simp only[zg_]at ht))|((first|refine zb_ ht ?_|refine ht ?_ ?_|refine ht.1 ?_ ?_|refine ht ?_)<;>clear ht))
  all_goals first
   | exact True.intro
   | (intro r h1 h2;clear h1;refine h2 ⟨[0,4,5],List AC × List Int,(fun a=>a.1.length<=64/\a.2.length<=b.length/\alG [] b=alG a.1 a.2),fun a=>[.imm (.int .u8) a.2,.int .i64 b.length,.own 0],fun a=>[.row false Y2 a.1],fun a=>a.2.length,⟨([],b),⟨Nat.zero_le _,Nat.le_refl _,rfl⟩,rfl,rfl⟩,?_⟩;clear h2)
  rintro ⟨acc,y⟩ ⟨j1,j2,j3⟩
  dsimp only at j1 j2 j3
  repeat'(intro t ht;first|(cases t<;>first|(cases ht;done)|(try simp only[zg_]at ht;try(exfalso;first|contradiction|omega)))|((first|refine zb_ ht ?_|refine ht ?_ ?_|refine ht.1 ?_ ?_|refine ht ?_)<;>clear ht))
  all_goals (try dsimp only at*)
  all_goals first
   | exact True.intro
   | ((try simp only [zk_,zl_,zj_] at*);omega)
   | omega
   | exact ⟨rfl,rfl⟩
   | (have hg:=uG_ (acc:=acc) (y:=y) (by omega)
      rw [<- j3] at hg
      first
       | (obtain ⟨d1,d2⟩:=(yw_ hg).1 (by omega)
          rw [d1,d2];exact ⟨rfl,rfl⟩)
       | (obtain ⟨d1,d2⟩:=(yw_ hg).2 (by omega)
          rw [d1,d2];exact ⟨rfl,rfl⟩))
   | (simp only [zX_,List.length_cons,List.length_nil];constructor<;>omega)
   | (have hm:=zdp_ (acc:=acc) (y:=y) (by omega) (by omega)
      rw [<- j3] at hm
      obtain ⟨d1,d2⟩:=gU_ (b:=b) (e:=520) (by rw [hm]) (by decide)
      rw [d1,d2];exact ⟨rfl,rfl⟩)
   | (have h0:acE y=0:=by assumption
      obtain ⟨g1,g2,_⟩:=ze7_ h0
      have e1:∀ x,acI y x=x:=fun x=>if_pos h0
      first
       | (rw [e1];constructor<;>omega)
       | (have hm:=zal_ (acc:=acc) (by omega) (by omega) h0 (by omega)
          refine ⟨(acc++[vA y],y.drop (tN y).toNat),⟨?_,?_,j3.trans hm⟩,?_,?_,?_⟩
          ·simp only [List.length_append,List.length_cons,List.length_nil];omega
          ·dsimp only;rw [List.length_drop];omega
          ·dsimp only;rw [List.length_drop];omega
          ·dsimp only;rw [e1];rfl
          ·dsimp only;rw [e1];rfl))
   | (have h0:¬ acE y=0:=by assumption
      have hm:=zam_ (acc:=acc) (y:=y) (by omega) (by omega) h0
      rw [<- j3] at hm
      obtain ⟨d1,d2⟩:=gU_ (b:=b) (e:=acE y) (by rw [hm]) h0
      rw [d1,d2];exact ⟨rfl,rfl⟩)
 ·cases e
def atL (n:Int) (b:List Int) (p sh e:Int):List AC:=if Z1_ n b p sh e=0 then adL (Qn_ n b p sh e) else []
def atE (n:Int) (b:List Int) (p sh e:Int):Int:=if Z1_ n b p sh e=0 then adE (Qn_ n b p sh e) else Z1_ n b p sh e
theorem zgg_ {n:Int} {b:List Int} {p sh e:Int}:(Qn_ n b p sh e).length<=b.length:=by
 unfold Qn_;split
 ·rw [List.length_drop,List.length_take];omega
 ·simp
def B0_:IR:=
(sq (kr [0,1] [oD 4 (.mov (.c (.imm Y2 [])))])
(sq (.reg [oM 8 0,
oM 9 1,
oC 10 98 [8,9],
oM 5 10])
(sq (sq (.reg [oM 11 0,
oC 12 43 [11],
oB 13 .neq 12 (cI 0)])
(.cond 13
(sq (kr [] [oD 4 (.mov (.c (.imm Y2 [])))])
.ret)
.skip))
(sq (kr [0,5] [oM 15 5,
oC 16 182 [15],
oM 14 16,
oX 17 14 0,
oX 18 14 1,
oM 6 17,
oM 7 18])
(sq (kr [0,6,7] [oM 19 0,
oM 20 7,
oC 21 44 [19,20]])
(sq (.reg [oM 22 6,
oM 4 22])
.ret))))))
def bI_:List RD:=[.tmp 4 true (some Y2)]
theorem Bj_:zm_ Tryz.prog Tryz.f161 B0_ bI_=true:=by kernel_rfl
def Xo_:List AV->List Obj->Option (Prop × AV × List Obj)
 | [.ptr 0 0,.int .i64 n],[.box [.imm (.int .u8) b,.int .i64 p,.int .i64 sh,.int .i64 od,.int .i64 e,.bool true]]=>some ((0<=p/\p<=b.length/\b.length<=100000000/\sh ≠ 0,.imm Y2 (atL n b p sh e),[.box [.imm (.int .u8) b,.int .i64 (jB_ n b p sh e),.int .i64 sh,.int .i64 od,.int .i64 (atE n b p sh e),.bool true]]))
 | _,_=>none
theorem Gj_:zd_ Tryz.prog 161 (RwF Xo_).sum:=by
 refine qa_ Tryz.func161 Bj_ (za_ (s:=RwF zN_) z4_ (za_ (s:=RoF zp_) zq_ (za_ (s:=RoF Jd_) VK_ (za_ (s:=RwF zs_) zt_ (zc_ _))))) fun args objs p v o e=>?_
 unfold Xo_ at e
 split at e
 ·rename_i n b p sh od e
  cases e
  refine ⟨rfl,fun hw ho hp=>?_⟩
  change List Int at b
  clear hw ho
  obtain ⟨h1,h2,h3,h4⟩:=hp
  have hl:=zgg_ (n:=n) (b:=b) (p:=p) (sh:=sh) (e:=e)
  by_cases he:Z1_ n b p sh e=0
  ·have f0:∀ x,zv_ 0 x=x:=fun x=>if_pos rfl
   have k1:atL n b p sh e=adL (Qn_ n b p sh e):=if_pos he
   have k2:atE n b p sh e=adE (Qn_ n b p sh e):=if_pos he
   rw [k1,k2]
   clear k1 k2
   repeat'(intro t ht;first|(cases t<;>first|(cases ht;done)|(try simp only[zg_]at ht))|((first|refine zb_ ht ?_|refine ht ?_ ?_|refine ht.1 ?_ ?_|refine ht ?_)<;>clear ht))
   all_goals (try simp only [he,f0] at*)
   all_goals first
    | exact True.intro
    | contradiction
    | exact ⟨h1,h2,by omega,h4⟩
    | omega
    | exact ⟨rfl,by first | rfl | exact True.intro⟩
    | exact ⟨True.intro,True.intro⟩
    | (exfalso;simp_all;done)
  ·repeat'(intro t ht;first|(cases t<;>first|(cases ht;done)|(try simp only[zg_]at ht;try(exfalso;first|contradiction|omega)))|((first|refine zb_ ht ?_|refine ht ?_ ?_|refine ht.1 ?_ ?_|refine ht ?_)<;>clear ht))
   all_goals first
    | exact True.intro
    | exact ⟨h1,h2,by omega,h4⟩
    | (unfold atL atE;rw [if_neg he,if_neg he];exact ⟨rfl,by first | rfl | exact True.intro⟩)
    | (exfalso;simp_all;done)
 ·cases e
abbrev BK:=Int × Int × Int × List AC × Unit
instance:DecidableEq (List AC × Unit):=inferInstance
instance:DecidableEq BK:=inferInstance
def w5:List Int:=[2,2,4,4,-4]
structure okB (l:List BK):Prop where
 a:∀ o ∈ l,okL o.2.2.2.1
 n:l.length<=1000000
theorem zfe_ {α:Type} {x:α->List Int} {f:α->Int} {room:Int} (hr:room<=1000000):∀ (r:List α) (l:List Int) (e:Int),l.length<=1000000->(wrS x f room r l e).1.length<=1000000
 | [],l,e,h=>h
 | o :: r,l,e,h=>zfe_ hr r _ _ (Q9_ h hr)
theorem QF_ {e x:Int} (h:e ≠ 0):zv_ e x ≠ 0:=by unfold zv_;rw [if_neg h];exact h
theorem KH_ {x l:List Int} {room e:Int} (h:e ≠ 0):QS_ x l room e ≠ 0:=by unfold QS_;rw [if_neg h];exact h
theorem zjH_ {w xs l:List Int} {room e:Int} (h:e ≠ 0):qJ_ w xs l room e ≠ 0:=by
 unfold qJ_;split
 ·exact KH_ h
 ·exact QF_ h
theorem zdz_ {α:Type} {x:α->List Int} {f:α->Int} {room:Int}:∀ (r:List α) (l:List Int) (e:Int),e ≠ 0->(wrS x f room r l e).2 ≠ 0
 | [],l,e,h=>h
 | o :: r,l,e,h=>zdz_ r _ _ (KH_ (QF_ h))
theorem zmi_ {x:List AC} {l:List Int} {room e:Int} (h:e ≠ 0):apE x l room e ≠ 0:=by
 unfold apE;split
 ·exact zdz_ _ _ _ h
 ·exact QF_ h
theorem x2_ {x l:List Int} {room:Int} (h:¬ (x.length:Int)<=room - l.length):QS_ x l room 0 ≠ 0:=by
 unfold QS_;rw [if_pos rfl,if_neg h];decide
theorem zav_ {room:Int}:∀ (r:List AC) (l:List Int),r.all rgA=true->(l.length:Int)<=room->¬ ((l.length:Int)+(boA r).length<=room)->(wrS exA eeA room r l 0).2 ≠ 0
 | [],l,_,h0,h1=>by exfalso;apply h1;show (l.length:Int)+0<=room;omega
 | o :: r,l,h,h0,h1=>by
   rw [List.all_cons,Bool.and_eq_true] at h
   obtain ⟨h2,h3⟩:=zkZ_ h.1
   rw [JL_,List.length_append] at h1
   have f0:zv_ 0 0=0:=rfl
   unfold wrS
   rw [h2,h3,f0]
   by_cases hf:((ebA o).length:Int)<=room - l.length
   ·obtain ⟨b1,b2⟩:=x1_ hf
    rw [b1,b2]
    exact zav_ r _ h.2 (by rw [List.length_append];omega) (by rw [List.length_append];omega)
   ·exact zdz_ _ _ _ (x2_ hf)
def bysU (a:AC):Prop:=0<=a.2.2.2.1.2.2.2.1/\(0<=a.2.1/\a.2.1<=18446744073709551615)/\(0<=a.2.2.1/\a.2.2.1<=18446744073709551615)
theorem zlh_ {a:AC} {rest:List Int} (hr:rgA a=true) (hu:bysU a):acE (ebA a++rest)=0/\vA (ebA a++rest)=a/\tN (ebA a++rest)=(ebA a).length:=by
 obtain ⟨E1,E2,E3,E4,E5,E6,E7,E8,E9,E10,E11,E12⟩:=zmj_ (rest:=rest) (show qh_ (zS_ a.2.2.2.1.1 a.2.2.2.1.2.1 a.2.2.2.1.2.2.1 a.2.2.2.1.2.2.2.1 a.2.2.2.1.2.2.2.2.1 a.2.2.2.1.2.2.2.2.2.1) a.1 a.2.1 a.2.2.1 a.2.2.2.1.1 a.2.2.2.1.2.1 a.2.2.2.1.2.2.1 a.2.2.2.1.2.2.2.1 a.2.2.2.1.2.2.2.2.1 a.2.2.2.1.2.2.2.2.2.1 a.2.2.2.2.1=true from hr) hu.2.1 hu.2.2 hu.1
 have hs:=uO_ hr
 have e:szA a=4+((qu_ a.1 a.2.1 a.2.2.1 (ZF_ a.2.2.2.1.1 a.2.2.2.1.2.1 a.2.2.2.1.2.2.1 a.2.2.2.1.2.2.2.1 a.2.2.2.1.2.2.2.2.1 a.2.2.2.1.2.2.2.2.2.1) a.2.2.2.2.1).length:Int):=(Xx_ hr).1
 refine ⟨E1,?_,?_⟩
 ·show (tT _,acA _ 0,acA _ 1,(acS _ _,acS _ _,acH _,acS _ _,acV _ _,acV _ _,()),acD _,())=a
  unfold ebA
  rw [E2,E4,E5,E6,E7,E8,E9,E10,E11,E12]
 ·unfold ebA at hs ⊢
  rw [E3];omega
theorem zf6_:∀ (r acc:List AC),r.all rgA=true->(∀ a ∈ r,bysU a)->acc.length+r.length<=64->alG acc (boA r)=(acc++r,0)
 | [],acc,_,_,_=>by rw [uG_ (by rfl),List.append_nil]
 | a :: r,acc,h,hu,hl=>by
   rw [List.all_cons,Bool.and_eq_true] at h
   obtain ⟨e1,e2,e3⟩:=zlh_ (rest:=boA r) h.1 (hu a (List.mem_cons_self ..))
   have hs:=uO_ h.1
   rw [List.length_cons] at hl
   have ha:acc++a :: r=(acc++[a])++r:=by rw [List.append_assoc];rfl
   rw [JL_,zal_ (by rw [List.length_append];omega) (by omega) e1 (by rw [e3];omega),e2,e3,Int.toNat_natCast,List.drop_left]
   rw [zf6_ r (acc++[a]) h.2 (fun o ho=>hu o (List.mem_cons_of_mem _ ho)) (by rw [List.length_append,List.length_singleton];omega),<- ha]
theorem zja_ {l:List AC} (h:rgL l=true) (hu:∀ a ∈ l,bysU a):adL (boA l)=l/\adE (boA l)=0:=by
 obtain ⟨h1,h2,h3,_⟩:=Jt_ h
 have hg:=zf6_ l [] h1 hu (by simpa using h2)
 rw [List.nil_append] at hg
 exact (yw_ hg).2 (by omega)
def smB (x y:BK):Bool:=decide (x.1=y.1) && decide (x.2.1=y.2.1) && decide (x.2.2.1=y.2.2.1) && decide (x.2.2.2.1=y.2.2.2.1)
theorem zms_ {x y:BK} (h:smB x y=true):x=y:=by
 obtain ⟨a,b,c,d,_⟩:=x
 obtain ⟨a',b',c',d',_⟩:=y
 unfold smB at h
 simp only [Bool.and_eq_true,decide_eq_true_eq] at h
 obtain ⟨⟨⟨h1,h2⟩,h3⟩,h4⟩:=h
 rw [h1,h2,h3,h4]
theorem zmM_ {x y:BK} (h:¬ (x.1=y.1/\x.2.1=y.2.1/\x.2.2.1=y.2.2.1/\x.2.2.2.1=y.2.2.2.1)):¬ x=y:=fun e=>h (by rw [e];exact ⟨rfl,rfl,rfl,rfl⟩)
theorem zl4_ {x y:BK} (h:x.1=y.1/\x.2.1=y.2.1/\x.2.2.1=y.2.2.1/\x.2.2.2.1=y.2.2.2.1):x=y:=zms_ (by unfold smB;rw [h.1,h.2.1,h.2.2.1,h.2.2.2];simp)
def zcx_:IR:=
(sq (kr [0,1] [oD 4 (.mov cF)])
(sq (sq (kr [0,1] [oM 8 0,
oE 9 8,
oM 10 1,
oE 11 10,
oB 12 .neq 9 11])
(.cond 12
(sq (.reg [oD 4 (.mov cF)])
.ret)
.skip))
(sq (sq (kr [0,1] [oD 5 (.mov (cI 0))])
(.block 0
(.loop
(sq (sq (kr [0,1,5] [oM 13 5,
oM 14 0,
oE 15 14,
oB 16 .lss 13 15])
(.cond 16
.skip
(.exit 0)))
(sq (.block 1
(sq (kd [0,1,5] [(oM 19 0,[]),
(oM 20 5,[0]),
(oI 21 4 19 20,[]),
(oK 22 4 21,[]),
(oM 23 1,[0,0,0,0]),
(oM 24 5,[0,0,0,0,0]),
(oI 25 4 23 24,[2,0,0,0]),
(oK 26 4 25,[3,0,0,0]),
(oD 6 (.box [.int .u64 0,.int .u64 0,.int .u64 0,.imm Y2 []]),[0,0,0,0,0,0,0,0]),
(oD 7 (.box [.int .u64 0,.int .u64 0,.int .u64 0,.imm Y2 []]),[0,0,0,0,0,0,0,0,0]),
(oS 4 6 22,[2,0,0,0]),
(oS 4 7 26,[])])
(sq (kr [0,1,5,6,7] [oA 27 0 6,
oL 28 27,
oA 29 0 7,
oL 30 29,
oB 31 .eql 28 30,
oM 32 31,
oT 32 33 (.fieldAddr 1 6),
oT 32 34 (.load none 33),
oT 32 35 (.fieldAddr 1 7),
oT 32 36 (.load none 35),
oT 32 37 (.bin .eql 34 36),
oP 38 32 37 cF,
oM 39 38,
oT 39 40 (.fieldAddr 2 6),
oT 39 41 (.load none 40),
oT 39 42 (.fieldAddr 2 7),
oT 39 43 (.load none 42),
oT 39 44 (.bin .eql 41 43),
oP 45 39 44 cF,
oM 46 45,
oT 46 47 (.fieldAddr 3 6),
oT 46 48 (.load none 47),
oT 46 49 (.fieldAddr 3 7),
oT 46 50 (.load none 49),
oT 46 51 (.call false (.f 55) [48,50]),
oP 52 46 51 cF,
oD 53 (.un .not 52)])
(.cond 53
(sq (kr [] [oD 4 (.mov cF)])
.ret)
.skip))))
(kr [0,1,5] [oM 17 5,
oB 18 .add 17 (cI 1),
oM 5 18]))))))
(sq (kr [] [oD 4 (.mov cT)])
.ret))))
def za6_:List RD:=[.tmp 4 true none]
theorem zbJ_:zm_ Tryz.prog Tryz.f57 zcx_ za6_=true:=by kernel_rfl
def wR_:List AV->List Obj->Option (Prop × AV)
 | [.imm ty0 a,.imm ty1 b],[]=>ZY_ ty0 Y4 a fun a=>ZY_ ty1 Y4 b fun b=>some ((True,.bool (decide ((a:List BK)=b))))
 | _,_=>none
theorem yZ_:zd_ Tryz.prog 57 (RoF wR_).sum:=by
 refine zi_ Tryz.func57 zbJ_ (za_ (s:=RoF ji_) JX_ (zc_ _)) fun args objs p v e=>?_
 unfold wR_ at e
 split at e
 ·rename_i ty0 a ty1 b
  obtain rfl:=zY_ e
  replace e:=zZ_ e
  obtain rfl:=zY_ e
  replace e:=zZ_ e
  cases e
  refine ⟨rfl,fun hw ho hp=>?_⟩
  change List BK at a
  change List BK at b
  have hl:a.length<=maxLen:=(hw (.imm Y4 a) (by simp)).2
  unfold maxLen at hl
  clear hw ho
  repeat'(intro t ht;first|(cases t<;>first|(cases ht;done)|(try simp only[zg_]at ht))|((first|refine zb_ ht ?_|refine ht ?_ ?_|refine ht.1 ?_ ?_|refine ht ?_)<;>clear ht))
  all_goals first
   | (have hne:a ≠ b:=fun h=>(by assumption:¬ (a.length:Int)=b.length) (by rw [h])
      refine ⟨?_,rfl⟩;rw [decide_eq_false hne];done)
   | (intro r h1 h2;clear h1;refine h2 ⟨[0,1,5],Nat,(fun i=>i<=a.length/\a.take i=b.take i),fun i=>[.imm Y4 a,.imm Y4 b,.int .i64 i],fun _=>[],fun i=>a.length - i,⟨0,⟨Nat.zero_le _,rfl⟩,rfl,rfl⟩,?_⟩;clear h2)
  rintro i ⟨hi,he⟩
  have hl2:a.length=b.length:=by omega
  repeat'(intro t ht;first|(cases t<;>first|(cases ht;done)|(try simp only[zg_]at ht;try(exfalso;first|contradiction|omega)))|((first|refine zb_ ht ?_|refine ht ?_ ?_|refine ht.1 ?_ ?_|refine ht ?_)<;>clear ht))
  all_goals (try generalize (Ty.dflt Y4)=od at*)
  all_goals first
   | exact True.intro
   | ((try simp only [zk_,zl_,zj_] at*);omega)
   | (have e:=Ks_ he (by omega) hl2
      refine ⟨?_,rfl⟩;rw [decide_eq_true e];done)
   | (have hne:a ≠ b:=XO_ (d:=od) (i:=i) (zmM_ fun h=>by simp_all)
      refine ⟨?_,rfl⟩;rw [decide_eq_false hne];done)
   | (have hs:a.getD i od=b.getD i od:=zl4_ (by simp_all)
      exact ⟨i+1,⟨by omega,Qe_ he (by omega) hl2 (d:=od) hs⟩,by (try simp only [zk_,zl_,zj_] at*);omega,rfl,rfl⟩)
   | skip
 ·cases e
abbrev P8:=Int × Int × Int × Int × Int × Int × Int × Int × Unit
abbrev PV:=Int × Int × List Int × P8 × Unit
instance:DecidableEq (Int × Int × Int × Int × Unit):=inferInstance
instance:DecidableEq P8:=inferInstance
instance:DecidableEq PV:=inferInstance
theorem zki_ {a b:PV} (h:a.1=b.1/\a.2.1=b.2.1/\a.2.2.1=b.2.2.1/\a.2.2.2.1.1=b.2.2.2.1.1/\a.2.2.2.1.2.1=b.2.2.2.1.2.1/\a.2.2.2.1.2.2.1=b.2.2.2.1.2.2.1/\a.2.2.2.1.2.2.2.1=b.2.2.2.1.2.2.2.1/\a.2.2.2.1.2.2.2.2.1=b.2.2.2.1.2.2.2.2.1/\a.2.2.2.1.2.2.2.2.2.1=b.2.2.2.1.2.2.2.2.2.1/\a.2.2.2.1.2.2.2.2.2.2.1=b.2.2.2.1.2.2.2.2.2.2.1/\a.2.2.2.1.2.2.2.2.2.2.2.1=b.2.2.2.1.2.2.2.2.2.2.2.1/\True):a=b:=by
 obtain ⟨a1,a2,a3,⟨a4,a5,a6,a7,a8,a9,a10,a11,_⟩,_⟩:=a
 obtain ⟨b1,b2,b3,⟨b4,b5,b6,b7,b8,b9,b10,b11,_⟩,_⟩:=b
 simpa only [Prod.mk.injEq,and_true] using h
def zct_:IR:=
(sq (kr [0,1] [oD 4 (.mov cF)])
(sq (sq (kr [0,1] [oM 8 0,
oE 9 8,
oM 10 1,
oE 11 10,
oB 12 .neq 9 11])
(.cond 12
(sq (.reg [oD 4 (.mov cF)])
.ret)
.skip))
(sq (sq (kr [0,1] [oD 5 (.mov (cI 0))])
(.block 0
(.loop
(sq (sq (kr [0,1,5] [oM 13 5,
oM 14 0,
oE 15 14,
oB 16 .lss 13 15])
(.cond 16
.skip
(.exit 0)))
(sq (.block 1
(sq (kd [0,1,5] [(oM 19 0,[]),
(oM 20 5,[0]),
(oI 21 11 19 20,[]),
(oK 22 11 21,[]),
(oM 23 1,[0,0,0,0]),
(oM 24 5,[0,0,0,0,0]),
(oI 25 11 23 24,[2,0,0,0]),
(oK 26 11 25,[3,0,0,0]),
(oD 6 (.box [.int .u64 0,.int .u64 0,.str [],.int .u64 0,.int .u64 0,.int .u64 0,.int .u64 0,.int .u64 0,.int .u64 0,.int .u64 0,.int .u64 0]),[0,0,0,0,0,0,0,0]),
(oD 7 (.box [.int .u64 0,.int .u64 0,.str [],.int .u64 0,.int .u64 0,.int .u64 0,.int .u64 0,.int .u64 0,.int .u64 0,.int .u64 0,.int .u64 0]),[0,0,0,0,0,0,0,0,0]),
(oS 11 6 22,[2,0,0,0]),
(oS 11 7 26,[])])
(sq (kr [0,1,5,6,7] [oK 27 11 6,
oK 28 11 7,
oD 29 (.eqs false [.int .u64,.int .u64,.str,.int .u64,.int .u64,.int .u64,.int .u64,.int .u64,.int .u64,.int .u64,.int .u64] 27 28),
oD 30 (.un .not 29)])
(.cond 30
(sq (.reg [oD 4 (.mov cF)])
.ret)
.skip))))
(kr [0,1,5] [oM 17 5,
oB 18 .add 17 (cI 1),
oM 5 18]))))))
(sq (kr [] [oD 4 (.mov cT)])
.ret))))
def za2_:List RD:=[.tmp 4 true none]
theorem zbF_:zm_ Tryz.prog Tryz.f60 zct_ za2_=true:=by kernel_rfl
def wP_:List AV->List Obj->Option (Prop × AV)
 | [.imm ty0 a,.imm ty1 b],[]=>ZY_ ty0 Y8 a fun a=>ZY_ ty1 Y8 b fun b=>some ((True,.bool (decide (a=b))))
 | _,_=>none
theorem yX_:zd_ Tryz.prog 60 (RoF wP_).sum:=by
 refine zi_ Tryz.func60 zbF_ (zc_ _) fun args objs p v e=>?_
 unfold wP_ at e
 split at e
 ·rename_i ty0 a ty1 b
  obtain rfl:=zY_ e
  replace e:=zZ_ e
  obtain rfl:=zY_ e
  replace e:=zZ_ e
  cases e
  refine ⟨rfl,fun hw ho hp=>?_⟩
  change List PV at a
  change List PV at b
  have hl:a.length<=maxLen:=(hw (.imm Y8 a) (by simp)).2
  unfold maxLen at hl
  clear hw ho
  repeat'(intro t ht;first|(cases t<;>first|(cases ht;done)|(try simp only[zg_]at ht))|((first|refine zb_ ht ?_|refine ht ?_ ?_|refine ht.1 ?_ ?_|refine ht ?_)<;>clear ht))
  all_goals first
   | (have hne:a ≠ b:=fun h=>(by assumption:¬ (a.length:Int)=b.length) (by rw [h])
      refine ⟨?_,rfl⟩;rw [decide_eq_false hne];done)
   | (intro r h1 h2;clear h1;refine h2 ⟨[0,1,5],Nat,(fun i=>i<=a.length/\a.take i=b.take i),fun i=>[.imm Y8 a,.imm Y8 b,.int .i64 i],fun _=>[],fun i=>a.length - i,⟨0,⟨Nat.zero_le _,rfl⟩,rfl,rfl⟩,?_⟩;clear h2)
  rintro i ⟨hi,he⟩
  have hl2:a.length=b.length:=by omega
  repeat'(intro t ht;first|(cases t<;>first|(cases ht;done)|(try simp only[zg_]at ht;try(exfalso;first|contradiction|omega)))|((first|refine zb_ ht ?_|refine ht ?_ ?_|refine ht.1 ?_ ?_|refine ht ?_)<;>clear ht))
  all_goals (try generalize (Ty.dflt Y8)=pd at*)
  all_goals first
   | exact True.intro
   | ((try simp only [zk_,zl_,zj_] at*);omega)
   | (have e:=Ks_ he (by omega) hl2
      refine ⟨?_,rfl⟩;rw [decide_eq_true e];done)
   | (have hne:a ≠ b:=XO_ (d:=pd) (i:=i) (fun h=>by rw [h] at ht;simp at ht)
      refine ⟨?_,rfl⟩;rw [decide_eq_false hne];done)
   | exact ⟨i+1,⟨by omega,Qe_ he (by omega) hl2 (d:=pd) (zki_ ht)⟩,by (try simp only [zk_,zl_,zj_] at*);omega,rfl,rfl⟩
 ·cases e
end Go.Eng
