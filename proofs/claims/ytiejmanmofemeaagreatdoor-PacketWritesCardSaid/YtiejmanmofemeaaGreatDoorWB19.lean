/- Parts of the proof: Z2, H5, H6, K1, H7, K3, K4, K5, K6, K7, P1. No condition. -/
import Derived.Test.YtiejmanmofemeaaGreatDoorProg
import Derived.Test.YtiejmanmofemeaaGreatDoorWB10
import Derived.KernelRfl
import Derived.Test.YtiejmanmofemeaaGreatDoorWB18
import Derived.Test.YtiejmanmofemeaaGreatDoorWB15
namespace Go.Eng
open Go.Proofs
set_option linter.unusedVariables false
set_option linter.unusedSimpArgs false
set_option maxRecDepth 100000
set_option maxHeartbeats 1000000
theorem hN_ {q a b c f:Int} {h:Bool} {x:Int} {v m d:List Int} (hr:zS_ (zB_ c f h x v m) q a b c f h x v m d=true):ZD_ q a b (Zs_ c f h x v m) d=ZD_ q a b (ZB_ c f h x v m) d:=by
 by_cases h25:q=25
 ·obtain ⟨_,_,_,_,_,_,hR⟩:=KN_ h25 hr
  rw [Xb_ hR]
 ·unfold ZD_;rw [if_neg h25,if_neg h25]
theorem BV_ {R:Bool} {q a b c f:Int} {h:Bool} {x:Int} {v m d:List Int} (hr:zS_ R q a b c f h x v m d=true):0<=q/\q<=65535:=by
 by_cases h25:q=25
 ·omega
 ·exact V6_ (.inl (QD_ h25 hr).1)
theorem zfB_ {c f:Int} {h:Bool} {x:Int} {v m:List Int} (hs:qO_ c f h x v m 0 0 false 0 [] []=true):h=false:=by
 cases h with
 | false=>rfl
 | true=>unfold qO_ at hs;simp at hs
def zbD_:IR:=
(sq (kr [0] [oD 1 (.boxv 0),
oD 2 (.mov (.c (.imm (.int .u8) []))),
oD 3 (.mov cF)])
(sq (.reg [oD 13 (.build [.int .i64 0,.int .i64 0,.kb false,.int .u64 0,.imm (.int .u8) [],.imm (.int .u8) []] []),
oD 4 (.box [.int .i64 0,.int .i64 0,.kb false,.int .u64 0,.imm (.int .u8) [],.imm (.int .u8) []]),
oS 6 4 13])
(sq (sq (.reg [oA 14 0 1,
oL 15 14,
oB 16 .eql 15 (cI 25)])
(.cond 16
(sq (kr [1] [oA 17 3 1,
oK 18 6 17,
oD 5 (.box [.int .i64 0,.int .i64 0,.kb false,.int .u64 0,.imm (.int .u8) [],.imm (.int .u8) []]),
oS 6 5 18])
(sq (kr [1,5] [oA 19 1 1,
oL 20 19,
oB 21 .eql 20 (.c (.int .u64 0)),
oM 22 21,
oT 22 23 (.fieldAddr 2 1),
oT 22 24 (.load none 23),
oT 22 25 (.bin .eql 24 (.c (.int .u64 0))),
oP 26 22 25 cF,
oM 27 26,
oT 27 28 (.fieldAddr 9 1),
oT 27 29 (.load none 28),
oT 27 30 (.len 29),
oT 27 31 (.bin .eql 30 (cI 0)),
oP 32 27 31 cF,
oM 33 32,
oT 33 34 (.fieldAddr 0 5),
oT 33 35 (.load none 34),
oT 33 36 (.bin .eql 35 (cI 32768)),
oP 37 33 36 cF,
oM 38 37,
oT 38 39 (.fieldAddr 2 5),
oT 38 40 (.load none 39),
oT 38 41 (.un .not 40),
oP 42 38 41 cF,
oM 43 42,
oT 43 44 (.fieldAddr 1 5),
oT 43 45 (.load none 44),
oT 43 46 (.call false (.f 201) [45]),
oP 47 43 46 cF,
oM 48 47,
oT 48 49 (.load (some 6) 5),
oT 48 50 (.call false (.f 179) [49]),
oP 51 48 50 cF,
oM 6 51])
(sq (sq (kr [5,6] [oM 52 6,
oD 53 (.un .not 52)])
(.cond 53
(sq (.reg [oD 2 (.mov (.c (.imm (.int .u8) []))),
oD 3 (.mov cF)])
.ret)
.skip))
(sq (.reg [oK 54 6 5,
oC 55 180 [54],
oM 7 55])
(sq (.block 0
(.loop
(sq (sq (kr [7] [oM 56 7,
oE 57 56,
oB 58 .rem 57 (cI 8),
oB 59 .neq 58 (cI 4)])
(.cond 59
.skip
(.exit 0)))
(.block 1
(.reg [oM 60 7,
oD 61 (.sliceAll (.int .u8) 1 [(0,1,(.c (.int .u8 0)))]),
oD 62 (.append (.int .u8) 1 60 61),
oM 7 62])))))
(sq (kr [7] [oM 63 7,
oM 2 63,
oD 3 (.mov cT)])
.ret))))))
.skip))
(sq (kr [1,4] [oA 65 0 1,
oL 66 65,
oC 67 173 [66],
oM 64 67,
oX 68 64 0,
oX 69 64 1,
oM 8 68,
oM 9 69])
(sq (sq (kr [1,4,8,9] [oM 70 9,
oD 71 (.un .not 70),
oM 72 71,
oF 72 73 (.fieldAddr 3 1),
oF 72 74 (.load (some 6) 73),
oF 72 75 (.load (some 6) 4),
oF 72 76 (.call false (.f 153) [74,75]),
oF 72 77 (.un .not 76),
oP 78 72 cT 77,
oM 79 78,
oF 79 80 (.fieldAddr 3 1),
oF 79 81 (.fieldAddr 2 80),
oF 79 82 (.load none 81),
oP 83 79 cT 82,
oM 84 83,
oF 84 85 (.fieldAddr 0 1),
oF 84 86 (.load none 85),
oF 84 87 (.fieldAddr 1 1),
oF 84 88 (.load none 87),
oF 84 89 (.call false (.f 174) [86,88]),
oF 84 90 (.bin .neq 89 (cI 0)),
oP 91 84 cT 90])
(.cond 91
(sq (kr [] [oD 2 (.mov (.c (.imm (.int .u8) []))),
oD 3 (.mov cF)])
.ret)
.skip))
(sq (kr [1,8] [oK 92 10 1,
oM 93 8,
oC 94 206 [92,93],
oM 10 94])
(sq (kr [1,8,10] [oM 96 8,
oM 97 10,
oC 98 81 [96,97],
oM 95 98,
oX 99 95 0,
oX 100 95 1,
oM 11 99,
oM 12 100])
(sq (sq (kr [1,10,11,12] [oM 101 12,
oD 102 (.un .not 101),
oM 103 102,
oF 103 104 (.mov 10),
oF 103 105 (.len 104),
oF 103 106 (.bin .lss 105 (cI 2)),
oF 103 107 (.mov 106),
oT 107 108 (.fieldAddr 2 1),
oT 107 109 (.load none 108),
oT 107 110 (.bin .neq 109 (.c (.int .u64 0))),
oF 103 111 (.pick 107 110 cF),
oP 112 103 cT 111,
oM 113 112,
oF 113 114 (.mov 10),
oF 113 115 (.len 114),
oF 113 116 (.bin .lss 115 (cI 1)),
oF 113 117 (.mov 116),
oT 117 118 (.fieldAddr 1 1),
oT 117 119 (.load none 118),
oT 117 120 (.bin .neq 119 (.c (.int .u64 0))),
oF 113 121 (.pick 117 120 cF),
oP 122 113 cT 121,
oM 123 122,
oF 123 124 (.fieldAddr 0 1),
oF 123 125 (.load none 124),
oF 123 126 (.bin .neq 125 (cI 65535)),
oF 123 127 (.mov 126),
oT 127 128 (.fieldAddr 9 1),
oT 127 129 (.load none 128),
oT 127 130 (.len 129),
oT 127 131 (.bin .gtr 130 (cI 0)),
oF 123 132 (.pick 127 131 cF),
oP 133 123 cT 132,
oM 134 133,
oF 134 135 (.fieldAddr 9 1),
oF 134 136 (.load none 135),
oF 134 137 (.len 136),
oF 134 138 (.bin .rem 137 (cI 8)),
oF 134 139 (.bin .neq 138 (cI 0)),
oP 140 134 cT 139,
oM 141 140,
oF 141 142 (.fieldAddr 9 1),
oF 141 143 (.load none 142),
oF 141 144 (.len 143),
oF 141 145 (.bin .gtr 144 (cI 65520)),
oP 146 141 cT 145])
(.cond 146
(sq (kr [] [oD 2 (.mov (.c (.imm (.int .u8) []))),
oD 3 (.mov cF)])
.ret)
.skip))
(sq (kr [1,11] [oM 147 11,
oA 148 9 1,
oL 149 148,
oD 150 (.append (.int .u8) 1 147 149),
oM 2 150,
oD 3 (.mov cT)])
.ret)))))))))
def zaf_:List RD:=[.tmp 2 true (some (.int .u8)),.tmp 3 true none]
theorem zaQ_:zn_ Tryz.prog Tryz.f181 zbD_ zaf_=true:=by kernel_rfl
def yw_:List AV->List Obj->Option (Prop × AV)
 | [.agg [.int .i64 q,.int .u64 a,.int .u64 b,.int .i64 c,.int .i64 f,.bool h,.int .u64 x,.imm (.int .u8) v,.imm (.int .u8) m,.imm (.int .u8) d]],[]=>some ((v.length<=100000/\m.length<=100000/\d.length<=100000,.tup [.imm (.int .u8) (if zS_ (Kw_ c f h x v m) q a b c f h x v m d=true then ZD_ q a b (ZB_ c f h x v m) d else []),.bool (zS_ (Kw_ c f h x v m) q a b c f h x v m d)]))
 | _,_=>none
theorem Hc_:zd_ Tryz.prog 181 (RoF yw_).sum:=by
 refine zi_ Tryz.func181 zaQ_ (za_ (s:=RoF K7_) YS_ (za_ (s:=RoF jx_) XF_ (za_ (s:=RwF jT_) Vw_ (za_ (s:=RoF vH_) BN_ (za_ (s:=RoF K6_) JB_ (za_ (s:=RoF xJ_) gq_ (za_ (s:=RoF yv_) Hb_ (za_ (s:=RwF jB_) XJ_ (zc_ _))))))))) fun args objs p v e=>?_
 unfold yw_ at e
 split at e
 ·rename_i q a b c f h x v m d
  cases e
  refine ⟨rfl,fun hw ho hp=>?_⟩
  change List Int at v
  change List Int at m
  change List Int at d
  have hx0:0<=x:=((hw _ (List.mem_cons_self ..)) (.int .u64 x) (by simp)).1
  have hv0:∀ z ∈ (v:List Int),(0:Int)<=z/\z<=255:=fun z hz=>((hw _ (List.mem_cons_self ..)) (.imm (.int .u8) v) (by simp)).1 z hz
  have hm0:∀ z ∈ (m:List Int),(0:Int)<=z/\z<=255:=fun z hz=>((hw _ (List.mem_cons_self ..)) (.imm (.int .u8) m) (by simp)).1 z hz
  clear hw ho
  have hcn:=vs_ q
  have hsz:=YW_ q
  have hRO:=YZ_ (c:=c) (f:=f) (h:=h) hx0 hv0 hm0
  have hcl:((([a,b].take (zq_ (zv_ q)).toNat).length:Nat):Int)=zq_ (zv_ q):=by rw [List.length_take];simp only [List.length_cons,List.length_nil];omega
  have hpl:([a,b].take (zq_ (zv_ q)).toNat).length=(zq_ (zv_ q)).toNat:=by rw [List.length_take];simp only [List.length_cons,List.length_nil];omega
  by_cases h25:q=25
  ·have hR:zS_ (Kw_ c f h x v m) q a b c f h x v m d=(decide (a=0) && decide (b=0) && decide (d.length=0) && (decide (c=32768) && !h && WZ_ f && Kw_ c f h x v m)):=if_pos h25
   cases hr:zS_ (Kw_ c f h x v m) q a b c f h x v m d with
   | false=>
     rw [hR] at hr
     repeat'(intro t ht;first|(cases t<;>first|(cases ht;done)|(try simp only[zg_]at ht;try(exfalso;first|contradiction|omega)))|((first|refine zb_ ht ?_|refine ht ?_ ?_|refine ht.1 ?_ ?_|refine ht ?_)<;>clear ht))
     all_goals first
      | exact True.intro
      | exact hp
      | exact ⟨hp.1,hp.2.1⟩
      | omega
      | exact ⟨rfl,by first | rfl | exact True.intro⟩
      | (exfalso;simp_all;done)
   | true=>
     obtain ⟨ha,hb,hd,hc,hh,hs,hRr⟩:=KN_ h25 hr
     have hBB:ZD_ q a b (ZB_ c f h x v m) d=ZB_ c f h x v m++List.replicate ((8 - (4+(ZB_ c f h x v m).length) % 8) % 8) 0:=if_pos h25
     have hn:=Z9_ (hRO.trans hRr)
     have hsL:=(kY_ (hRO.trans hRr)).2
     rw [Xb_ (hRO.trans hRr)] at hsL
     repeat'(intro t ht;first|(cases t<;>first|(cases ht;done)|(try simp only[zg_]at ht;try(exfalso;first|contradiction|omega)))|((first|refine zb_ ht ?_|refine ht ?_ ?_|refine ht.1 ?_ ?_|refine ht ?_)<;>clear ht))
     all_goals first
      | exact True.intro
      | exact ⟨hp.1,hp.2.1⟩
      | exact ⟨hn.1,hn.2.1,by omega,by omega,by omega,by omega⟩
      | omega
      | (exfalso;simp_all;done)
      | (intro r h1 h2;clear h1;refine h2 ⟨[7],Nat,(fun i=>i<=(8 - (4+(ZB_ c f h x v m).length) % 8) % 8),fun _=>[.own 0],fun i=>[.row false (.int .u8) (ZB_ c f h x v m++List.replicate i 0)],fun i=>8 - i,⟨0,Nat.zero_le _,rfl,congrArg (fun l=>[Obj.row false (.int .u8) l]) (List.append_nil _).symm⟩,?_⟩;clear h2)
     rintro i hi
     (try dsimp only at hi)
     have hlen:(ZB_ c f h x v m++List.replicate i (0:Int)).length=(ZB_ c f h x v m).length+i:=by rw [List.length_append,List.length_replicate]
     repeat'(intro t ht;first|(cases t<;>first|(cases ht;done)|(try simp only[zg_]at ht))|((first|refine zb_ ht ?_|refine ht ?_ ?_|refine ht.1 ?_ ?_|refine ht ?_)<;>clear ht))
     all_goals (try simp only [hlen,kQ_ (Int.natCast_nonneg _)] at*)
     all_goals first
      | exact True.intro
      | omega
      | ((try simp only [zk_,zl_,zj_] at*);omega)
      | (refine ⟨i+1,?_,?_,rfl,?_⟩
         ·(try dsimp only);omega
         ·(try dsimp only);omega
         ·simp only [zT_,List.replicate_succ',List.append_assoc])
      | (simp only [List.length_cons,List.length_nil];constructor<;>omega)
      | (refine ⟨?_,by first | rfl | exact True.intro⟩;rw [hBB,show i=(8 - (4+(ZB_ c f h x v m).length) % 8) % 8 by omega];rfl)
  ·have hR:zS_ (Kw_ c f h x v m) q a b c f h x v m d=(uK_ q && qO_ c f h x v m 0 0 false 0 [] [] && decide (G3_ q a=0) && ZM_ (zv_ q) ([a,b].take (zq_ (zv_ q)).toNat) && (decide (2<=zq_ (zv_ q)) || decide (b=0)) && (decide (1<=zq_ (zv_ q)) || decide (a=0)) && (if q=65535 then decide ((d.length:Int).tmod 8=0) && decide ((d.length:Int)<=65520) else decide (d.length=0))):=if_neg h25
   cases hr:zS_ (Kw_ c f h x v m) q a b c f h x v m d with
   | false=>
     rw [hR] at hr
     repeat'(intro t ht;first|(cases t<;>first|(cases ht;done)|(try simp only[zg_]at ht;try(exfalso;first|contradiction|omega)))|((first|refine zb_ ht ?_|refine ht ?_ ?_|refine ht.1 ?_ ?_|refine ht ?_)<;>clear ht))
     all_goals first
      | exact True.intro
      | exact hp
      | exact ⟨hp.1,hp.2.1⟩
      | exact hcn
      | omega
      | exact ⟨rfl,by first | rfl | exact True.intro⟩
      | (exfalso
         simp only [hcl] at*
         refine absurd ?_ (Bool.eq_false_iff.1 hr)
         simp only [Bool.and_eq_true,Bool.or_eq_true,decide_eq_true_eq]
         refine ⟨⟨⟨⟨⟨⟨by assumption,by assumption⟩,by assumption⟩,by assumption⟩,by omega⟩,by omega⟩,?_⟩
         first
          | (rw [if_pos (by assumption)];simp only [Bool.and_eq_true,decide_eq_true_eq];exact ⟨by assumption,by omega⟩)
          | (rw [if_neg (by assumption)];simp only [decide_eq_true_eq];omega))
   | true=>
     obtain ⟨k1,k2,k3,k4,k5,k6,k7⟩:=QD_ h25 hr
     unfold k6_ at k4
     have hh:=zfB_ k2
     have hB:ZD_ q a b (ZB_ c f h x v m) d=Zm_ (zv_ q) ([a,b].take (zq_ (zv_ q)).toNat)++d:=if_neg h25
     have hps:=Jd_ k4
     repeat'(intro t ht;first|(cases t<;>first|(cases ht;done)|(try simp only[zg_]at ht;try(exfalso;first|contradiction|omega)))|((first|refine zb_ ht ?_|refine ht ?_ ?_|refine ht.1 ?_ ?_|refine ht ?_)<;>clear ht))
     all_goals first
      | exact True.intro
      | exact hp
      | exact ⟨hp.1,hp.2.1⟩
      | exact hcn
      | omega
      | (constructor<;>omega)
      | (simp only [zT_];constructor<;>omega)
      | (refine ⟨?_,by first | rfl | exact True.intro⟩;rw [hB];rfl)
      | (exfalso;simp_all;done)
      | (exfalso;simp_all;omega)
 ·cases e
def GA_:IR:=
(sq (kr [0] [oD 1 (.boxv 0),
oD 2 (.mov (.c (.imm (.int .u8) []))),
oD 3 (.mov (cI 0))])
(sq (kr [1] [oK 7 10 1,
oC 8 181 [7],
oM 6 8,
oX 9 6 0,
oX 10 6 1,
oM 4 9,
oM 5 10])
(sq (sq (kr [1,4,5] [oM 11 5,
oD 12 (.un .not 11)])
(.cond 12
(sq (.reg [oD 2 (.mov (.c (.imm (.int .u8) []))),
oD 3 (.mov (cI 10001))])
.ret)
.skip))
(sq (kr [1,4] [oA 13 0 1,
oL 14 13,
oD 15 (.conv .u64 14),
oC 16 84 [15,(cI 2)],
oM 17 4,
oE 18 17,
oB 19 .add (cI 4) 18,
oD 20 (.conv .u64 19),
oC 21 84 [20,(cI 2)],
oD 22 (.append (.int .u8) 1 16 21),
oM 23 4,
oD 24 (.append (.int .u8) 1 22 23),
oM 2 24,
oD 3 (.mov (cI 0))])
.ret))))
def gF_:List RD:=[.tmp 2 true (some (.int .u8)),.tmp 3 true none]
theorem g7_:zn_ Tryz.prog Tryz.f151 GA_ gF_=true:=by kernel_rfl
def wy_:List AV->List Obj->Option (Prop × AV)
 | [.agg [.int .i64 q,.int .u64 a,.int .u64 b,.int .i64 c,.int .i64 f,.bool h,.int .u64 x,.imm (.int .u8) v,.imm (.int .u8) m,.imm (.int .u8) d]],[]=>some ((v.length<=100000/\m.length<=100000/\d.length<=100000,.tup [.imm (.int .u8) (if zS_ (Kw_ c f h x v m) q a b c f h x v m d=true then WJ_ q a b (ZB_ c f h x v m) d else []),.int .i64 (if zS_ (Kw_ c f h x v m) q a b c f h x v m d=true then 0 else 10001)]))
 | _,_=>none
theorem ut_:zd_ Tryz.prog 151 (RoF wy_).sum:=by
 refine zi_ Tryz.func151 g7_ (za_ (s:=RoF yw_) Hc_ (za_ (s:=RwF Qb_) qL_ (zc_ _))) fun args objs p v e=>?_
 unfold wy_ at e
 split at e
 ·rename_i q a b c f h x v m d
  cases e
  refine ⟨rfl,fun hw ho hp=>?_⟩
  change List Int at v
  change List Int at m
  change List Int at d
  have hx0:0<=x:=((hw _ (List.mem_cons_self ..)) (.int .u64 x) (by simp)).1
  have hv0:∀ z ∈ (v:List Int),(0:Int)<=z/\z<=255:=fun z hz=>((hw _ (List.mem_cons_self ..)) (.imm (.int .u8) v) (by simp)).1 z hz
  have hm0:∀ z ∈ (m:List Int),(0:Int)<=z/\z<=255:=fun z hz=>((hw _ (List.mem_cons_self ..)) (.imm (.int .u8) m) (by simp)).1 z hz
  clear hw ho
  have hRA:=uL_ (q:=q) (a:=a) (b:=b) (c:=c) (f:=f) (h:=h) (d:=d) hx0 hv0 hm0
  cases hr:zS_ (Kw_ c f h x v m) q a b c f h x v m d with
  | false=>
    repeat'(intro t ht;first|(cases t<;>first|(cases ht;done)|(try simp only[zg_]at ht;try(exfalso;first|contradiction|omega)))|((first|refine zb_ ht ?_|refine ht ?_ ?_|refine ht.1 ?_ ?_|refine ht ?_)<;>clear ht))
    all_goals first
     | exact True.intro
     | exact hp
     | exact ⟨rfl,by first | rfl | exact True.intro⟩
     | (exfalso;simp_all;done)
  | true=>
    have hro:=hRA.trans hr
    obtain ⟨_,s1,_,_⟩:=Jb_ hro
    rw [hN_ hro] at s1
    have hq:=BV_ hr
    have l2:=zm_ (n:=q) (w:=2) (by decide)
    have l3:=zm_ (n:=(4+(ZD_ q a b (ZB_ c f h x v m) d).length)) (w:=2) (by decide)
    repeat'(intro t ht;first|(cases t<;>first|(cases ht;done)|(try simp only[zg_]at ht;try(exfalso;first|contradiction|omega)))|((first|refine zb_ ht ?_|refine ht ?_ ?_|refine ht.1 ?_ ?_|refine ht ?_)<;>clear ht))
    all_goals (try simp only [hr,if_true,zT_] at*)
    all_goals first
     | exact True.intro
     | exact hp
     | omega
     | ((try simp only [zk_,zl_,zj_] at*);omega)
     | (constructor<;>omega)
     | (simp only [List.length_append];constructor<;>omega)
     | exact ⟨rfl,by first | rfl | exact True.intro⟩
     | (exfalso;simp_all;done)
 ·cases e
def rrA (a:AC):Bool:=zS_ (Kw_ a.2.2.2.1.1 a.2.2.2.1.2.1 a.2.2.2.1.2.2.1 a.2.2.2.1.2.2.2.1 a.2.2.2.1.2.2.2.2.1 a.2.2.2.1.2.2.2.2.2.1) a.1 a.2.1 a.2.2.1 a.2.2.2.1.1 a.2.2.2.1.2.1 a.2.2.2.1.2.2.1 a.2.2.2.1.2.2.2.1 a.2.2.2.1.2.2.2.2.1 a.2.2.2.1.2.2.2.2.2.1 a.2.2.2.2.1
def erA (a:AC):List Int:=WJ_ a.1 a.2.1 a.2.2.1 (ZB_ a.2.2.2.1.1 a.2.2.2.1.2.1 a.2.2.2.1.2.2.1 a.2.2.2.1.2.2.2.1 a.2.2.2.1.2.2.2.2.1 a.2.2.2.1.2.2.2.2.2.1) a.2.2.2.2.1
def bysA (a:AC):Prop:=0<=a.2.2.2.1.2.2.2.1/\(∀ x ∈ a.2.2.2.1.2.2.2.2.1,0<=x/\x<=255)/\(∀ x ∈ a.2.2.2.1.2.2.2.2.2.1,0<=x/\x<=255)/\(∀ x ∈ a.2.2.2.2.1,0<=x/\x<=255)/\(0<=a.2.1/\a.2.1<=18446744073709551615)/\(0<=a.2.2.1/\a.2.2.1<=18446744073709551615)
theorem zh5_ {l:List AC} (h:Ty.wf (.sl Y2) l):∀ o ∈ l,bysA o:=fun o ho=>by
 obtain ⟨h1,h2,h3,⟨g1,g2,g3,g4,g5,g6,_⟩,h5,_⟩:=h.1 o ho
 have u8:∀ {v:List Int},Ty.wf (.sl (.int .u8)) v->∀ x ∈ v,0<=x/\x<=255:=fun {v} hv x hx=>by
  have:=hv.1 x hx;unfold Ty.wf inK at this;rw [zdJ_,zdL_] at this;exact this
 have u64:∀ {n:Int},Ty.wf (.int .u64) n->0<=n/\n<=18446744073709551615:=fun {n} hn=>by
  unfold Ty.wf inK at hn;rw [Yn_,ua_] at hn;exact hn
 exact ⟨(u64 g4).1,u8 g5,u8 g6,u8 h5,u64 h2,u64 h3⟩
theorem zj5_ {a:AC} (h:bysA a):rrA a=rgA a:=(uL_ h.1 h.2.1 h.2.2.1).symm
theorem zkH_ {a:AC} (h:rgA a=true):erA a=ebA a:=by
 have:=hN_ h
 unfold erA ebA WJ_;rw [this]
theorem zhW_ {l:List AC} {i:Nat} {d:AC} (h:i < l.length):boA (l.take (i+1))=boA (l.take i)++ebA (l.getD i d):=by
 unfold boA
 rw [<- zft_ (d:=d) h,List.flatMap_append];simp
theorem zkS_ {l:List AC} (h:l.all rgA=true):(boA l).length<=65528*l.length:=by
 obtain ⟨b1,_⟩:=uj_ l h
 have:=zcJ_ (l:=l) l.length (Nat.le_refl _)
 rw [Hm_ (Nat.le_refl _)] at this;omega
def Gz_:IR:=
(sq (kr [0] [oD 2 (.nilrow (.int .u8)),
oD 3 (.mov (cI 0))])
(sq (.reg [oD 4 (.nilrow (.int .u8))])
(sq (sq (.reg [oD 5 (.mov (cI 0))])
(.block 0
(.loop
(sq (sq (kr [0,4,5] [oM 8 5,
oM 9 0,
oE 10 9,
oB 11 .lss 8 10])
(.cond 11
.skip
(.exit 0)))
(sq (.block 1
(sq (kr [0,4,5] [oM 15 0,
oM 16 5,
oI 17 10 15 16,
oK 18 10 17,
oC 19 151 [18],
oM 14 19,
oX 20 14 0,
oX 21 14 1,
oM 6 20,
oM 7 21])
(sq (sq (kr [0,4,5,6,7] [oM 22 7,
oB 23 .neq 22 (cI 0)])
(.cond 23
(sq (.reg [oM 24 7,
oD 2 (.nilrow (.int .u8)),
oM 3 24])
.ret)
.skip))
(.reg [oM 25 4,
oM 26 6,
oD 27 (.append (.int .u8) 1 25 26),
oM 4 27]))))
(kr [0,4,5] [oM 12 5,
oB 13 .add 12 (cI 1),
oM 5 13]))))))
(sq (sq (kr [0,4] [oM 28 0,
oE 29 28,
oB 30 .gtr 29 (cI 64),
oM 31 30,
oF 31 32 (.mov 4),
oF 31 33 (.len 32),
oF 31 34 (.bin .gtr 33 (cI 65528)),
oP 35 31 cT 34])
(.cond 35
(sq (kr [] [oD 2 (.nilrow (.int .u8)),
oD 3 (.mov (cI 10001))])
.ret)
.skip))
(sq (kr [4] [oM 36 4,
oM 2 36,
oD 3 (.mov (cI 0))])
.ret)))))
def gE_:List RD:=[.tmp 2 true (some (.int .u8)),.tmp 3 true none]
theorem g6_:zn_ Tryz.prog Tryz.f83 Gz_ gE_=true:=by kernel_rfl
def wx_:List AV->List Obj->Option (Prop × AV)
 | [.imm ty0 l],[]=>qb_ ty0 Y2 l fun l=>some ((okL l,.tup [.imm (.int .u8) (alL l),.int .i64 (alE l)]))
 | _,_=>none
theorem us_:zd_ Tryz.prog 83 (RoF wx_).sum:=by
 refine zi_ Tryz.func83 g6_ (za_ (s:=RoF wy_) ut_ (zc_ _)) fun args objs p v e=>?_
 unfold wx_ at e
 split at e
 ·rename_i ty0 l
  obtain rfl:=zZ_ e
  replace e:=z0_ e
  cases e
  refine ⟨rfl,fun hw ho hp=>?_⟩
  change List AC at l
  have hby:=zh5_ (l:=l) (hw (.imm Y2 l) (by simp))
  clear hw ho
  have hok:=hp
  have hn:=hok.n
  repeat'(intro t ht;first|(cases t<;>first|(cases ht;done)|(try simp only[zg_]at ht))|((first|refine zb_ ht ?_|refine ht ?_ ?_|refine ht.1 ?_ ?_|refine ht ?_)<;>clear ht))
  all_goals first
   | exact True.intro
   | (intro r h1 h2;clear h1;refine h2 ⟨[0,4,5],Nat,(fun i=>i<=l.length/\(l.take i).all rgA=true),fun i=>[.imm Y2 l,.own 0,.int .i64 i],fun i=>[.row false (.int .u8) (boA (l.take i))],fun i=>l.length - i,⟨0,⟨Nat.zero_le _,rfl⟩,rfl,rfl⟩,?_⟩;clear h2)
  rintro i ⟨hi,he⟩
  have hbo:=zkS_ he
  rw [WN_ hi] at hbo
  repeat'(intro t ht;first|(cases t<;>first|(cases ht;done)|(try simp only[zg_]at ht;try(exfalso;first|contradiction|omega)))|((first|refine zb_ ht ?_|refine ht ?_ ?_|refine ht.1 ?_ ?_|refine ht ?_)<;>clear ht))
  all_goals (try generalize (Ty.dflt Y2)=od at*)
  all_goals first
   | exact True.intro
   | ((try simp only [zk_,zl_,zj_] at*);omega)
   | (have hlt:i < l.length:=by omega
      have hq:=zj5_ (hby _ (zD_ hlt od))
      have hlen:=hok.a _ (zD_ hlt od)
      first
       | exact hlen
       | (have hk:rrA (l.getD i od)=false:=by
           cases hk:rrA (l.getD i od) with
           | false=>rfl
           | true=>
             have:(if rrA (l.getD i od)=true then (0:Int) else 10001)=0:=if_pos hk
             first | contradiction | (exfalso;simp_all;done)
          have hno:rgL l=false:=by
           cases h:rgL l with
           | false=>rfl
           | true=>
             have:=List.all_eq_true.1 (qg_ h).1 _ (zD_ hlt od)
             rw [<- hq,hk] at this;cases this
          have e1:(if rrA (l.getD i od)=true then (0:Int) else 10001)=10001:=by rw [hk];rfl
          unfold alL alE;rw [hno]
          refine ⟨congrArg (fun z=>AV.tup [_,AV.int .i64 z]) e1,by first | rfl | exact True.intro⟩)
       | (have hk:rrA (l.getD i od)=true:=by
           cases hk:rrA (l.getD i od) with
           | true=>rfl
           | false=>
             have:(if rrA (l.getD i od)=true then (0:Int) else 10001)=10001:=by rw [hk];rfl
             exfalso;unfold rrA at this hk;simp_all;done
          have hr:rgA (l.getD i od)=true:=hq.symm.trans hk
          have h8:=uo_ hr
          have e1:(if rrA (l.getD i od)=true then erA (l.getD i od) else [])=ebA (l.getD i od):=(if_pos hk).trans (zkH_ hr)
          have e2:(if zS_ (Kw_ ((l.getD i od)).2.2.2.1.1 ((l.getD i od)).2.2.2.1.2.1 ((l.getD i od)).2.2.2.1.2.2.1 ((l.getD i od)).2.2.2.1.2.2.2.1 ((l.getD i od)).2.2.2.1.2.2.2.2.1 ((l.getD i od)).2.2.2.1.2.2.2.2.2.1) ((l.getD i od)).1 ((l.getD i od)).2.1 ((l.getD i od)).2.2.1 ((l.getD i od)).2.2.2.1.1 ((l.getD i od)).2.2.2.1.2.1 ((l.getD i od)).2.2.2.1.2.2.1 ((l.getD i od)).2.2.2.1.2.2.2.1 ((l.getD i od)).2.2.2.1.2.2.2.2.1 ((l.getD i od)).2.2.2.1.2.2.2.2.2.1 ((l.getD i od)).2.2.2.2.1=true then WJ_ (l.getD i od).1 (l.getD i od).2.1 (l.getD i od).2.2.1 (ZB_ ((l.getD i od)).2.2.2.1.1 ((l.getD i od)).2.2.2.1.2.1 ((l.getD i od)).2.2.2.1.2.2.1 ((l.getD i od)).2.2.2.1.2.2.2.1 ((l.getD i od)).2.2.2.1.2.2.2.2.1 ((l.getD i od)).2.2.2.1.2.2.2.2.2.1) (l.getD i od).2.2.2.2.1 else [])=ebA (l.getD i od):=e1
          first
           | (simp only [zT_,Int.toNat_natCast,e2];constructor<;>omega)
           | (refine ⟨i+1,⟨by omega,Zp_ hlt he hr⟩,by dsimp only;omega,rfl,?_⟩
              dsimp only
              rw [zhW_ (d:=od) hlt]
              simp only [zT_,Int.toNat_natCast,e2];done)))
   | (have hge:l.length<=i:=by omega
      have ha:=ZR_ hge he
      rw [List.take_of_length_le hge] at*
      cases hr:rgL l with
      | true=>
        obtain ⟨_,h2,h3,_⟩:=qg_ hr
        unfold alL alE;rw [hr]
        first
         | (exfalso;omega)
         | exact ⟨rfl,by first | rfl | exact True.intro⟩
      | false=>
        unfold alL alE;rw [hr]
        first
         | exact ⟨rfl,by first | rfl | exact True.intro⟩
         | (exfalso;have:=zgJ_ ha (by omega) (by omega);rw [hr] at this;cases this))
 ·cases e
def atL (n:Int) (b:List Int) (p sh e:Int):List AC:=if ZA_ n b p sh e=0 then adL (Qo_ n b p sh e) else []
def atE (n:Int) (b:List Int) (p sh e:Int):Int:=if ZA_ n b p sh e=0 then adE (Qo_ n b p sh e) else ZA_ n b p sh e
theorem zfu_ {n:Int} {b:List Int} {p sh e:Int}:(Qo_ n b p sh e).length<=b.length:=by
 unfold Qo_;split
 ·rw [List.length_drop,List.length_take];omega
 ·simp
def Bc_:IR:=
(sq (kr [0,1] [oD 4 (.mov (.c (.imm Y2 [])))])
(sq (.reg [oM 8 0,
oM 9 1,
oC 10 21 [8,9],
oM 5 10])
(sq (sq (.reg [oM 11 0,
oC 12 23 [11],
oB 13 .neq 12 (cI 0)])
(.cond 13
(sq (kr [] [oD 4 (.mov (.c (.imm Y2 [])))])
.ret)
.skip))
(sq (kr [0,5] [oM 15 5,
oC 16 171 [15],
oM 14 16,
oX 17 14 0,
oX 18 14 1,
oM 6 17,
oM 7 18])
(sq (kr [0,6,7] [oM 19 0,
oM 20 7,
oC 21 63 [19,20]])
(sq (.reg [oM 22 6,
oM 4 22])
.ret))))))
def HW_:List RD:=[.tmp 4 true (some Y2)]
theorem bu_:zn_ Tryz.prog Tryz.f121 Bc_ HW_=true:=by kernel_rfl
def xU_:List AV->List Obj->Option (Prop × AV × List Obj)
 | [.ptr 0 0,.int .i64 n],[.box [.imm (.int .u8) b,.int .i64 p,.int .i64 sh,.int .i64 od,.int .i64 e,.bool true]]=>some ((0<=p/\p<=b.length/\b.length<=100000000/\sh ≠ 0,.imm Y2 (atL n b p sh e),[.box [.imm (.int .u8) b,.int .i64 (QG_ n b p sh e),.int .i64 sh,.int .i64 od,.int .i64 (atE n b p sh e),.bool true]]))
 | _,_=>none
theorem gB_:zd_ Tryz.prog 121 (RwF xU_).sum:=by
 refine qw_ Tryz.func121 bu_ (za_ (s:=RwF zJ_) zV_ (za_ (s:=RoF zr_) zu_ (za_ (s:=RoF jY_) VB_ (za_ (s:=RwF zt_) zx_ (zc_ _))))) fun args objs p v o e=>?_
 unfold xU_ at e
 split at e
 ·rename_i n b p sh od e
  cases e
  refine ⟨rfl,fun hw ho hp=>?_⟩
  change List Int at b
  clear hw ho
  obtain ⟨h1,h2,h3,h4⟩:=hp
  have hl:=zfu_ (n:=n) (b:=b) (p:=p) (sh:=sh) (e:=e)
  by_cases he:ZA_ n b p sh e=0
  ·have f0:∀ x,zs_ 0 x=x:=fun x=>if_pos rfl
   have k1:atL n b p sh e=adL (Qo_ n b p sh e):=if_pos he
   have k2:atE n b p sh e=adE (Qo_ n b p sh e):=if_pos he
   rw [k1,k2]
   clear k1 k2
   repeat'(intro t ht;first|(cases t<;>first|(cases ht;done)|(try simp only[zg_]at ht))|((first|refine zb_ ht ?_|refine ht ?_ ?_|refine ht.1 ?_ ?_|refine ht ?_)<;>clear ht))
   all_goals (try simp only [he,f0] at*)
   all_goals first
    | exact True.intro
    | contradiction
    | exact ⟨h1,h2,by omega,h4⟩
    | omega
    | exact ⟨rfl,by first | rfl | exact True.intro⟩
    | exact ⟨True.intro,True.intro⟩
    | (exfalso;simp_all;done)
  ·repeat'(intro t ht;first|(cases t<;>first|(cases ht;done)|(try simp only[zg_]at ht;try(exfalso;first|contradiction|omega)))|((first|refine zb_ ht ?_|refine ht ?_ ?_|refine ht.1 ?_ ?_|refine ht ?_)<;>clear ht))
   all_goals first
    | exact True.intro
    | exact ⟨h1,h2,by omega,h4⟩
    | (unfold atL atE;rw [if_neg he,if_neg he];exact ⟨rfl,by first | rfl | exact True.intro⟩)
    | (exfalso;simp_all;done)
 ·cases e
abbrev BK:=Int × Int × Int × List AC × Unit
instance:DecidableEq (List AC × Unit):=inferInstance
instance:DecidableEq BK:=inferInstance
def w5:List Int:=[2,2,4,4,-4]
structure okB (l:List BK):Prop where
 a:∀ o ∈ l,okL o.2.2.2.1
 n:l.length<=1000000
theorem zeA_ {α:Type} {x:α->List Int} {f:α->Int} {room:Int} (hr:room<=1000000):∀ (r:List α) (l:List Int) (e:Int),l.length<=1000000->(wrS x f room r l e).1.length<=1000000
 | [],l,e,h=>h
 | o :: r,l,e,h=>zeA_ hr r _ _ (Kc_ h hr)
theorem QL_ {e x:Int} (h:e ≠ 0):zs_ e x ≠ 0:=by unfold zs_;rw [if_neg h];exact h
theorem wp_ {x l:List Int} {room e:Int} (h:e ≠ 0):QT_ x l room e ≠ 0:=by unfold QT_;rw [if_neg h];exact h
theorem zis_ {w xs l:List Int} {room e:Int} (h:e ≠ 0):Qi_ w xs l room e ≠ 0:=by
 unfold Qi_;split
 ·exact wp_ h
 ·exact QL_ h
theorem zcD_ {α:Type} {x:α->List Int} {f:α->Int} {room:Int}:∀ (r:List α) (l:List Int) (e:Int),e ≠ 0->(wrS x f room r l e).2 ≠ 0
 | [],l,e,h=>h
 | o :: r,l,e,h=>zcD_ r _ _ (wp_ (QL_ h))
theorem zkU_ {x:List AC} {l:List Int} {room e:Int} (h:e ≠ 0):apE x l room e ≠ 0:=by
 unfold apE;split
 ·exact zcD_ _ _ _ h
 ·exact QL_ h
theorem xB_ {x l:List Int} {room:Int} (h:¬ (x.length:Int)<=room - l.length):QT_ x l room 0 ≠ 0:=by
 unfold QT_;rw [if_pos rfl,if_neg h];decide
theorem BG_ {room:Int}:∀ (r:List AC) (l:List Int),r.all rgA=true->(l.length:Int)<=room->¬ ((l.length:Int)+(boA r).length<=room)->(wrS exA eeA room r l 0).2 ≠ 0
 | [],l,_,h0,h1=>by exfalso;apply h1;show (l.length:Int)+0<=room;omega
 | o :: r,l,h,h0,h1=>by
   rw [List.all_cons,Bool.and_eq_true] at h
   obtain ⟨h2,h3⟩:=zjL_ h.1
   rw [Jp_,List.length_append] at h1
   have f0:zs_ 0 0=0:=rfl
   unfold wrS
   rw [h2,h3,f0]
   by_cases hf:((ebA o).length:Int)<=room - l.length
   ·obtain ⟨b1,b2⟩:=xA_ hf
    rw [b1,b2]
    exact BG_ r _ h.2 (by rw [List.length_append];omega) (by rw [List.length_append];omega)
   ·exact zcD_ _ _ _ (xB_ hf)
def bysU (a:AC):Prop:=0<=a.2.2.2.1.2.2.2.1/\(0<=a.2.1/\a.2.1<=18446744073709551615)/\(0<=a.2.2.1/\a.2.2.1<=18446744073709551615)
theorem zjV_ {a:AC} {rest:List Int} (hr:rgA a=true) (hu:bysU a):acE (ebA a++rest)=0/\vA (ebA a++rest)=a/\tN (ebA a++rest)=(ebA a).length:=by
 obtain ⟨E1,E2,E3,E4,E5,E6,E7,E8,E9,E10,E11,E12⟩:=zk0_ (rest:=rest) (show zS_ (zB_ a.2.2.2.1.1 a.2.2.2.1.2.1 a.2.2.2.1.2.2.1 a.2.2.2.1.2.2.2.1 a.2.2.2.1.2.2.2.2.1 a.2.2.2.1.2.2.2.2.2.1) a.1 a.2.1 a.2.2.1 a.2.2.2.1.1 a.2.2.2.1.2.1 a.2.2.2.1.2.2.1 a.2.2.2.1.2.2.2.1 a.2.2.2.1.2.2.2.2.1 a.2.2.2.1.2.2.2.2.2.1 a.2.2.2.2.1=true from hr) hu.2.1 hu.2.2 hu.1
 have hs:=uo_ hr
 have e:szA a=4+((ZD_ a.1 a.2.1 a.2.2.1 (Zs_ a.2.2.2.1.1 a.2.2.2.1.2.1 a.2.2.2.1.2.2.1 a.2.2.2.1.2.2.2.1 a.2.2.2.1.2.2.2.2.1 a.2.2.2.1.2.2.2.2.2.1) a.2.2.2.2.1).length:Int):=(Jb_ hr).1
 refine ⟨E1,?_,?_⟩
 ·show (tT _,acA _ 0,acA _ 1,(acS _ _,acS _ _,acH _,acS _ _,acV _ _,acV _ _,()),acD _,())=a
  unfold ebA
  rw [E2,E4,E5,E6,E7,E8,E9,E10,E11,E12]
 ·unfold ebA at hs ⊢
  rw [E3];omega
theorem zfk_:∀ (r acc:List AC),r.all rgA=true->(∀ a ∈ r,bysU a)->acc.length+r.length<=64->alG acc (boA r)=(acc++r,0)
 | [],acc,_,_,_=>by rw [YH_ (by rfl),List.append_nil]
 | a :: r,acc,h,hu,hl=>by
   rw [List.all_cons,Bool.and_eq_true] at h
   obtain ⟨e1,e2,e3⟩:=zjV_ (rest:=boA r) h.1 (hu a (List.mem_cons_self ..))
   have hs:=uo_ h.1
   rw [List.length_cons] at hl
   have ha:acc++a :: r=(acc++[a])++r:=by rw [List.append_assoc];rfl
   rw [Jp_,Bu_ (by rw [List.length_append];omega) (by omega) e1 (by rw [e3];omega),e2,e3,Int.toNat_natCast,List.drop_left]
   rw [zfk_ r (acc++[a]) h.2 (fun o ho=>hu o (List.mem_cons_of_mem _ ho)) (by rw [List.length_append,List.length_singleton];omega),<- ha]
theorem zfl_:∀ (n:Nat) (y:List Int) (acc l:List AC),y.length<=n->(∀ x ∈ y,0<=x/\x<=255)->acc.length<=64->alG acc y=(l,0)->∃ r,l=acc++r/\r.all rgA=true/\boA r=y/\l.length<=64
 | 0,y,acc,l,hn,hb,ha,h=>by
   rw [YH_ (by omega)] at h
   cases h
   refine ⟨[],by rw [List.append_nil],rfl,?_,ha⟩
   rw [List.eq_nil_of_length_eq_zero (show y.length=0 by omega)];rfl
 | n+1,y,acc,l,hn,hb,ha,h=>by
   by_cases h0:y.length=0
   ·rw [YH_ h0] at h
    cases h
    refine ⟨[],by rw [List.append_nil],rfl,?_,ha⟩
    rw [List.eq_nil_of_length_eq_zero h0];rfl
   ·by_cases h1:acc.length=64
    ·rw [zcv_ h0 h1] at h
     exact absurd (congrArg Prod.snd h) (show ¬ (520:Int)=0 by decide)
    ·by_cases h2:acE y=0
     ·obtain ⟨g1,g2,_⟩:=zet_ h2
      rw [Bu_ h0 h1 h2 (by omega)] at h
      obtain ⟨r,e1,e2,e3,e4⟩:=zfl_ n (y.drop (tN y).toNat) (acc++[vA y]) l (by rw [List.length_drop];omega) (fun x hx=>hb x (List.mem_of_mem_drop hx)) (by rw [List.length_append,List.length_singleton];omega) h
      obtain ⟨f1,f2,_,_⟩:=zk1_ hb h2
      refine ⟨vA y :: r,?_,?_,?_,e4⟩
      ·rw [e1,List.append_assoc];rfl
      ·rw [List.all_cons,e2,Bool.and_true];exact f1
      ·rw [Jp_,e3]
       have:ebA (vA y)=y.take (tN y).toNat:=f2
       rw [this,List.take_append_drop]
     ·rw [Bv_ h0 h1 h2] at h
      exact absurd (congrArg Prod.snd h) h2
theorem zkW_ {l:List AC} (h:rgL l=true) (hu:∀ a ∈ l,bysU a):adL (boA l)=l/\adE (boA l)=0:=by
 obtain ⟨h1,h2,h3,_⟩:=qg_ h
 have hg:=zfk_ l [] h1 hu (by simpa using h2)
 rw [List.nil_append] at hg
 exact (gd_ hg).2 (by omega)
theorem zkX_ {b:List Int} (hb:∀ x ∈ b,0<=x/\x<=255) (h:adE b=0):rgL (adL b)=true/\boA (adL b)=b/\b.length<=65528:=by
 have h1:(alG [] b).2=0:=Classical.byContradiction fun hn=>by
  unfold adE at h;rw [if_pos hn] at h;exact hn h
 have h2:¬ 65528 < b.length:=fun hl=>by
  unfold adE at h;rw [if_neg (not_not_intro h1),if_pos hl] at h;cases h
 have hL:adL b=(alG [] b).1:=if_pos h
 obtain ⟨r,e1,e2,e3,e4⟩:=zfl_ b.length b [] (alG [] b).1 (Nat.le_refl _) hb (Nat.zero_le _) (Prod.ext rfl h1)
 rw [List.nil_append] at e1
 rw [hL]
 rw [<- e1] at e2 e3
 exact ⟨zgJ_ e2 e4 (by rw [e3];omega),e3,by omega⟩
def smB (x y:BK):Bool:=decide (x.1=y.1) && decide (x.2.1=y.2.1) && decide (x.2.2.1=y.2.2.1) && decide (x.2.2.2.1=y.2.2.2.1)
theorem zlb_ {x y:BK} (h:smB x y=true):x=y:=by
 obtain ⟨a,b,c,d,_⟩:=x
 obtain ⟨a',b',c',d',_⟩:=y
 unfold smB at h
 simp only [Bool.and_eq_true,decide_eq_true_eq] at h
 obtain ⟨⟨⟨h1,h2⟩,h3⟩,h4⟩:=h
 rw [h1,h2,h3,h4]
theorem zls_ {x y:BK} (h:¬ (x.1=y.1/\x.2.1=y.2.1/\x.2.2.1=y.2.2.1/\x.2.2.2.1=y.2.2.2.1)):¬ x=y:=fun e=>h (by rw [e];exact ⟨rfl,rfl,rfl,rfl⟩)
theorem zkJ_ {x y:BK} (h:x.1=y.1/\x.2.1=y.2.1/\x.2.2.1=y.2.2.1/\x.2.2.2.1=y.2.2.2.1):x=y:=zlb_ (by unfold smB;rw [h.1,h.2.1,h.2.2.1,h.2.2.2];simp)
def zbz_:IR:=
(sq (kr [0,1] [oD 4 (.mov cF)])
(sq (sq (kr [0,1] [oM 8 0,
oE 9 8,
oM 10 1,
oE 11 10,
oB 12 .neq 9 11])
(.cond 12
(sq (.reg [oD 4 (.mov cF)])
.ret)
.skip))
(sq (sq (kr [0,1] [oD 5 (.mov (cI 0))])
(.block 0
(.loop
(sq (sq (kr [0,1,5] [oM 13 5,
oM 14 0,
oE 15 14,
oB 16 .lss 13 15])
(.cond 16
.skip
(.exit 0)))
(sq (.block 1
(sq (kd [0,1,5] [(oM 19 0,[]),
(oM 20 5,[0]),
(oI 21 4 19 20,[]),
(oK 22 4 21,[]),
(oM 23 1,[0,0,0,0]),
(oM 24 5,[0,0,0,0,0]),
(oI 25 4 23 24,[2,0,0,0]),
(oK 26 4 25,[3,0,0,0]),
(oD 6 (.box [.int .u64 0,.int .u64 0,.int .u64 0,.imm Y2 []]),[0,0,0,0,0,0,0,0]),
(oD 7 (.box [.int .u64 0,.int .u64 0,.int .u64 0,.imm Y2 []]),[0,0,0,0,0,0,0,0,0]),
(oS 4 6 22,[2,0,0,0]),
(oS 4 7 26,[])])
(sq (kr [0,1,5,6,7] [oA 27 0 6,
oL 28 27,
oA 29 0 7,
oL 30 29,
oB 31 .eql 28 30,
oM 32 31,
oT 32 33 (.fieldAddr 1 6),
oT 32 34 (.load none 33),
oT 32 35 (.fieldAddr 1 7),
oT 32 36 (.load none 35),
oT 32 37 (.bin .eql 34 36),
oP 38 32 37 cF,
oM 39 38,
oT 39 40 (.fieldAddr 2 6),
oT 39 41 (.load none 40),
oT 39 42 (.fieldAddr 2 7),
oT 39 43 (.load none 42),
oT 39 44 (.bin .eql 41 43),
oP 45 39 44 cF,
oM 46 45,
oT 46 47 (.fieldAddr 3 6),
oT 46 48 (.load none 47),
oT 46 49 (.fieldAddr 3 7),
oT 46 50 (.load none 49),
oT 46 51 (.call false (.f 59) [48,50]),
oP 52 46 51 cF,
oD 53 (.un .not 52)])
(.cond 53
(sq (kr [] [oD 4 (.mov cF)])
.ret)
.skip))))
(kr [0,1,5] [oM 17 5,
oB 18 .add 17 (cI 1),
oM 5 18]))))))
(sq (kr [] [oD 4 (.mov cT)])
.ret))))
def zab_:List RD:=[.tmp 4 true none]
theorem zaM_:zn_ Tryz.prog Tryz.f94 zbz_ zab_=true:=by kernel_rfl
def wv_:List AV->List Obj->Option (Prop × AV)
 | [.imm ty0 a,.imm ty1 b],[]=>qb_ ty0 Y4 a fun a=>qb_ ty1 Y4 b fun b=>some ((True,.bool (decide ((a:List BK)=b))))
 | _,_=>none
theorem yV_:zd_ Tryz.prog 94 (RoF wv_).sum:=by
 refine zi_ Tryz.func94 zaM_ (za_ (s:=RoF K5_) JA_ (zc_ _)) fun args objs p v e=>?_
 unfold wv_ at e
 split at e
 ·rename_i ty0 a ty1 b
  obtain rfl:=zZ_ e
  replace e:=z0_ e
  obtain rfl:=zZ_ e
  replace e:=z0_ e
  cases e
  refine ⟨rfl,fun hw ho hp=>?_⟩
  change List BK at a
  change List BK at b
  have hl:a.length<=maxLen:=(hw (.imm Y4 a) (by simp)).2
  unfold maxLen at hl
  clear hw ho
  repeat'(intro t ht;first|(cases t<;>first|(cases ht;done)|(try simp only[zg_]at ht))|((first|refine zb_ ht ?_|refine ht ?_ ?_|refine ht.1 ?_ ?_|refine ht ?_)<;>clear ht))
  all_goals first
   | (have hne:a ≠ b:=fun h=>(by assumption:¬ (a.length:Int)=b.length) (by rw [h])
      refine ⟨?_,rfl⟩;rw [decide_eq_false hne];done)
   | (intro r h1 h2;clear h1;refine h2 ⟨[0,1,5],Nat,(fun i=>i<=a.length/\a.take i=b.take i),fun i=>[.imm Y4 a,.imm Y4 b,.int .i64 i],fun _=>[],fun i=>a.length - i,⟨0,⟨Nat.zero_le _,rfl⟩,rfl,rfl⟩,?_⟩;clear h2)
  rintro i ⟨hi,he⟩
  have hl2:a.length=b.length:=by omega
  repeat'(intro t ht;first|(cases t<;>first|(cases ht;done)|(try simp only[zg_]at ht;try(exfalso;first|contradiction|omega)))|((first|refine zb_ ht ?_|refine ht ?_ ?_|refine ht.1 ?_ ?_|refine ht ?_)<;>clear ht))
  all_goals (try generalize (Ty.dflt Y4)=od at*)
  all_goals first
   | exact True.intro
   | ((try simp only [zk_,zl_,zj_] at*);omega)
   | (have e:=Kn_ he (by omega) hl2
      refine ⟨?_,rfl⟩;rw [decide_eq_true e];done)
   | (have hne:a ≠ b:=Xs_ (d:=od) (i:=i) (zls_ fun h=>by simp_all)
      refine ⟨?_,rfl⟩;rw [decide_eq_false hne];done)
   | (have hs:a.getD i od=b.getD i od:=zkJ_ (by simp_all)
      exact ⟨i+1,⟨by omega,Qg_ he (by omega) hl2 (d:=od) hs⟩,by (try simp only [zk_,zl_,zj_] at*);omega,rfl,rfl⟩)
   | skip
 ·cases e
def fwB (x:BK):Bool:=Bi_ x.2.2.2.1
def fewB (l:List BK):Bool:=l.all fwB && decide (l.length<=20)
def zdY_:IR:=
(sq (kr [0] [oD 2 (.mov cF)])
(sq (sq (.reg [oD 3 (.mov (cI 0))])
(.block 0
(.loop
(sq (sq (kr [0,3] [oM 4 3,
oM 5 0,
oE 6 5,
oB 7 .lss 4 6])
(.cond 7
.skip
(.exit 0)))
(sq (.block 1
(sq (kr [0,3] [oM 10 0,
oM 11 3,
oI 12 4 10 11,
oA 13 3 12,
oL 14 13,
oC 15 44 [14],
oD 16 (.un .not 15)])
(.cond 16
(sq (kr [] [oD 2 (.mov cF)])
.ret)
.skip)))
(kr [0,3] [oM 8 3,
oB 9 .add 8 (cI 1),
oM 3 9]))))))
(sq (kr [0] [oM 17 0,
oE 18 17,
oB 19 .leq 18 (cI 20),
oM 2 19])
.ret)))
def zc2_:List RD:=[.tmp 2 true none]
theorem zds_:zn_ Tryz.prog Tryz.f73 zdY_ zc2_=true:=by kernel_rfl
def Xl_:List AV->List Obj->Option (Prop × AV)
 | [.imm ty0 l],[]=>qb_ ty0 Y4 l fun l=>some ((True,.bool (fewB l)))
 | _,_=>none
theorem vZ_:zd_ Tryz.prog 73 (RoF Xl_).sum:=by
 refine zi_ Tryz.func73 zds_ (za_ (s:=RoF Jr_) WP_ (zc_ _)) fun args objs p v e=>?_
 unfold Xl_ at e
 split at e
 ·rename_i ty0 l
  obtain rfl:=zZ_ e
  replace e:=z0_ e
  cases e
  refine ⟨rfl,fun hw ho hp=>?_⟩
  change List BK at l
  have hl:l.length<=maxLen:=(hw (.imm Y4 l) (by simp)).2
  unfold maxLen at hl
  clear hw ho
  repeat'(intro t ht;first|(cases t<;>first|(cases ht;done)|(try simp only[zg_]at ht))|((first|refine zb_ ht ?_|refine ht ?_ ?_|refine ht.1 ?_ ?_|refine ht ?_)<;>clear ht))
  all_goals first
   | (intro r h1 h2;clear h1;refine h2 ⟨[0,3],Nat,(fun i=>i<=l.length/\(l.take i).all fwB=true),fun i=>[.imm Y4 l,.int .i64 i],fun _=>[],fun i=>l.length - i,⟨0,⟨Nat.zero_le _,rfl⟩,rfl,rfl⟩,?_⟩;clear h2)
  rintro i ⟨hi,he⟩
  repeat'(intro t ht;first|(cases t<;>first|(cases ht;done)|(try simp only[zg_]at ht;try(exfalso;first|contradiction|omega)))|((first|refine zb_ ht ?_|refine ht ?_ ?_|refine ht.1 ?_ ?_|refine ht ?_)<;>clear ht))
  all_goals (try generalize (Ty.dflt Y4)=od at*)
  all_goals first
   | exact True.intro
   | ((try simp only [zk_,zl_,zj_] at*);omega)
   | (have h:=ZR_ (by omega) he
      refine ⟨?_,rfl⟩;unfold fewB;rw [h,Bool.true_and];congr 1;exact decide_eq_decide.2 (by omega))
   | (have hf:fwB (l.getD i od)=true:=by assumption
      exact ⟨i+1,⟨by omega,Zp_ (d:=od) (by omega) he hf⟩,by dsimp only;omega,rfl,rfl⟩)
   | (have hf:fwB (l.getD i od)=false:=by assumption
      have h:fewB l=false:=by unfold fewB;rw [ZF_ (d:=od) (show i < l.length by omega) hf,Bool.false_and]
      refine ⟨?_,rfl⟩;rw [h];done)
   | skip
 ·cases e
abbrev P8:=Int × Int × Int × Int × Int × Int × Int × Int × Unit
abbrev PV:=Int × Int × List Int × P8 × Unit
instance:DecidableEq (Int × Int × Int × Int × Unit):=inferInstance
instance:DecidableEq P8:=inferInstance
instance:DecidableEq PV:=inferInstance
theorem zh4_ {α:Type} {f:α->Bool} {l:List α} {i:Nat} {d:α} (h:i < l.length) (ht:(l.take i).all f=true) (hd:f (l.getD i d)=true):(l.take (i+1)).all f=true:=by
 rw [List.take_succ_eq_append_getElem h,List.all_append,ht,Bool.true_and,List.all_cons,List.all_nil,Bool.and_true]
 rwa [List.getD_eq_getElem?_getD,List.getElem?_eq_getElem h] at hd
theorem zjp_ {α:Type} {f:α->Bool} {l:List α} {i:Nat} (h:l.length<=i) (ht:(l.take i).all f=true):l.all f=true:=by
 rwa [List.take_of_length_le h] at ht
theorem zkV_ {α:Type} {f:α->Bool} {l:List α} {i:Nat} {d:α} (h:i < l.length) (hd:f (l.getD i d)=false):l.all f=false:=by
 rw [List.all_eq_false]
 refine ⟨l.getD i d,zD_ h d,?_⟩
 rw [hd];decide
def fewP (l:List PV):Bool:=decide (l.length<=40) && l.all fun p=>decide (p.2.2.1.length<=100)
def zdV_:IR:=
(sq (kr [0] [oD 2 (.mov cF)])
(sq (sq (.reg [oD 3 (.mov (cI 0))])
(.block 0
(.loop
(sq (sq (kr [0,3] [oM 4 3,
oM 5 0,
oE 6 5,
oB 7 .lss 4 6])
(.cond 7
.skip
(.exit 0)))
(sq (.block 1
(sq (kr [0,3] [oM 10 0,
oM 11 3,
oI 12 11 10 11,
oA 13 2 12,
oL 14 13,
oD 15 (.slen 14),
oB 16 .gtr 15 (cI 100)])
(.cond 16
(sq (kr [] [oD 2 (.mov cF)])
.ret)
.skip)))
(kr [0,3] [oM 8 3,
oB 9 .add 8 (cI 1),
oM 3 9]))))))
(sq (kr [0] [oM 17 0,
oE 18 17,
oB 19 .leq 18 (cI 40),
oM 2 19])
.ret)))
def zcZ_:List RD:=[.tmp 2 true none]
theorem zdp_:zn_ Tryz.prog Tryz.f76 zdV_ zcZ_=true:=by kernel_rfl
def Xj_:List AV->List Obj->Option (Prop × AV)
 | [.imm ty0 l],[]=>qb_ ty0 Y8 l fun l=>some ((True,.bool (fewP l)))
 | _,_=>none
theorem vX_:zd_ Tryz.prog 76 (RoF Xj_).sum:=by
 refine zi_ Tryz.func76 zdp_ (zc_ _) fun args objs p v e=>?_
 unfold Xj_ at e
 split at e
 ·rename_i ty0 l
  obtain rfl:=zZ_ e
  replace e:=z0_ e
  cases e
  refine ⟨rfl,fun hw ho hp=>?_⟩
  change List PV at l
  have hl:l.length<=maxLen:=(hw (.imm Y8 l) (by simp)).2
  unfold maxLen at hl
  clear hw ho
  repeat'(intro t ht;first|(cases t<;>first|(cases ht;done)|(try simp only[zg_]at ht))|((first|refine zb_ ht ?_|refine ht ?_ ?_|refine ht.1 ?_ ?_|refine ht ?_)<;>clear ht))
  all_goals first
   | (intro r h1 h2;clear h1;refine h2 ⟨[0,3],Nat,(fun i=>i<=l.length/\((l.take i).all fun p=>decide (p.2.2.1.length<=100))=true),fun i=>[.imm Y8 l,.int .i64 i],fun _=>[],fun i=>l.length - i,⟨0,⟨Nat.zero_le _,rfl⟩,rfl,rfl⟩,?_⟩;clear h2)
  rintro i ⟨hi,he⟩
  repeat'(intro t ht;first|(cases t<;>first|(cases ht;done)|(try simp only[zg_]at ht;try(exfalso;first|contradiction|omega)))|((first|refine zb_ ht ?_|refine ht ?_ ?_|refine ht.1 ?_ ?_|refine ht ?_)<;>clear ht))
  all_goals (try generalize (Ty.dflt Y8)=pd at*)
  all_goals first
   | ((try simp only [zk_,zl_,zj_] at*);omega)
   | (have h:=zjp_ (by omega) he
      refine ⟨?_,rfl⟩;unfold fewP;rw [h,Bool.and_true];congr 1;exact decide_eq_decide.2 (by omega))
   | (have h:fewP l=false:=by
       unfold fewP;rw [zkV_ (d:=pd) (i:=i) (by omega) (decide_eq_false (by omega)),Bool.and_false]
      refine ⟨?_,rfl⟩;rw [h];done)
   | exact ⟨i+1,⟨by omega,zh4_ (d:=pd) (by omega) he (decide_eq_true (by omega))⟩,by dsimp only;omega,rfl,rfl⟩
 ·cases e
theorem zi6_ {a b:PV} (h:a.1=b.1/\a.2.1=b.2.1/\a.2.2.1=b.2.2.1/\a.2.2.2.1.1=b.2.2.2.1.1/\a.2.2.2.1.2.1=b.2.2.2.1.2.1/\a.2.2.2.1.2.2.1=b.2.2.2.1.2.2.1/\a.2.2.2.1.2.2.2.1=b.2.2.2.1.2.2.2.1/\a.2.2.2.1.2.2.2.2.1=b.2.2.2.1.2.2.2.2.1/\a.2.2.2.1.2.2.2.2.2.1=b.2.2.2.1.2.2.2.2.2.1/\a.2.2.2.1.2.2.2.2.2.2.1=b.2.2.2.1.2.2.2.2.2.2.1/\a.2.2.2.1.2.2.2.2.2.2.2.1=b.2.2.2.1.2.2.2.2.2.2.2.1/\True):a=b:=by
 obtain ⟨a1,a2,a3,⟨a4,a5,a6,a7,a8,a9,a10,a11,_⟩,_⟩:=a
 obtain ⟨b1,b2,b3,⟨b4,b5,b6,b7,b8,b9,b10,b11,_⟩,_⟩:=b
 simpa only [Prod.mk.injEq,and_true] using h
def zbv_:IR:=
(sq (kr [0,1] [oD 4 (.mov cF)])
(sq (sq (kr [0,1] [oM 8 0,
oE 9 8,
oM 10 1,
oE 11 10,
oB 12 .neq 9 11])
(.cond 12
(sq (.reg [oD 4 (.mov cF)])
.ret)
.skip))
(sq (sq (kr [0,1] [oD 5 (.mov (cI 0))])
(.block 0
(.loop
(sq (sq (kr [0,1,5] [oM 13 5,
oM 14 0,
oE 15 14,
oB 16 .lss 13 15])
(.cond 16
.skip
(.exit 0)))
(sq (.block 1
(sq (kd [0,1,5] [(oM 19 0,[]),
(oM 20 5,[0]),
(oI 21 11 19 20,[]),
(oK 22 11 21,[]),
(oM 23 1,[0,0,0,0]),
(oM 24 5,[0,0,0,0,0]),
(oI 25 11 23 24,[2,0,0,0]),
(oK 26 11 25,[3,0,0,0]),
(oD 6 (.box [.int .u64 0,.int .u64 0,.str [],.int .u64 0,.int .u64 0,.int .u64 0,.int .u64 0,.int .u64 0,.int .u64 0,.int .u64 0,.int .u64 0]),[0,0,0,0,0,0,0,0]),
(oD 7 (.box [.int .u64 0,.int .u64 0,.str [],.int .u64 0,.int .u64 0,.int .u64 0,.int .u64 0,.int .u64 0,.int .u64 0,.int .u64 0,.int .u64 0]),[0,0,0,0,0,0,0,0,0]),
(oS 11 6 22,[2,0,0,0]),
(oS 11 7 26,[])])
(sq (kr [0,1,5,6,7] [oK 27 11 6,
oK 28 11 7,
oD 29 (.eqs false [.int .u64,.int .u64,.str,.int .u64,.int .u64,.int .u64,.int .u64,.int .u64,.int .u64,.int .u64,.int .u64] 27 28),
oD 30 (.un .not 29)])
(.cond 30
(sq (.reg [oD 4 (.mov cF)])
.ret)
.skip))))
(kr [0,1,5] [oM 17 5,
oB 18 .add 17 (cI 1),
oM 5 18]))))))
(sq (kr [] [oD 4 (.mov cT)])
.ret))))
def B7_:List RD:=[.tmp 4 true none]
theorem zaI_:zn_ Tryz.prog Tryz.f97 zbv_ B7_=true:=by kernel_rfl
def wt_:List AV->List Obj->Option (Prop × AV)
 | [.imm ty0 a,.imm ty1 b],[]=>qb_ ty0 Y8 a fun a=>qb_ ty1 Y8 b fun b=>some ((True,.bool (decide (a=b))))
 | _,_=>none
theorem yT_:zd_ Tryz.prog 97 (RoF wt_).sum:=by
 refine zi_ Tryz.func97 zaI_ (zc_ _) fun args objs p v e=>?_
 unfold wt_ at e
 split at e
 ·rename_i ty0 a ty1 b
  obtain rfl:=zZ_ e
  replace e:=z0_ e
  obtain rfl:=zZ_ e
  replace e:=z0_ e
  cases e
  refine ⟨rfl,fun hw ho hp=>?_⟩
  change List PV at a
  change List PV at b
  have hl:a.length<=maxLen:=(hw (.imm Y8 a) (by simp)).2
  unfold maxLen at hl
  clear hw ho
  repeat'(intro t ht;first|(cases t<;>first|(cases ht;done)|(try simp only[zg_]at ht))|((first|refine zb_ ht ?_|refine ht ?_ ?_|refine ht.1 ?_ ?_|refine ht ?_)<;>clear ht))
  all_goals first
   | (have hne:a ≠ b:=fun h=>(by assumption:¬ (a.length:Int)=b.length) (by rw [h])
      refine ⟨?_,rfl⟩;rw [decide_eq_false hne];done)
   | (intro r h1 h2;clear h1;refine h2 ⟨[0,1,5],Nat,(fun i=>i<=a.length/\a.take i=b.take i),fun i=>[.imm Y8 a,.imm Y8 b,.int .i64 i],fun _=>[],fun i=>a.length - i,⟨0,⟨Nat.zero_le _,rfl⟩,rfl,rfl⟩,?_⟩;clear h2)
  rintro i ⟨hi,he⟩
  have hl2:a.length=b.length:=by omega
  repeat'(intro t ht;first|(cases t<;>first|(cases ht;done)|(try simp only[zg_]at ht;try(exfalso;first|contradiction|omega)))|((first|refine zb_ ht ?_|refine ht ?_ ?_|refine ht.1 ?_ ?_|refine ht ?_)<;>clear ht))
  all_goals (try generalize (Ty.dflt Y8)=pd at*)
  all_goals first
   | exact True.intro
   | ((try simp only [zk_,zl_,zj_] at*);omega)
   | (have e:=Kn_ he (by omega) hl2
      refine ⟨?_,rfl⟩;rw [decide_eq_true e];done)
   | (have hne:a ≠ b:=Xs_ (d:=pd) (i:=i) (fun h=>by rw [h] at ht;simp at ht)
      refine ⟨?_,rfl⟩;rw [decide_eq_false hne];done)
   | exact ⟨i+1,⟨by omega,Qg_ he (by omega) hl2 (d:=pd) (zi6_ ht)⟩,by (try simp only [zk_,zl_,zj_] at*);omega,rfl,rfl⟩
 ·cases e
end Go.Eng
