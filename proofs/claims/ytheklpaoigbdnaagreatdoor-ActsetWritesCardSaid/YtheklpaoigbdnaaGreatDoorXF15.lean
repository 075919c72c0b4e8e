/- Parts of the proof: Z2, U1, U3, U8, U2. No condition. -/
import Derived.Test.YtheklpaoigbdnaaGreatDoorProg
import Derived.Test.YtheklpaoigbdnaaGreatDoorXF11
import Derived.KernelRfl
import Derived.Test.YtheklpaoigbdnaaGreatDoorXF14
namespace Go.Eng
open Go.Proofs
set_option linter.unusedVariables false
set_option linter.unusedSimpArgs false
set_option maxRecDepth 100000
set_option maxHeartbeats 1000000
theorem GG_ {q a b c f:Int} {h:Bool} {x:Int} {v m d:List Int} (hr:zX_ (z4_ c f h x v m) q a b c f h x v m d=true):QS_ q a b (xX_ c f h x v m) d=QS_ q a b (QK_ c f h x v m) d:=by
 by_cases h25:q=25
 ·obtain ⟨_,_,_,_,_,_,hR⟩:=J5_ h25 hr
  rw [vX_ hR]
 ·unfold QS_;rw [if_neg h25,if_neg h25]
theorem Vo_ {R:Bool} {q a b c f:Int} {h:Bool} {x:Int} {v m d:List Int} (hr:zX_ R q a b c f h x v m d=true):0<=q/\q<=65535:=by
 by_cases h25:q=25
 ·omega
 ·exact Hg_ (.inl (jw_ h25 hr).1)
theorem g5_ {c f:Int} {h:Bool} {x:Int} {v m:List Int} (hs:qy_ c f h x v m 0 0 false 0 [] []=true):h=false:=by
 cases h with
 | false=>rfl
 | true=>unfold qy_ at hs;simp at hs
def uk_:IR:=
(sq (kr [0] [oD 1 (.boxv 0),
oD 2 (.mov (.c (.imm (.int .u8) []))),
oD 3 (.mov cF)])
(sq (.reg [oD 13 (.build [.int .i64 0,.int .i64 0,.kb false,.int .u64 0,.imm (.int .u8) [],.imm (.int .u8) []] []),
oD 4 (.box [.int .i64 0,.int .i64 0,.kb false,.int .u64 0,.imm (.int .u8) [],.imm (.int .u8) []]),
oS 6 4 13])
(sq (sq (.reg [oA 14 0 1,
oL 15 14,
oB 16 .eql 15 (cI 25)])
(.cond 16
(sq (kr [1] [oA 17 3 1,
oK 18 6 17,
oD 5 (.box [.int .i64 0,.int .i64 0,.kb false,.int .u64 0,.imm (.int .u8) [],.imm (.int .u8) []]),
oS 6 5 18])
(sq (kr [1,5] [oA 19 1 1,
oL 20 19,
oB 21 .eql 20 (.c (.int .u64 0)),
oM 22 21,
oT 22 23 (.fieldAddr 2 1),
oT 22 24 (.load none 23),
oT 22 25 (.bin .eql 24 (.c (.int .u64 0))),
oP 26 22 25 cF,
oM 27 26,
oT 27 28 (.fieldAddr 9 1),
oT 27 29 (.load none 28),
oT 27 30 (.len 29),
oT 27 31 (.bin .eql 30 (cI 0)),
oP 32 27 31 cF,
oM 33 32,
oT 33 34 (.fieldAddr 0 5),
oT 33 35 (.load none 34),
oT 33 36 (.bin .eql 35 (cI 32768)),
oP 37 33 36 cF,
oM 38 37,
oT 38 39 (.fieldAddr 2 5),
oT 38 40 (.load none 39),
oT 38 41 (.un .not 40),
oP 42 38 41 cF,
oM 43 42,
oT 43 44 (.fieldAddr 1 5),
oT 43 45 (.load none 44),
oT 43 46 (.call false (.f 63) [45]),
oP 47 43 46 cF,
oM 48 47,
oT 48 49 (.load (some 6) 5),
oT 48 50 (.call false (.f 64) [49]),
oP 51 48 50 cF,
oM 6 51])
(sq (sq (kr [5,6] [oM 52 6,
oD 53 (.un .not 52)])
(.cond 53
(sq (.reg [oD 2 (.mov (.c (.imm (.int .u8) []))),
oD 3 (.mov cF)])
.ret)
.skip))
(sq (.reg [oK 54 6 5,
oC 55 65 [54],
oM 7 55])
(sq (.block 0
(.loop
(sq (sq (kr [7] [oM 56 7,
oE 57 56,
oB 58 .rem 57 (cI 8),
oB 59 .neq 58 (cI 4)])
(.cond 59
.skip
(.exit 0)))
(.block 1
(.reg [oM 60 7,
oD 61 (.sliceAll (.int .u8) 1 [(0,1,(.c (.int .u8 0)))]),
oD 62 (.append (.int .u8) 1 60 61),
oM 7 62])))))
(sq (kr [7] [oM 63 7,
oM 2 63,
oD 3 (.mov cT)])
.ret))))))
.skip))
(sq (kr [1,4] [oA 65 0 1,
oL 66 65,
oC 67 66 [66],
oM 64 67,
oX 68 64 0,
oX 69 64 1,
oM 8 68,
oM 9 69])
(sq (sq (kr [1,4,8,9] [oM 70 9,
oD 71 (.un .not 70),
oM 72 71,
oF 72 73 (.fieldAddr 3 1),
oF 72 74 (.load (some 6) 73),
oF 72 75 (.load (some 6) 4),
oF 72 76 (.call false (.f 42) [74,75]),
oF 72 77 (.un .not 76),
oP 78 72 cT 77,
oM 79 78,
oF 79 80 (.fieldAddr 3 1),
oF 79 81 (.fieldAddr 2 80),
oF 79 82 (.load none 81),
oP 83 79 cT 82,
oM 84 83,
oF 84 85 (.fieldAddr 0 1),
oF 84 86 (.load none 85),
oF 84 87 (.fieldAddr 1 1),
oF 84 88 (.load none 87),
oF 84 89 (.call false (.f 67) [86,88]),
oF 84 90 (.bin .neq 89 (cI 0)),
oP 91 84 cT 90])
(.cond 91
(sq (kr [] [oD 2 (.mov (.c (.imm (.int .u8) []))),
oD 3 (.mov cF)])
.ret)
.skip))
(sq (kr [1,8] [oK 92 10 1,
oM 93 8,
oC 94 68 [92,93],
oM 10 94])
(sq (kr [1,8,10] [oM 96 8,
oM 97 10,
oC 98 69 [96,97],
oM 95 98,
oX 99 95 0,
oX 100 95 1,
oM 11 99,
oM 12 100])
(sq (sq (kr [1,10,11,12] [oM 101 12,
oD 102 (.un .not 101),
oM 103 102,
oF 103 104 (.mov 10),
oF 103 105 (.len 104),
oF 103 106 (.bin .lss 105 (cI 2)),
oF 103 107 (.mov 106),
oT 107 108 (.fieldAddr 2 1),
oT 107 109 (.load none 108),
oT 107 110 (.bin .neq 109 (.c (.int .u64 0))),
oF 103 111 (.pick 107 110 cF),
oP 112 103 cT 111,
oM 113 112,
oF 113 114 (.mov 10),
oF 113 115 (.len 114),
oF 113 116 (.bin .lss 115 (cI 1)),
oF 113 117 (.mov 116),
oT 117 118 (.fieldAddr 1 1),
oT 117 119 (.load none 118),
oT 117 120 (.bin .neq 119 (.c (.int .u64 0))),
oF 113 121 (.pick 117 120 cF),
oP 122 113 cT 121,
oM 123 122,
oF 123 124 (.fieldAddr 0 1),
oF 123 125 (.load none 124),
oF 123 126 (.bin .neq 125 (cI 65535)),
oF 123 127 (.mov 126),
oT 127 128 (.fieldAddr 9 1),
oT 127 129 (.load none 128),
oT 127 130 (.len 129),
oT 127 131 (.bin .gtr 130 (cI 0)),
oF 123 132 (.pick 127 131 cF),
oP 133 123 cT 132,
oM 134 133,
oF 134 135 (.fieldAddr 9 1),
oF 134 136 (.load none 135),
oF 134 137 (.len 136),
oF 134 138 (.bin .rem 137 (cI 8)),
oF 134 139 (.bin .neq 138 (cI 0)),
oP 140 134 cT 139,
oM 141 140,
oF 141 142 (.fieldAddr 9 1),
oF 141 143 (.load none 142),
oF 141 144 (.len 143),
oF 141 145 (.bin .gtr 144 (cI 65520)),
oP 146 141 cT 145])
(.cond 146
(sq (kr [] [oD 2 (.mov (.c (.imm (.int .u8) []))),
oD 3 (.mov cF)])
.ret)
.skip))
(sq (kr [1,11] [oM 147 11,
oA 148 9 1,
oL 149 148,
oD 150 (.append (.int .u8) 1 147 149),
oM 2 150,
oD 3 (.mov cT)])
.ret)))))))))
def Vx_:List RD:=[.tmp 2 true (some (.int .u8)),.tmp 3 true none]
theorem VQ_:zl_ Tryz.prog Tryz.f53 uk_ Vx_=true:=by kernel_rfl
def jV_:List AV->List Obj->Option (Prop × AV)
 | [.agg [.int .i64 q,.int .u64 a,.int .u64 b,.int .i64 c,.int .i64 f,.bool h,.int .u64 x,.imm (.int .u8) v,.imm (.int .u8) m,.imm (.int .u8) d]],[]=>some ((v.length<=100000/\m.length<=100000/\d.length<=100000,.tup [.imm (.int .u8) (if zX_ (Qs_ c f h x v m) q a b c f h x v m d=true then QS_ q a b (QK_ c f h x v m) d else []),.bool (zX_ (Qs_ c f h x v m) q a b c f h x v m d)]))
 | _,_=>none
theorem Yg_:zf_ Tryz.prog 53 (RoF jV_).sum:=by
 refine zi_ Tryz.func53 VQ_ (zc_ (s:=RoF QA_) JY_ (zc_ (s:=RoF KJ_) Xx_ (zc_ (s:=RwF Q6_) w7_ (zc_ (s:=RoF wB_) Vi_ (zc_ (s:=RoF kW_) Jh_ (zc_ (s:=RoF KG_) Xu_ (zc_ (s:=RoF jU_) Yf_ (zc_ (s:=RwF KL_) Xz_ (ze_ _))))))))) fun args objs p v e=>?_
 unfold jV_ at e
 split at e
 ·rename_i q a b c f h x v m d
  cases e
  refine ⟨rfl,fun hw ho hp=>?_⟩
  change List Int at v
  change List Int at m
  change List Int at d
  have hx0:0<=x:=((hw _ (List.mem_cons_self ..)) (.int .u64 x) (by simp)).1
  have hv0:∀ z ∈ (v:List Int),(0:Int)<=z/\z<=255:=fun z hz=>((hw _ (List.mem_cons_self ..)) (.imm (.int .u8) v) (by simp)).1 z hz
  have hm0:∀ z ∈ (m:List Int),(0:Int)<=z/\z<=255:=fun z hz=>((hw _ (List.mem_cons_self ..)) (.imm (.int .u8) m) (by simp)).1 z hz
  clear hw ho
  have hcn:=hQ_ q
  have hsz:=G0_ q
  have hRO:=ys_ (c:=c) (f:=f) (h:=h) hx0 hv0 hm0
  have hcl:((([a,b].take (zK_ (Zu_ q)).toNat).length:Nat):Int)=zK_ (Zu_ q):=by rw [List.length_take];simp only [List.length_cons,List.length_nil];omega
  have hpl:([a,b].take (zK_ (Zu_ q)).toNat).length=(zK_ (Zu_ q)).toNat:=by rw [List.length_take];simp only [List.length_cons,List.length_nil];omega
  by_cases h25:q=25
  ·have hR:zX_ (Qs_ c f h x v m) q a b c f h x v m d=(decide (a=0) && decide (b=0) && decide (d.length=0) && (decide (c=32768) && !h && Jj_ f && Qs_ c f h x v m)):=if_pos h25
   cases hr:zX_ (Qs_ c f h x v m) q a b c f h x v m d with
   | false=>
     rw [hR] at hr
     repeat'(intro t ht;first|(cases t<;>first|(cases ht;done)|(try simp only[zh_]at ht;try(exfalso;first|contradiction|omega)))|((first|refine za_ ht ?_|refine ht ?_ ?_|refine ht.1 ?_ ?_|refine ht ?_)<;>clear ht))
     all_goals first
      | exact True.intro
      | exact hp
      | exact ⟨hp.1,hp.2.1⟩
      | omega
      | exact ⟨rfl,by first | rfl | exact True.intro⟩
      | (exfalso;simp_all;done)
   | true=>
     obtain ⟨ha,hb,hd,hc,hh,hs,hRr⟩:=J5_ h25 hr
     have hBB:QS_ q a b (QK_ c f h x v m) d=QK_ c f h x v m++List.replicate ((8 - (4+(QK_ c f h x v m).length) % 8) % 8) 0:=if_pos h25
     have hn:=kA_ (hRO.trans hRr)
     have hsL:=(wO_ (hRO.trans hRr)).2
     rw [vX_ (hRO.trans hRr)] at hsL
     repeat'(intro t ht;first|(cases t<;>first|(cases ht;done)|(try simp only[zh_]at ht;try(exfalso;first|contradiction|omega)))|((first|refine za_ ht ?_|refine ht ?_ ?_|refine ht.1 ?_ ?_|refine ht ?_)<;>clear ht))
     all_goals first
      | exact True.intro
      | exact ⟨hp.1,hp.2.1⟩
      | exact ⟨hn.1,hn.2.1,by omega,by omega,by omega,by omega⟩
      | omega
      | (exfalso;simp_all;done)
      | (intro r h1 h2;clear h1;refine h2 ⟨[7],Nat,(fun i=>i<=(8 - (4+(QK_ c f h x v m).length) % 8) % 8),fun _=>[.own 0],fun i=>[.row false (.int .u8) (QK_ c f h x v m++List.replicate i 0)],fun i=>8 - i,⟨0,Nat.zero_le _,rfl,congrArg (fun l=>[Obj.row false (.int .u8) l]) (List.append_nil _).symm⟩,?_⟩;clear h2)
     rintro i hi
     (try dsimp only at hi)
     have hlen:(QK_ c f h x v m++List.replicate i (0:Int)).length=(QK_ c f h x v m).length+i:=by rw [List.length_append,List.length_replicate]
     repeat'(intro t ht;first|(cases t<;>first|(cases ht;done)|(try simp only[zh_]at ht))|((first|refine za_ ht ?_|refine ht ?_ ?_|refine ht.1 ?_ ?_|refine ht ?_)<;>clear ht))
     all_goals (try simp only [hlen,Ja_ (Int.natCast_nonneg _)] at*)
     all_goals first
      | exact True.intro
      | omega
      | ((try simp only [zm_,zn_,zk_] at*);omega)
      | (refine ⟨i+1,?_,?_,rfl,?_⟩
         ·(try dsimp only);omega
         ·(try dsimp only);omega
         ·simp only [Zi_,List.replicate_succ',List.append_assoc])
      | (simp only [List.length_cons,List.length_nil];constructor<;>omega)
      | (refine ⟨?_,by first | rfl | exact True.intro⟩;rw [hBB,show i=(8 - (4+(QK_ c f h x v m).length) % 8) % 8 by omega];rfl)
  ·have hR:zX_ (Qs_ c f h x v m) q a b c f h x v m d=(Vm_ q && qy_ c f h x v m 0 0 false 0 [] [] && decide (ge_ q a=0) && J9_ (Zu_ q) ([a,b].take (zK_ (Zu_ q)).toNat) && (decide (2<=zK_ (Zu_ q)) || decide (b=0)) && (decide (1<=zK_ (Zu_ q)) || decide (a=0)) && (if q=65535 then decide ((d.length:Int).tmod 8=0) && decide ((d.length:Int)<=65520) else decide (d.length=0))):=if_neg h25
   cases hr:zX_ (Qs_ c f h x v m) q a b c f h x v m d with
   | false=>
     rw [hR] at hr
     repeat'(intro t ht;first|(cases t<;>first|(cases ht;done)|(try simp only[zh_]at ht;try(exfalso;first|contradiction|omega)))|((first|refine za_ ht ?_|refine ht ?_ ?_|refine ht.1 ?_ ?_|refine ht ?_)<;>clear ht))
     all_goals first
      | exact True.intro
      | exact hp
      | exact ⟨hp.1,hp.2.1⟩
      | exact hcn
      | omega
      | exact ⟨rfl,by first | rfl | exact True.intro⟩
      | (exfalso
         simp only [hcl] at*
         refine absurd ?_ (Bool.eq_false_iff.1 hr)
         simp only [Bool.and_eq_true,Bool.or_eq_true,decide_eq_true_eq]
         refine ⟨⟨⟨⟨⟨⟨by assumption,by assumption⟩,by assumption⟩,by assumption⟩,by omega⟩,by omega⟩,?_⟩
         first
          | (rw [if_pos (by assumption)];simp only [Bool.and_eq_true,decide_eq_true_eq];exact ⟨by assumption,by omega⟩)
          | (rw [if_neg (by assumption)];simp only [decide_eq_true_eq];omega))
   | true=>
     obtain ⟨k1,k2,k3,k4,k5,k6,k7⟩:=jw_ h25 hr
     unfold yE_ at k4
     have hh:=g5_ k2
     have hB:QS_ q a b (QK_ c f h x v m) d=wb_ (Zu_ q) ([a,b].take (zK_ (Zu_ q)).toNat)++d:=if_neg h25
     have hps:=yy_ k4
     repeat'(intro t ht;first|(cases t<;>first|(cases ht;done)|(try simp only[zh_]at ht;try(exfalso;first|contradiction|omega)))|((first|refine za_ ht ?_|refine ht ?_ ?_|refine ht.1 ?_ ?_|refine ht ?_)<;>clear ht))
     all_goals first
      | exact True.intro
      | exact hp
      | exact ⟨hp.1,hp.2.1⟩
      | exact hcn
      | omega
      | (constructor<;>omega)
      | (simp only [Zi_];constructor<;>omega)
      | (refine ⟨?_,by first | rfl | exact True.intro⟩;rw [hB];rfl)
      | (exfalso;simp_all;done)
      | (exfalso;simp_all;omega)
 ·cases e
def X3_:IR:=
(sq (kr [0] [oD 1 (.boxv 0),
oD 2 (.mov (.c (.imm (.int .u8) []))),
oD 3 (.mov (cI 0))])
(sq (kr [1] [oK 7 10 1,
oC 8 53 [7],
oM 6 8,
oX 9 6 0,
oX 10 6 1,
oM 4 9,
oM 5 10])
(sq (sq (kr [1,4,5] [oM 11 5,
oD 12 (.un .not 11)])
(.cond 12
(sq (.reg [oD 2 (.mov (.c (.imm (.int .u8) []))),
oD 3 (.mov (cI 10001))])
.ret)
.skip))
(sq (kr [1,4] [oA 13 0 1,
oL 14 13,
oD 15 (.conv .u64 14),
oC 16 54 [15,(cI 2)],
oM 17 4,
oE 18 17,
oB 19 .add (cI 4) 18,
oD 20 (.conv .u64 19),
oC 21 54 [20,(cI 2)],
oD 22 (.append (.int .u8) 1 16 21),
oM 23 4,
oD 24 (.append (.int .u8) 1 22 23),
oM 2 24,
oD 3 (.mov (cI 0))])
.ret))))
def XF_:List RD:=[.tmp 2 true (some (.int .u8)),.tmp 3 true none]
theorem XR_:zl_ Tryz.prog Tryz.f39 X3_ XF_=true:=by kernel_rfl
def kU_:List AV->List Obj->Option (Prop × AV)
 | [.agg [.int .i64 q,.int .u64 a,.int .u64 b,.int .i64 c,.int .i64 f,.bool h,.int .u64 x,.imm (.int .u8) v,.imm (.int .u8) m,.imm (.int .u8) d]],[]=>some ((v.length<=100000/\m.length<=100000/\d.length<=100000,.tup [.imm (.int .u8) (if zX_ (Qs_ c f h x v m) q a b c f h x v m d=true then BD_ q a b (QK_ c f h x v m) d else []),.int .i64 (if zX_ (Qs_ c f h x v m) q a b c f h x v m d=true then 0 else 10001)]))
 | _,_=>none
theorem WU_:zf_ Tryz.prog 39 (RoF kU_).sum:=by
 refine zi_ Tryz.func39 XR_ (zc_ (s:=RoF jV_) Yg_ (zc_ (s:=RwF ko_) Ki_ (ze_ _))) fun args objs p v e=>?_
 unfold kU_ at e
 split at e
 ·rename_i q a b c f h x v m d
  cases e
  refine ⟨rfl,fun hw ho hp=>?_⟩
  change List Int at v
  change List Int at m
  change List Int at d
  have hx0:0<=x:=((hw _ (List.mem_cons_self ..)) (.int .u64 x) (by simp)).1
  have hv0:∀ z ∈ (v:List Int),(0:Int)<=z/\z<=255:=fun z hz=>((hw _ (List.mem_cons_self ..)) (.imm (.int .u8) v) (by simp)).1 z hz
  have hm0:∀ z ∈ (m:List Int),(0:Int)<=z/\z<=255:=fun z hz=>((hw _ (List.mem_cons_self ..)) (.imm (.int .u8) m) (by simp)).1 z hz
  clear hw ho
  have hRA:=W2_ (q:=q) (a:=a) (b:=b) (c:=c) (f:=f) (h:=h) (d:=d) hx0 hv0 hm0
  cases hr:zX_ (Qs_ c f h x v m) q a b c f h x v m d with
  | false=>
    repeat'(intro t ht;first|(cases t<;>first|(cases ht;done)|(try simp only[zh_]at ht;try(exfalso;first|contradiction|omega)))|((first|refine za_ ht ?_|refine ht ?_ ?_|refine ht.1 ?_ ?_|refine ht ?_)<;>clear ht))
    all_goals first
     | exact True.intro
     | exact hp
     | exact ⟨rfl,by first | rfl | exact True.intro⟩
     | (exfalso;simp_all;done)
  | true=>
    have hro:=hRA.trans hr
    obtain ⟨_,s1,_,_⟩:=g3_ hro
    rw [GG_ hro] at s1
    have hq:=Vo_ hr
    have l2:=zZ_ (n:=q) (w:=2) (by decide)
    have l3:=zZ_ (n:=(4+(QS_ q a b (QK_ c f h x v m) d).length)) (w:=2) (by decide)
    repeat'(intro t ht;first|(cases t<;>first|(cases ht;done)|(try simp only[zh_]at ht;try(exfalso;first|contradiction|omega)))|((first|refine za_ ht ?_|refine ht ?_ ?_|refine ht.1 ?_ ?_|refine ht ?_)<;>clear ht))
    all_goals (try simp only [hr,if_true,Zi_] at*)
    all_goals first
     | exact True.intro
     | exact hp
     | omega
     | ((try simp only [zm_,zn_,zk_] at*);omega)
     | (constructor<;>omega)
     | (simp only [List.length_append];constructor<;>omega)
     | exact ⟨rfl,by first | rfl | exact True.intro⟩
     | (exfalso;simp_all;done)
 ·cases e
def zx_ (t:Int):Int:=if t=0 then 11 else if t=22 then 10 else if t=21 then 9 else if t=15\/t=23\/t=25 then 8 else if t=16\/t=24 then 7 else if t=11 then 6 else if t=17 then 5 else if t=26 then 4 else if t=19 then 3 else if t=18\/t=20\/t=27 then 2 else if t=12 then 1 else 0
def flF (t f:Int):Int:=if t=25 then f else 0
def x2_ (a b:Int):Int:=if a < b then -1 else if b < a then 1 else 0
def orL:List Int->Int
 | []=>0
 | x :: r=>if x=0 then orL r else x
theorem VL_ {l:List Int} {i:Nat} {d:Int} (h:i < l.length):orL (l.drop i)=if l.getD i d=0 then orL (l.drop (i+1)) else l.getD i d:=by
 rw [zw_ h d];rfl
def wd_ (r k f r' k' f':Int):Int:=orL [x2_ r r',x2_ k k',x2_ f f']
def flA (a:AC):Int:=flF a.1 a.2.2.2.1.2.1
def Wl_ (a b:AC):Int:=wd_ (zx_ a.1) a.1 (flA a) (zx_ b.1) b.1 (flA b)
def vp_ (q a b c f:Int) (h:Bool) (x:Int) (v m d:List Int):Bool:=decide (0 < zx_ q) && zX_ (z4_ c f h x v m) q a b c f h x v m d
def Zv_ (a:AC):Bool:=vp_ a.1 a.2.1 a.2.2.1 a.2.2.2.1.1 a.2.2.2.1.2.1 a.2.2.2.1.2.2.1 a.2.2.2.1.2.2.2.1 a.2.2.2.1.2.2.2.2.1 a.2.2.2.1.2.2.2.2.2.1 a.2.2.2.2.1
theorem By_ (x y z:Int):orL [x,y,z]=if x=0 then (if y=0 then z else y) else x:=by
 unfold orL;unfold orL;unfold orL;unfold orL
 by_cases hx:x=0
 ·rw [if_pos hx,if_pos hx]
  by_cases hy:y=0
  ·rw [if_pos hy,if_pos hy]
   by_cases hz:z=0
   ·rw [if_pos hz,hz]
   ·rw [if_neg hz]
  ·rw [if_neg hy,if_neg hy]
 ·rw [if_neg hx,if_neg hx]
def xG_:IR:=
(sq (kr [0] [oD 1 (.boxv 0),
oD 2 (.mov (cI 0))])
(sq (sq (.reg [oA 3 0 1,
oL 4 3])
(.block 0
(sq (.block 11
(sq (.block 10
(sq (.block 9
(sq (.block 8
(sq (.block 7
(sq (.block 6
(sq (.block 5
(sq (.block 4
(sq (.block 3
(sq (.block 2
(sq (.block 1
(sq (sq (sq (.reg [oB 6 .eql 4 (cI 0),
oM 5 6])
(.cond 5
(.exit 1)
.skip))
(sq (sq (kr [2,4] [oB 8 .eql 4 (cI 22),
oM 7 8])
(.cond 7
(.exit 2)
.skip))
(sq (sq (.reg [oB 10 .eql 4 (cI 21),
oM 9 10])
(.cond 9
(.exit 3)
.skip))
(sq (sq (sq (.reg [oB 12 .eql 4 (cI 15),
oM 11 12])
(.cond 11
.skip
(sq (kr [2,4] [oB 13 .eql 4 (cI 23),
oM 11 13])
(.cond 11
.skip
(.reg [oB 14 .eql 4 (cI 25),
oM 11 14])))))
(.cond 11
(.exit 4)
.skip))
(sq (sq (sq (kr [2,4] [oB 16 .eql 4 (cI 16),
oM 15 16])
(.cond 15
.skip
(.reg [oB 17 .eql 4 (cI 24),
oM 15 17])))
(.cond 15
(.exit 5)
.skip))
(sq (sq (.reg [oB 19 .eql 4 (cI 11),
oM 18 19])
(.cond 18
(.exit 6)
.skip))
(sq (sq (kr [2,4] [oB 21 .eql 4 (cI 17),
oM 20 21])
(.cond 20
(.exit 7)
.skip))
(sq (sq (.reg [oB 23 .eql 4 (cI 26),
oM 22 23])
(.cond 22
(.exit 8)
.skip))
(sq (sq (.reg [oB 25 .eql 4 (cI 19),
oM 24 25])
(.cond 24
(.exit 9)
.skip))
(sq (sq (sq (kr [2,4] [oB 27 .eql 4 (cI 18),
oM 26 27])
(.cond 26
.skip
(sq (.reg [oB 28 .eql 4 (cI 20),
oM 26 28])
(.cond 26
.skip
(.reg [oB 29 .eql 4 (cI 27),
oM 26 29])))))
(.cond 26
(.exit 10)
.skip))
(sq (kr [2,4] [oB 31 .eql 4 (cI 12),
oM 30 31])
(.cond 30
(.exit 11)
.skip))))))))))))
(.exit 0)))
(kr [2] [oM 32 2,
oB 33 .add 32 (cI 1),
oM 2 33])))
(kr [2] [oM 34 2,
oB 35 .add 34 (cI 1),
oM 2 35])))
(kr [2] [oM 36 2,
oB 37 .add 36 (cI 1),
oM 2 37])))
(kr [2] [oM 38 2,
oB 39 .add 38 (cI 1),
oM 2 39])))
(kr [2] [oM 40 2,
oB 41 .add 40 (cI 1),
oM 2 41])))
(kr [2] [oM 42 2,
oB 43 .add 42 (cI 1),
oM 2 43])))
(kr [2] [oM 44 2,
oB 45 .add 44 (cI 1),
oM 2 45])))
(kr [2] [oM 46 2,
oB 47 .add 46 (cI 1),
oM 2 47])))
(kr [2] [oM 48 2,
oB 49 .add 48 (cI 1),
oM 2 49])))
(kr [2] [oM 50 2,
oB 51 .add 50 (cI 1),
oM 2 51])))
(sq (kr [2] [oM 52 2,
oB 53 .add 52 (cI 1),
oM 2 53])
(.exit 0)))))
(sq (kr [2] [oM 54 2,
oM 2 54])
.ret)))
def W8_:List RD:=[.tmp 2 true none]
theorem xp_:zl_ Tryz.prog Tryz.f32 xG_ W8_=true:=by kernel_rfl
def qO_:List AV->List Obj->Option (Prop × AV)
 | [.agg [.int .i64 q,.int .u64 a,.int .u64 b,.int .i64 c,.int .i64 f,.bool h,.int .u64 x,.imm (.int .u8) v,.imm (.int .u8) m,.imm (.int .u8) d]],[]=>some ((True,.int .i64 (zx_ q)))
 | _,_=>none
theorem k3_:zf_ Tryz.prog 32 (RoF qO_).sum:=by
 refine zi_ Tryz.func32 xp_ (ze_ _) fun args objs p v e=>?_
 unfold qO_ at e
 split at e
 ·rename_i q a b c f h x v m d
  cases e
  refine ⟨rfl,fun hw ho hp=>?_⟩
  change List Int at v
  change List Int at m
  change List Int at d
  clear hw ho hp
  have hr:∀ n:Int,zx_ q=n->AV.int .i64 n=AV.int .i64 (zx_ q):=fun n e=>by rw [e]
  repeat'(intro t ht;first|(cases t<;>first|(cases ht;done)|(try simp only[zh_]at ht;try(exfalso;first|contradiction|omega)))|((first|refine za_ ht ?_|refine ht ?_ ?_|refine ht.1 ?_ ?_|refine ht ?_)<;>clear ht))
  all_goals first
   | exact True.intro
   | (simp only [zk_];omega)
   | (refine ⟨hr _ ?_,rfl⟩;unfold zx_;simp only [*];done)
   | (refine ⟨hr _ ?_,rfl⟩;unfold zx_;(repeat' split)<;>omega)
 ·cases e
def vO_:IR:=
(sq (kr [0] [oD 1 (.boxv 0),
oD 2 (.box [.int .i64 0,.int .i64 0,.int .i64 0])])
(sq (kd [1,2] [(oK 4 10 1,[]),
(oC 5 32 [4],[]),
(oA 6 0 1,[0,0]),
(oL 7 6,[1,0]),
(oD 8 (.build [.int .i64 0,.int .i64 0,.int .i64 0] [(0,1,5),(1,1,7)]),[]),
(oD 3 (.box [.int .i64 0,.int .i64 0,.int .i64 0]),[0,0,0,0,0]),
(oS 3 3 8,[])])
(sq (sq (.reg [oA 9 0 1,
oL 10 9,
oB 11 .eql 10 (cI 25)])
(.cond 11
(kr [1,2,3] [oA 12 3 1,
oA 13 1 12,
oL 14 13,
oA 15 2 3,
oS 1 15 14])
.skip))
(sq (kr [2,3] [oK 16 3 3,
oS 3 2 16])
.ret))))
def YS_:List RD:=[.cell 2 (some 3) true []]
theorem vj_:zl_ Tryz.prog Tryz.f17 vO_ YS_=true:=by kernel_rfl
def qZ_:List AV->List Obj->Option (Prop × AV)
 | [.agg [.int .i64 q,.int .u64 a,.int .u64 b,.int .i64 c,.int .i64 f,.bool h,.int .u64 x,.imm (.int .u8) v,.imm (.int .u8) m,.imm (.int .u8) d]],[]=>some ((True,.agg [.int .i64 (zx_ q),.int .i64 q,.int .i64 (flF q f)]))
 | _,_=>none
theorem Q2_:zf_ Tryz.prog 17 (RoF qZ_).sum:=by
 refine zi_ Tryz.func17 vj_ (zc_ (s:=RoF qO_) k3_ (ze_ _)) fun args objs p v e=>?_
 unfold qZ_ at e
 split at e
 ·rename_i q a b c f h x v m d
  cases e
  refine ⟨rfl,fun hw ho hp=>?_⟩
  change List Int at v
  change List Int at m
  change List Int at d
  clear hw ho hp
  by_cases h25:q=25
  ·have e:flF q f=f:=if_pos h25
   rw [e]
   repeat'(intro t ht;first|(cases t<;>first|(cases ht;done)|(try simp only[zh_]at ht;try(exfalso;first|contradiction|omega)))|((first|refine za_ ht ?_|refine ht ?_ ?_|refine ht.1 ?_ ?_|refine ht ?_)<;>clear ht))
   all_goals first
    | exact True.intro
    | exact ⟨rfl,rfl⟩
  ·have e:flF q f=0:=if_neg h25
   rw [e]
   repeat'(intro t ht;first|(cases t<;>first|(cases ht;done)|(try simp only[zh_]at ht;try(exfalso;first|contradiction|omega)))|((first|refine za_ ht ?_|refine ht ?_ ?_|refine ht.1 ?_ ?_|refine ht ?_)<;>clear ht))
   all_goals first
    | exact True.intro
    | exact ⟨rfl,rfl⟩
 ·cases e
def wk_:IR:=
(sq (kr [0] [oD 2 (.mov cF)])
(sq (.reg [oM 3 0,
oM 4 0,
oB 5 .neq 3 4,
oM 2 5])
.ret))
def J7_:List RD:=[.tmp 2 true none]
theorem wg_:zl_ Tryz.prog Tryz.f51 wk_ J7_=true:=by kernel_rfl
def q3_:List AV->List Obj->Option (Prop × AV)
 | [.int .i64 n],[]=>some ((True,.bool false))
 | _,_=>none
theorem Ji_:zf_ Tryz.prog 51 (RoF q3_).sum:=by
 refine zi_ Tryz.func51 wg_ (ze_ _) fun args objs p v e=>?_
 unfold q3_ at e
 split at e
 ·rename_i n
  cases e
  refine ⟨rfl,fun hw ho hp=>?_⟩
  clear hw ho hp
  repeat'(intro t ht;first|(cases t<;>first|(cases ht;done)|(try simp only[zh_]at ht;try(exfalso;first|contradiction|omega)))|((first|refine za_ ht ?_|refine ht ?_ ?_|refine ht.1 ?_ ?_|refine ht ?_)<;>clear ht))
  all_goals first
   | exact True.intro
   | exact ⟨rfl,rfl⟩
   | (refine ⟨congrArg AV.bool ?_,rfl⟩;simp;done)
 ·cases e
def jK_:IR:=
(sq (kr [0,1] [oD 4 (.mov (cI 0))])
(sq (.reg [oM 7 0,
oC 8 51 [7],
oM 5 8])
(sq (.reg [oM 9 1,
oC 10 51 [9],
oM 6 10])
(sq (sq (kr [0,1,5,6] [oM 11 5])
(.cond 11
(sq (sq (.reg [oM 12 6])
(.cond 12
(sq (.reg [oD 4 (.mov (cI 0))])
.ret)
.skip))
(sq (.reg [oD 4 (.mov (cI (-1)))])
.ret))
.skip))
(sq (sq (.reg [oM 13 6])
(.cond 13
(sq (kr [] [oD 4 (.mov (cI 1))])
.ret)
.skip))
(sq (sq (kr [0,1] [oM 14 0,
oM 15 1,
oB 16 .lss 14 15])
(.cond 16
(sq (.reg [oD 4 (.mov (cI (-1)))])
.ret)
.skip))
(sq (sq (.reg [oM 17 0,
oM 18 1,
oB 19 .gtr 17 18])
(.cond 19
(sq (kr [] [oD 4 (.mov (cI 1))])
.ret)
.skip))
(sq (kr [] [oD 4 (.mov (cI 0))])
.ret))))))))
def jB_:List RD:=[.tmp 4 true none]
theorem jF_:zl_ Tryz.prog Tryz.f35 jK_ jB_=true:=by kernel_rfl
def qs_:List AV->List Obj->Option (Prop × AV)
 | [.int .i64 a,.int .i64 b],[]=>some ((True,.int .i64 (x2_ a b)))
 | _,_=>none
theorem jc_:zf_ Tryz.prog 35 (RoF qs_).sum:=by
 refine zi_ Tryz.func35 jF_ (zc_ (s:=RoF q3_) Ji_ (ze_ _)) fun args objs p v e=>?_
 unfold qs_ at e
 split at e
 ·rename_i a b
  cases e
  refine ⟨rfl,fun hw ho hp=>?_⟩
  clear hw ho hp
  repeat'(intro t ht;first|(cases t<;>first|(cases ht;done)|(try simp only[zh_]at ht;try(exfalso;first|contradiction|omega)))|((first|refine za_ ht ?_|refine ht ?_ ?_|refine ht.1 ?_ ?_|refine ht ?_)<;>clear ht))
  all_goals first
   | exact True.intro
   | (refine ⟨?_,rfl⟩;unfold x2_;(repeat' split)<;>first | rfl | omega)
 ·cases e
def ya_:IR:=
(sq (kr [0] [oD 2 (.mov (cI 0))])
(sq (.reg [oD 3 (.mov (cI 0))])
(sq (sq (.reg [oM 6 0,
oE 7 6,
oD 8 (.mov (cI 0))])
(.block 0
(.loop
(sq (kr [3,6,7,8] [oB 9 .lss 8 7])
(sq (.cond 9
.skip
(.exit 0))
(sq (.block 1
(sq (.reg [oI 10 1 6 8,
oL 11 10,
oM 5 11])
(sq (.reg [oM 12 5,
oM 13 3,
oB 14 .neq 12 13])
(.cond 14
(sq (kr [5] [oM 15 5,
oM 2 15])
.ret)
.skip))))
(kr [3,6,7,8] [oB 16 .add 8 (cI 1),
oM 8 16])))))))
(sq (kr [3] [oM 17 3,
oM 2 17])
.ret))))
def XM_:List RD:=[.tmp 2 true none]
theorem XY_:zl_ Tryz.prog Tryz.f34 ya_ XM_=true:=by kernel_rfl
def k0_:List AV->List Obj->Option (Prop × AV)
 | [.imm (.int .i64) l],[]=>some ((l.length<=1000000,.int .i64 (orL l)))
 | _,_=>none
theorem WZ_:zf_ Tryz.prog 34 (RoF k0_).sum:=by
 refine zi_ Tryz.func34 XY_ (ze_ _) fun args objs p v e=>?_
 unfold k0_ at e
 split at e
 ·rename_i l
  cases e
  refine ⟨rfl,fun hw ho hp=>?_⟩
  change List Int at l
  clear hw ho
  repeat'(intro t ht;first|(cases t<;>first|(cases ht;done)|(try simp only[zh_]at ht;try(exfalso;first|contradiction|omega)))|((first|refine za_ ht ?_|refine ht ?_ ?_|refine ht.1 ?_ ?_|refine ht ?_)<;>clear ht))
  all_goals first
   | exact True.intro
   | (intro r h1 h2;clear h1;refine h2 ⟨[3,6,7,8],Nat,(fun i=>i<=l.length/\orL l=orL (l.drop i)),fun i=>[.int .i64 0,.imm (.int .i64) l,.int .i64 l.length,.int .i64 i],fun _=>[],fun i=>l.length - i,⟨0,⟨Nat.zero_le _,rfl⟩,rfl,rfl⟩,?_⟩;clear h2)
  rintro i ⟨hi,he⟩
  repeat'(intro t ht;first|(cases t<;>first|(cases ht;done)|(try simp only[zh_]at ht;try(exfalso;first|contradiction|omega)))|((first|refine za_ ht ?_|refine ht ?_ ?_|refine ht.1 ?_ ?_|refine ht ?_)<;>clear ht))
  all_goals first
   | exact True.intro
   | omega
   | ((try dsimp only);simp only [zk_];omega)
   | (rw [he,VL_ (d:=0) (by omega),if_neg ht];exact ⟨rfl,by first | rfl | exact True.intro⟩)
   | (rw [he,List.drop_of_length_le (by omega)];exact ⟨rfl,by first | rfl | exact True.intro⟩)
   | (refine ⟨i+1,⟨by omega,?_⟩,?_,rfl,rfl⟩
      ·rw [he,VL_ (d:=0) (by omega),if_pos ht]
      ·(try dsimp only);omega)
 ·cases e
def Kd_:IR:=
(sq (kr [0,1] [oD 2 (.boxv 0),
oD 3 (.boxv 1),
oD 4 (.mov (cI 0))])
(sq (kd [2,3] [(oA 5 0 2,[]),
(oL 6 5,[]),
(oA 7 0 3,[0,0]),
(oL 8 7,[1,0]),
(oC 9 35 [6,8],[]),
(oA 10 1 2,[0,0,0,0,0]),
(oL 11 10,[1,0,0,0,0]),
(oA 12 1 3,[0,0,0,0,0,0,0]),
(oL 13 12,[1,0,0,0,0,0,0]),
(oC 14 35 [11,13],[]),
(oA 15 2 2,[0,0,0,0,0,0,0,0,0,0]),
(oL 16 15,[1,0,0,0,0,0,0,0,0,0]),
(oA 17 2 3,[0,0,0,0,0,0,0,0,0,0,0,0]),
(oL 18 17,[1,0,0,0,0,0,0,0,0,0,0,0]),
(oC 19 35 [16,18],[]),
(oD 20 (.sliceAll (.int .i64) 3 [(0,1,9),(1,1,14),(2,1,19)]),[]),
(oC 21 34 [20],[]),
(oM 4 21,[])])
.ret))
def k8_:List RD:=[.tmp 4 true none]
theorem Kb_:zl_ Tryz.prog Tryz.f20 Kd_ k8_=true:=by kernel_rfl
def Zk_:List AV->List Obj->Option (Prop × AV)
 | [.agg [.int .i64 r,.int .i64 k,.int .i64 f],.agg [.int .i64 r',.int .i64 k',.int .i64 f']],[]=>some ((True,.int .i64 (wd_ r k f r' k' f')))
 | _,_=>none
theorem qh_:zf_ Tryz.prog 20 (RoF Zk_).sum:=by
 refine zi_ Tryz.func20 Kb_ (zc_ (s:=RoF qs_) jc_ (zc_ (s:=RoF k0_) WZ_ (ze_ _))) fun args objs p v e=>?_
 unfold Zk_ at e
 split at e
 ·rename_i r k f r' k' f'
  cases e
  refine ⟨rfl,fun hw ho hp=>?_⟩
  clear hw ho hp
  repeat'(intro t ht;first|(cases t<;>first|(cases ht;done)|(try simp only[zh_]at ht;try(exfalso;first|contradiction|omega)))|((first|refine za_ ht ?_|refine ht ?_ ?_|refine ht.1 ?_ ?_|refine ht ?_)<;>clear ht))
  all_goals first
   | exact True.intro
   | exact ⟨rfl,rfl⟩
   | exact (by decide:(3:Nat)<=1000000)
   | (simp only [List.length_cons,List.length_nil];omega)
 ·cases e
def yc_:IR:=
(sq (kr [0] [oD 1 (.boxv 0),
oD 2 (.mov cF)])
(sq (kr [1] [oK 3 10 1,
oC 4 32 [3],
oB 5 .gtr 4 (cI 0),
oM 6 5,
oT 6 7 (.load (some 10) 1),
oT 6 8 (.call false (.f 33) [7]),
oP 9 6 8 cF,
oM 2 9])
.ret))
def XO_:List RD:=[.tmp 2 true none]
theorem X0_:zl_ Tryz.prog Tryz.f15 yc_ XO_=true:=by kernel_rfl
def Qf_:List AV->List Obj->Option (Prop × AV)
 | [.agg [.int .i64 q,.int .u64 a,.int .u64 b,.int .i64 c,.int .i64 f,.bool h,.int .u64 x,.imm (.int .u8) v,.imm (.int .u8) m,.imm (.int .u8) d]],[]=>some ((v.length<=1000000/\m.length<=1000000,.bool (vp_ q a b c f h x v m d)))
 | _,_=>none
theorem Kl_:zf_ Tryz.prog 15 (RoF Qf_).sum:=by
 refine zi_ Tryz.func15 X0_ (zc_ (s:=RoF qO_) k3_ (zc_ (s:=RoF QF_) J2_ (ze_ _))) fun args objs p v e=>?_
 unfold Qf_ at e
 split at e
 ·rename_i q a b c f h x v m d
  cases e
  refine ⟨rfl,fun hw ho hp=>?_⟩
  change List Int at v
  change List Int at m
  change List Int at d
  clear hw ho
  repeat'(intro t ht;first|(cases t<;>first|(cases ht;done)|(try simp only[zh_]at ht;try(exfalso;first|contradiction|omega)))|((first|refine za_ ht ?_|refine ht ?_ ?_|refine ht.1 ?_ ?_|refine ht ?_)<;>clear ht))
  all_goals first
   | exact True.intro
   | exact hp
   | exact ⟨rfl,rfl⟩
   | (refine ⟨congrArg AV.bool ?_,rfl⟩;unfold vp_;first | (rw [decide_eq_false ht];rfl) | (rw [decide_eq_true (show 0 < zx_ q by omega)];rfl))
 ·cases e
def JG_:IR:=
(sq (kr [0] [oD 1 (.boxv 0),
oD 2 (.mov cF)])
(sq (.reg [oK 3 10 1,
oC 4 15 [3],
oD 5 (.un .not 4),
oM 2 5])
.ret))
def Jo_:List RD:=[.tmp 2 true none]
theorem Jw_:zl_ Tryz.prog Tryz.f14 JG_ Jo_=true:=by kernel_rfl
def ZP_:List AV->List Obj->Option (Prop × AV)
 | [.agg [.int .i64 q,.int .u64 a,.int .u64 b,.int .i64 c,.int .i64 f,.bool h,.int .u64 x,.imm (.int .u8) v,.imm (.int .u8) m,.imm (.int .u8) d]],[]=>some ((v.length<=1000000/\m.length<=1000000,.bool (!vp_ q a b c f h x v m d)))
 | _,_=>none
theorem Qp_:zf_ Tryz.prog 14 (RoF ZP_).sum:=by
 refine zi_ Tryz.func14 Jw_ (zc_ (s:=RoF Qf_) Kl_ (ze_ _)) fun args objs p v e=>?_
 unfold ZP_ at e
 split at e
 ·rename_i q a b c f h x v m d
  cases e
  refine ⟨rfl,fun hw ho hp=>?_⟩
  change List Int at v
  change List Int at m
  change List Int at d
  clear hw ho
  repeat'(intro t ht;first|(cases t<;>first|(cases ht;done)|(try simp only[zh_]at ht;try(exfalso;first|contradiction|omega)))|((first|refine za_ ht ?_|refine ht ?_ ?_|refine ht.1 ?_ ?_|refine ht ?_)<;>clear ht))
  all_goals first
   | exact True.intro
   | exact hp
   | exact ⟨rfl,rfl⟩
 ·cases e
def JF_:IR:=
(sq (kr [0,1] [oD 2 (.boxv 0),
oD 3 (.mov cF)])
(sq (kd [1,2] [(oK 4 10 2,[]),
(oC 5 17 [4],[]),
(oK 6 3 1,[0,0]),
(oC 7 20 [5,6],[]),
(oB 8 .geq 7 (cI 0),[]),
(oM 3 8,[])])
.ret))
def Jn_:List RD:=[.tmp 3 true none]
theorem Jv_:zl_ Tryz.prog Tryz.f19 JF_ Jn_=true:=by kernel_rfl
def ZO_:List AV->List Obj->Option (Prop × AV)
 | [.agg [.int .i64 q,.int .u64 a,.int .u64 b,.int .i64 c,.int .i64 f,.bool h,.int .u64 x,.imm (.int .u8) v,.imm (.int .u8) m,.imm (.int .u8) d],.ptr 0 0],[.box [.int .i64 r,.int .i64 k,.int .i64 g]]=>some ((True,.bool (decide (0<=wd_ (zx_ q) q (flF q f) r k g))))
 | _,_=>none
theorem Qo_:zf_ Tryz.prog 19 (RoF ZO_).sum:=by
 refine zi_ Tryz.func19 Jv_ (zc_ (s:=RoF qZ_) Q2_ (zc_ (s:=RoF Zk_) qh_ (ze_ _))) fun args objs p v e=>?_
 unfold ZO_ at e
 split at e
 ·rename_i q a b c f h x v m d r k g
  cases e
  refine ⟨rfl,fun hw ho hp=>?_⟩
  change List Int at v
  change List Int at m
  change List Int at d
  clear hw ho hp
  repeat'(intro t ht;first|(cases t<;>first|(cases ht;done)|(try simp only[zh_]at ht;try(exfalso;first|contradiction|omega)))|((first|refine za_ ht ?_|refine ht ?_ ?_|refine ht.1 ?_ ?_|refine ht ?_)<;>clear ht))
  all_goals first
   | exact True.intro
   | exact ⟨rfl,rfl⟩
 ·cases e
def wl_:IR:=
(sq (kr [0] [oD 1 (.boxv 0),
oD 2 (.mov cF)])
(sq (.reg [oA 3 0 1,
oL 4 3,
oB 5 .eql 4 (cI 0),
oM 2 5])
.ret))
def J8_:List RD:=[.tmp 2 true none]
theorem wh_:zl_ Tryz.prog Tryz.f31 wl_ J8_=true:=by kernel_rfl
def Zr_:List AV->List Obj->Option (Prop × AV)
 | [.agg [.int .i64 q,.int .u64 a,.int .u64 b,.int .i64 c,.int .i64 f,.bool h,.int .u64 x,.imm (.int .u8) v,.imm (.int .u8) m,.imm (.int .u8) d]],[]=>some ((True,.bool (decide (q=0))))
 | _,_=>none
theorem qi_:zf_ Tryz.prog 31 (RoF Zr_).sum:=by
 refine zi_ Tryz.func31 wh_ (ze_ _) fun args objs p v e=>?_
 unfold Zr_ at e
 split at e
 ·rename_i q a b c f h x v m d
  cases e
  refine ⟨rfl,fun hw ho hp=>?_⟩
  change List Int at v
  change List Int at m
  change List Int at d
  clear hw ho hp
  repeat'(intro t ht;first|(cases t<;>first|(cases ht;done)|(try simp only[zh_]at ht;try(exfalso;first|contradiction|omega)))|((first|refine za_ ht ?_|refine ht ?_ ?_|refine ht.1 ?_ ?_|refine ht ?_)<;>clear ht))
  all_goals first
   | exact True.intro
   | exact ⟨rfl,rfl⟩
 ·cases e
def Ww_:IR:=
(sq (kr [0,1] [oD 2 (.boxv 0),
oD 3 (.mov cF)])
(sq (kr [1,2] [oA 4 0 2,
oL 5 4,
oL 6 1,
oB 7 .eql 5 6,
oM 3 7])
.ret))
def Wf_:List RD:=[.tmp 3 true none]
theorem Wo_:zl_ Tryz.prog Tryz.f44 Ww_ Wf_=true:=by kernel_rfl
def qt_:List AV->List Obj->Option (Prop × AV)
 | [.agg [.int .i64 q,.int .u64 a,.int .u64 b,.int .i64 c,.int .i64 f,.bool h,.int .u64 x,.imm (.int .u8) v,.imm (.int .u8) m,.imm (.int .u8) d],.ptr 0 0],[.box [.int .i64 t0]]=>some ((True,.bool (decide (q=t0))))
 | _,_=>none
theorem ke_:zf_ Tryz.prog 44 (RoF qt_).sum:=by
 refine zi_ Tryz.func44 Wo_ (ze_ _) fun args objs p v e=>?_
 unfold qt_ at e
 split at e
 ·rename_i q a b c f h x v m d t0
  cases e
  refine ⟨rfl,fun hw ho hp=>?_⟩
  change List Int at v
  change List Int at m
  change List Int at d
  clear hw ho hp
  repeat'(intro t ht;first|(cases t<;>first|(cases ht;done)|(try simp only[zh_]at ht;try(exfalso;first|contradiction|omega)))|((first|refine za_ ht ?_|refine ht ?_ ?_|refine ht.1 ?_ ?_|refine ht ?_)<;>clear ht))
  all_goals first
   | exact True.intro
   | exact ⟨rfl,rfl⟩
 ·cases e
def Jx_ (l:List AC) (i:Nat):Prop:=Zv_ (l.getD i (Ty.dflt Y2))=true/\(0 < i->Wl_ (l.getD (i - 1) (Ty.dflt Y2)) (l.getD i (Ty.dflt Y2)) < 0)
instance (l:List AC) (i:Nat):Decidable (Jx_ l i):=by unfold Jx_;infer_instance
def rtA (l:List AC):Bool:=decide (∀ i,i < l.length->Jx_ l i)
theorem bb_ {l:List AC} {i:Nat} (h:∀ j,j < i->Jx_ l j) (hi:l.length<=i):rtA l=true:=decide_eq_true fun j hj=>h j (by omega)
theorem bc_ {l:List AC} {i:Nat} (h:¬ Jx_ l i) (hi:i < l.length):rtA l=false:=decide_eq_false fun k=>h (k i hi)
theorem yD_ {l:List AC} {i:Nat} (h:∀ j,j < i->Jx_ l j) (h1:Jx_ l i):∀ j,j < i+1->Jx_ l j:=fun j hj=>by
 by_cases e:j=i
 ·rw [e];exact h1
 ·exact h j (by omega)
def Wy_:IR:=
(sq (kr [0] [oD 2 (.mov cF)])
(sq (sq (.reg [oM 5 0,
oE 6 5,
oD 7 (.mov (cI 0))])
(.block 0
(.loop
(sq (kr [0,5,6,7] [oB 8 .lss 7 6])
(sq (.cond 8
.skip
(.exit 0))
(sq (.block 1
(sq (kr [0,5,6,7] [oM 9 7,
oI 10 10 5 7,
oK 11 10 10,
oD 4 (.box [.int .i64 0,.int .u64 0,.int .u64 0,.int .i64 0,.int .i64 0,.kb false,.int .u64 0,.imm (.int .u8) [],.imm (.int .u8) [],.imm (.int .u8) []]),
oM 3 9,
oS 10 4 11])
(sq (kd [0,3,4,5,6,7] [(oK 12 10 4,[]),
(oC 13 15 [12],[]),
(oD 14 (.un .not 13),[]),
(oM 15 14,[]),
(oF 15 16 (.mov 3),[]),
(oF 15 17 (.bin .gtr 16 (cI 0)),[]),
(oF 15 18 (.mov 17),[]),
(oT 18 19 (.mov 0),[]),
(oT 18 20 (.mov 3),[0]),
(oT 18 21 (.bin .sub 20 (cI 1)),[1]),
(oT 18 22 (.indexSl 10 19 21),[]),
(oT 18 23 (.load (some 10) 22),[]),
(oT 18 24 (.call false (.f 17) [23]),[]),
(oT 18 25 (.load (some 10) 4),[0,0,0,0,0,0]),
(oT 18 26 (.call false (.f 17) [25]),[]),
(oT 18 27 (.call false (.f 20) [24,26]),[]),
(oT 18 28 (.bin .geq 27 (cI 0)),[]),
(oF 15 29 (.pick 18 28 cF),[]),
(oP 30 15 cT 29,[])])
(.cond 30
(sq (kr [] [oD 2 (.mov cF)])
.ret)
.skip))))
(kr [0,5,6,7] [oB 31 .add 7 (cI 1),
oM 7 31])))))))
(sq (kr [] [oD 2 (.mov cT)])
.ret)))
def Wh_:List RD:=[.tmp 2 true none]
theorem Wq_:zl_ Tryz.prog Tryz.f12 Wy_ Wh_=true:=by kernel_rfl
def ZJ_:List AV->List Obj->Option (Prop × AV)
 | [.imm ty0 l],[]=>Zj_ ty0 Y2 l fun l=>some ((okL l,.bool (rtA l)))
 | _,_=>none
theorem qA_:zf_ Tryz.prog 12 (RoF ZJ_).sum:=by
 refine zi_ Tryz.func12 Wq_ (zc_ (s:=RoF Qf_) Kl_ (zc_ (s:=RoF qZ_) Q2_ (zc_ (s:=RoF Zk_) qh_ (ze_ _)))) fun args objs p v e=>?_
 unfold ZJ_ at e
 split at e
 ·rename_i ty0 l
  obtain rfl:=zz_ e
  replace e:=zA_ e
  cases e
  refine ⟨rfl,fun hw ho hp=>?_⟩
  change List AC at l
  clear hw ho
  have hl:=hp.n
  repeat'(intro t ht;first|(cases t<;>first|(cases ht;done)|(try simp only[zh_]at ht))|((first|refine za_ ht ?_|refine ht ?_ ?_|refine ht.1 ?_ ?_|refine ht ?_)<;>clear ht))
  all_goals first
   | (intro r h1 h2;clear h1;refine h2 ⟨[0,5,6,7],Nat,(fun i=>i<=l.length/\∀ j,j < i->Jx_ l j),fun i=>[.imm Y2 l,.imm Y2 l,.int .i64 l.length,.int .i64 i],fun _=>[],fun i=>l.length - i,⟨0,⟨Nat.zero_le _,fun j hj=>absurd hj (Nat.not_lt_zero j)⟩,rfl,rfl⟩,?_⟩;clear h2)
  rintro i ⟨hi,he⟩
  repeat'(intro t ht;first|(cases t<;>first|(cases ht;done)|(try simp only[zh_]at ht;try(exfalso;first|contradiction|omega)))|((first|refine za_ ht ?_|refine ht ?_ ?_|refine ht.1 ?_ ?_|refine ht ?_)<;>clear ht))
  all_goals first
   | exact True.intro
   | ((try simp only [zm_,zn_,zk_] at*);omega)
   | exact bi_ (hp.a _ (zM_ (by omega) _))
   | exact ⟨congrArg AV.bool (bb_ he (by omega)).symm,rfl⟩
   | (have hn:¬ Jx_ l i:=fun h=>by
       first
        | (have h1:=h.1;unfold Zv_ at h1;rw [ht] at h1;cases h1;done)
        | (have h2:=ht;rw [show ((i:Int) - 1).toNat=i - 1 by omega] at h2;exact absurd (h.2 (by omega)) (Int.not_lt.2 h2))
      exact ⟨congrArg AV.bool (bc_ hn (by omega)).symm,rfl⟩)
   | (have hn:Jx_ l i:=by
       first
        | exact ⟨by assumption,fun h=>absurd (by omega) ht⟩
        | exact ⟨by assumption,fun _=>by have h2:=ht;rw [show ((i:Int) - 1).toNat=i - 1 by omega] at h2;exact Int.not_le.1 h2⟩
      exact ⟨i+1,⟨by omega,yD_ he hn⟩,by dsimp only;omega,rfl,rfl⟩)
 ·cases e
def Q5_ (a b:AC):Bool:=decide (Wl_ a b < 0)
def xi_ (a b:AC):Bool:=decide (a.1=b.1) && decide (flA a=flA b)
def bE_ (q f q' f':Int):Int:=wd_ (zx_ q) q (flF q f) (zx_ q') q' (flF q' f')
theorem vY_ {a b:Int}:x2_ a b=0 ↔ a=b:=by
 unfold x2_
 constructor
 ·intro h;split at h
  ·omega
  ·split at h<;>omega
 ·rintro rfl;rw [if_neg (by omega),if_neg (by omega)]
theorem x1_ {a b:Int}:x2_ a b < 0 ↔ a < b:=by
 unfold x2_
 constructor
 ·intro h;split at h
  ·assumption
  ·split at h<;>omega
 ·intro h;rw [if_pos h];omega
theorem gx_ {r k f r' k' f':Int}:wd_ r k f r' k' f' < 0 ↔ r < r'\/(r=r'/\(k < k'\/(k=k'/\f < f'))):=by
 unfold wd_
 rw [By_]
 by_cases h1:x2_ r r'=0
 ·rw [if_pos h1]
  have e1:=vY_.1 h1
  by_cases h2:x2_ k k'=0
  ·rw [if_pos h2,x1_]
   have e2:=vY_.1 h2
   omega
  ·rw [if_neg h2,x1_]
   have e2:¬ k=k':=fun e=>h2 (vY_.2 e)
   omega
 ·rw [if_neg h1,x1_]
  have e2:¬ r=r':=fun e=>h1 (vY_.2 e)
  omega
def RK:List (List Int):=[[12],[18,20,27],[19],[26],[17],[11],[16,24],[15,23,25],[21],[22],[0]]
theorem bB_:∀ i,i < 11->∀ k,k < (RK.getD i (Ty.dflt (.sl (.int .i64)))).length->zx_ ((RK.getD i (Ty.dflt (.sl (.int .i64)))).getD k 0)=(i:Int)+1:=by decide+kernel
theorem bA_:∀ i,i < 11->(RK.getD i (Ty.dflt (.sl (.int .i64)))).length<=3:=by decide+kernel
theorem Hq_ {q:Int} (h:∀ j,j < 11->∀ k,k < (RK.getD j (Ty.dflt (.sl (.int .i64)))).length->¬ (RK.getD j (Ty.dflt (.sl (.int .i64)))).getD k 0=q):zx_ q=0:=by
 have a0:¬ (12:Int)=q:=h 0 (by decide) 0 (by decide)
 have a1:¬ (18:Int)=q:=h 1 (by decide) 0 (by decide)
 have a2:¬ (20:Int)=q:=h 1 (by decide) 1 (by decide)
 have a3:¬ (27:Int)=q:=h 1 (by decide) 2 (by decide)
 have a4:¬ (19:Int)=q:=h 2 (by decide) 0 (by decide)
 have a5:¬ (26:Int)=q:=h 3 (by decide) 0 (by decide)
 have a6:¬ (17:Int)=q:=h 4 (by decide) 0 (by decide)
 have a7:¬ (11:Int)=q:=h 5 (by decide) 0 (by decide)
 have a8:¬ (16:Int)=q:=h 6 (by decide) 0 (by decide)
 have a9:¬ (24:Int)=q:=h 6 (by decide) 1 (by decide)
 have b0:¬ (15:Int)=q:=h 7 (by decide) 0 (by decide)
 have b1:¬ (23:Int)=q:=h 7 (by decide) 1 (by decide)
 have b2:¬ (25:Int)=q:=h 7 (by decide) 2 (by decide)
 have b3:¬ (21:Int)=q:=h 8 (by decide) 0 (by decide)
 have b4:¬ (22:Int)=q:=h 9 (by decide) 0 (by decide)
 have b5:¬ (0:Int)=q:=h 10 (by decide) 0 (by decide)
 unfold zx_
 rw [if_neg (by omega),if_neg (by omega),if_neg (by omega),if_neg (by omega),if_neg (by omega),if_neg (by omega),if_neg (by omega),if_neg (by omega),if_neg (by omega),if_neg (by omega),if_neg (by omega)]
def uh_:IR:=
(sq (kr [0] [oD 1 (.boxv 0),
oD 2 (.mov (cI 0))])
(sq (kr [1] [oD 6 (.sliceAll (.int .i64) 1 [(0,1,(cI 12))]),
oD 7 (.sliceAll (.int .i64) 3 [(0,1,(cI 18)),(1,1,(cI 20)),(2,1,(cI 27))]),
oD 8 (.sliceAll (.int .i64) 1 [(0,1,(cI 19))]),
oD 9 (.sliceAll (.int .i64) 1 [(0,1,(cI 26))]),
oD 10 (.sliceAll (.int .i64) 1 [(0,1,(cI 17))]),
oD 11 (.sliceAll (.int .i64) 1 [(0,1,(cI 11))]),
oD 12 (.sliceAll (.int .i64) 2 [(0,1,(cI 16)),(1,1,(cI 24))]),
oD 13 (.sliceAll (.int .i64) 3 [(0,1,(cI 15)),(1,1,(cI 23)),(2,1,(cI 25))]),
oD 14 (.sliceAll (.int .i64) 1 [(0,1,(cI 21))]),
oD 15 (.sliceAll (.int .i64) 1 [(0,1,(cI 22))]),
oD 16 (.sliceAll (.int .i64) 1 [(0,1,(cI 0))]),
oD 17 (.sliceAll (.sl (.int .i64)) 11 [(0,1,6),(1,1,7),(2,1,8),(3,1,9),(4,1,10),(5,1,11),(6,1,12),(7,1,13),(8,1,14),(9,1,15),(10,1,16)]),
oM 3 17])
(sq (sq (kr [1,3] [oD 4 (.mov (cI 0))])
(.block 0
(.loop
(sq (sq (kr [1,3,4] [oM 18 4,
oM 19 3,
oE 20 19,
oB 21 .lss 18 20])
(.cond 21
.skip
(.exit 0)))
(sq (.block 1
(sq (.reg [oD 5 (.mov (cI 0))])
(.block 2
(.loop
(sq (sq (kr [1,3,4,5] [oM 24 5,
oM 25 3,
oM 26 4,
oI 27 1 25 26,
oL 28 27,
oE 29 28,
oB 30 .lss 24 29])
(.cond 30
.skip
(.exit 2)))
(sq (.block 3
(sq (kd [1,3,4,5] [(oM 33 3,[]),
(oM 34 4,[0]),
(oI 35 1 33 34,[]),
(oL 36 35,[]),
(oM 37 5,[0,0,0,0]),
(oI 38 1 36 37,[]),
(oL 39 38,[]),
(oA 40 0 1,[0,0,0,0,0,0,0]),
(oL 41 40,[1,0,0,0,0,0,0]),
(oB 42 .eql 39 41,[])])
(.cond 42
(sq (kr [4] [oM 43 4,
oB 44 .add 43 (cI 1),
oM 2 44])
.ret)
.skip)))
(kr [1,3,4,5] [oM 31 5,
oB 32 .add 31 (cI 1),
oM 5 32])))))))
(kr [1,3,4] [oM 22 4,
oB 23 .add 22 (cI 1),
oM 4 23]))))))
(sq (kr [] [oD 2 (.mov (cI 0))])
.ret))))
def Vu_:List RD:=[.tmp 2 true none]
theorem VN_:zl_ Tryz.prog Tryz.f40 uh_ Vu_=true:=by kernel_rfl
def kS_:List AV->List Obj->Option (Prop × AV)
 | [.agg [.int .i64 q,.int .u64 a,.int .u64 b,.int .i64 c,.int .i64 f,.bool h,.int .u64 x,.imm (.int .u8) v,.imm (.int .u8) m,.imm (.int .u8) d]],[]=>some ((True,.int .i64 (zx_ q)))
 | _,_=>none
theorem Jf_:zf_ Tryz.prog 40 (RoF kS_).sum:=by
 refine zi_ Tryz.func40 VN_ (ze_ _) fun args objs p v e=>?_
 unfold kS_ at e
 split at e
 ·rename_i q a b c f h x v m d
  cases e
  refine ⟨rfl,fun hw ho hp=>?_⟩
  change List Int at v
  change List Int at m
  change List Int at d
  clear hw ho hp
  have hR:RK.length=11:=rfl
  repeat'(intro t ht;first|(cases t<;>first|(cases ht;done)|(try simp only[zh_]at ht;try(exfalso;first|contradiction|omega)))|((first|refine za_ ht ?_|refine ht ?_ ?_|refine ht.1 ?_ ?_|refine ht ?_)<;>clear ht))
  all_goals first
   | exact True.intro
   | (intro r h1 h2;clear h1;refine h2 ⟨[1,3,4],Nat,(fun i=>i<=11/\∀ j,j < i->∀ k,k < (RK.getD j (Ty.dflt (.sl (.int .i64)))).length->¬ (RK.getD j (Ty.dflt (.sl (.int .i64)))).getD k 0=q),fun i=>[.ptr 0 0,.imm (.sl (.int .i64)) RK,.int .i64 i],fun _=>[.box [.int .i64 q,.int .u64 a,.int .u64 b,.int .i64 c,.int .i64 f,.bool h,.int .u64 x,.imm (.int .u8) v,.imm (.int .u8) m,.imm (.int .u8) d]],fun i=>11 - i,⟨0,⟨Nat.zero_le _,fun j h=>absurd h (Nat.not_lt_zero j)⟩,rfl,rfl⟩,?_⟩;clear h2)
  rintro i ⟨hi,he⟩
  repeat'(intro t ht;first|(cases t<;>first|(cases ht;done)|(try simp only[zh_]at ht;try(exfalso;first|contradiction|omega)))|((first|refine za_ ht ?_|refine ht ?_ ?_|refine ht.1 ?_ ?_|refine ht ?_)<;>clear ht))
  all_goals first
   | exact True.intro
   | (simp only [Int.toNat_natCast];omega)
   | exact ⟨congrArg (AV.int .i64) (Hq_ (fun j hj=>he j (by omega))).symm,rfl⟩
   | (intro r h1 h2;clear h1;refine h2 ⟨[1,3,4,5],Nat,(fun k=>k<=(RK.getD i (Ty.dflt (.sl (.int .i64)))).length/\∀ j,j < k->¬ (RK.getD i (Ty.dflt (.sl (.int .i64)))).getD j 0=q),fun k=>[.ptr 0 0,.imm (.sl (.int .i64)) RK,.int .i64 i,.int .i64 k],fun _=>[.box [.int .i64 q,.int .u64 a,.int .u64 b,.int .i64 c,.int .i64 f,.bool h,.int .u64 x,.imm (.int .u8) v,.imm (.int .u8) m,.imm (.int .u8) d]],fun k=>(RK.getD i (Ty.dflt (.sl (.int .i64)))).length - k,⟨0,⟨Nat.zero_le _,fun j h=>absurd h (Nat.not_lt_zero j)⟩,rfl,rfl⟩,?_⟩;clear h2)
  rintro k ⟨hk,hz⟩
  have hit:i < 11:=by omega
  have hlen:=bA_ i hit
  repeat'(intro t ht;first|(cases t<;>first|(cases ht;done)|(try simp only[zh_]at ht;try(exfalso;first|contradiction|omega)))|((first|refine za_ ht ?_|refine ht ?_ ?_|refine ht.1 ?_ ?_|refine ht ?_)<;>clear ht))
  all_goals first
   | exact True.intro
   | ((try simp only [Int.toNat_natCast]);omega)
   | ((try simp only [Int.toNat_natCast]);exact (show 0<=(k:Int)/\(k:Int) < ((RK.getD i (Ty.dflt (.sl (.int .i64)))).length:Nat) from ⟨by omega,by assumption⟩))
   | ((try simp only [zk_]);omega)
   | (have ht2:¬ (k:Int) < ((RK.getD i (Ty.dflt (.sl (.int .i64)))).length:Nat):=ht
      exact ⟨i+1,⟨by omega,fun j hj=>by
       by_cases e:j=i
       ·rw [e];exact fun k2 hk2=>hz k2 (by omega)
       ·exact he j (by omega)⟩,by dsimp only;omega,rfl,rfl⟩)
   | (rename ¬ _=>hne
      have ht2:(k:Int) < ((RK.getD i (Ty.dflt (.sl (.int .i64)))).length:Nat):=by assumption
      exact ⟨k+1,⟨by omega,fun j hj=>by
       by_cases e:j=k
       ·rw [e];exact hne
       ·exact hz j (by omega)⟩,by dsimp only;omega,rfl,rfl⟩)
   | (have ht2:(k:Int) < ((RK.getD i (Ty.dflt (.sl (.int .i64)))).length:Nat):=by assumption
      have h9:=bB_ i hit k (by omega)
      have ht3:(RK.getD i (Ty.dflt (.sl (.int .i64)))).getD k 0=q:=ht
      rw [ht3] at h9
      exact ⟨congrArg (AV.int .i64) h9.symm,rfl⟩)
 ·cases e
def vw_:IR:=
(sq (kr [0] [oD 1 (.boxv 0),
oD 2 (.mov (cI 0))])
(sq (sq (.reg [oA 3 0 1,
oL 4 3,
oB 5 .neq 4 (cI 25)])
(.cond 5
(sq (.reg [oD 2 (.mov (cI 0))])
.ret)
.skip))
(sq (kr [1] [oA 6 3 1,
oA 7 1 6,
oL 8 7,
oM 2 8])
.ret)))
def YA_:List RD:=[.tmp 2 true none]
theorem Y1_:zl_ Tryz.prog Tryz.f41 vw_ YA_=true:=by kernel_rfl
def QU_:List AV->List Obj->Option (Prop × AV)
 | [.agg [.int .i64 q,.int .u64 a,.int .u64 b,.int .i64 c,.int .i64 f,.bool h,.int .u64 x,.imm (.int .u8) v,.imm (.int .u8) m,.imm (.int .u8) d]],[]=>some ((True,.int .i64 (flF q f)))
 | _,_=>none
theorem jn_:zf_ Tryz.prog 41 (RoF QU_).sum:=by
 refine zi_ Tryz.func41 Y1_ (ze_ _) fun args objs p v e=>?_
 unfold QU_ at e
 split at e
 ·rename_i q a b c f h x v m d
  cases e
  refine ⟨rfl,fun hw ho hp=>?_⟩
  change List Int at v
  change List Int at m
  change List Int at d
  clear hw ho hp
  by_cases h25:q=25
  ·have e:flF q f=f:=if_pos h25
   rw [e]
   repeat'(intro t ht;first|(cases t<;>first|(cases ht;done)|(try simp only[zh_]at ht;try(exfalso;first|contradiction|omega)))|((first|refine za_ ht ?_|refine ht ?_ ?_|refine ht.1 ?_ ?_|refine ht ?_)<;>clear ht))
   all_goals first
    | exact True.intro
    | exact ⟨rfl,rfl⟩
  ·have e:flF q f=0:=if_neg h25
   rw [e]
   repeat'(intro t ht;first|(cases t<;>first|(cases ht;done)|(try simp only[zh_]at ht;try(exfalso;first|contradiction|omega)))|((first|refine za_ ht ?_|refine ht ?_ ?_|refine ht.1 ?_ ?_|refine ht ?_)<;>clear ht))
   all_goals first
    | exact True.intro
    | exact ⟨rfl,rfl⟩
 ·cases e
def vz_:IR:=
(sq (kr [0,1] [oD 2 (.boxv 0),
oD 3 (.boxv 1),
oD 4 (.mov cF)])
(sq (kd [2,3] [(oA 5 0 2,[]),
(oL 6 5,[]),
(oA 7 0 3,[0,0]),
(oL 8 7,[1,0]),
(oB 9 .eql 6 8,[]),
(oM 10 9,[]),
(oT 10 11 (.load (some 10) 2),[]),
(oT 10 12 (.call false (.f 41) [11]),[]),
(oT 10 13 (.load (some 10) 3),[0,0]),
(oT 10 14 (.call false (.f 41) [13]),[]),
(oT 10 15 (.bin .eql 12 14),[]),
(oP 16 10 15 cF,[]),
(oM 4 16,[])])
.ret))
def YD_:List RD:=[.tmp 4 true none]
theorem Y4_:zl_ Tryz.prog Tryz.f26 vz_ YD_=true:=by kernel_rfl
def KF_:List AV->List Obj->Option (Prop × AV)
 | [.agg [.int .i64 q,.int .u64 a,.int .u64 b,.int .i64 c,.int .i64 f,.bool h,.int .u64 x,.imm (.int .u8) v,.imm (.int .u8) m,.imm (.int .u8) d],.agg [.int .i64 q',.int .u64 a',.int .u64 b',.int .i64 c',.int .i64 f',.bool h',.int .u64 x',.imm (.int .u8) v',.imm (.int .u8) m',.imm (.int .u8) d']],[]=>some ((True,.bool (decide (q=q') && decide (flF q f=flF q' f'))))
 | _,_=>none
theorem Xt_:zf_ Tryz.prog 26 (RoF KF_).sum:=by
 refine zi_ Tryz.func26 Y4_ (zc_ (s:=RoF QU_) jn_ (ze_ _)) fun args objs p v e=>?_
 unfold KF_ at e
 split at e
 ·rename_i q a b c f h x v m d q' a' b' c' f' h' x' v' m' d'
  cases e
  refine ⟨rfl,fun hw ho hp=>?_⟩
  change List Int at v
  change List Int at m
  change List Int at d
  change List Int at v'
  change List Int at m'
  change List Int at d'
  clear hw ho hp
  repeat'(intro t ht;first|(cases t<;>first|(cases ht;done)|(try simp only[zh_]at ht;try(exfalso;first|contradiction|omega)))|((first|refine za_ ht ?_|refine ht ?_ ?_|refine ht.1 ?_ ?_|refine ht ?_)<;>clear ht))
  all_goals first
   | exact True.intro
   | (refine ⟨congrArg AV.bool ?_,rfl⟩;rw [decide_eq_true ht,Bool.true_and];done)
   | (refine ⟨congrArg AV.bool ?_,rfl⟩;rw [decide_eq_false ht];rfl)
 ·cases e
def vA_:IR:=
(sq (kr [0,1] [oD 2 (.boxv 0),
oD 3 (.boxv 1),
oD 4 (.mov cF)])
(sq (sq (kd [2,3] [(oK 5 10 2,[]),
(oC 6 40 [5],[]),
(oK 7 10 3,[0,0]),
(oC 8 40 [7],[]),
(oB 9 .neq 6 8,[])])
(.cond 9
(sq (kd [2,3] [(oK 10 10 2,[]),
(oC 11 40 [10],[]),
(oK 12 10 3,[0,0]),
(oC 13 40 [12],[]),
(oB 14 .lss 11 13,[]),
(oM 4 14,[])])
.ret)
.skip))
(sq (sq (kr [2,3] [oA 15 0 2,
oL 16 15,
oA 17 0 3,
oL 18 17,
oB 19 .neq 16 18])
(.cond 19
(sq (kr [2,3] [oA 20 0 2,
oL 21 20,
oA 22 0 3,
oL 23 22,
oB 24 .lss 21 23,
oM 4 24])
.ret)
.skip))
(sq (kd [2,3] [(oK 25 10 2,[]),
(oC 26 41 [25],[]),
(oK 27 10 3,[0,0]),
(oC 28 41 [27],[]),
(oB 29 .lss 26 28,[]),
(oM 4 29,[])])
.ret))))
def YE_:List RD:=[.tmp 4 true none]
theorem Y5_:zl_ Tryz.prog Tryz.f25 vA_ YE_=true:=by kernel_rfl
def QV_:List AV->List Obj->Option (Prop × AV)
 | [.agg [.int .i64 q,.int .u64 a,.int .u64 b,.int .i64 c,.int .i64 f,.bool h,.int .u64 x,.imm (.int .u8) v,.imm (.int .u8) m,.imm (.int .u8) d],.agg [.int .i64 q',.int .u64 a',.int .u64 b',.int .i64 c',.int .i64 f',.bool h',.int .u64 x',.imm (.int .u8) v',.imm (.int .u8) m',.imm (.int .u8) d']],[]=>some ((True,.bool (decide (bE_ q f q' f' < 0))))
 | _,_=>none
theorem jo_:zf_ Tryz.prog 25 (RoF QV_).sum:=by
 refine zi_ Tryz.func25 Y5_ (zc_ (s:=RoF kS_) Jf_ (zc_ (s:=RoF QU_) jn_ (ze_ _))) fun args objs p v e=>?_
 unfold QV_ at e
 split at e
 ·rename_i q a b c f h x v m d q' a' b' c' f' h' x' v' m' d'
  cases e
  refine ⟨rfl,fun hw ho hp=>?_⟩
  change List Int at v
  change List Int at m
  change List Int at d
  change List Int at v'
  change List Int at m'
  change List Int at d'
  clear hw ho hp
  have he:∀ b:Bool,(b=true ↔ (zx_ q < zx_ q'\/(zx_ q=zx_ q'/\(q < q'\/(q=q'/\flF q f < flF q' f')))))->AV.bool b=AV.bool (decide (bE_ q f q' f' < 0)):=fun b hb=>by
   congr 1
   rw [Bool.eq_iff_iff,hb]
   unfold bE_
   rw [decide_eq_true_eq,gx_]
  repeat'(intro t ht;first|(cases t<;>first|(cases ht;done)|(try simp only[zh_]at ht;try(exfalso;first|contradiction|omega)))|((first|refine za_ ht ?_|refine ht ?_ ?_|refine ht.1 ?_ ?_|refine ht ?_)<;>clear ht))
  all_goals first
   | exact True.intro
   | (refine ⟨he _ ?_,rfl⟩;rw [decide_eq_true_eq];omega)
 ·cases e
def UQ_:IR:=
(sq (kr [0] [oD 1 (.boxv 0),
oD 2 (.mov cF)])
(sq (kr [1] [oK 6 10 1,
oC 7 39 [6],
oM 5 7,
oX 8 5 0,
oX 9 5 1,
oM 3 8,
oM 4 9])
(sq (kr [1,4] [oM 10 4,
oB 11 .eql 10 (cI 0),
oM 12 11,
oT 12 13 (.load (some 10) 1),
oT 12 14 (.call false (.f 40) [13]),
oT 12 15 (.bin .gtr 14 (cI 0)),
oP 16 12 15 cF,
oM 2 16])
.ret)))
def Um_:List RD:=[.tmp 2 true none]
theorem Uy_:zl_ Tryz.prog Tryz.f24 UQ_ Um_=true:=by kernel_rfl
def K8_:List AV->List Obj->Option (Prop × AV)
 | [.agg [.int .i64 q,.int .u64 a,.int .u64 b,.int .i64 c,.int .i64 f,.bool h,.int .u64 x,.imm (.int .u8) v,.imm (.int .u8) m,.imm (.int .u8) d]],[]=>some ((v.length<=100000/\m.length<=100000/\d.length<=100000,.bool (vp_ q a b c f h x v m d)))
 | _,_=>none
theorem wN_:zf_ Tryz.prog 24 (RoF K8_).sum:=by
 refine zi_ Tryz.func24 Uy_ (zc_ (s:=RoF kU_) WU_ (zc_ (s:=RoF kS_) Jf_ (ze_ _))) fun args objs p v e=>?_
 unfold K8_ at e
 split at e
 ·rename_i q a b c f h x v m d
  cases e
  refine ⟨rfl,fun hw ho hp=>?_⟩
  change List Int at v
  change List Int at m
  change List Int at d
  have hx0:0<=x:=((hw _ (List.mem_cons_self ..)) (.int .u64 x) (by simp)).1
  have hv0:∀ z ∈ (v:List Int),(0:Int)<=z/\z<=255:=fun z hz=>((hw _ (List.mem_cons_self ..)) (.imm (.int .u8) v) (by simp)).1 z hz
  have hm0:∀ z ∈ (m:List Int),(0:Int)<=z/\z<=255:=fun z hz=>((hw _ (List.mem_cons_self ..)) (.imm (.int .u8) m) (by simp)).1 z hz
  clear hw ho
  have hRA:=W2_ (q:=q) (a:=a) (b:=b) (c:=c) (f:=f) (h:=h) (d:=d) hx0 hv0 hm0
  have hmb:vp_ q a b c f h x v m d=(decide (0 < zx_ q) && zX_ (Qs_ c f h x v m) q a b c f h x v m d):=by unfold vp_;rw [hRA]
  rw [hmb]
  cases hr:zX_ (Qs_ c f h x v m) q a b c f h x v m d with
  | false=>
    repeat'(intro t ht;first|(cases t<;>first|(cases ht;done)|(try simp only[zh_]at ht;try(exfalso;first|contradiction|omega)))|((first|refine za_ ht ?_|refine ht ?_ ?_|refine ht.1 ?_ ?_|refine ht ?_)<;>clear ht))
    all_goals (try simp only [hr] at*)
    all_goals first
     | exact True.intro
     | exact hp
     | (refine ⟨congrArg AV.bool ?_,by first | rfl | exact True.intro⟩;rw [Bool.and_false];done)
     | (exfalso;simp_all;done)
  | true=>
    repeat'(intro t ht;first|(cases t<;>first|(cases ht;done)|(try simp only[zh_]at ht;try(exfalso;first|contradiction|omega)))|((first|refine za_ ht ?_|refine ht ?_ ?_|refine ht.1 ?_ ?_|refine ht ?_)<;>clear ht))
    all_goals (try simp only [hr] at*)
    all_goals first
     | exact True.intro
     | exact hp
     | (refine ⟨congrArg AV.bool ?_,by first | rfl | exact True.intro⟩;rw [Bool.and_true];done)
     | (exfalso;simp_all;done)
 ·cases e
def vy_:IR:=
(sq (kr [0] [oD 2 (.mov cF)])
(sq (sq (.reg [oD 3 (.mov (cI 0))])
(.block 0
(.loop
(sq (sq (kr [0,3] [oM 4 3,
oM 5 0,
oE 6 5,
oB 7 .lss 4 6])
(.cond 7
.skip
(.exit 0)))
(sq (.block 1
(sq (kd [0,3] [(oM 10 0,[]),
(oM 11 3,[0]),
(oI 12 10 10 11,[]),
(oK 13 10 12,[]),
(oC 14 24 [13],[]),
(oD 15 (.un .not 14),[]),
(oM 16 15,[]),
(oF 16 17 (.mov 3),[]),
(oF 16 18 (.bin .gtr 17 (cI 0)),[]),
(oF 16 19 (.mov 18),[]),
(oT 19 20 (.mov 0),[]),
(oT 19 21 (.mov 3),[0]),
(oT 19 22 (.bin .sub 21 (cI 1)),[1]),
(oT 19 23 (.indexSl 10 20 22),[]),
(oT 19 24 (.load (some 10) 23),[]),
(oT 19 25 (.mov 0),[0,0,0,0,0]),
(oT 19 26 (.mov 3),[0,0,0,0,0,0]),
(oT 19 27 (.indexSl 10 25 26),[2,0,0,0,0]),
(oT 19 28 (.load (some 10) 27),[3,0,0,0,0]),
(oT 19 29 (.call false (.f 25) [24,28]),[]),
(oT 19 30 (.un .not 29),[]),
(oF 16 31 (.pick 19 30 cF),[]),
(oP 32 16 cT 31,[])])
(.cond 32
(sq (kr [] [oD 2 (.mov cF)])
.ret)
.skip)))
(kr [0,3] [oM 8 3,
oB 9 .add 8 (cI 1),
oM 3 9]))))))
(sq (kr [] [oD 2 (.mov cT)])
.ret)))
def YC_:List RD:=[.tmp 2 true none]
theorem Y3_:zl_ Tryz.prog Tryz.f23 vy_ YC_=true:=by kernel_rfl
def KE_:List AV->List Obj->Option (Prop × AV)
 | [.imm ty0 l],[]=>Zj_ ty0 Y2 l fun l=>some ((okL l,.bool (rtA l)))
 | _,_=>none
theorem Xs_:zf_ Tryz.prog 23 (RoF KE_).sum:=by
 refine zi_ Tryz.func23 Y3_ (zc_ (s:=RoF K8_) wN_ (zc_ (s:=RoF QV_) jo_ (ze_ _))) fun args objs p v e=>?_
 unfold KE_ at e
 split at e
 ·rename_i ty0 l
  obtain rfl:=zz_ e
  replace e:=zA_ e
  cases e
  refine ⟨rfl,fun hw ho hp=>?_⟩
  change List AC at l
  clear hw ho
  have hl:=hp.n
  repeat'(intro t ht;first|(cases t<;>first|(cases ht;done)|(try simp only[zh_]at ht))|((first|refine za_ ht ?_|refine ht ?_ ?_|refine ht.1 ?_ ?_|refine ht ?_)<;>clear ht))
  all_goals first
   | (intro r h1 h2;clear h1;refine h2 ⟨[0,3],Nat,(fun i=>i<=l.length/\∀ j,j < i->Jx_ l j),fun i=>[.imm Y2 l,.int .i64 i],fun _=>[],fun i=>l.length - i,⟨0,⟨Nat.zero_le _,fun j hj=>absurd hj (Nat.not_lt_zero j)⟩,rfl,rfl⟩,?_⟩;clear h2)
  rintro i ⟨hi,he⟩
  repeat'(intro t ht;first|(cases t<;>first|(cases ht;done)|(try simp only[zh_]at ht;try(exfalso;first|contradiction|omega)))|((first|refine za_ ht ?_|refine ht ?_ ?_|refine ht.1 ?_ ?_|refine ht ?_)<;>clear ht))
  all_goals first
   | exact True.intro
   | ((try simp only [zm_,zn_,zk_] at*);omega)
   | (have:=hp.a _ (zM_ (show i < l.length by omega) (Ty.dflt Y2));exact ⟨this.1,this.2.1,this.2.2⟩)
   | exact ⟨congrArg AV.bool (bb_ he (by omega)).symm,rfl⟩
   | (have hn:¬ Jx_ l i:=fun h=>by
       first
        | (have h1:=h.1;unfold Zv_ at h1;rw [ht] at h1;cases h1;done)
        | (have h2:=ht;rw [show ((i:Int) - 1).toNat=i - 1 by omega] at h2;exact h2 (h.2 (by omega)))
      exact ⟨congrArg AV.bool (bc_ hn (by omega)).symm,rfl⟩)
   | (have hn:Jx_ l i:=by
       first
        | exact ⟨by assumption,fun h=>absurd (by omega) ht⟩
        | exact ⟨by assumption,fun _=>by have h2:=ht;rw [show ((i:Int) - 1).toNat=i - 1 by omega] at h2;exact h2⟩
      exact ⟨i+1,⟨by omega,yD_ he hn⟩,by dsimp only;omega,rfl,rfl⟩)
 ·cases e
def Z3_:IR:=
(sq (kr [0,1] [oD 4 (.mov (cI 0))])
(sq (sq (.reg [oM 6 0,
oE 7 6,
oD 8 (.mov (cI 0))])
(.block 0
(.loop
(sq (kr [0,1,7,8] [oB 9 .lss 8 7])
(sq (.cond 9
.skip
(.exit 0))
(sq (.block 1
(sq (.reg [oM 10 8,
oM 5 10])
(sq (kr [0,1,5,7,8] [oM 11 1,
oM 12 0,
oM 13 5,
oI 14 10 12 13,
oK 15 10 14,
oD 16 (.call false 11 [15])])
(.cond 16
(sq (kr [5] [oM 17 5,
oM 4 17])
.ret)
.skip))))
(kr [0,1,7,8] [oB 18 .add 8 (cI 1),
oM 8 18])))))))
(sq (kr [] [oD 4 (.mov (cI (-1)))])
.ret)))
def ZZ_:List RD:=[.tmp 4 true none]
theorem Z0_:zl_ Tryz.prog Tryz.f18 Z3_ ZZ_=true:=by kernel_rfl
def zq_:List AV->List Obj->Option (Prop × AV)
 | [.imm ty0 l,.fn 14 [] []],[]=>Zj_ ty0 Y2 l fun l=>some ((okL l,.int .i64 (ZW_ (α:=AC) (fun o=>!Zv_ o) l 0)))
 | [.imm ty0 l,.fn 19 [] [.ptr 0 0]],[.box [.int .i64 e0,.int .i64 e1,.int .i64 e2]]=>Zj_ ty0 Y2 l fun l=>some ((True,.int .i64 (ZW_ (α:=AC) (fun a=>decide (0<=wd_ (zx_ a.1) a.1 (flA a) e0 e1 e2)) l 0)))
 | [.imm ty0 l,.fn 31 [] []],[]=>Zj_ ty0 Y2 l fun l=>some ((True,.int .i64 (ZW_ (α:=AC) (fun a=>decide (a.1=0)) l 0)))
 | [.imm ty0 l,.fn 44 [] [.ptr 0 0]],[.box [.int .i64 t0]]=>Zj_ ty0 Y2 l fun l=>some ((True,.int .i64 (ZW_ (α:=AC) (fun a=>decide (a.1=t0)) l 0)))
 | _,_=>none
theorem zE_:zf_ Tryz.prog 18 (RoF zq_).sum:=by
 refine zi_ Tryz.func18 Z0_ (zc_ (s:=RoF Zr_) qi_ (zc_ (s:=RoF ZP_) Qp_ (zc_ (s:=RoF ZO_) Qo_ (zc_ (s:=RoF qt_) ke_ (ze_ _))))) fun args objs p v e=>?_
 unfold zq_ at e
 split at e
 ·rename_i ty0 l
  obtain rfl:=zz_ e
  replace e:=zA_ e
  cases e
  refine ⟨rfl,fun hw ho hp=>?_⟩
  change List AC at l
  have hl:l.length<=maxLen:=(hw (.imm Y2 l) (by simp)).2
  unfold maxLen at hl
  clear hw ho
  repeat'(intro t ht;first|(cases t<;>first|(cases ht;done)|(try simp only[zh_]at ht))|((first|refine za_ ht ?_|refine ht ?_ ?_|refine ht.1 ?_ ?_|refine ht ?_)<;>clear ht))
  all_goals first
   | (intro r h1 h2;clear h1;refine h2 ⟨[0,1,7,8],Nat,(fun i=>i<=l.length/\ZW_ (fun o=>!Zv_ o) l 0=ZW_ (fun o=>!Zv_ o) (l.drop i) i),fun i=>[.imm Y2 l,.fn 14 [] [],.int .i64 l.length,.int .i64 i],fun _=>[],fun i=>l.length - i,⟨0,⟨Nat.zero_le _,rfl⟩,rfl,rfl⟩,?_⟩;clear h2)
  rintro i ⟨hi,he⟩
  repeat'(intro t ht;first|(cases t<;>first|(cases ht;done)|(try simp only[zh_]at ht;try(exfalso;first|contradiction|omega)))|((first|refine za_ ht ?_|refine ht ?_ ?_|refine ht.1 ?_ ?_|refine ht ?_)<;>clear ht))
  all_goals (try generalize (Ty.dflt Y2)=od at*)
  all_goals first
   | exact True.intro
   | ((try simp only [zm_,zn_,zk_] at*);omega)
   | exact bi_ (hp.a _ (zM_ (by omega) od))
   | (refine ⟨?_,rfl⟩;rw [he,JH_ (by omega)];done)
   | (refine ⟨?_,rfl⟩;rw [he,WI_ (p:=fun o=>!Zv_ o) (d:=od) (by omega) (by (try dsimp only);unfold Zv_;rw [ht];rfl)];done)
   | exact ⟨i+1,⟨by omega,he.trans (WH_ (p:=fun o=>!Zv_ o) (d:=od) (by omega) (by (try dsimp only);unfold Zv_;rw [ht];rfl))⟩,by dsimp only;omega,rfl,rfl⟩
 ·rename_i ty0 l e0 e1 e2
  obtain rfl:=zz_ e
  replace e:=zA_ e
  cases e
  refine ⟨rfl,fun hw ho hp=>?_⟩
  change List AC at l
  have hl:l.length<=maxLen:=(hw (.imm Y2 l) (by simp)).2
  unfold maxLen at hl
  clear hw ho
  repeat'(intro t ht;first|(cases t<;>first|(cases ht;done)|(try simp only[zh_]at ht))|((first|refine za_ ht ?_|refine ht ?_ ?_|refine ht.1 ?_ ?_|refine ht ?_)<;>clear ht))
  all_goals first
   | (intro r h1 h2;clear h1;refine h2 ⟨[0,1,7,8],Nat,(fun i=>i<=l.length/\ZW_ (fun a=>decide (0<=wd_ (zx_ a.1) a.1 (flA a) e0 e1 e2)) l 0=ZW_ (fun a=>decide (0<=wd_ (zx_ a.1) a.1 (flA a) e0 e1 e2)) (l.drop i) i),fun i=>[.imm Y2 l,.fn 19 [] [.ptr 0 0],.int .i64 l.length,.int .i64 i],fun _=>[.box [.int .i64 e0,.int .i64 e1,.int .i64 e2]],fun i=>l.length - i,⟨0,⟨Nat.zero_le _,rfl⟩,rfl,rfl⟩,?_⟩;clear h2)
  rintro i ⟨hi,he⟩
  repeat'(intro t ht;first|(cases t<;>first|(cases ht;done)|(try simp only[zh_]at ht;try(exfalso;first|contradiction|omega)))|((first|refine za_ ht ?_|refine ht ?_ ?_|refine ht.1 ?_ ?_|refine ht ?_)<;>clear ht))
  all_goals (try generalize (Ty.dflt Y2)=od at*)
  all_goals first
   | exact True.intro
   | ((try simp only [zm_,zn_,zk_] at*);omega)
   | (refine ⟨?_,rfl⟩;rw [he,JH_ (by omega)];done)
   | (refine ⟨?_,rfl⟩;rw [he,WI_ (p:=fun a=>decide (0<=wd_ (zx_ a.1) a.1 (flA a) e0 e1 e2)) (d:=od) (by omega) (decide_eq_true ht)];done)
   | exact ⟨i+1,⟨by omega,he.trans (WH_ (p:=fun a=>decide (0<=wd_ (zx_ a.1) a.1 (flA a) e0 e1 e2)) (d:=od) (by omega) (decide_eq_false ht))⟩,by dsimp only;omega,rfl,rfl⟩
 ·rename_i ty0 l
  obtain rfl:=zz_ e
  replace e:=zA_ e
  cases e
  refine ⟨rfl,fun hw ho hp=>?_⟩
  change List AC at l
  have hl:l.length<=maxLen:=(hw (.imm Y2 l) (by simp)).2
  unfold maxLen at hl
  clear hw ho
  repeat'(intro t ht;first|(cases t<;>first|(cases ht;done)|(try simp only[zh_]at ht))|((first|refine za_ ht ?_|refine ht ?_ ?_|refine ht.1 ?_ ?_|refine ht ?_)<;>clear ht))
  all_goals first
   | (intro r h1 h2;clear h1;refine h2 ⟨[0,1,7,8],Nat,(fun i=>i<=l.length/\ZW_ (fun a=>decide (a.1=0)) l 0=ZW_ (fun a=>decide (a.1=0)) (l.drop i) i),fun i=>[.imm Y2 l,.fn 31 [] [],.int .i64 l.length,.int .i64 i],fun _=>[],fun i=>l.length - i,⟨0,⟨Nat.zero_le _,rfl⟩,rfl,rfl⟩,?_⟩;clear h2)
  rintro i ⟨hi,he⟩
  repeat'(intro t ht;first|(cases t<;>first|(cases ht;done)|(try simp only[zh_]at ht;try(exfalso;first|contradiction|omega)))|((first|refine za_ ht ?_|refine ht ?_ ?_|refine ht.1 ?_ ?_|refine ht ?_)<;>clear ht))
  all_goals (try generalize (Ty.dflt Y2)=od at*)
  all_goals first
   | exact True.intro
   | ((try simp only [zm_,zn_,zk_] at*);omega)
   | (refine ⟨?_,rfl⟩;rw [he,JH_ (by omega)];done)
   | (refine ⟨?_,rfl⟩;rw [he,WI_ (p:=fun a=>decide (a.1=0)) (d:=od) (by omega) (decide_eq_true ht)];done)
   | exact ⟨i+1,⟨by omega,he.trans (WH_ (p:=fun a=>decide (a.1=0)) (d:=od) (by omega) (decide_eq_false ht))⟩,by dsimp only;omega,rfl,rfl⟩
 ·rename_i ty0 l t0
  obtain rfl:=zz_ e
  replace e:=zA_ e
  cases e
  refine ⟨rfl,fun hw ho hp=>?_⟩
  change List AC at l
  have hl:l.length<=maxLen:=(hw (.imm Y2 l) (by simp)).2
  unfold maxLen at hl
  clear hw ho
  repeat'(intro t ht;first|(cases t<;>first|(cases ht;done)|(try simp only[zh_]at ht))|((first|refine za_ ht ?_|refine ht ?_ ?_|refine ht.1 ?_ ?_|refine ht ?_)<;>clear ht))
  all_goals first
   | (intro r h1 h2;clear h1;refine h2 ⟨[0,1,7,8],Nat,(fun i=>i<=l.length/\ZW_ (fun a=>decide (a.1=t0)) l 0=ZW_ (fun a=>decide (a.1=t0)) (l.drop i) i),fun i=>[.imm Y2 l,.fn 44 [] [.ptr 0 0],.int .i64 l.length,.int .i64 i],fun _=>[.box [.int .i64 t0]],fun i=>l.length - i,⟨0,⟨Nat.zero_le _,rfl⟩,rfl,rfl⟩,?_⟩;clear h2)
  rintro i ⟨hi,he⟩
  repeat'(intro t ht;first|(cases t<;>first|(cases ht;done)|(try simp only[zh_]at ht;try(exfalso;first|contradiction|omega)))|((first|refine za_ ht ?_|refine ht ?_ ?_|refine ht.1 ?_ ?_|refine ht ?_)<;>clear ht))
  all_goals (try generalize (Ty.dflt Y2)=od at*)
  all_goals first
   | exact True.intro
   | ((try simp only [zm_,zn_,zk_] at*);omega)
   | (refine ⟨?_,rfl⟩;rw [he,JH_ (by omega)];done)
   | (refine ⟨?_,rfl⟩;rw [he,WI_ (p:=fun a=>decide (a.1=t0)) (d:=od) (by omega) (decide_eq_true ht)];done)
   | exact ⟨i+1,⟨by omega,he.trans (WH_ (p:=fun a=>decide (a.1=t0)) (d:=od) (by omega) (decide_eq_false ht))⟩,by dsimp only;omega,rfl,rfl⟩
 ·cases e
def ZG_:IR:=
(sq (kr [0,1] [oD 4 (.mov cF)])
(sq (kr [0,1] [oM 5 0,
oM 6 1,
oC 7 18 [5,6],
oB 8 .geq 7 (cI 0),
oM 4 8])
.ret))
def ZD_:List RD:=[.tmp 4 true none]
theorem ZF_:zl_ Tryz.prog Tryz.f13 ZG_ ZD_=true:=by kernel_rfl
def zu_:List AV->List Obj->Option (Prop × AV)
 | [.imm ty0 l,.fn 14 [] []],[]=>Zj_ ty0 Y2 l fun l=>some ((okL l,.bool ((l:List AC).any (fun o=>!Zv_ o))))
 | [.imm ty0 l,.fn 44 [] [.ptr 0 0]],[.box [.int .i64 t0]]=>Zj_ ty0 Y2 l fun l=>some ((True,.bool ((l:List AC).any (fun a=>decide (a.1=t0)))))
 | _,_=>none
theorem z2_:zf_ Tryz.prog 13 (RoF zu_).sum:=by
 refine zi_ Tryz.func13 ZF_ (zc_ (s:=RoF zq_) zE_ (ze_ _)) fun args objs p v e=>?_
 unfold zu_ at e
 split at e
 ·rename_i ty0 l
  obtain rfl:=zz_ e
  replace e:=zA_ e
  cases e
  refine ⟨rfl,fun hw ho hp=>?_⟩
  have h9:=xN_ (p:=fun o=>!Zv_ o) l 0 (Int.le_refl _)
  repeat'(intro t ht;first|(cases t<;>first|(cases ht;done)|(try simp only[zh_]at ht;try(exfalso;first|contradiction|omega)))|((first|refine za_ ht ?_|refine ht ?_ ?_|refine ht.1 ?_ ?_|refine ht ?_)<;>clear ht))
  all_goals first
   | exact True.intro
   | exact hp
   | exact ⟨congrArg AV.bool h9,rfl⟩
 ·rename_i ty0 l t0
  obtain rfl:=zz_ e
  replace e:=zA_ e
  cases e
  refine ⟨rfl,fun hw ho hp=>?_⟩
  have h9:=xN_ (p:=fun a:AC=>decide (a.1=t0)) l 0 (Int.le_refl _)
  repeat'(intro t ht;first|(cases t<;>first|(cases ht;done)|(try simp only[zh_]at ht;try(exfalso;first|contradiction|omega)))|((first|refine za_ ht ?_|refine ht ?_ ?_|refine ht.1 ?_ ?_|refine ht ?_)<;>clear ht))
  all_goals first
   | exact True.intro
   | exact ⟨congrArg AV.bool h9,rfl⟩
 ·cases e
def yd_:IR:=
(sq (kr [0,1] [oD 3 (.boxv 1),
oD 4 (.mov cF)])
(sq (.reg [oM 5 0,
oD 6 (.mkfn 44 [] [3]),
oC 7 13 [5,6],
oM 4 7])
.ret))
def XP_:List RD:=[.tmp 4 true none]
theorem X1_:zl_ Tryz.prog Tryz.f29 yd_ XP_=true:=by kernel_rfl
def Qg_:List AV->List Obj->Option (Prop × AV)
 | [.imm ty0 l,.int .i64 t0],[]=>Zj_ ty0 Y2 l fun l=>some ((True,.bool ((l:List AC).any (fun a=>decide (a.1=t0)))))
 | _,_=>none
theorem Km_:zf_ Tryz.prog 29 (RoF Qg_).sum:=by
 refine zi_ Tryz.func29 X1_ (zc_ (s:=RoF qt_) ke_ (zc_ (s:=RoF zu_) z2_ (ze_ _))) fun args objs p v e=>?_
 unfold Qg_ at e
 split at e
 ·rename_i ty0 l t0
  obtain rfl:=zz_ e
  replace e:=zA_ e
  cases e
  refine ⟨rfl,fun hw ho hp=>?_⟩
  repeat'(intro t ht;first|(cases t<;>first|(cases ht;done)|(try simp only[zh_]at ht;try(exfalso;first|contradiction|omega)))|((first|refine za_ ht ?_|refine ht ?_ ?_|refine ht.1 ?_ ?_|refine ht ?_)<;>clear ht))
  all_goals first
   | exact True.intro
   | exact ⟨rfl,rfl⟩
 ·cases e
end Go.Eng
