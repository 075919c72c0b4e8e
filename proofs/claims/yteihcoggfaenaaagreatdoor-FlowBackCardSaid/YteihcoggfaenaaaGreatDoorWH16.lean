/- Parts of the proof: A9, H1, H2, H3, H4, Z1, F6, Z3, Z4, Z2, H5, H6, K1, H7, K3, K4, K5, K6, K7. No condition. -/
import Derived.Test.YteihcoggfaenaaaGreatDoorProg
import Derived.Test.YteihcoggfaenaaaGreatDoorWH10
import Derived.KernelRfl
import Derived.Test.YteihcoggfaenaaaGreatDoorWH15
import Derived.Test.YteihcoggfaenaaaGreatDoorWH13
import Derived.Test.YteihcoggfaenaaaGreatDoorWH14
import Derived.Test.YteihcoggfaenaaaGreatDoorWH12
namespace Go.Eng
open Go.Proofs
set_option linter.unusedVariables false
set_option linter.unusedSimpArgs false
set_option maxRecDepth 100000
set_option maxHeartbeats 1000000
theorem bQ_ {b:List Int} (h:acE b ≠ 0):(∀ x,acI b x=0)/\(∀ k,acA b k=0)/\(∀ x,acS b x=0)/\acH b=false/\(∀ l,acV b l=[])/\acD b=[]:=by
 have hI:∀ x,acI b x=0:=fun x=>if_neg h
 refine ⟨hI,fun k=>hI _,fun x=>hI _,?_,fun l=>if_neg h,if_neg h⟩
 unfold acH;rw [decide_eq_false h];rfl
theorem zko_ {b:List Int} (h:acE b=0) (h25:tT b=25):(∀ x,acI b x=x)/\(∀ k,acA b k=0)/\(∀ x,acS b x=x)/\acH b=Zu_ (bd b)/\(∀ l,acV b l=l)/\acD b=[]:=by
 have hI:∀ x,acI b x=x:=fun x=>if_pos h
 refine ⟨hI,fun k=>(hI _).trans (if_pos h25),fun x=>(hI _).trans (if_pos h25),?_,fun l=>(if_pos h).trans (if_pos h25),(if_pos h).trans (if_pos h25)⟩
 unfold acH;rw [decide_eq_true h,decide_eq_true h25];rfl
theorem zkp_ {b:List Int} (h:acE b=0) (h25:¬ tT b=25):(∀ x,acI b x=x)/\(∀ k,acA b k=(zP_ (zD_ (tT b)) (bd b)).getD k 0)/\(∀ x,acS b x=0)/\acH b=false/\(∀ l,acV b l=[])/\acD b=(bd b).drop (zG_ (zD_ (tT b))).toNat:=by
 have hI:∀ x,acI b x=x:=fun x=>if_pos h
 refine ⟨hI,fun k=>(hI _).trans (if_neg h25),fun x=>(hI _).trans (if_neg h25),?_,fun l=>(if_pos h).trans (if_neg h25),(if_pos h).trans (if_neg h25)⟩
 unfold acH;rw [decide_eq_false h25];simp
def Y4_:IR:=
(sq (kr [0] [oD 2 (.box [.int .i64 0,.int .u64 0,.int .u64 0,.int .i64 0,.int .i64 0,.kb false,.int .u64 0,.imm (.int .u8) [],.imm (.int .u8) [],.imm (.int .u8) []]),
oD 3 (.mov (cI 0)),
oD 4 (.mov (cI 0))])
(sq (kr [0,2] [oD 12 (.build [.int .i64 0,.int .i64 0,.kb false,.int .i64 0,.int .i64 0] [(0,1,(cI 8)),(1,1,(cI 8)),(3,1,(cI 514)),(4,1,(cI 514))]),
oM 13 0,
oC 14 136 [12,13],
oM 11 14,
oX 15 11 0,
oX 16 11 1,
oX 17 11 2,
oD 5 (.box [.int .i64 0,.imm (.int .u8) []]),
oS 2 5 15,
oM 6 16,
oM 7 17])
(sq (sq (kr [2,5,6,7] [oM 18 7,
oB 19 .neq 18 (cI 0)])
(.cond 19
(sq (.reg [oD 20 (.build [.int .i64 0,.int .u64 0,.int .u64 0,.int .i64 0,.int .i64 0,.kb false,.int .u64 0,.imm (.int .u8) [],.imm (.int .u8) [],.imm (.int .u8) []] []),
oM 21 7,
oS 10 2 20,
oD 3 (.mov (cI 0)),
oM 4 21])
.ret)
.skip))
(sq (kr [2,5,6] [oA 22 0 5,
oL 23 22,
oD 24 (.build [.int .i64 0,.int .u64 0,.int .u64 0,.int .i64 0,.int .i64 0,.kb false,.int .u64 0,.imm (.int .u8) [],.imm (.int .u8) [],.imm (.int .u8) []] [(0,1,23)]),
oD 8 (.box [.int .i64 0,.int .u64 0,.int .u64 0,.int .i64 0,.int .i64 0,.kb false,.int .u64 0,.imm (.int .u8) [],.imm (.int .u8) [],.imm (.int .u8) []]),
oS 10 8 24])
(sq (kr [2,5,6,8] [oA 26 0 5,
oL 27 26,
oC 28 212 [27],
oM 25 28,
oX 29 25 0,
oX 30 25 1,
oM 9 29,
oM 10 30])
(sq (.block 0
(sq (kr [2,5,6,8,9,10] [oA 32 0 5,
oL 33 32,
oB 34 .eql 33 (cI 25),
oM 31 34])
(.cond 31
(kr [2,5,6,8] [oA 36 1 5,
oL 37 36,
oC 38 223 [37],
oM 35 38,
oX 39 35 0,
oX 40 35 1,
oA 41 3 8,
oS 6 41 39,
oM 7 40])
(sq (.reg [oM 43 10,
oM 42 43])
(.cond 42
(kr [2,5,6,8,9] [oK 45 10 8,
oM 46 9,
oA 47 1 5,
oL 48 47,
oC 49 224 [45,46,48],
oM 44 49,
oX 50 44 0,
oX 51 44 1,
oS 10 8 50,
oM 7 51])
(kr [2,6,8] [oD 7 (.mov (cI 513))]))))))
(sq (sq (kr [2,6,7,8] [oM 52 7,
oB 53 .neq 52 (cI 0)])
(.cond 53
(sq (.reg [oD 54 (.build [.int .i64 0,.int .u64 0,.int .u64 0,.int .i64 0,.int .i64 0,.kb false,.int .u64 0,.imm (.int .u8) [],.imm (.int .u8) [],.imm (.int .u8) []] []),
oM 55 7,
oS 10 2 54,
oD 3 (.mov (cI 0)),
oM 4 55])
.ret)
.skip))
(sq (kr [2,6,8] [oK 56 10 8,
oM 57 6,
oS 10 2 56,
oM 3 57,
oD 4 (.mov (cI 0))])
.ret))))))))
def YL_:List RD:=[.cell 2 (some 10) true [],.tmp 3 true none,.tmp 4 true none]
theorem YS_:zj_ Tryz.prog Tryz.f214 Y4_ YL_=true:=by kernel_rfl
def Kj_:List AV->List Obj->Option (Prop × AV)
 | [.imm (.int .u8) b],[]=>some ((b.length<=140737488355328,.tup [.agg [.int .i64 (acI b (tT b)),.int .u64 (acA b 0),.int .u64 (acA b 1),.int .i64 (acS b (zC_ (bd b))),.int .i64 (acS b (zT_ (bd b))),.bool (acH b),.int .u64 (acS b (q6_ (bd b))),.imm (.int .u8) (acV b (Z7_ (bd b))),.imm (.int .u8) (acV b (Z4_ (bd b))),.imm (.int .u8) (acD b)],.int .i64 (acI b (tN b)),.int .i64 (acE b)]))
 | _,_=>none
theorem yI_:zd_ Tryz.prog 214 (RoF Kj_).sum:=by
 refine zi_ Tryz.func214 YS_ (za_ (s:=RoF KQ_) jo_ (za_ (s:=RoF qu_) Qz_ (za_ (s:=RoF wJ_) uF_ (za_ (s:=RoF jh_) YE_ (zc_ _))))) fun args objs p v e=>?_
 unfold Kj_ at e
 split at e
 ·rename_i b
  cases e
  refine ⟨rfl,fun hw ho hp=>?_⟩
  change List Int at b
  have hb:∀ x ∈ (b:List Int),(0:Int)<=x/\x<=255:=fun x hx=>(hw (.imm (.int .u8) b) (by simp)).1 x hx
  clear hw ho
  have hbl:=zbx_ hb
  have hs:(False=False)/\(4<=(8:Int)/\(8:Int)<=60000/\1<=(8:Int)/\(8:Int)<=64/\(514:Int) ≠ 0/\(514:Int) ≠ 0):=⟨rfl,by decide,by decide,by decide,by decide,by decide,by decide⟩
  by_cases hT:tlE b 8 8 514=0
  ·have hI:∀ x,tlI b 8 8 514 x=x:=fun x=>if_pos hT
   have hR:tlR b 8 8 514=bd b:=if_pos hT
   by_cases h25:tT b=25
   ·have hE:acE b=Vm_ (bd b):=by unfold acE;rw [if_neg (not_not_intro hT),if_pos h25]
    by_cases h0:Vm_ (bd b)=0
    ·have hd0:zQ_ (bd b)=0:=Classical.byContradiction fun h=>by
      unfold Vm_ at h0;rw [if_neg h] at h0
      split at h0
      ·cases h0
      ·split at h0<;>cases h0
     have hdI:∀ x,Zr_ (bd b) x=x:=fun x=>if_pos hd0
     have hdR:∀ l,Z8_ (bd b) l=l:=fun l=>if_pos hd0
     obtain ⟨n1,n2,n3,n4,n5,n6⟩:=zko_ (hE.trans h0) h25
     rw [n1,n2,n2,n3,n3,n3,n4,n5,n5,n6,n1,hE,h0]
     repeat'(intro t ht;first|(cases t<;>first|(cases ht;done)|(try simp only[zg_]at ht;try(exfalso;first|contradiction|omega)))|((first|refine zb_ ht ?_|refine ht ?_ ?_|refine ht.1 ?_ ?_|refine ht ?_)<;>clear ht))
     all_goals (try simp only [hT,hI,hR,h0,h25,hdI,hdR,if_pos hd0,not_true_eq_false] at*)
     all_goals first
      | exact True.intro
      | omega
      | exact ⟨by first | rfl | exact True.intro,⟨by decide,by decide,by decide,by decide,by decide,by decide⟩,hp⟩
      | exact ⟨rfl,by first | rfl | exact True.intro⟩
         | exact ⟨True.intro,True.intro⟩
    ·obtain ⟨n1,n2,n3,n4,n5,n6⟩:=bQ_ (b:=b) (by rw [hE];exact h0)
     rw [n1,n2,n2,n3,n3,n3,n4,n5,n5,n6,n1,hE]
     repeat'(intro t ht;first|(cases t<;>first|(cases ht;done)|(try simp only[zg_]at ht;try(exfalso;first|contradiction|omega)))|((first|refine zb_ ht ?_|refine ht ?_ ?_|refine ht.1 ?_ ?_|refine ht ?_)<;>clear ht))
     all_goals (try simp only [hT,hI,hR,h25,not_true_eq_false] at*)
     all_goals first
      | exact True.intro
      | omega
      | exact ⟨by first | rfl | exact True.intro,⟨by decide,by decide,by decide,by decide,by decide,by decide⟩,hp⟩
      | exact ⟨rfl,by first | rfl | exact True.intro⟩
         | exact ⟨True.intro,True.intro⟩
   ·cases hK:Hb_ (tT b) with
    | false=>
      have hE:acE b=513:=by unfold acE;rw [if_neg (not_not_intro hT),if_neg h25,hK];rfl
      obtain ⟨n1,n2,n3,n4,n5,n6⟩:=bQ_ (b:=b) (by rw [hE];decide)
      rw [n1,n2,n2,n3,n3,n3,n4,n5,n5,n6,n1,hE]
      repeat'(intro t ht;first|(cases t<;>first|(cases ht;done)|(try simp only[zg_]at ht;try(exfalso;first|contradiction|omega)))|((first|refine zb_ ht ?_|refine ht ?_ ?_|refine ht.1 ?_ ?_|refine ht ?_)<;>clear ht))
      all_goals (try simp only [hT,hI,hR,not_true_eq_false] at*)
      all_goals first
       | exact True.intro
       | omega
       | exact ⟨by first | rfl | exact True.intro,⟨by decide,by decide,by decide,by decide,by decide,by decide⟩,hp⟩
       | exact ⟨rfl,by first | rfl | exact True.intro⟩
          | exact ⟨True.intro,True.intro⟩
       | (exfalso;simp_all;done)
    | true=>
      have hE:acE b=plE (tT b) (bd b):=by unfold acE;rw [if_neg (not_not_intro hT),if_neg h25,if_pos hK]
      by_cases h0:plE (tT b) (bd b)=0
      ·obtain ⟨n1,n2,n3,n4,n5,n6⟩:=zkp_ (hE.trans h0) h25
       have hm:¬ (¬ tT b=65535/\¬ ((bd b).length:Int)=zG_ (zD_ (tT b))):=fun h=>by unfold plE at h0;rw [if_pos h] at h0;cases h0
       have hA:∀ k,plA (tT b) (bd b) k=(zP_ (zD_ (tT b)) (bd b)).getD k 0:=fun k=>if_neg hm
       have hD:plD (tT b) (bd b)=(bd b).drop (zG_ (zD_ (tT b))).toNat:=if_pos h0
       rw [n1,n2,n2,n3,n3,n3,n4,n5,n5,n6,n1,hE,h0]
       repeat'(intro t ht;first|(cases t<;>first|(cases ht;done)|(try simp only[zg_]at ht;try(exfalso;first|contradiction|omega)))|((first|refine zb_ ht ?_|refine ht ?_ ?_|refine ht.1 ?_ ?_|refine ht ?_)<;>clear ht))
       all_goals (try simp only [hT,hI,hR,h0,hA,hD,not_true_eq_false] at*)
       all_goals first
        | exact True.intro
        | omega
        | exact ⟨by first | rfl | exact True.intro,⟨by decide,by decide,by decide,by decide,by decide,by decide⟩,hp⟩
        | exact ⟨rfl,by first | rfl | exact True.intro⟩
          | exact ⟨True.intro,True.intro⟩
        | exact ⟨trivial,by omega⟩
        | (exfalso;simp_all;done)
      ·obtain ⟨n1,n2,n3,n4,n5,n6⟩:=bQ_ (b:=b) (by rw [hE];exact h0)
       rw [n1,n2,n2,n3,n3,n3,n4,n5,n5,n6,n1,hE]
       repeat'(intro t ht;first|(cases t<;>first|(cases ht;done)|(try simp only[zg_]at ht;try(exfalso;first|contradiction|omega)))|((first|refine zb_ ht ?_|refine ht ?_ ?_|refine ht.1 ?_ ?_|refine ht ?_)<;>clear ht))
       all_goals (try simp only [hT,hI,hR,not_true_eq_false] at*)
       all_goals first
        | exact True.intro
        | omega
        | exact ⟨by first | rfl | exact True.intro,⟨by decide,by decide,by decide,by decide,by decide,by decide⟩,hp⟩
        | exact ⟨rfl,by first | rfl | exact True.intro⟩
          | exact ⟨True.intro,True.intro⟩
        | exact ⟨trivial,by omega⟩
        | (exfalso;simp_all;done)
  ·have hE:acE b=tlE b 8 8 514:=by unfold acE;rw [if_pos hT]
   obtain ⟨n1,n2,n3,n4,n5,n6⟩:=bQ_ (b:=b) (by rw [hE];exact hT)
   rw [n1,n2,n2,n3,n3,n3,n4,n5,n5,n6,n1,hE]
   repeat'(intro t ht;first|(cases t<;>first|(cases ht;done)|(try simp only[zg_]at ht;try(exfalso;first|contradiction|omega)))|((first|refine zb_ ht ?_|refine ht ?_ ?_|refine ht.1 ?_ ?_|refine ht ?_)<;>clear ht))
   all_goals first
    | exact True.intro
    | exact ⟨by first | rfl | exact True.intro,⟨by decide,by decide,by decide,by decide,by decide,by decide⟩,hp⟩
    | exact ⟨rfl,by first | rfl | exact True.intro⟩
            | exact ⟨True.intro,True.intro⟩
 ·cases e
def zcY_:IR:=
(sq (kr [0] [oD 1 (.boxv 0),
oD 2 (.mov cF)])
(sq (kr [1] [oA 3 3 1,
oK 4 6 3,
oC 5 62 [4],
oM 6 5,
oT 6 7 (.fieldAddr 9 1),
oT 6 8 (.load none 7),
oT 6 9 (.len 8),
oT 6 10 (.bin .leq 9 (cI 500)),
oP 11 6 10 cF,
oM 2 11])
.ret))
def zb7_:List RD:=[.tmp 2 true none]
theorem zcr_:zj_ Tryz.prog Tryz.f63 zcY_ zb7_=true:=by kernel_rfl
def vs_:List AV->List Obj->Option (Prop × AV)
 | [.agg [.int .i64 q,.int .u64 a,.int .u64 b,.int .i64 c,.int .i64 f,.bool h,.int .u64 x,.imm (.int .u8) v,.imm (.int .u8) m,.imm (.int .u8) d]],[]=>some ((True,.bool (decide (v.length<=300) && decide (m.length<=300) && decide (d.length<=500))))
 | _,_=>none
theorem b8_:zd_ Tryz.prog 63 (RoF vs_).sum:=by
 refine zi_ Tryz.func63 zcr_ (za_ (s:=RoF Xn_) vK_ (zc_ _)) fun args objs p v e=>?_
 unfold vs_ at e
 split at e
 ·rename_i q a b c f h x v m d
  cases e
  refine ⟨rfl,fun hw ho hp=>?_⟩
  change List Int at v
  change List Int at m
  change List Int at d
  clear hw ho
  repeat'(intro t ht;first|(cases t<;>first|(cases ht;done)|(try simp only[zg_]at ht;try(exfalso;first|contradiction|omega)))|((first|refine zb_ ht ?_|refine ht ?_ ?_|refine ht.1 ?_ ?_|refine ht ?_)<;>clear ht))
  all_goals first
   | exact True.intro
   | (refine ⟨congrArg AV.bool ?_,rfl⟩;simp_all;done)
   | (refine ⟨congrArg AV.bool ?_,rfl⟩;simp_all;omega)
 ·cases e
def zaI_:IR:=
(sq (kr [0,1] [oD 2 (.boxv 0),
oD 3 (.boxv 1),
oD 4 (.mov cF)])
(sq (kr [2,3] [oA 5 0 2,
oL 6 5,
oA 7 0 3,
oL 8 7,
oB 9 .eql 6 8,
oM 10 9,
oT 10 11 (.fieldAddr 1 2),
oT 10 12 (.load none 11),
oT 10 13 (.fieldAddr 1 3),
oT 10 14 (.load none 13),
oT 10 15 (.bin .eql 12 14),
oP 16 10 15 cF,
oM 17 16,
oT 17 18 (.fieldAddr 2 2),
oT 17 19 (.load none 18),
oT 17 20 (.fieldAddr 2 3),
oT 17 21 (.load none 20),
oT 17 22 (.bin .eql 19 21),
oP 23 17 22 cF,
oM 24 23,
oT 24 25 (.fieldAddr 3 2),
oT 24 26 (.load (some 6) 25),
oT 24 27 (.fieldAddr 3 3),
oT 24 28 (.load (some 6) 27),
oT 24 29 (.call false (.f 110) [26,28]),
oP 30 24 29 cF,
oM 31 30,
oT 31 32 (.fieldAddr 9 2),
oT 31 33 (.load none 32),
oT 31 34 (.fieldAddr 9 3),
oT 31 35 (.load none 34),
oT 31 36 (.call false (.f 13) [33,35]),
oP 37 31 36 cF,
oM 4 37])
.ret))
def Bs_:List RD:=[.tmp 4 true none]
theorem BZ_:zj_ Tryz.prog Tryz.f111 zaI_ Bs_=true:=by kernel_rfl
def yj_:List AV->List Obj->Option (Prop × AV)
 | [.agg [.int .i64 q,.int .u64 a,.int .u64 b,.int .i64 c,.int .i64 f,.bool h,.int .u64 x,.imm (.int .u8) v,.imm (.int .u8) m,.imm (.int .u8) d],.agg [.int .i64 q',.int .u64 a',.int .u64 b',.int .i64 c',.int .i64 f',.bool h',.int .u64 x',.imm (.int .u8) v',.imm (.int .u8) m',.imm (.int .u8) d']],[]=>some ((True,.bool (hg_ q a b c f h x v m d q' a' b' c' f' h' x' v' m' d')))
 | _,_=>none
theorem h2_:zd_ Tryz.prog 111 (RoF yj_).sum:=by
 refine zi_ Tryz.func111 BZ_ (za_ (s:=RoF wx_) yC_ (za_ (s:=RoF Zc_) z6_ (zc_ _))) fun args objs p v e=>?_
 unfold yj_ at e
 split at e
 ·rename_i q a b c f h x v m d q' a' b' c' f' h' x' v' m' d'
  cases e
  refine ⟨rfl,fun hw ho hp=>?_⟩
  change List Int at v
  change List Int at m
  change List Int at d
  change List Int at v'
  change List Int at m'
  change List Int at d'
  clear hw ho
  repeat'(intro t ht;first|(cases t<;>first|(cases ht;done)|(try simp only[zg_]at ht;try(exfalso;first|contradiction|omega)))|((first|refine zb_ ht ?_|refine ht ?_ ?_|refine ht.1 ?_ ?_|refine ht ?_)<;>clear ht))
  all_goals first
   | exact True.intro
   | (refine ⟨congrArg AV.bool ?_,rfl⟩;unfold hg_;simp_all;done)
 ·cases e
abbrev AC:=Int × Int × Int × OV × List Int × Unit
instance:DecidableEq (OV × List Int × Unit):=inferInstance
instance:DecidableEq (Int × OV × List Int × Unit):=inferInstance
instance:DecidableEq AC:=inferInstance
def rgA (a:AC):Bool:=ZT_ (zL_ a.2.2.2.1.1 a.2.2.2.1.2.1 a.2.2.2.1.2.2.1 a.2.2.2.1.2.2.2.1 a.2.2.2.1.2.2.2.2.1 a.2.2.2.1.2.2.2.2.2.1) a.1 a.2.1 a.2.2.1 a.2.2.2.1.1 a.2.2.2.1.2.1 a.2.2.2.1.2.2.1 a.2.2.2.1.2.2.2.1 a.2.2.2.1.2.2.2.2.1 a.2.2.2.1.2.2.2.2.2.1 a.2.2.2.2.1
def szA (a:AC):Int:=yJ_ (zL_ a.2.2.2.1.1 a.2.2.2.1.2.1 a.2.2.2.1.2.2.1 a.2.2.2.1.2.2.2.1 a.2.2.2.1.2.2.2.2.1 a.2.2.2.1.2.2.2.2.2.1) (Qc_ a.2.2.2.1.1 a.2.2.2.1.2.1 a.2.2.2.1.2.2.1 a.2.2.2.1.2.2.2.1 a.2.2.2.1.2.2.2.2.1 a.2.2.2.1.2.2.2.2.2.1) a.1 a.2.1 a.2.2.1 a.2.2.2.1.1 a.2.2.2.1.2.1 a.2.2.2.1.2.2.1 a.2.2.2.1.2.2.2.1 a.2.2.2.1.2.2.2.2.1 a.2.2.2.1.2.2.2.2.2.1 a.2.2.2.2.1
def ebA (a:AC):List Int:=Yd_ a.1 a.2.1 a.2.2.1 (Zq_ a.2.2.2.1.1 a.2.2.2.1.2.1 a.2.2.2.1.2.2.1 a.2.2.2.1.2.2.2.1 a.2.2.2.1.2.2.2.2.1 a.2.2.2.1.2.2.2.2.2.1) a.2.2.2.2.1
def exA (a:AC):List Int:=if rgA a=true then ebA a else []
def eeA (a:AC):Int:=if rgA a=true then 0 else 10001
def lenA (a:AC):Prop:=a.2.2.2.1.2.2.2.2.1.length<=100000/\a.2.2.2.1.2.2.2.2.2.1.length<=100000/\a.2.2.2.2.1.length<=100000
theorem zgs_ {a:AC} (h:lenA a):a.2.2.2.1.2.2.2.2.1.length<=1000000/\a.2.2.2.1.2.2.2.2.2.1.length<=1000000:=⟨Nat.le_trans h.1 (by decide),Nat.le_trans h.2.1 (by decide)⟩
structure okL (l:List AC):Prop where
 a:∀ o ∈ l,lenA o
 n:l.length<=1000000
def fwA (a:AC):Bool:=decide (a.2.2.2.1.2.2.2.2.1.length<=300) && decide (a.2.2.2.1.2.2.2.2.2.1.length<=300) && decide (a.2.2.2.2.1.length<=500)
theorem zk4_ {a:AC} (h:(a.2.2.2.1.2.2.2.2.1.length<=300/\a.2.2.2.1.2.2.2.2.2.1.length<=300)/\a.2.2.2.2.1.length<=500):fwA a=true:=by unfold fwA;simp [h.1.1,h.1.2,h.2]
theorem zk5_ {a:AC} (h:(¬ a.2.2.2.1.2.2.2.2.1.length<=300\/¬ a.2.2.2.1.2.2.2.2.2.1.length<=300)\/¬ a.2.2.2.2.1.length<=500):fwA a=false:=by unfold fwA;rcases h with (h | h) | h<;>simp [h]
def bD_ (l:List AC):Bool:=l.all fwA && decide (l.length<=80)
theorem zif_ {l:List AC} (h:bD_ l=true):okL l/\l.length<=80:=by
 unfold bD_ at h
 simp only [Bool.and_eq_true,decide_eq_true_eq] at h
 refine ⟨⟨fun o ho=>?_,by omega⟩,h.2⟩
 have:=List.all_eq_true.1 h.1 o ho
 unfold fwA at this
 simp only [Bool.and_eq_true,decide_eq_true_eq] at this
 exact ⟨by omega,by omega,by omega⟩
def zcX_:IR:=
(sq (kr [0] [oD 2 (.mov cF)])
(sq (sq (.reg [oD 3 (.mov (cI 0))])
(.block 0
(.loop
(sq (sq (kr [0,3] [oM 4 3,
oM 5 0,
oE 6 5,
oB 7 .lss 4 6])
(.cond 7
.skip
(.exit 0)))
(sq (.block 1
(sq (kr [0,3] [oM 10 0,
oM 11 3,
oI 12 10 10 11,
oK 13 10 12,
oC 14 63 [13],
oD 15 (.un .not 14)])
(.cond 15
(sq (kr [] [oD 2 (.mov cF)])
.ret)
.skip)))
(kr [0,3] [oM 8 3,
oB 9 .add 8 (cI 1),
oM 3 9]))))))
(sq (kr [0] [oM 16 0,
oE 17 16,
oB 18 .leq 17 (cI 80),
oM 2 18])
.ret)))
def zb6_:List RD:=[.tmp 2 true none]
theorem zcq_:zj_ Tryz.prog Tryz.f19 zcX_ zb6_=true:=by kernel_rfl
def Jq_:List AV->List Obj->Option (Prop × AV)
 | [.imm ty0 l],[]=>ZM_ ty0 Y2 l fun l=>some ((True,.bool (bD_ l)))
 | _,_=>none
theorem WK_:zd_ Tryz.prog 19 (RoF Jq_).sum:=by
 refine zi_ Tryz.func19 zcq_ (za_ (s:=RoF vs_) b8_ (zc_ _)) fun args objs p v e=>?_
 unfold Jq_ at e
 split at e
 ·rename_i ty0 l
  obtain rfl:=zN_ e
  replace e:=zO_ e
  cases e
  refine ⟨rfl,fun hw ho hp=>?_⟩
  change List AC at l
  have hl:l.length<=maxLen:=(hw (.imm Y2 l) (by simp)).2
  unfold maxLen at hl
  clear hw ho
  repeat'(intro t ht;first|(cases t<;>first|(cases ht;done)|(try simp only[zg_]at ht))|((first|refine zb_ ht ?_|refine ht ?_ ?_|refine ht.1 ?_ ?_|refine ht ?_)<;>clear ht))
  all_goals first
   | (intro r h1 h2;clear h1;refine h2 ⟨[0,3],Nat,(fun i=>i<=l.length/\(l.take i).all fwA=true),fun i=>[.imm Y2 l,.int .i64 i],fun _=>[],fun i=>l.length - i,⟨0,⟨Nat.zero_le _,rfl⟩,rfl,rfl⟩,?_⟩;clear h2)
  rintro i ⟨hi,he⟩
  repeat'(intro t ht;first|(cases t<;>first|(cases ht;done)|(try simp only[zg_]at ht;try(exfalso;first|contradiction|omega)))|((first|refine zb_ ht ?_|refine ht ?_ ?_|refine ht.1 ?_ ?_|refine ht ?_)<;>clear ht))
  all_goals (try generalize (Ty.dflt Y2)=od at*)
  all_goals first
   | exact True.intro
   | ((try simp only [zm_,zn_,zl_] at*);omega)
   | (have h:=Z0_ (by omega) he
      refine ⟨?_,rfl⟩;unfold bD_;rw [h,Bool.true_and];congr 1;exact decide_eq_decide.2 (by omega))
   | (have hf:=zk4_ ht
      exact ⟨i+1,⟨by omega,Zv_ (d:=od) (by omega) he hf⟩,by dsimp only;omega,rfl,rfl⟩)
   | (have hf:=zk5_ ht
      have h:bD_ l=false:=by unfold bD_;rw [ZF_ (d:=od) (show i < l.length by omega) hf,Bool.false_and]
      refine ⟨?_,rfl⟩;rw [h];done)
 ·cases e
theorem ziP_ {a:AC} (h:rgA a=false):szA a=0:=by
 unfold szA yJ_;unfold rgA at h;rw [h];rfl
theorem us_ {a:AC} (h:rgA a=true):szA a=(ebA a).length/\8<=szA a/\szA a<=65528/\(ebA a).length % 8=0:=by
 obtain ⟨s0,s1,s2,s3⟩:=xZ_ h
 have l2:=zk_ (n:=a.1) (w:=2) (by decide)
 have hb:(ebA a).length=4+(Z6_ a.1 a.2.1 a.2.2.1 (Zq_ a.2.2.2.1.1 a.2.2.2.1.2.1 a.2.2.2.1.2.2.1 a.2.2.2.1.2.2.2.1 a.2.2.2.1.2.2.2.2.1 a.2.2.2.1.2.2.2.2.2.1) a.2.2.2.2.1).length:=by
  have l3:=zk_ (n:=(4+(Z6_ a.1 a.2.1 a.2.2.1 (Zq_ a.2.2.2.1.1 a.2.2.2.1.2.1 a.2.2.2.1.2.2.1 a.2.2.2.1.2.2.2.1 a.2.2.2.1.2.2.2.2.1 a.2.2.2.1.2.2.2.2.2.1) a.2.2.2.2.1).length)) (w:=2) (by decide)
  unfold ebA Yd_;simp only [List.length_append];omega
 have e:szA a=4+((Z6_ a.1 a.2.1 a.2.2.1 (Zq_ a.2.2.2.1.1 a.2.2.2.1.2.1 a.2.2.2.1.2.2.1 a.2.2.2.1.2.2.2.1 a.2.2.2.1.2.2.2.2.1 a.2.2.2.1.2.2.2.2.2.1) a.2.2.2.2.1).length:Int):=s0
 omega
theorem zfF_ (a:AC):0<=szA a/\szA a<=65528:=by
 cases h:rgA a with
 | true=>have:=us_ h;omega
 | false=>rw [ziP_ h];decide
def smT (l:List AC) (i:Nat):Int:=((l.take i).map szA).sum
def smL (l:List AC):Int:=(l.map szA).sum
theorem b9_ {l:List AC} {i:Nat} {d:AC} (h:i < l.length):smT l (i+1)=smT l i+szA (l.getD i d):=by
 unfold smT
 rw [List.take_succ_eq_append_getElem h,List.map_append,List.sum_append,List.getD_eq_getElem?_getD,List.getElem?_eq_getElem h]
 simp
theorem zhB_ {l:List AC} {i:Nat} (h:l.length<=i):smT l i=smL l:=by unfold smT smL;rw [List.take_of_length_le h]
theorem zjj_ {l:List AC} (i:Nat) (hi:i<=l.length):0<=smT l i/\smT l i<=65528*i:=by
 induction i with
 | zero=>unfold smT;simp
 | succ i ih=>
   have:=ih (by omega)
   have d:AC:=(0,0,0,(0,0,false,0,[],[],()),[],())
   have hs:=zfF_ (l.getD i d)
   rw [b9_ (d:=d) (by omega)];omega
def szL (l:List AC):Int:=if 64 < l.length then 0 else if l.all rgA=true then (if 65528 < smL l then 0 else smL l) else 0
def bw_:IR:=
(sq (kr [0] [oD 2 (.mov (cI 0))])
(sq (sq (.reg [oM 6 0,
oE 7 6,
oB 8 .gtr 7 (cI 64)])
(.cond 8
(sq (.reg [oD 2 (.mov (cI 0))])
.ret)
.skip))
(sq (sq (.reg [oM 9 0,
oE 10 9,
oD 11 (.mov (cI 0))])
(.block 0
(.loop
(sq (kr [2,9,10,11] [oB 12 .lss 11 10])
(sq (.cond 12
.skip
(.exit 0))
(sq (.block 1
(sq (.reg [oI 13 10 9 11,
oK 14 10 13,
oD 4 (.box [.int .i64 0,.int .u64 0,.int .u64 0,.int .i64 0,.int .i64 0,.kb false,.int .u64 0,.imm (.int .u8) [],.imm (.int .u8) [],.imm (.int .u8) []]),
oS 10 4 14])
(sq (.reg [oK 15 10 4,
oC 16 209 [15],
oM 5 16])
(sq (sq (kr [2,5,9,10,11] [oM 17 5,
oB 18 .eql 17 (cI 0)])
(.cond 18
(sq (.reg [oD 2 (.mov (cI 0))])
.ret)
.skip))
(.reg [oM 19 2,
oM 20 5,
oB 21 .add 19 20,
oM 2 21])))))
(kr [2,9,10,11] [oB 22 .add 11 (cI 1),
oM 11 22])))))))
(sq (sq (kr [2] [oM 23 2,
oB 24 .gtr 23 (cI 65528)])
(.cond 24
(sq (.reg [oD 2 (.mov (cI 0))])
.ret)
.skip))
(sq (.reg [oM 25 2,
oM 2 25])
.ret)))))
def Hz_:List RD:=[.tmp 2 true none]
theorem HY_:zj_ Tryz.prog Tryz.f194 bw_ Hz_=true:=by kernel_rfl
def xS_:List AV->List Obj->Option (Prop × AV)
 | [.imm ty0 l],[]=>ZM_ ty0 Y2 l fun l=>some ((okL l,.int .i64 (szL l)))
 | _,_=>none
theorem gJ_:zd_ Tryz.prog 194 (RoF xS_).sum:=by
 refine zi_ Tryz.func194 HY_ (za_ (s:=RoF kU_) wN_ (zc_ _)) fun args objs p v e=>?_
 unfold xS_ at e
 split at e
 ·rename_i ty0 l
  obtain rfl:=zN_ e
  replace e:=zO_ e
  cases e
  refine ⟨rfl,fun hw ho hp=>?_⟩
  change List AC at l
  clear hw ho
  have hn:=hp.n
  by_cases h64:64 < l.length
  ·have e:szL l=0:=if_pos h64
   rw [e]
   repeat'(intro t ht;first|(cases t<;>first|(cases ht;done)|(try simp only[zg_]at ht;try(exfalso;first|contradiction|omega)))|((first|refine zb_ ht ?_|refine ht ?_ ?_|refine ht.1 ?_ ?_|refine ht ?_)<;>clear ht))
   all_goals first
    | exact True.intro
    | exact ⟨rfl,rfl⟩
    | (exfalso;omega)
  ·have e:szL l=if l.all rgA=true then (if 65528 < smL l then 0 else smL l) else 0:=if_neg h64
   repeat'(intro t ht;first|(cases t<;>first|(cases ht;done)|(try simp only[zg_]at ht;try(exfalso;first|contradiction|omega)))|((first|refine zb_ ht ?_|refine ht ?_ ?_|refine ht.1 ?_ ?_|refine ht ?_)<;>clear ht))
   all_goals first
    | exact True.intro
    | (intro r h1 h2;clear h1;refine h2 ⟨[2,9,10,11],Nat,(fun i=>i<=l.length/\(l.take i).all rgA=true),fun i=>[.int .i64 (smT l i),.imm Y2 l,.int .i64 l.length,.int .i64 i],fun _=>[],fun i=>l.length - i,⟨0,⟨Nat.zero_le _,rfl⟩,rfl,rfl⟩,?_⟩;clear h2)
   rintro i ⟨hi,he⟩
   have hle:=zjj_ (l:=l) i hi
   repeat'(intro t ht;first|(cases t<;>first|(cases ht;done)|(try simp only[zg_]at ht;try(exfalso;first|contradiction|omega)))|((first|refine zb_ ht ?_|refine ht ?_ ?_|refine ht.1 ?_ ?_|refine ht ?_)<;>clear ht))
   all_goals (try generalize (Ty.dflt Y2)=od at*)
   all_goals first
    | exact True.intro
    | ((try simp only [zm_,zn_,zl_] at*);omega)
    | (have ha:=Z0_ (by omega) he
       have hs:=zhB_ (l:=l) (i:=i) (by omega)
       rw [e,if_pos ha,<- hs]
       first
        | (rw [if_pos (by assumption)];exact ⟨rfl,rfl⟩)
        | (rw [if_neg (by assumption)];exact ⟨rfl,rfl⟩))
    | (have hlt:i < l.length:=by omega
       have hln:=hp.a _ (zU_ hlt od)
       have hsz:=zfF_ (l.getD i od)
       first
        | exact zgs_ hln
        | (unfold szA at hsz;simp only [zl_,Int.toNat_natCast];omega)
        | (have h0:szA (l.getD i od)=0:=by assumption
           have hr:rgA (l.getD i od)=false:=by
            cases hk:rgA (l.getD i od) with
            | false=>rfl
            | true=>have:=us_ hk;omega
           rw [e,if_neg (by rw [ZF_ hlt hr];decide)];exact ⟨rfl,rfl⟩)
        | (have h0:¬ szA (l.getD i od)=0:=by assumption
           have hr:rgA (l.getD i od)=true:=by
            cases hk:rgA (l.getD i od) with
            | true=>rfl
            | false=>exact absurd (ziP_ hk) h0
           refine ⟨i+1,⟨by omega,Zv_ hlt he hr⟩,by dsimp only;omega,?_,rfl⟩
           dsimp only;rw [b9_ (d:=od) hlt];rfl))
 ·cases e
def rgL (l:List AC):Bool:=decide (l.length=0) || decide (0 < szL l)
def G2_:IR:=
(sq (kr [0] [oD 2 (.mov cF)])
(sq (kr [0] [oM 3 0,
oE 4 3,
oB 5 .eql 4 (cI 0),
oM 6 5,
oF 6 7 (.mov 0),
oF 6 8 (.call false (.f 194) [7]),
oF 6 9 (.bin .gtr 8 (cI 0)),
oP 10 6 cT 9,
oM 2 10])
.ret))
def g9_:List RD:=[.tmp 2 true none]
theorem Gz_:zj_ Tryz.prog Tryz.f177 G2_ g9_=true:=by kernel_rfl
def KL_:List AV->List Obj->Option (Prop × AV)
 | [.imm ty0 l],[]=>ZM_ ty0 Y2 l fun l=>some ((okL l,.bool (rgL l)))
 | _,_=>none
theorem WW_:zd_ Tryz.prog 177 (RoF KL_).sum:=by
 refine zi_ Tryz.func177 Gz_ (za_ (s:=RoF xS_) gJ_ (zc_ _)) fun args objs p v e=>?_
 unfold KL_ at e
 split at e
 ·rename_i ty0 l
  obtain rfl:=zN_ e
  replace e:=zO_ e
  cases e
  refine ⟨rfl,fun hw ho hp=>?_⟩
  change List AC at l
  clear hw ho
  have hok:=hp
  by_cases h0:l.length=0
  ·repeat'(intro t ht;first|(cases t<;>first|(cases ht;done)|(try simp only[zg_]at ht;try(exfalso;first|contradiction|omega)))|((first|refine zb_ ht ?_|refine ht ?_ ?_|refine ht.1 ?_ ?_|refine ht ?_)<;>clear ht))
   all_goals first
    | exact True.intro
    | exact hok
    | (refine ⟨congrArg AV.bool ?_,rfl⟩;unfold rgL;rw [decide_eq_true h0];rfl)
    | (exfalso;omega)
  ·repeat'(intro t ht;first|(cases t<;>first|(cases ht;done)|(try simp only[zg_]at ht;try(exfalso;first|contradiction|omega)))|((first|refine zb_ ht ?_|refine ht ?_ ?_|refine ht.1 ?_ ?_|refine ht ?_)<;>clear ht))
   all_goals first
    | exact True.intro
    | exact hok
    | (refine ⟨congrArg AV.bool ?_,rfl⟩;unfold rgL;rw [decide_eq_false h0];rfl)
    | (exfalso;omega)
 ·cases e
def wrS {α:Type} (x:α->List Int) (f:α->Int) (room:Int):List α->List Int->Int->List Int × Int
 | [],l,e=>(l,e)
 | o :: r,l,e=>wrS x f room r (kB_ (x o) l room (zt_ e (f o))) (QS_ (x o) l room (zt_ e (f o)))
theorem bX_ {α:Type} {x:α->List Int} {f:α->Int} {room:Int} {l:List α} {i:Nat} {d:α} {b:List Int} {e:Int} (h:i < l.length):wrS x f room (l.drop i) b e=wrS x f room (l.drop (i+1)) (kB_ (x (l.getD i d)) b room (zt_ e (f (l.getD i d)))) (QS_ (x (l.getD i d)) b room (zt_ e (f (l.getD i d)))):=by
 rw [zI_ h d];rfl
def apB (x:List AC) (l:List Int) (room e:Int):List Int:=if rgL x=true then (wrS exA eeA room x l e).1 else l
def apE (x:List AC) (l:List Int) (room e:Int):Int:=if rgL x=true then (wrS exA eeA room x l e).2 else zt_ e 10001
theorem zgP_ {a:AC}:(exA a).length<=1000000:=by
 unfold exA;split
 ·have:=us_ (by assumption);omega
 ·simp
def zaW_:IR:=
(sq (sq (kr [0,1] [oM 8 1,
oC 9 177 [8],
oD 10 (.un .not 9)])
(.cond 10
(sq (.reg [oM 11 0,
oC 12 34 [11,(cI 10001)]])
.ret)
.skip))
(sq (.reg [oM 13 1,
oE 14 13,
oD 15 (.mov (cI 0))])
(.block 0
(.loop
(sq (kr [0,13,14,15] [oB 16 .lss 15 14])
(sq (.cond 16
.skip
(.exit 0))
(sq (.block 1
(sq (.reg [oI 17 10 13 15,
oK 18 10 17,
oD 5 (.box [.int .i64 0,.int .u64 0,.int .u64 0,.int .i64 0,.int .i64 0,.kb false,.int .u64 0,.imm (.int .u8) [],.imm (.int .u8) [],.imm (.int .u8) []]),
oS 10 5 18])
(sq (kr [0,5,13,14,15] [oK 20 10 5,
oC 21 195 [20],
oM 19 21,
oX 22 19 0,
oX 23 19 1,
oM 6 22,
oM 7 23])
(sq (kr [0,6,7,13,14,15] [oM 24 0,
oM 25 7,
oC 26 34 [24,25]])
(.reg [oM 27 0,
oM 28 6,
oC 29 65 [27,28]])))))
(kr [0,13,14,15] [oB 30 .add 15 (cI 1),
oM 15 30]))))))))
def BG_:List RD:=[]
theorem zad_:zj_ Tryz.prog Tryz.f178 zaW_ BG_=true:=by kernel_rfl
def gt_:List AV->List Obj->Option (Prop × Res)
 | [.ptr 0 0,.imm (.cons (.int .i64) (.cons (.int .u64) (.cons (.int .u64) (.cons (.cons (.int .i64) (.cons (.int .i64) (.cons .bool (.cons (.int .u64) (.cons (.sl (.int .u8)) (.cons (.sl (.int .u8)) .nil)))))) (.cons (.sl (.int .u8)) .nil))))) x],[.box [.own 1,.int .i64 room,.mapv 2,.int .i64 e],.row false (.int .u8) l,.map sq (.int .i64) (.int .i64) h]=>some (okL x/\0<=room/\room<=1000000/\l.length<=1000000,.br (rgL x && decide (0 < x.length)) (.one (.tup []) [.box [.own 3,.int .i64 room,.mapv 2,.int .i64 (apE x l room e)],.dead,.map sq (.int .i64) (.int .i64) h,.row false (.int .u8) (apB x l room e)]) (.one (.tup []) [.box [.own 1,.int .i64 room,.mapv 2,.int .i64 (apE x l room e)],.row false (.int .u8) l,.map sq (.int .i64) (.int .i64) h]))
 | _,_=>none
def yo_:List AV->List Obj->Option (Prop × AV × List Obj)
 | [.ptr 0 0,.imm (.cons (.int .i64) (.cons (.int .u64) (.cons (.int .u64) (.cons (.cons (.int .i64) (.cons (.int .i64) (.cons .bool (.cons (.int .u64) (.cons (.sl (.int .u8)) (.cons (.sl (.int .u8)) .nil)))))) (.cons (.sl (.int .u8)) .nil))))) x],[.box [.own 1,.int .i64 room,.mapv 2,.int .i64 e],.row false (.int .u8) l,.map sq (.int .i64) (.int .i64) h]=>some (okL x/\0<=room/\room<=1000000/\l.length<=1000000,.tup [],[.box [.own 3,.int .i64 room,.mapv 2,.int .i64 (apE x l room e)],.dead,.map sq (.int .i64) (.int .i64) h,.row false (.int .u8) (apB x l room e)])
 | _,_=>none
theorem hR_:zd_ Tryz.prog 178 (RcF gt_).sum:=by
 refine u5_ Tryz.func178 zad_ (za_ (s:=RoF KL_) WW_ (za_ (s:=RwF zy_) zE_ (za_ (s:=RoF Ki_) yH_ (za_ (s:=RwF zu_) zz_ (zc_ _))))) fun args objs p v e=>?_
 unfold gt_ at e
 split at e
 ·rename_i x room e l sq h
  cases e
  change List Int at l
  change List AC at x
  refine ⟨rfl,fun hw' ho hp=>?_⟩
  clear hw' ho
  obtain ⟨hok,hp1,hp2,hp3⟩:=hp
  have hok':=hok
  have hn:=hok.n
  cases hr:rgL x with
  | false=>
    have e1:apE x l room e=zt_ e 10001:=by unfold apE;rw [hr];rfl
    rw [e1]
    repeat'(intro t ht;first|(cases t<;>first|(cases ht;done)|(try simp only[zg_]at ht;try(exfalso;first|contradiction|omega)))|((first|refine zb_ ht ?_|refine ht ?_ ?_|refine ht.1 ?_ ?_|refine ht ?_)<;>clear ht))
    all_goals first
     | exact True.intro
     | exact hok
     | (exfalso;simp_all;done)
     | exact ⟨rfl,rfl⟩
  | true=>
    have q1:apE x l room e=(wrS exA eeA room x l e).2:=if_pos hr
    have q2:apB x l room e=(wrS exA eeA room x l e).1:=if_pos hr
    rw [q1,q2]
    repeat'(intro t ht;first|(cases t<;>first|(cases ht;done)|(try simp only[zg_]at ht;try(exfalso;first|contradiction|omega)))|((first|refine zb_ ht ?_|refine ht ?_ ?_|refine ht.1 ?_ ?_|refine ht ?_)<;>clear ht))
    all_goals first
     | exact True.intro
     | exact hok
     | (exfalso;simp_all;done)
     | (intro r h1 h2;clear h1;refine h2 ⟨[0,13,14,15],Option (Nat × List Int × Int),(fun a=>match a with | none=>True | some a=>0 < a.1/\a.1<=x.length/\a.2.1.length<=1000000/\wrS exA eeA room x l e=wrS exA eeA room (x.drop a.1) a.2.1 a.2.2),(fun a=>match a with | none=>[.ptr 0 0,.imm Y2 x,.int .i64 x.length,.int .i64 0] | some a=>[.ptr 0 0,.imm Y2 x,.int .i64 x.length,.int .i64 a.1]),(fun a=>match a with | none=>[.box [.own 1,.int .i64 room,.mapv 2,.int .i64 e],.row false (.int .u8) l,.map sq (.int .i64) (.int .i64) h] | some a=>[.box [.own 3,.int .i64 room,.mapv 2,.int .i64 a.2.2],.dead,.map sq (.int .i64) (.int .i64) h,.row false (.int .u8) a.2.1]),(fun a=>match a with | none=>x.length+1 | some a=>x.length - a.1),⟨none,True.intro,rfl,rfl⟩,?_⟩;clear h2)
    rintro (_ | ⟨i,b,f⟩) hJ
    ·repeat'(intro t ht;first|(cases t<;>first|(cases ht;done)|(try simp only[zg_]at ht;try(exfalso;first|contradiction|omega)))|((first|refine zb_ ht ?_|refine ht ?_ ?_|refine ht.1 ?_ ?_|refine ht ?_)<;>clear ht))
     all_goals (try generalize (Ty.dflt Y2)=od at*)
     all_goals first
      | exact True.intro
      | ((try simp only [zm_,zn_,zl_] at*);omega)
      | exact ⟨hp1,hp2,hp3,zgP_ (a:=x.getD 0 od)⟩
      | exact zgs_ (hok'.a _ (zU_ (show 0 < x.length by omega) od))
      | (have hx:x=[]:=List.eq_nil_of_length_eq_zero (by omega)
         subst hx;exact ⟨rfl,rfl⟩)
      | (have hs:=bX_ (x:=exA) (f:=eeA) (room:=room) (l:=x) (i:=0) (d:=od) (b:=l) (e:=e) (by omega)
         refine ⟨some (1,kB_ (exA (x.getD 0 od)) l room (zt_ e (eeA (x.getD 0 od))),QS_ (exA (x.getD 0 od)) l room (zt_ e (eeA (x.getD 0 od)))),⟨Nat.one_pos,?_,?_,hs⟩,?_,rfl,rfl⟩
         ·dsimp only;omega
         ·exact Q8_ hp3 hp2
         ·dsimp only;omega)
    ·obtain ⟨hi0,hi,hb,he⟩:=hJ
     dsimp only at hi0 hi hb he
     repeat'(intro t ht;first|(cases t<;>first|(cases ht;done)|(try simp only[zg_]at ht;try(exfalso;first|contradiction|omega)))|((first|refine zb_ ht ?_|refine ht ?_ ?_|refine ht.1 ?_ ?_|refine ht ?_)<;>clear ht))
     all_goals (try generalize (Ty.dflt Y2)=od at*)
     all_goals first
      | exact True.intro
      | ((try simp only [zm_,zn_,zl_] at*);omega)
      | exact ⟨hp1,hp2,hb,zgP_ (a:=x.getD i od)⟩
      | exact zgs_ (hok'.a _ (zU_ (show i < x.length by omega) od))
      | (rw [List.drop_of_length_le (show x.length<=i by omega)] at he
         have h1:wrS exA eeA room x l e=(b,f):=he
         rw [h1,decide_eq_true (show 0 < x.length by omega)];exact ⟨rfl,rfl⟩)
      | (refine ⟨some (i+1,kB_ (exA (x.getD i od)) b room (zt_ f (eeA (x.getD i od))),QS_ (exA (x.getD i od)) b room (zt_ f (eeA (x.getD i od)))),⟨?_,?_,?_,he.trans (bX_ (d:=od) (show i < x.length by omega))⟩,?_,rfl,rfl⟩
         ·dsimp only;omega
         ·dsimp only;omega
         ·exact Q8_ hb hp2
         ·dsimp only;omega)
 ·cases e
theorem h7_:zd_ Tryz.prog 178 (RwF yo_).sum:=by
 refine yO_ hR_ fun args objs p v o e=>?_
 unfold yo_ at e
 split at e
 ·rename_i x room e l sq h
  cases e
  cases hb:(rgL x && decide (0 < x.length)) with
  | true=>exact ⟨_,_,rfl,KY_ hb,.inl rfl⟩
  | false=>
    refine ⟨_,_,rfl,QZ_ hb,.inr ⟨0,1,[],[.int .i64 room,.mapv 2,.int .i64 (apE x l room e)],.int .u8,l,rfl,rfl,?_⟩⟩
    have e1:apB x l room e=l:=by
     unfold apB
     split
     ·rename_i hr
      rw [hr,Bool.true_and,decide_eq_false_iff_not] at hb
      have hx:x=[]:=List.eq_nil_of_length_eq_zero (by omega)
      subst hx;rfl
     ·rfl
    rw [e1];rfl
 ·cases e
def boA (l:List AC):List Int:=l.flatMap ebA
theorem K4_ (o:AC) (r:List AC):boA (o :: r)=ebA o++boA r:=List.flatMap_cons
theorem bM_:∀ (l:List AC),l.all rgA=true->((boA l).length:Int)=smL l/\8*l.length<=(boA l).length
 | [],_=>⟨rfl,Nat.le_refl _⟩
 | o :: r,h=>by
   rw [List.all_cons,Bool.and_eq_true] at h
   obtain ⟨i1,i2⟩:=bM_ r h.2
   have hs:=us_ h.1
   unfold smL at i1 ⊢
   rw [K4_,List.length_append,List.map_cons,List.sum_cons,List.length_cons];omega
theorem Jb_ {l:List AC} (h:rgL l=true):l.all rgA=true/\l.length<=64/\(boA l).length<=65528/\szL l=(boA l).length:=by
 unfold rgL at h
 rw [Bool.or_eq_true,decide_eq_true_eq,decide_eq_true_eq] at h
 rcases h with h | h
 ·have:l=[]:=List.eq_nil_of_length_eq_zero h
  subst this;exact ⟨rfl,Nat.zero_le _,Nat.zero_le _,rfl⟩
 ·unfold szL at h ⊢
  by_cases h1:64 < l.length
  ·rw [if_pos h1] at h;omega
  ·rw [if_neg h1] at h ⊢
   by_cases h2:l.all rgA=true
   ·rw [if_pos h2] at h ⊢
    by_cases h3:65528 < smL l
    ·rw [if_pos h3] at h;omega
    ·rw [if_neg h3]
     obtain ⟨b1,b2⟩:=bM_ l h2
     exact ⟨h2,by omega,by omega,b1.symm⟩
   ·rw [if_neg h2] at h;omega
theorem zjq_ {l:List AC} (h1:l.all rgA=true) (h2:l.length<=64) (h3:(boA l).length<=65528):rgL l=true:=by
 obtain ⟨b1,b2⟩:=bM_ l h1
 unfold rgL szL
 rw [if_neg (by omega),if_pos h1,if_neg (by omega),Bool.or_eq_true,decide_eq_true_eq,decide_eq_true_eq]
 omega
theorem zi3_ {a:AC} (h:rgA a=true):exA a=ebA a/\eeA a=0:=⟨if_pos h,if_pos h⟩
theorem zft_ {room:Int}:∀ (r:List AC) (l:List Int),r.all rgA=true->(l.length:Int)+(boA r).length<=room->wrS exA eeA room r l 0=(l++boA r,0)
 | [],l,_,_=>by unfold boA wrS;simp
 | o :: r,l,h,hl=>by
   rw [List.all_cons,Bool.and_eq_true] at h
   obtain ⟨h2,h3⟩:=zi3_ h.1
   rw [K4_,List.length_append] at hl
   obtain ⟨b1,b2⟩:=xC_ (x:=ebA o) (l:=l) (room:=room) (by omega)
   have f0:zt_ 0 0=0:=rfl
   unfold wrS
   rw [h2,h3,f0,b1,b2,zft_ r (l++ebA o) h.2 (by rw [List.length_append];omega),K4_,List.append_assoc]
theorem zld_ {x:List AC} {l:List Int} {room:Int} (h:rgL x=true) (hl:(l.length:Int)+(boA x).length<=room):apB x l room 0=l++boA x/\apE x l room 0=0:=by
 unfold apB apE
 rw [if_pos h,if_pos h,zft_ x l (Jb_ h).1 hl];exact ⟨rfl,rfl⟩
theorem zhc_ {x:List AC} {l:List Int} {room e:Int} (h:rgL x=false):apB x l room e=l/\apE x l room e=zt_ e 10001:=by
 unfold apB apE;rw [h];exact ⟨rfl,rfl⟩
def vA (y:List Int):AC:=(tT y,acA y 0,acA y 1,(acS y (zC_ (bd y)),acS y (zT_ (bd y)),acH y,acS y (q6_ (bd y)),acV y (Z7_ (bd y)),acV y (Z4_ (bd y)),()),acD y,())
def alG (acc:List AC) (y:List Int):List AC × Int:=
 if y.length=0 then (acc,0) else if acc.length=64 then ([],520) else if ¬ acE y=0 then ([],acE y) else alG (acc++[vA y]) (y.drop (max 1 (tN y).toNat))
termination_by y.length
decreasing_by all_goals (rw [List.length_drop];omega)
theorem Xf_ {acc:List AC} {y:List Int} (h:y.length=0):alG acc y=(acc,0):=by rw [alG,if_pos h]
theorem zbz_ {acc:List AC} {y:List Int} (h:¬ y.length=0) (h1:acc.length=64):alG acc y=([],520):=by rw [alG,if_neg h,if_pos h1]
theorem bP_ {acc:List AC} {y:List Int} (h:¬ y.length=0) (h1:¬ acc.length=64) (h2:¬ acE y=0):alG acc y=([],acE y):=by rw [alG,if_neg h,if_neg h1,if_pos h2]
theorem bO_ {acc:List AC} {y:List Int} (h:¬ y.length=0) (h1:¬ acc.length=64) (h2:acE y=0) (hn:1<=tN y):alG acc y=alG (acc++[vA y]) (y.drop (tN y).toNat):=by
 rw [alG,if_neg h,if_neg h1,if_neg (not_not_intro h2),show max 1 (tN y).toNat=(tN y).toNat by omega]
theorem zdo_ {b:List Int} (h0:acE b=0):8<=tN b/\tN b<=b.length/\(tN b).tmod 8=0:=by
 have hT:tlE b 8 8 514=0:=Classical.byContradiction fun h=>by
  unfold acE at h0;rw [if_pos h] at h0;exact h h0
 unfold tlE at hT
 by_cases h1:b.length < 4
 ·rw [if_pos h1] at hT;cases hT
 ·rw [if_neg h1] at hT
  by_cases h2:tN b < 8\/¬ (tN b).tmod 8=0
  ·rw [if_pos h2] at hT;cases hT
  ·rw [if_neg h2] at hT
   by_cases h3:(b.length:Int) < tN b
   ·rw [if_pos h3] at hT;cases hT
   ·omega
def adE (b:List Int):Int:=if ¬ (alG [] b).2=0 then (alG [] b).2 else if 65528 < b.length then 514 else 0
def adL (b:List Int):List AC:=if adE b=0 then (alG [] b).1 else []
theorem zdn_ {b:List Int} {e:Int} (h:(alG [] b).2=e) (h0:¬ e=0):adL b=[]/\adE b=e:=by
 have:adE b=e:=by unfold adE;rw [h,if_pos h0]
 exact ⟨by unfold adL;rw [this,if_neg h0],this⟩
theorem vn_ {b:List Int} {acc:List AC} (h:alG [] b=(acc,0)):(65528 < b.length->adL b=[]/\adE b=514)/\(¬ 65528 < b.length->adL b=acc/\adE b=0):=by
 have e:adE b=if 65528 < b.length then 514 else 0:=by unfold adE;rw [h];rfl
 constructor
 ·intro hl
  rw [if_pos hl] at e
  exact ⟨by unfold adL;rw [e];rfl,e⟩
 ·intro hl
  rw [if_neg hl] at e
  exact ⟨by unfold adL;rw [e,h];rfl,e⟩
def bu_:IR:=
(sq (kr [0] [oD 1 (.boxv 0),
oD 2 (.mov (.c (.undef)))])
(sq (.reg [oD 3 (.mkfn 213 [] [1]),
oM 2 3])
.ret))
def Hx_:List RD:=[.tmp 2 true none]
theorem HW_:zj_ Tryz.prog Tryz.f198 bu_ Hx_=true:=by kernel_rfl
def xQ_:List AV->List Obj->Option (Prop × AV × List Obj)
 | [.imm (.int .u8) b],[]=>some ((True,.fn 213 [] [.ptr 0 0],[.box [.imm (.int .u8) b]]))
 | _,_=>none
theorem gH_:zd_ Tryz.prog 198 (RwF xQ_).sum:=by
 refine qg_ Tryz.func198 HW_ (zc_ _) fun args objs p v o e=>?_
 unfold xQ_ at e
 split at e
 ·rename_i b
  cases e
  refine ⟨rfl,fun hw ho hp=>?_⟩
  change List Int at b
  repeat'(intro t ht;first|(cases t<;>first|(cases ht;done)|(try simp only[zg_]at ht;try(exfalso;first|contradiction|omega)))|((first|refine zb_ ht ?_|refine ht ?_ ?_|refine ht.1 ?_ ?_|refine ht ?_)<;>clear ht))
  all_goals first
   | exact True.intro
   | exact ⟨rfl,rfl⟩
 ·cases e
def UT_:IR:=
(sq (kr [0] [oD 2 (.box [.nils]),
oD 3 (.box [.int .i64 0])])
(sq (.reg [oD 4 (.box [.nils])])
(sq (sq (.reg [oM 7 0,
oC 8 198 [7]])
(.block 0
(.rng 8 [9,10] [0,2,3,4] 213
(sq (kr [2,3,4,9,10] [oD 5 (.box [.int .i64 0,.int .u64 0,.int .u64 0,.int .i64 0,.int .i64 0,.kb false,.int .u64 0,.nils,.nils,.nils]),
oS 10 5 9])
(.reg [oM 6 10]))
(.block 1
(sq (sq (kr [2,3,4,5,6] [oM 11 6,
oB 12 .neq 11 (cI 0)])
(.cond 12
(sq (.reg [oM 13 6,
oN (.store 1 2 (.c (.nils))),
oS 1 3 13])
.ret)
.skip))
(.reg [oL 14 4,
oK 15 10 5,
oD 16 (.sliceAll Y2 1 [(0,10,15)]),
oD 17 (.append Y2 128 14 16),
oS 1 4 17])))
(sq (kr [0,1] [oD 3 (.mov (cI 0))])
(.block 0
(.loop
(sq (sq (kr [0,1,3] [oL 7 1,
oE 8 7,
oB 9 .gtr 8 (cI 0)])
(.cond 9
.skip
(.exit 0)))
(sq (.block 1
(sq (sq (.reg [oM 12 3,
oB 13 .eql 12 (cI 64)])
(.cond 13
(sq (.keep [0]
(.yld [oM 14 0,
oD 15 (.build [.int .i64 0,.int .u64 0,.int .u64 0,.int .i64 0,.int .i64 0,.kb false,.int .u64 0,.imm (.int .u8) [],.imm (.int .u8) [],.imm (.int .u8) []] [])] (some 16) (.t 14) [(.t 15),(.c (.int .i64 520))] [] []))
.ret)
.skip))
(sq (kr [0,1,3] [oL 18 1,
oC 19 214 [18],
oM 17 19,
oX 20 17 0,
oX 21 17 1,
oX 22 17 2,
oD 4 (.box [.int .i64 0,.int .u64 0,.int .u64 0,.int .i64 0,.int .i64 0,.kb false,.int .u64 0,.imm (.int .u8) [],.imm (.int .u8) [],.imm (.int .u8) []]),
oS 10 4 20,
oM 5 21,
oM 6 22])
(sq (sq (.keep [0,1,3,4,5,6]
(.yld [oM 23 0,
oK 24 10 4,
oM 25 6] (some 26) (.t 23) [(.t 24),(.t 25)] [0,1,3,5,6] [oD 27 (.un .not 26),
oM 28 27,
oF 28 29 (.mov 6),
oF 28 30 (.bin .neq 29 (cI 0)),
oP 31 28 cT 30]))
(.cond 31
.ret
.skip))
(kr [0,1,3,5] [oL 32 1,
oM 33 5,
oD 34 (.slice 1 32 (some 33) none none),
oS 1 1 34])))))
(kr [0,1,3] [oM 10 3,
oB 11 .add 10 (cI 1),
oM 3 11])))))))))
(sq (sq (kr [0,2,3,4] [oM 18 0,
oE 19 18,
oB 20 .gtr 19 (cI 65528)])
(.cond 20
(sq (.reg [oN (.store 1 2 (.c (.nils))),
oN (.store 1 3 (cI 514))])
.ret)
.skip))
(sq (.reg [oL 21 4,
oS 1 2 21,
oN (.store 1 3 (cI 0))])
.ret)))))
def u1_:List RD:=[.cell 2 none true [(some Y2)],.cell 3 none true []]
theorem Ut_:zj_ Tryz.prog Tryz.f182 UT_ u1_=true:=by kernel_rfl
def jT_:List AV->List Obj->Option (Prop × AV)
 | [.imm (.int .u8) b],[]=>some ((b.length<=100000000,.tup [.imm Y2 (adL b),.int .i64 (adE b)]))
 | _,_=>none
theorem Vk_:zd_ Tryz.prog 182 (RoF jT_).sum:=by
 refine zi_ Tryz.func182 Ut_ (za_ (s:=RoF Kj_) yI_ (za_ (s:=RwF xQ_) gH_ (zc_ _))) fun args objs p v e=>?_
 unfold jT_ at e
 split at e
 ·rename_i b
  cases e
  refine ⟨rfl,fun hw ho hp=>?_⟩
  change List Int at b
  clear hw ho
  repeat'(intro t ht;first|(cases t<;>first|(cases ht;done)|(try simp only[zg_]at ht;try(exfalso;first|contradiction|omega)))|((first|refine zb_ ht ?_|refine ht ?_ ?_|refine ht.1 ?_ ?_|refine ht ?_)<;>clear ht))
  all_goals first
   | exact True.intro
   | (refine .inl fun lr ln=>?_)
  repeat'(intro t ht;first|(cases t<;>first|(cases ht;done)|(try simp only[zg_]at ht;try(exfalso;first|contradiction|omega)))|((first|refine zb_ ht ?_|refine ht ?_ ?_|refine ht.1 ?_ ?_|refine ht ?_)<;>clear ht))
  all_goals first
   | exact True.intro
   | (intro r h1 h2;clear h1;refine h2 ⟨[0,1,3],Option (List AC × List Int),(fun a=>match a with | none=>True | some a=>a.1.length<=64/\a.2.length<=b.length/\alG [] b=alG a.1 a.2),(fun a=>match a with | none=>[.yv ln,.ptr 0 0,.int .i64 0] | some a=>[.yv ln,.ptr 0 0,.int .i64 a.1.length]),(fun a=>match a with | none=>[.box [.imm (.int .u8) b],.box [.nils],.box [.int .i64 0],.box [.nils],.lrec lr 0] | some a=>[.box [.imm (.int .u8) a.2],.box [.nils],.box [.int .i64 0],.box [.own 5],.lrec lr 0,.row false Y2 a.1]),(fun a=>match a with | none=>b.length+1 | some a=>a.2.length),⟨none,True.intro,rfl,rfl⟩,?_⟩;clear h2)
  rintro (_ | ⟨acc,y⟩) hJ
  ·clear hJ
   repeat'(intro t ht;first|(cases t<;>first|(cases ht;done)|(try simp only[zg_]at ht;try(exfalso;first|contradiction|omega)))|((first|refine zb_ ht ?_|refine ht ?_ ?_|refine ht.1 ?_ ?_|refine ht ?_)<;>clear ht))
   all_goals (try dsimp only at*)
   all_goals first
    | exact True.intro
    | ((try simp only [zm_,zn_,zl_] at*);omega)
    | exact ⟨rfl,rfl⟩
    | (have hg:=Xf_ (acc:=[]) (y:=b) (by omega)
       rw [((vn_ hg).2 (by omega)).1,((vn_ hg).2 (by omega)).2];exact ⟨rfl,rfl⟩)
    | (simp only [qd_,List.length_cons,List.length_nil];constructor<;>omega)
    | (have h0:acE b=0:=by assumption
       obtain ⟨g1,g2,_⟩:=zdo_ h0
       have e1:∀ x,acI b x=x:=fun x=>if_pos h0
       first
        | (rw [e1];constructor<;>omega)
        | (have hm:=bO_ (acc:=[]) (by omega) (by decide) h0 (by omega)
           refine ⟨some ([]++[vA b],b.drop (tN b).toNat),⟨by simp,?_,hm⟩,?_,rfl,?_⟩
           ·dsimp only;rw [List.length_drop];omega
           ·dsimp only;rw [List.length_drop];omega
           ·dsimp only;rw [e1,e1];rfl))
    | (have h0:¬ acE b=0:=by assumption
       have hm:=bP_ (acc:=[]) (by omega) (by decide) h0
       obtain ⟨d1,d2⟩:=zdn_ (b:=b) (e:=acE b) (by rw [hm]) h0
       rw [d1,d2];exact ⟨rfl,rfl⟩)
  ·obtain ⟨j1,j2,j3⟩:=hJ
   dsimp only at j1 j2 j3
   repeat'(intro t ht;first|(cases t<;>first|(cases ht;done)|(try simp only[zg_]at ht;try(exfalso;first|contradiction|omega)))|((first|refine zb_ ht ?_|refine ht ?_ ?_|refine ht.1 ?_ ?_|refine ht ?_)<;>clear ht))
   all_goals (try dsimp only at*)
   all_goals first
    | exact True.intro
    | ((try simp only [zm_,zn_,zl_] at*);omega)
    | exact ⟨rfl,rfl⟩
    | (have hg:=Xf_ (acc:=acc) (y:=y) (by omega)
       rw [<- j3] at hg
       first
        | (obtain ⟨d1,d2⟩:=(vn_ hg).1 (by omega)
           rw [d1,d2];exact ⟨rfl,rfl⟩)
        | (obtain ⟨d1,d2⟩:=(vn_ hg).2 (by omega)
           rw [d1,d2];exact ⟨rfl,rfl⟩))
    | (simp only [qd_,List.length_cons,List.length_nil];constructor<;>omega)
    | (have hm:=zbz_ (acc:=acc) (y:=y) (by omega) (by omega)
       rw [<- j3] at hm
       obtain ⟨d1,d2⟩:=zdn_ (b:=b) (e:=520) (by rw [hm]) (by decide)
       rw [d1,d2];exact ⟨rfl,rfl⟩)
    | (have h0:acE y=0:=by assumption
       obtain ⟨g1,g2,_⟩:=zdo_ h0
       have e1:∀ x,acI y x=x:=fun x=>if_pos h0
       first
        | (rw [e1];constructor<;>omega)
        | (have hm:=bO_ (acc:=acc) (by omega) (by omega) h0 (by omega)
           refine ⟨some (acc++[vA y],y.drop (tN y).toNat),⟨?_,?_,j3.trans hm⟩,?_,?_,?_⟩
           ·simp only [List.length_append,List.length_cons,List.length_nil];omega
           ·dsimp only;rw [List.length_drop];omega
           ·dsimp only;rw [List.length_drop];omega
           ·dsimp only;rw [List.length_append];rfl
           ·dsimp only;rw [e1,e1];rfl))
    | (have h0:¬ acE y=0:=by assumption
       have hm:=bP_ (acc:=acc) (y:=y) (by omega) (by omega) h0
       rw [<- j3] at hm
       obtain ⟨d1,d2⟩:=zdn_ (b:=b) (e:=acE y) (by rw [hm]) h0
       rw [d1,d2];exact ⟨rfl,rfl⟩)
 ·cases e
def smA (a b:AC):Bool:=hg_ a.1 a.2.1 a.2.2.1 a.2.2.2.1.1 a.2.2.2.1.2.1 a.2.2.2.1.2.2.1 a.2.2.2.1.2.2.2.1 a.2.2.2.1.2.2.2.2.1 a.2.2.2.1.2.2.2.2.2.1 a.2.2.2.2.1 b.1 b.2.1 b.2.2.1 b.2.2.2.1.1 b.2.2.2.1.2.1 b.2.2.2.1.2.2.1 b.2.2.2.1.2.2.2.1 b.2.2.2.1.2.2.2.2.1 b.2.2.2.1.2.2.2.2.2.1 b.2.2.2.2.1
theorem zkC_ {a b:AC} (h:smA a b=true):a=b:=by
 obtain ⟨a1,a2,a3,⟨a4,a5,a6,a7,a8,a9,_⟩,a10,_⟩:=a
 obtain ⟨b1,b2,b3,⟨b4,b5,b6,b7,b8,b9,_⟩,b10,_⟩:=b
 unfold smA hg_ QH_ at h
 simp only [Bool.and_eq_true,decide_eq_true_eq,beq_iff_eq] at h
 obtain ⟨⟨⟨⟨h1,h2⟩,h3⟩,⟨⟨⟨⟨⟨h4,h5⟩,h7⟩,h6⟩,h8⟩,h9⟩⟩,h10⟩:=h
 rw [h1,h2,h3,h4,h5,h6,h7,h8,h9,h10]
theorem zkD_ {a b:AC} (h:smA a b=false):¬ a=b:=fun e=>by
 rw [e] at h;unfold smA at h;rw [zbR_] at h;cases h
def zaH_:IR:=
(sq (kr [0,1] [oD 4 (.mov cF)])
(sq (sq (kr [0,1] [oM 6 0,
oE 7 6,
oM 8 1,
oE 9 8,
oB 10 .neq 7 9])
(.cond 10
(sq (.reg [oD 4 (.mov cF)])
.ret)
.skip))
(sq (sq (kr [0,1] [oD 5 (.mov (cI 0))])
(.block 0
(.loop
(sq (sq (kr [0,1,5] [oM 11 5,
oM 12 0,
oE 13 12,
oB 14 .lss 11 13])
(.cond 14
.skip
(.exit 0)))
(sq (.block 1
(sq (kd [0,1,5] [(oM 17 0,[]),
(oM 18 5,[0]),
(oI 19 10 17 18,[]),
(oK 20 10 19,[]),
(oM 21 1,[0,0,0,0]),
(oM 22 5,[0,0,0,0,0]),
(oI 23 10 21 22,[2,0,0,0]),
(oK 24 10 23,[3,0,0,0]),
(oC 25 111 [20,24],[]),
(oD 26 (.un .not 25),[])])
(.cond 26
(sq (kr [] [oD 4 (.mov cF)])
.ret)
.skip)))
(kr [0,1,5] [oM 15 5,
oB 16 .add 15 (cI 1),
oM 5 16]))))))
(sq (kr [] [oD 4 (.mov cT)])
.ret))))
def Br_:List RD:=[.tmp 4 true none]
theorem BY_:zj_ Tryz.prog Tryz.f55 zaH_ Br_=true:=by kernel_rfl
def K6_:List AV->List Obj->Option (Prop × AV)
 | [.imm ty0 a,.imm ty1 b],[]=>ZM_ ty0 Y2 a fun a=>ZM_ ty1 Y2 b fun b=>some ((True,.bool (decide ((a:List AC)=b))))
 | _,_=>none
theorem JA_:zd_ Tryz.prog 55 (RoF K6_).sum:=by
 refine zi_ Tryz.func55 BY_ (za_ (s:=RoF yj_) h2_ (zc_ _)) fun args objs p v e=>?_
 unfold K6_ at e
 split at e
 ·rename_i ty0 a ty1 b
  obtain rfl:=zN_ e
  replace e:=zO_ e
  obtain rfl:=zN_ e
  replace e:=zO_ e
  cases e
  refine ⟨rfl,fun hw ho hp=>?_⟩
  change List AC at a
  change List AC at b
  have hl:a.length<=maxLen:=(hw (.imm Y2 a) (by simp)).2
  unfold maxLen at hl
  clear hw ho
  repeat'(intro t ht;first|(cases t<;>first|(cases ht;done)|(try simp only[zg_]at ht))|((first|refine zb_ ht ?_|refine ht ?_ ?_|refine ht.1 ?_ ?_|refine ht ?_)<;>clear ht))
  all_goals first
   | (have hne:a ≠ b:=fun h=>(by assumption:¬ (a.length:Int)=b.length) (by rw [h])
      refine ⟨?_,rfl⟩;rw [decide_eq_false hne];done)
   | (intro r h1 h2;clear h1;refine h2 ⟨[0,1,5],Nat,(fun i=>i<=a.length/\a.take i=b.take i),fun i=>[.imm Y2 a,.imm Y2 b,.int .i64 i],fun _=>[],fun i=>a.length - i,⟨0,⟨Nat.zero_le _,rfl⟩,rfl,rfl⟩,?_⟩;clear h2)
  rintro i ⟨hi,he⟩
  have hl2:a.length=b.length:=by omega
  repeat'(intro t ht;first|(cases t<;>first|(cases ht;done)|(try simp only[zg_]at ht;try(exfalso;first|contradiction|omega)))|((first|refine zb_ ht ?_|refine ht ?_ ?_|refine ht.1 ?_ ?_|refine ht ?_)<;>clear ht))
  all_goals (try generalize (Ty.dflt Y2)=od at*)
  all_goals first
   | exact True.intro
   | ((try simp only [zm_,zn_,zl_] at*);omega)
   | (have e:=Km_ he (by omega) hl2
      refine ⟨?_,rfl⟩;rw [decide_eq_true e];done)
   | (have hs:smA (a.getD i od) (b.getD i od)=false:=by assumption
      have hne:a ≠ b:=Xr_ (d:=od) (i:=i) (zkD_ hs)
      refine ⟨?_,rfl⟩;rw [decide_eq_false hne];done)
   | (have hs:smA (a.getD i od) (b.getD i od)=true:=by assumption
      exact ⟨i+1,⟨by omega,Qf_ he (by omega) hl2 (d:=od) (zkC_ hs)⟩,by (try simp only [zm_,zn_,zl_] at*);omega,rfl,rfl⟩)
 ·cases e
theorem xY_ {α:Type} {l:List α} {i:Nat} {d:α} (h:i < l.length):l.take i++[l.getD i d]=l.take (i+1):=by
 rw [List.take_succ_eq_append_getElem h,List.getD_eq_getElem?_getD,List.getElem?_eq_getElem h];rfl
end Go.Eng
namespace Go.Eng
open Go.Proofs
set_option linter.unusedVariables false
set_option linter.unusedSimpArgs false
set_option maxRecDepth 100000
set_option maxHeartbeats 1000000
set_option maxHeartbeats 8000000
end Go.Eng
namespace Go.Eng
open Go.Proofs
set_option linter.unusedVariables false
set_option linter.unusedSimpArgs false
set_option maxRecDepth 100000
set_option maxHeartbeats 1000000
def bysA (a:AC):Prop:=0<=a.2.2.2.1.2.2.2.1/\(∀ x ∈ a.2.2.2.1.2.2.2.2.1,0<=x/\x<=255)/\(∀ x ∈ a.2.2.2.1.2.2.2.2.2.1,0<=x/\x<=255)/\(∀ x ∈ a.2.2.2.2.1,0<=x/\x<=255)/\(0<=a.2.1/\a.2.1<=18446744073709551615)/\(0<=a.2.2.1/\a.2.2.1<=18446744073709551615)
theorem zkn_ {l:List AC} (h:Ty.wf (.sl Y2) l):∀ o ∈ l,bysA o:=fun o ho=>by
 obtain ⟨h1,h2,h3,⟨g1,g2,g3,g4,g5,g6,_⟩,h5,_⟩:=h.1 o ho
 have u8:∀ {v:List Int},Ty.wf (.sl (.int .u8)) v->∀ x ∈ v,0<=x/\x<=255:=fun {v} hv x hx=>by
  have:=hv.1 x hx;unfold Ty.wf inK at this;rw [zcD_,zcH_] at this;exact this
 have u64:∀ {n:Int},Ty.wf (.int .u64) n->0<=n/\n<=18446744073709551615:=fun {n} hn=>by
  unfold Ty.wf inK at hn;rw [V7_,H5_] at hn;exact hn
 exact ⟨(u64 g4).1,u8 g5,u8 g6,u8 h5,u64 h2,u64 h3⟩
def atL (n:Int) (b:List Int) (p sh e:Int):List AC:=if ZW_ n b p sh e=0 then adL (Ql_ n b p sh e) else []
def atE (n:Int) (b:List Int) (p sh e:Int):Int:=if ZW_ n b p sh e=0 then adE (Ql_ n b p sh e) else ZW_ n b p sh e
theorem zex_ {n:Int} {b:List Int} {p sh e:Int}:(Ql_ n b p sh e).length<=b.length:=by
 unfold Ql_;split
 ·rw [List.length_drop,List.length_take];omega
 ·simp
def bv_:IR:=
(sq (kr [0,1] [oD 4 (.mov (.c (.imm Y2 [])))])
(sq (.reg [oM 8 0,
oM 9 1,
oC 10 98 [8,9],
oM 5 10])
(sq (sq (.reg [oM 11 0,
oC 12 43 [11],
oB 13 .neq 12 (cI 0)])
(.cond 13
(sq (kr [] [oD 4 (.mov (.c (.imm Y2 [])))])
.ret)
.skip))
(sq (kr [0,5] [oM 15 5,
oC 16 182 [15],
oM 14 16,
oX 17 14 0,
oX 18 14 1,
oM 6 17,
oM 7 18])
(sq (kr [0,6,7] [oM 19 0,
oM 20 7,
oC 21 44 [19,20]])
(sq (.reg [oM 22 6,
oM 4 22])
.ret))))))
def Hy_:List RD:=[.tmp 4 true (some Y2)]
theorem HX_:zj_ Tryz.prog Tryz.f161 bv_ Hy_=true:=by kernel_rfl
def xR_:List AV->List Obj->Option (Prop × AV × List Obj)
 | [.ptr 0 0,.int .i64 n],[.box [.imm (.int .u8) b,.int .i64 p,.int .i64 sh,.int .i64 od,.int .i64 e,.bool true]]=>some ((0<=p/\p<=b.length/\b.length<=100000000/\sh ≠ 0,.imm Y2 (atL n b p sh e),[.box [.imm (.int .u8) b,.int .i64 (jm_ n b p sh e),.int .i64 sh,.int .i64 od,.int .i64 (atE n b p sh e),.bool true]]))
 | _,_=>none
theorem gI_:zd_ Tryz.prog 161 (RwF xR_).sum:=by
 refine qg_ Tryz.func161 HX_ (za_ (s:=RwF zK_) zY_ (za_ (s:=RoF zp_) zq_ (za_ (s:=RoF jT_) Vk_ (za_ (s:=RwF zr_) zs_ (zc_ _))))) fun args objs p v o e=>?_
 unfold xR_ at e
 split at e
 ·rename_i n b p sh od e
  cases e
  refine ⟨rfl,fun hw ho hp=>?_⟩
  change List Int at b
  clear hw ho
  obtain ⟨h1,h2,h3,h4⟩:=hp
  have hl:=zex_ (n:=n) (b:=b) (p:=p) (sh:=sh) (e:=e)
  by_cases he:ZW_ n b p sh e=0
  ·have f0:∀ x,zt_ 0 x=x:=fun x=>if_pos rfl
   have k1:atL n b p sh e=adL (Ql_ n b p sh e):=if_pos he
   have k2:atE n b p sh e=adE (Ql_ n b p sh e):=if_pos he
   rw [k1,k2]
   clear k1 k2
   repeat'(intro t ht;first|(cases t<;>first|(cases ht;done)|(try simp only[zg_]at ht))|((first|refine zb_ ht ?_|refine ht ?_ ?_|refine ht.1 ?_ ?_|refine ht ?_)<;>clear ht))
   all_goals (try simp only [he,f0] at*)
   all_goals first
    | exact True.intro
    | contradiction
    | exact ⟨h1,h2,by omega,h4⟩
    | omega
    | exact ⟨rfl,by first | rfl | exact True.intro⟩
    | exact ⟨True.intro,True.intro⟩
    | (exfalso;simp_all;done)
  ·repeat'(intro t ht;first|(cases t<;>first|(cases ht;done)|(try simp only[zg_]at ht;try(exfalso;first|contradiction|omega)))|((first|refine zb_ ht ?_|refine ht ?_ ?_|refine ht.1 ?_ ?_|refine ht ?_)<;>clear ht))
   all_goals first
    | exact True.intro
    | exact ⟨h1,h2,by omega,h4⟩
    | (unfold atL atE;rw [if_neg he,if_neg he];exact ⟨rfl,by first | rfl | exact True.intro⟩)
    | (exfalso;simp_all;done)
 ·cases e
abbrev BK:=Int × Int × Int × List AC × Unit
instance:DecidableEq (List AC × Unit):=inferInstance
instance:DecidableEq BK:=inferInstance
def w5:List Int:=[2,2,4,4,-4]
structure okB (l:List BK):Prop where
 a:∀ o ∈ l,okL o.2.2.2.1
 n:l.length<=1000000
theorem zdw_ {α:Type} {x:α->List Int} {f:α->Int} {room:Int} (hr:room<=1000000):∀ (r:List α) (l:List Int) (e:Int),l.length<=1000000->(wrS x f room r l e).1.length<=1000000
 | [],l,e,h=>h
 | o :: r,l,e,h=>zdw_ hr r _ _ (Q8_ h hr)
theorem QI_ {e x:Int} (h:e ≠ 0):zt_ e x ≠ 0:=by unfold zt_;rw [if_neg h];exact h
theorem Ky_ {x l:List Int} {room e:Int} (h:e ≠ 0):QS_ x l room e ≠ 0:=by unfold QS_;rw [if_neg h];exact h
theorem zhJ_ {w xs l:List Int} {room e:Int} (h:e ≠ 0):qG_ w xs l room e ≠ 0:=by
 unfold qG_;split
 ·exact Ky_ h
 ·exact QI_ h
theorem zbI_ {α:Type} {x:α->List Int} {f:α->Int} {room:Int}:∀ (r:List α) (l:List Int) (e:Int),e ≠ 0->(wrS x f room r l e).2 ≠ 0
 | [],l,e,h=>h
 | o :: r,l,e,h=>zbI_ r _ _ (Ky_ (QI_ h))
theorem zkj_ {x:List AC} {l:List Int} {room e:Int} (h:e ≠ 0):apE x l room e ≠ 0:=by
 unfold apE;split
 ·exact zbI_ _ _ _ h
 ·exact QI_ h
theorem xD_ {x l:List Int} {room:Int} (h:¬ (x.length:Int)<=room - l.length):QS_ x l room 0 ≠ 0:=by
 unfold QS_;rw [if_pos rfl,if_neg h];decide
theorem bY_ {room:Int}:∀ (r:List AC) (l:List Int),r.all rgA=true->(l.length:Int)<=room->¬ ((l.length:Int)+(boA r).length<=room)->(wrS exA eeA room r l 0).2 ≠ 0
 | [],l,_,h0,h1=>by exfalso;apply h1;show (l.length:Int)+0<=room;omega
 | o :: r,l,h,h0,h1=>by
   rw [List.all_cons,Bool.and_eq_true] at h
   obtain ⟨h2,h3⟩:=zi3_ h.1
   rw [K4_,List.length_append] at h1
   have f0:zt_ 0 0=0:=rfl
   unfold wrS
   rw [h2,h3,f0]
   by_cases hf:((ebA o).length:Int)<=room - l.length
   ·obtain ⟨b1,b2⟩:=xC_ hf
    rw [b1,b2]
    exact bY_ r _ h.2 (by rw [List.length_append];omega) (by rw [List.length_append];omega)
   ·exact zbI_ _ _ _ (xD_ hf)
def bysU (a:AC):Prop:=0<=a.2.2.2.1.2.2.2.1/\(0<=a.2.1/\a.2.1<=18446744073709551615)/\(0<=a.2.2.1/\a.2.2.1<=18446744073709551615)
theorem zjd_ {a:AC} {rest:List Int} (hr:rgA a=true) (hu:bysU a):acE (ebA a++rest)=0/\vA (ebA a++rest)=a/\tN (ebA a++rest)=(ebA a).length:=by
 obtain ⟨E1,E2,E3,E4,E5,E6,E7,E8,E9,E10,E11,E12⟩:=zkq_ (rest:=rest) (show ZT_ (zL_ a.2.2.2.1.1 a.2.2.2.1.2.1 a.2.2.2.1.2.2.1 a.2.2.2.1.2.2.2.1 a.2.2.2.1.2.2.2.2.1 a.2.2.2.1.2.2.2.2.2.1) a.1 a.2.1 a.2.2.1 a.2.2.2.1.1 a.2.2.2.1.2.1 a.2.2.2.1.2.2.1 a.2.2.2.1.2.2.2.1 a.2.2.2.1.2.2.2.2.1 a.2.2.2.1.2.2.2.2.2.1 a.2.2.2.2.1=true from hr) hu.2.1 hu.2.2 hu.1
 have hs:=us_ hr
 have e:szA a=4+((Z6_ a.1 a.2.1 a.2.2.1 (Zq_ a.2.2.2.1.1 a.2.2.2.1.2.1 a.2.2.2.1.2.2.1 a.2.2.2.1.2.2.2.1 a.2.2.2.1.2.2.2.2.1 a.2.2.2.1.2.2.2.2.2.1) a.2.2.2.2.1).length:Int):=(xZ_ hr).1
 refine ⟨E1,?_,?_⟩
 ·show (tT _,acA _ 0,acA _ 1,(acS _ _,acS _ _,acH _,acS _ _,acV _ _,acV _ _,()),acD _,())=a
  unfold ebA
  rw [E2,E4,E5,E6,E7,E8,E9,E10,E11,E12]
 ·unfold ebA at hs ⊢
  rw [E3];omega
theorem zeo_:∀ (r acc:List AC),r.all rgA=true->(∀ a ∈ r,bysU a)->acc.length+r.length<=64->alG acc (boA r)=(acc++r,0)
 | [],acc,_,_,_=>by rw [Xf_ (by rfl),List.append_nil]
 | a :: r,acc,h,hu,hl=>by
   rw [List.all_cons,Bool.and_eq_true] at h
   obtain ⟨e1,e2,e3⟩:=zjd_ (rest:=boA r) h.1 (hu a (List.mem_cons_self ..))
   have hs:=us_ h.1
   rw [List.length_cons] at hl
   have ha:acc++a :: r=(acc++[a])++r:=by rw [List.append_assoc];rfl
   rw [K4_,bO_ (by rw [List.length_append];omega) (by omega) e1 (by rw [e3];omega),e2,e3,Int.toNat_natCast,List.drop_left]
   rw [zeo_ r (acc++[a]) h.2 (fun o ho=>hu o (List.mem_cons_of_mem _ ho)) (by rw [List.length_append,List.length_singleton];omega),<- ha]
theorem zep_:∀ (n:Nat) (y:List Int) (acc l:List AC),y.length<=n->(∀ x ∈ y,0<=x/\x<=255)->acc.length<=64->alG acc y=(l,0)->∃ r,l=acc++r/\r.all rgA=true/\boA r=y/\l.length<=64
 | 0,y,acc,l,hn,hb,ha,h=>by
   rw [Xf_ (by omega)] at h
   cases h
   refine ⟨[],by rw [List.append_nil],rfl,?_,ha⟩
   rw [List.eq_nil_of_length_eq_zero (show y.length=0 by omega)];rfl
 | n+1,y,acc,l,hn,hb,ha,h=>by
   by_cases h0:y.length=0
   ·rw [Xf_ h0] at h
    cases h
    refine ⟨[],by rw [List.append_nil],rfl,?_,ha⟩
    rw [List.eq_nil_of_length_eq_zero h0];rfl
   ·by_cases h1:acc.length=64
    ·rw [zbz_ h0 h1] at h
     exact absurd (congrArg Prod.snd h) (show ¬ (520:Int)=0 by decide)
    ·by_cases h2:acE y=0
     ·obtain ⟨g1,g2,_⟩:=zdo_ h2
      rw [bO_ h0 h1 h2 (by omega)] at h
      obtain ⟨r,e1,e2,e3,e4⟩:=zep_ n (y.drop (tN y).toNat) (acc++[vA y]) l (by rw [List.length_drop];omega) (fun x hx=>hb x (List.mem_of_mem_drop hx)) (by rw [List.length_append,List.length_singleton];omega) h
      obtain ⟨f1,f2,_,_⟩:=zkr_ hb h2
      refine ⟨vA y :: r,?_,?_,?_,e4⟩
      ·rw [e1,List.append_assoc];rfl
      ·rw [List.all_cons,e2,Bool.and_true];exact f1
      ·rw [K4_,e3]
       have:ebA (vA y)=y.take (tN y).toNat:=f2
       rw [this,List.take_append_drop]
     ·rw [bP_ h0 h1 h2] at h
      exact absurd (congrArg Prod.snd h) h2
theorem zhh_ {l:List AC} (h:rgL l=true) (hu:∀ a ∈ l,bysU a):adL (boA l)=l/\adE (boA l)=0:=by
 obtain ⟨h1,h2,h3,_⟩:=Jb_ h
 have hg:=zeo_ l [] h1 hu (by simpa using h2)
 rw [List.nil_append] at hg
 exact (vn_ hg).2 (by omega)
theorem zkm_ {b:List Int} (hb:∀ x ∈ b,0<=x/\x<=255) (h:adE b=0):rgL (adL b)=true/\boA (adL b)=b/\b.length<=65528:=by
 have h1:(alG [] b).2=0:=Classical.byContradiction fun hn=>by
  unfold adE at h;rw [if_pos hn] at h;exact hn h
 have h2:¬ 65528 < b.length:=fun hl=>by
  unfold adE at h;rw [if_neg (not_not_intro h1),if_pos hl] at h;cases h
 have hL:adL b=(alG [] b).1:=if_pos h
 obtain ⟨r,e1,e2,e3,e4⟩:=zep_ b.length b [] (alG [] b).1 (Nat.le_refl _) hb (Nat.zero_le _) (Prod.ext rfl h1)
 rw [List.nil_append] at e1
 rw [hL]
 rw [<- e1] at e2 e3
 exact ⟨zjq_ e2 e4 (by rw [e3];omega),e3,by omega⟩
def smB (x y:BK):Bool:=decide (x.1=y.1) && decide (x.2.1=y.2.1) && decide (x.2.2.1=y.2.2.1) && decide (x.2.2.2.1=y.2.2.2.1)
theorem zkB_ {x y:BK} (h:smB x y=true):x=y:=by
 obtain ⟨a,b,c,d,_⟩:=x
 obtain ⟨a',b',c',d',_⟩:=y
 unfold smB at h
 simp only [Bool.and_eq_true,decide_eq_true_eq] at h
 obtain ⟨⟨⟨h1,h2⟩,h3⟩,h4⟩:=h
 rw [h1,h2,h3,h4]
theorem zkP_ {x y:BK} (h:¬ (x.1=y.1/\x.2.1=y.2.1/\x.2.2.1=y.2.2.1/\x.2.2.2.1=y.2.2.2.1)):¬ x=y:=fun e=>h (by rw [e];exact ⟨rfl,rfl,rfl,rfl⟩)
theorem zj6_ {x y:BK} (h:x.1=y.1/\x.2.1=y.2.1/\x.2.2.1=y.2.2.1/\x.2.2.2.1=y.2.2.2.1):x=y:=zkB_ (by unfold smB;rw [h.1,h.2.1,h.2.2.1,h.2.2.2];simp)
def zaF_:IR:=
(sq (kr [0,1] [oD 4 (.mov cF)])
(sq (sq (kr [0,1] [oM 8 0,
oE 9 8,
oM 10 1,
oE 11 10,
oB 12 .neq 9 11])
(.cond 12
(sq (.reg [oD 4 (.mov cF)])
.ret)
.skip))
(sq (sq (kr [0,1] [oD 5 (.mov (cI 0))])
(.block 0
(.loop
(sq (sq (kr [0,1,5] [oM 13 5,
oM 14 0,
oE 15 14,
oB 16 .lss 13 15])
(.cond 16
.skip
(.exit 0)))
(sq (.block 1
(sq (kd [0,1,5] [(oM 19 0,[]),
(oM 20 5,[0]),
(oI 21 4 19 20,[]),
(oK 22 4 21,[]),
(oM 23 1,[0,0,0,0]),
(oM 24 5,[0,0,0,0,0]),
(oI 25 4 23 24,[2,0,0,0]),
(oK 26 4 25,[3,0,0,0]),
(oD 6 (.box [.int .u64 0,.int .u64 0,.int .u64 0,.imm Y2 []]),[0,0,0,0,0,0,0,0]),
(oD 7 (.box [.int .u64 0,.int .u64 0,.int .u64 0,.imm Y2 []]),[0,0,0,0,0,0,0,0,0]),
(oS 4 6 22,[2,0,0,0]),
(oS 4 7 26,[])])
(sq (kr [0,1,5,6,7] [oA 27 0 6,
oL 28 27,
oA 29 0 7,
oL 30 29,
oB 31 .eql 28 30,
oM 32 31,
oT 32 33 (.fieldAddr 1 6),
oT 32 34 (.load none 33),
oT 32 35 (.fieldAddr 1 7),
oT 32 36 (.load none 35),
oT 32 37 (.bin .eql 34 36),
oP 38 32 37 cF,
oM 39 38,
oT 39 40 (.fieldAddr 2 6),
oT 39 41 (.load none 40),
oT 39 42 (.fieldAddr 2 7),
oT 39 43 (.load none 42),
oT 39 44 (.bin .eql 41 43),
oP 45 39 44 cF,
oM 46 45,
oT 46 47 (.fieldAddr 3 6),
oT 46 48 (.load none 47),
oT 46 49 (.fieldAddr 3 7),
oT 46 50 (.load none 49),
oT 46 51 (.call false (.f 55) [48,50]),
oP 52 46 51 cF,
oD 53 (.un .not 52)])
(.cond 53
(sq (kr [] [oD 4 (.mov cF)])
.ret)
.skip))))
(kr [0,1,5] [oM 17 5,
oB 18 .add 17 (cI 1),
oM 5 18]))))))
(sq (kr [] [oD 4 (.mov cT)])
.ret))))
def Bp_:List RD:=[.tmp 4 true none]
theorem BW_:zj_ Tryz.prog Tryz.f57 zaF_ Bp_=true:=by kernel_rfl
def wu_:List AV->List Obj->Option (Prop × AV)
 | [.imm ty0 a,.imm ty1 b],[]=>ZM_ ty0 Y4 a fun a=>ZM_ ty1 Y4 b fun b=>some ((True,.bool (decide ((a:List BK)=b))))
 | _,_=>none
theorem yz_:zd_ Tryz.prog 57 (RoF wu_).sum:=by
 refine zi_ Tryz.func57 BW_ (za_ (s:=RoF K6_) JA_ (zc_ _)) fun args objs p v e=>?_
 unfold wu_ at e
 split at e
 ·rename_i ty0 a ty1 b
  obtain rfl:=zN_ e
  replace e:=zO_ e
  obtain rfl:=zN_ e
  replace e:=zO_ e
  cases e
  refine ⟨rfl,fun hw ho hp=>?_⟩
  change List BK at a
  change List BK at b
  have hl:a.length<=maxLen:=(hw (.imm Y4 a) (by simp)).2
  unfold maxLen at hl
  clear hw ho
  repeat'(intro t ht;first|(cases t<;>first|(cases ht;done)|(try simp only[zg_]at ht))|((first|refine zb_ ht ?_|refine ht ?_ ?_|refine ht.1 ?_ ?_|refine ht ?_)<;>clear ht))
  all_goals first
   | (have hne:a ≠ b:=fun h=>(by assumption:¬ (a.length:Int)=b.length) (by rw [h])
      refine ⟨?_,rfl⟩;rw [decide_eq_false hne];done)
   | (intro r h1 h2;clear h1;refine h2 ⟨[0,1,5],Nat,(fun i=>i<=a.length/\a.take i=b.take i),fun i=>[.imm Y4 a,.imm Y4 b,.int .i64 i],fun _=>[],fun i=>a.length - i,⟨0,⟨Nat.zero_le _,rfl⟩,rfl,rfl⟩,?_⟩;clear h2)
  rintro i ⟨hi,he⟩
  have hl2:a.length=b.length:=by omega
  repeat'(intro t ht;first|(cases t<;>first|(cases ht;done)|(try simp only[zg_]at ht;try(exfalso;first|contradiction|omega)))|((first|refine zb_ ht ?_|refine ht ?_ ?_|refine ht.1 ?_ ?_|refine ht ?_)<;>clear ht))
  all_goals (try generalize (Ty.dflt Y4)=od at*)
  all_goals first
   | exact True.intro
   | ((try simp only [zm_,zn_,zl_] at*);omega)
   | (have e:=Km_ he (by omega) hl2
      refine ⟨?_,rfl⟩;rw [decide_eq_true e];done)
   | (have hne:a ≠ b:=Xr_ (d:=od) (i:=i) (zkP_ fun h=>by simp_all)
      refine ⟨?_,rfl⟩;rw [decide_eq_false hne];done)
   | (have hs:a.getD i od=b.getD i od:=zj6_ (by simp_all)
      exact ⟨i+1,⟨by omega,Qf_ he (by omega) hl2 (d:=od) hs⟩,by (try simp only [zm_,zn_,zl_] at*);omega,rfl,rfl⟩)
   | skip
 ·cases e
def fwB (x:BK):Bool:=bD_ x.2.2.2.1
def fewB (l:List BK):Bool:=l.all fwB && decide (l.length<=20)
def zcV_:IR:=
(sq (kr [0] [oD 2 (.mov cF)])
(sq (sq (.reg [oD 3 (.mov (cI 0))])
(.block 0
(.loop
(sq (sq (kr [0,3] [oM 4 3,
oM 5 0,
oE 6 5,
oB 7 .lss 4 6])
(.cond 7
.skip
(.exit 0)))
(sq (.block 1
(sq (kr [0,3] [oM 10 0,
oM 11 3,
oI 12 4 10 11,
oA 13 3 12,
oL 14 13,
oC 15 19 [14],
oD 16 (.un .not 15)])
(.cond 16
(sq (kr [] [oD 2 (.mov cF)])
.ret)
.skip)))
(kr [0,3] [oM 8 3,
oB 9 .add 8 (cI 1),
oM 3 9]))))))
(sq (kr [0] [oM 17 0,
oE 18 17,
oB 19 .leq 18 (cI 20),
oM 2 19])
.ret)))
def zb4_:List RD:=[.tmp 2 true none]
theorem zco_:zj_ Tryz.prog Tryz.f21 zcV_ zb4_=true:=by kernel_rfl
def Xk_:List AV->List Obj->Option (Prop × AV)
 | [.imm ty0 l],[]=>ZM_ ty0 Y4 l fun l=>some ((True,.bool (fewB l)))
 | _,_=>none
theorem vH_:zd_ Tryz.prog 21 (RoF Xk_).sum:=by
 refine zi_ Tryz.func21 zco_ (za_ (s:=RoF Jq_) WK_ (zc_ _)) fun args objs p v e=>?_
 unfold Xk_ at e
 split at e
 ·rename_i ty0 l
  obtain rfl:=zN_ e
  replace e:=zO_ e
  cases e
  refine ⟨rfl,fun hw ho hp=>?_⟩
  change List BK at l
  have hl:l.length<=maxLen:=(hw (.imm Y4 l) (by simp)).2
  unfold maxLen at hl
  clear hw ho
  repeat'(intro t ht;first|(cases t<;>first|(cases ht;done)|(try simp only[zg_]at ht))|((first|refine zb_ ht ?_|refine ht ?_ ?_|refine ht.1 ?_ ?_|refine ht ?_)<;>clear ht))
  all_goals first
   | (intro r h1 h2;clear h1;refine h2 ⟨[0,3],Nat,(fun i=>i<=l.length/\(l.take i).all fwB=true),fun i=>[.imm Y4 l,.int .i64 i],fun _=>[],fun i=>l.length - i,⟨0,⟨Nat.zero_le _,rfl⟩,rfl,rfl⟩,?_⟩;clear h2)
  rintro i ⟨hi,he⟩
  repeat'(intro t ht;first|(cases t<;>first|(cases ht;done)|(try simp only[zg_]at ht;try(exfalso;first|contradiction|omega)))|((first|refine zb_ ht ?_|refine ht ?_ ?_|refine ht.1 ?_ ?_|refine ht ?_)<;>clear ht))
  all_goals (try generalize (Ty.dflt Y4)=od at*)
  all_goals first
   | exact True.intro
   | ((try simp only [zm_,zn_,zl_] at*);omega)
   | (have h:=Z0_ (by omega) he
      refine ⟨?_,rfl⟩;unfold fewB;rw [h,Bool.true_and];congr 1;exact decide_eq_decide.2 (by omega))
   | (have hf:fwB (l.getD i od)=true:=by assumption
      exact ⟨i+1,⟨by omega,Zv_ (d:=od) (by omega) he hf⟩,by dsimp only;omega,rfl,rfl⟩)
   | (have hf:fwB (l.getD i od)=false:=by assumption
      have h:fewB l=false:=by unfold fewB;rw [ZF_ (d:=od) (show i < l.length by omega) hf,Bool.false_and]
      refine ⟨?_,rfl⟩;rw [h];done)
   | skip
 ·cases e
end Go.Eng
