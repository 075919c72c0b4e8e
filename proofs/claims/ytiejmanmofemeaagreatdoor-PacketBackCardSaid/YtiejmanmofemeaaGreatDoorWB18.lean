/- Parts of the proof: A9, H1, H2, H3, H4, Z1, F6, Z3, Z4. No condition. -/
import Derived.Test.YtiejmanmofemeaaGreatDoorProg
import Derived.Test.YtiejmanmofemeaaGreatDoorWB10
import Derived.KernelRfl
import Derived.Test.YtiejmanmofemeaaGreatDoorWB17
import Derived.Test.YtiejmanmofemeaaGreatDoorWB14
import Derived.Test.YtiejmanmofemeaaGreatDoorWB15
import Derived.Test.YtiejmanmofemeaaGreatDoorWB12
namespace Go.Eng
open Go.Proofs
set_option linter.unusedVariables false
set_option linter.unusedSimpArgs false
set_option maxRecDepth 100000
set_option maxHeartbeats 1000000
theorem Bx_ {b:List Int} (h:acE b ≠ 0):(∀ x,acI b x=0)/\(∀ k,acA b k=0)/\(∀ x,acS b x=0)/\acH b=false/\(∀ l,acV b l=[])/\acD b=[]:=by
 have hI:∀ x,acI b x=0:=fun x=>if_neg h
 refine ⟨hI,fun k=>hI _,fun x=>hI _,?_,fun l=>if_neg h,if_neg h⟩
 unfold acH;rw [decide_eq_false h];rfl
theorem zkY_ {b:List Int} (h:acE b=0) (h25:tT b=25):(∀ x,acI b x=x)/\(∀ k,acA b k=0)/\(∀ x,acS b x=x)/\acH b=ZK_ (bd b)/\(∀ l,acV b l=l)/\acD b=[]:=by
 have hI:∀ x,acI b x=x:=fun x=>if_pos h
 refine ⟨hI,fun k=>(hI _).trans (if_pos h25),fun x=>(hI _).trans (if_pos h25),?_,fun l=>(if_pos h).trans (if_pos h25),(if_pos h).trans (if_pos h25)⟩
 unfold acH;rw [decide_eq_true h,decide_eq_true h25];rfl
theorem zkZ_ {b:List Int} (h:acE b=0) (h25:¬ tT b=25):(∀ x,acI b x=x)/\(∀ k,acA b k=(zC_ (zv_ (tT b)) (bd b)).getD k 0)/\(∀ x,acS b x=0)/\acH b=false/\(∀ l,acV b l=[])/\acD b=(bd b).drop (zE_ (zv_ (tT b))).toNat:=by
 have hI:∀ x,acI b x=x:=fun x=>if_pos h
 refine ⟨hI,fun k=>(hI _).trans (if_neg h25),fun x=>(hI _).trans (if_neg h25),?_,fun l=>(if_pos h).trans (if_neg h25),(if_pos h).trans (if_neg h25)⟩
 unfold acH;rw [decide_eq_false h25];simp
def vi_:IR:=
(sq (kr [0] [oD 2 (.box [.int .i64 0,.int .u64 0,.int .u64 0,.int .i64 0,.int .i64 0,.kb false,.int .u64 0,.imm (.int .u8) [],.imm (.int .u8) [],.imm (.int .u8) []]),
oD 3 (.mov (cI 0)),
oD 4 (.mov (cI 0))])
(sq (kr [0,2] [oD 12 (.build [.int .i64 0,.int .i64 0,.kb false,.int .i64 0,.int .i64 0] [(0,1,(cI 8)),(1,1,(cI 8)),(3,1,(cI 514)),(4,1,(cI 514))]),
oM 13 0,
oC 14 50 [12,13],
oM 11 14,
oX 15 11 0,
oX 16 11 1,
oX 17 11 2,
oD 5 (.box [.int .i64 0,.imm (.int .u8) []]),
oS 2 5 15,
oM 6 16,
oM 7 17])
(sq (sq (kr [2,5,6,7] [oM 18 7,
oB 19 .neq 18 (cI 0)])
(.cond 19
(sq (.reg [oD 20 (.build [.int .i64 0,.int .u64 0,.int .u64 0,.int .i64 0,.int .i64 0,.kb false,.int .u64 0,.imm (.int .u8) [],.imm (.int .u8) [],.imm (.int .u8) []] []),
oM 21 7,
oS 10 2 20,
oD 3 (.mov (cI 0)),
oM 4 21])
.ret)
.skip))
(sq (kr [2,5,6] [oA 22 0 5,
oL 23 22,
oD 24 (.build [.int .i64 0,.int .u64 0,.int .u64 0,.int .i64 0,.int .i64 0,.kb false,.int .u64 0,.imm (.int .u8) [],.imm (.int .u8) [],.imm (.int .u8) []] [(0,1,23)]),
oD 8 (.box [.int .i64 0,.int .u64 0,.int .u64 0,.int .i64 0,.int .i64 0,.kb false,.int .u64 0,.imm (.int .u8) [],.imm (.int .u8) [],.imm (.int .u8) []]),
oS 10 8 24])
(sq (kr [2,5,6,8] [oA 26 0 5,
oL 27 26,
oC 28 204 [27],
oM 25 28,
oX 29 25 0,
oX 30 25 1,
oM 9 29,
oM 10 30])
(sq (.block 0
(sq (kr [2,5,6,8,9,10] [oA 32 0 5,
oL 33 32,
oB 34 .eql 33 (cI 25),
oM 31 34])
(.cond 31
(kr [2,5,6,8] [oA 36 1 5,
oL 37 36,
oC 38 234 [37],
oM 35 38,
oX 39 35 0,
oX 40 35 1,
oA 41 3 8,
oS 6 41 39,
oM 7 40])
(sq (.reg [oM 43 10,
oM 42 43])
(.cond 42
(kr [2,5,6,8,9] [oK 45 10 8,
oM 46 9,
oA 47 1 5,
oL 48 47,
oC 49 235 [45,46,48],
oM 44 49,
oX 50 44 0,
oX 51 44 1,
oS 10 8 50,
oM 7 51])
(kr [2,6,8] [oD 7 (.mov (cI 513))]))))))
(sq (sq (kr [2,6,7,8] [oM 52 7,
oB 53 .neq 52 (cI 0)])
(.cond 53
(sq (.reg [oD 54 (.build [.int .i64 0,.int .u64 0,.int .u64 0,.int .i64 0,.int .i64 0,.kb false,.int .u64 0,.imm (.int .u8) [],.imm (.int .u8) [],.imm (.int .u8) []] []),
oM 55 7,
oS 10 2 54,
oD 3 (.mov (cI 0)),
oM 4 55])
.ret)
.skip))
(sq (kr [2,6,8] [oK 56 10 8,
oM 57 6,
oS 10 2 56,
oM 3 57,
oD 4 (.mov (cI 0))])
.ret))))))))
def Y4_:List RD:=[.cell 2 (some 10) true [],.tmp 3 true none,.tmp 4 true none]
theorem vb_:zn_ Tryz.prog Tryz.f220 vi_ Y4_=true:=by kernel_rfl
def Kl_:List AV->List Obj->Option (Prop × AV)
 | [.imm (.int .u8) b],[]=>some ((b.length<=140737488355328,.tup [.agg [.int .i64 (acI b (tT b)),.int .u64 (acA b 0),.int .u64 (acA b 1),.int .i64 (acS b (zz_ (bd b))),.int .i64 (acS b (zO_ (bd b))),.bool (acH b),.int .u64 (acS b (Qa_ (bd b))),.imm (.int .u8) (acV b (qd_ (bd b))),.imm (.int .u8) (acV b (qa_ (bd b))),.imm (.int .u8) (acD b)],.int .i64 (acI b (tN b)),.int .i64 (acE b)]))
 | _,_=>none
theorem y1_:zd_ Tryz.prog 220 (RoF Kl_).sum:=by
 refine zi_ Tryz.func220 vb_ (za_ (s:=RoF vB_) BH_ (za_ (s:=RoF qA_) QB_ (za_ (s:=RoF wP_) uI_ (za_ (s:=RoF jf_) YV_ (zc_ _))))) fun args objs p v e=>?_
 unfold Kl_ at e
 split at e
 ·rename_i b
  cases e
  refine ⟨rfl,fun hw ho hp=>?_⟩
  change List Int at b
  have hb:∀ x ∈ (b:List Int),(0:Int)<=x/\x<=255:=fun x hx=>(hw (.imm (.int .u8) b) (by simp)).1 x hx
  clear hw ho
  have hbl:=zjN_ hb
  have hs:(False=False)/\(4<=(8:Int)/\(8:Int)<=60000/\1<=(8:Int)/\(8:Int)<=64/\(514:Int) ≠ 0/\(514:Int) ≠ 0):=⟨rfl,by decide,by decide,by decide,by decide,by decide,by decide⟩
  by_cases hT:tlE b 8 8 514=0
  ·have hI:∀ x,tlI b 8 8 514 x=x:=fun x=>if_pos hT
   have hR:tlR b 8 8 514=bd b:=if_pos hT
   by_cases h25:tT b=25
   ·have hE:acE b=VD_ (bd b):=by unfold acE;rw [if_neg (not_not_intro hT),if_pos h25]
    by_cases h0:VD_ (bd b)=0
    ·have hd0:zM_ (bd b)=0:=Classical.byContradiction fun h=>by
      unfold VD_ at h0;rw [if_neg h] at h0
      split at h0
      ·cases h0
      ·split at h0<;>cases h0
     have hdI:∀ x,Zz_ (bd b) x=x:=fun x=>if_pos hd0
     have hdR:∀ l,qe_ (bd b) l=l:=fun l=>if_pos hd0
     obtain ⟨n1,n2,n3,n4,n5,n6⟩:=zkY_ (hE.trans h0) h25
     rw [n1,n2,n2,n3,n3,n3,n4,n5,n5,n6,n1,hE,h0]
     repeat'(intro t ht;first|(cases t<;>first|(cases ht;done)|(try simp only[zg_]at ht;try(exfalso;first|contradiction|omega)))|((first|refine zb_ ht ?_|refine ht ?_ ?_|refine ht.1 ?_ ?_|refine ht ?_)<;>clear ht))
     all_goals (try simp only [hT,hI,hR,h0,h25,hdI,hdR,if_pos hd0,not_true_eq_false] at*)
     all_goals first
      | exact True.intro
      | omega
      | exact ⟨by first | rfl | exact True.intro,⟨by decide,by decide,by decide,by decide,by decide,by decide⟩,hp⟩
      | exact ⟨rfl,by first | rfl | exact True.intro⟩
         | exact ⟨True.intro,True.intro⟩
    ·obtain ⟨n1,n2,n3,n4,n5,n6⟩:=Bx_ (b:=b) (by rw [hE];exact h0)
     rw [n1,n2,n2,n3,n3,n3,n4,n5,n5,n6,n1,hE]
     repeat'(intro t ht;first|(cases t<;>first|(cases ht;done)|(try simp only[zg_]at ht;try(exfalso;first|contradiction|omega)))|((first|refine zb_ ht ?_|refine ht ?_ ?_|refine ht.1 ?_ ?_|refine ht ?_)<;>clear ht))
     all_goals (try simp only [hT,hI,hR,h25,not_true_eq_false] at*)
     all_goals first
      | exact True.intro
      | omega
      | exact ⟨by first | rfl | exact True.intro,⟨by decide,by decide,by decide,by decide,by decide,by decide⟩,hp⟩
      | exact ⟨rfl,by first | rfl | exact True.intro⟩
         | exact ⟨True.intro,True.intro⟩
   ·cases hK:uK_ (tT b) with
    | false=>
      have hE:acE b=513:=by unfold acE;rw [if_neg (not_not_intro hT),if_neg h25,hK];rfl
      obtain ⟨n1,n2,n3,n4,n5,n6⟩:=Bx_ (b:=b) (by rw [hE];decide)
      rw [n1,n2,n2,n3,n3,n3,n4,n5,n5,n6,n1,hE]
      repeat'(intro t ht;first|(cases t<;>first|(cases ht;done)|(try simp only[zg_]at ht;try(exfalso;first|contradiction|omega)))|((first|refine zb_ ht ?_|refine ht ?_ ?_|refine ht.1 ?_ ?_|refine ht ?_)<;>clear ht))
      all_goals (try simp only [hT,hI,hR,not_true_eq_false] at*)
      all_goals first
       | exact True.intro
       | omega
       | exact ⟨by first | rfl | exact True.intro,⟨by decide,by decide,by decide,by decide,by decide,by decide⟩,hp⟩
       | exact ⟨rfl,by first | rfl | exact True.intro⟩
          | exact ⟨True.intro,True.intro⟩
       | (exfalso;simp_all;done)
    | true=>
      have hE:acE b=plE (tT b) (bd b):=by unfold acE;rw [if_neg (not_not_intro hT),if_neg h25,if_pos hK]
      by_cases h0:plE (tT b) (bd b)=0
      ·obtain ⟨n1,n2,n3,n4,n5,n6⟩:=zkZ_ (hE.trans h0) h25
       have hm:¬ (¬ tT b=65535/\¬ ((bd b).length:Int)=zE_ (zv_ (tT b))):=fun h=>by unfold plE at h0;rw [if_pos h] at h0;cases h0
       have hA:∀ k,plA (tT b) (bd b) k=(zC_ (zv_ (tT b)) (bd b)).getD k 0:=fun k=>if_neg hm
       have hD:plD (tT b) (bd b)=(bd b).drop (zE_ (zv_ (tT b))).toNat:=if_pos h0
       rw [n1,n2,n2,n3,n3,n3,n4,n5,n5,n6,n1,hE,h0]
       repeat'(intro t ht;first|(cases t<;>first|(cases ht;done)|(try simp only[zg_]at ht;try(exfalso;first|contradiction|omega)))|((first|refine zb_ ht ?_|refine ht ?_ ?_|refine ht.1 ?_ ?_|refine ht ?_)<;>clear ht))
       all_goals (try simp only [hT,hI,hR,h0,hA,hD,not_true_eq_false] at*)
       all_goals first
        | exact True.intro
        | omega
        | exact ⟨by first | rfl | exact True.intro,⟨by decide,by decide,by decide,by decide,by decide,by decide⟩,hp⟩
        | exact ⟨rfl,by first | rfl | exact True.intro⟩
          | exact ⟨True.intro,True.intro⟩
        | exact ⟨trivial,by omega⟩
        | (exfalso;simp_all;done)
      ·obtain ⟨n1,n2,n3,n4,n5,n6⟩:=Bx_ (b:=b) (by rw [hE];exact h0)
       rw [n1,n2,n2,n3,n3,n3,n4,n5,n5,n6,n1,hE]
       repeat'(intro t ht;first|(cases t<;>first|(cases ht;done)|(try simp only[zg_]at ht;try(exfalso;first|contradiction|omega)))|((first|refine zb_ ht ?_|refine ht ?_ ?_|refine ht.1 ?_ ?_|refine ht ?_)<;>clear ht))
       all_goals (try simp only [hT,hI,hR,not_true_eq_false] at*)
       all_goals first
        | exact True.intro
        | omega
        | exact ⟨by first | rfl | exact True.intro,⟨by decide,by decide,by decide,by decide,by decide,by decide⟩,hp⟩
        | exact ⟨rfl,by first | rfl | exact True.intro⟩
          | exact ⟨True.intro,True.intro⟩
        | exact ⟨trivial,by omega⟩
        | (exfalso;simp_all;done)
  ·have hE:acE b=tlE b 8 8 514:=by unfold acE;rw [if_pos hT]
   obtain ⟨n1,n2,n3,n4,n5,n6⟩:=Bx_ (b:=b) (by rw [hE];exact hT)
   rw [n1,n2,n2,n3,n3,n3,n4,n5,n5,n6,n1,hE]
   repeat'(intro t ht;first|(cases t<;>first|(cases ht;done)|(try simp only[zg_]at ht;try(exfalso;first|contradiction|omega)))|((first|refine zb_ ht ?_|refine ht ?_ ?_|refine ht.1 ?_ ?_|refine ht ?_)<;>clear ht))
   all_goals first
    | exact True.intro
    | exact ⟨by first | rfl | exact True.intro,⟨by decide,by decide,by decide,by decide,by decide,by decide⟩,hp⟩
    | exact ⟨rfl,by first | rfl | exact True.intro⟩
            | exact ⟨True.intro,True.intro⟩
 ·cases e
def zd2_:IR:=
(sq (kr [0] [oD 1 (.boxv 0),
oD 2 (.mov cF)])
(sq (kr [1] [oA 3 3 1,
oK 4 6 3,
oC 5 132 [4],
oM 6 5,
oT 6 7 (.fieldAddr 9 1),
oT 6 8 (.load none 7),
oT 6 9 (.len 8),
oT 6 10 (.bin .leq 9 (cI 500)),
oP 11 6 10 cF,
oM 2 11])
.ret))
def zc6_:List RD:=[.tmp 2 true none]
theorem zdw_:zn_ Tryz.prog Tryz.f110 zd2_ zc6_=true:=by kernel_rfl
def vI_:List AV->List Obj->Option (Prop × AV)
 | [.agg [.int .i64 q,.int .u64 a,.int .u64 b,.int .i64 c,.int .i64 f,.bool h,.int .u64 x,.imm (.int .u8) v,.imm (.int .u8) m,.imm (.int .u8) d]],[]=>some ((True,.bool (decide (v.length<=300) && decide (m.length<=300) && decide (d.length<=500))))
 | _,_=>none
theorem BO_:zd_ Tryz.prog 110 (RoF vI_).sum:=by
 refine zi_ Tryz.func110 zdw_ (za_ (s:=RoF Xo_) v2_ (zc_ _)) fun args objs p v e=>?_
 unfold vI_ at e
 split at e
 ·rename_i q a b c f h x v m d
  cases e
  refine ⟨rfl,fun hw ho hp=>?_⟩
  change List Int at v
  change List Int at m
  change List Int at d
  clear hw ho
  repeat'(intro t ht;first|(cases t<;>first|(cases ht;done)|(try simp only[zg_]at ht;try(exfalso;first|contradiction|omega)))|((first|refine zb_ ht ?_|refine ht ?_ ?_|refine ht.1 ?_ ?_|refine ht ?_)<;>clear ht))
  all_goals first
   | exact True.intro
   | (refine ⟨congrArg AV.bool ?_,rfl⟩;simp_all;done)
   | (refine ⟨congrArg AV.bool ?_,rfl⟩;simp_all;omega)
 ·cases e
def zbE_:IR:=
(sq (kr [0,1] [oD 2 (.boxv 0),
oD 3 (.boxv 1),
oD 4 (.mov cF)])
(sq (kr [2,3] [oA 5 0 2,
oL 6 5,
oA 7 0 3,
oL 8 7,
oB 9 .eql 6 8,
oM 10 9,
oT 10 11 (.fieldAddr 1 2),
oT 10 12 (.load none 11),
oT 10 13 (.fieldAddr 1 3),
oT 10 14 (.load none 13),
oT 10 15 (.bin .eql 12 14),
oP 16 10 15 cF,
oM 17 16,
oT 17 18 (.fieldAddr 2 2),
oT 17 19 (.load none 18),
oT 17 20 (.fieldAddr 2 3),
oT 17 21 (.load none 20),
oT 17 22 (.bin .eql 19 21),
oP 23 17 22 cF,
oM 24 23,
oT 24 25 (.fieldAddr 3 2),
oT 24 26 (.load (some 6) 25),
oT 24 27 (.fieldAddr 3 3),
oT 24 28 (.load (some 6) 27),
oT 24 29 (.call false (.f 153) [26,28]),
oP 30 24 29 cF,
oM 31 30,
oT 31 32 (.fieldAddr 9 2),
oT 31 33 (.load none 32),
oT 31 34 (.fieldAddr 9 3),
oT 31 35 (.load none 34),
oT 31 36 (.call false (.f 27) [33,35]),
oP 37 31 36 cF,
oM 4 37])
.ret))
def zag_:List RD:=[.tmp 4 true none]
theorem zaR_:zn_ Tryz.prog Tryz.f127 zbE_ zag_=true:=by kernel_rfl
def yx_:List AV->List Obj->Option (Prop × AV)
 | [.agg [.int .i64 q,.int .u64 a,.int .u64 b,.int .i64 c,.int .i64 f,.bool h,.int .u64 x,.imm (.int .u8) v,.imm (.int .u8) m,.imm (.int .u8) d],.agg [.int .i64 q',.int .u64 a',.int .u64 b',.int .i64 c',.int .i64 f',.bool h',.int .u64 x',.imm (.int .u8) v',.imm (.int .u8) m',.imm (.int .u8) d']],[]=>some ((True,.bool (he_ q a b c f h x v m d q' a' b' c' f' h' x' v' m' d')))
 | _,_=>none
theorem Hd_:zd_ Tryz.prog 127 (RoF yx_).sum:=by
 refine zi_ Tryz.func127 zaR_ (za_ (s:=RoF K6_) JB_ (za_ (s:=RoF z1_) zQ_ (zc_ _))) fun args objs p v e=>?_
 unfold yx_ at e
 split at e
 ·rename_i q a b c f h x v m d q' a' b' c' f' h' x' v' m' d'
  cases e
  refine ⟨rfl,fun hw ho hp=>?_⟩
  change List Int at v
  change List Int at m
  change List Int at d
  change List Int at v'
  change List Int at m'
  change List Int at d'
  clear hw ho
  repeat'(intro t ht;first|(cases t<;>first|(cases ht;done)|(try simp only[zg_]at ht;try(exfalso;first|contradiction|omega)))|((first|refine zb_ ht ?_|refine ht ?_ ?_|refine ht.1 ?_ ?_|refine ht ?_)<;>clear ht))
  all_goals first
   | exact True.intro
   | (refine ⟨congrArg AV.bool ?_,rfl⟩;unfold he_;simp_all;done)
 ·cases e
abbrev AC:=Int × Int × Int × OV × List Int × Unit
instance:DecidableEq (OV × List Int × Unit):=inferInstance
instance:DecidableEq (Int × OV × List Int × Unit):=inferInstance
instance:DecidableEq AC:=inferInstance
def rgA (a:AC):Bool:=zS_ (zB_ a.2.2.2.1.1 a.2.2.2.1.2.1 a.2.2.2.1.2.2.1 a.2.2.2.1.2.2.2.1 a.2.2.2.1.2.2.2.2.1 a.2.2.2.1.2.2.2.2.2.1) a.1 a.2.1 a.2.2.1 a.2.2.2.1.1 a.2.2.2.1.2.1 a.2.2.2.1.2.2.1 a.2.2.2.1.2.2.2.1 a.2.2.2.1.2.2.2.2.1 a.2.2.2.1.2.2.2.2.2.1 a.2.2.2.2.1
def szA (a:AC):Int:=y2_ (zB_ a.2.2.2.1.1 a.2.2.2.1.2.1 a.2.2.2.1.2.2.1 a.2.2.2.1.2.2.2.1 a.2.2.2.1.2.2.2.2.1 a.2.2.2.1.2.2.2.2.2.1) (Qe_ a.2.2.2.1.1 a.2.2.2.1.2.1 a.2.2.2.1.2.2.1 a.2.2.2.1.2.2.2.1 a.2.2.2.1.2.2.2.2.1 a.2.2.2.1.2.2.2.2.2.1) a.1 a.2.1 a.2.2.1 a.2.2.2.1.1 a.2.2.2.1.2.1 a.2.2.2.1.2.2.1 a.2.2.2.1.2.2.2.1 a.2.2.2.1.2.2.2.2.1 a.2.2.2.1.2.2.2.2.2.1 a.2.2.2.2.1
def ebA (a:AC):List Int:=WJ_ a.1 a.2.1 a.2.2.1 (Zs_ a.2.2.2.1.1 a.2.2.2.1.2.1 a.2.2.2.1.2.2.1 a.2.2.2.1.2.2.2.1 a.2.2.2.1.2.2.2.2.1 a.2.2.2.1.2.2.2.2.2.1) a.2.2.2.2.1
def exA (a:AC):List Int:=if rgA a=true then ebA a else []
def eeA (a:AC):Int:=if rgA a=true then 0 else 10001
def lenA (a:AC):Prop:=a.2.2.2.1.2.2.2.2.1.length<=100000/\a.2.2.2.1.2.2.2.2.2.1.length<=100000/\a.2.2.2.2.1.length<=100000
theorem zhe_ {a:AC} (h:lenA a):a.2.2.2.1.2.2.2.2.1.length<=1000000/\a.2.2.2.1.2.2.2.2.2.1.length<=1000000:=⟨Nat.le_trans h.1 (by decide),Nat.le_trans h.2.1 (by decide)⟩
structure okL (l:List AC):Prop where
 a:∀ o ∈ l,lenA o
 n:l.length<=1000000
def fwA (a:AC):Bool:=decide (a.2.2.2.1.2.2.2.2.1.length<=300) && decide (a.2.2.2.1.2.2.2.2.2.1.length<=300) && decide (a.2.2.2.2.1.length<=500)
theorem zlC_ {a:AC} (h:(a.2.2.2.1.2.2.2.2.1.length<=300/\a.2.2.2.1.2.2.2.2.2.1.length<=300)/\a.2.2.2.2.1.length<=500):fwA a=true:=by unfold fwA;simp [h.1.1,h.1.2,h.2]
theorem zlD_ {a:AC} (h:(¬ a.2.2.2.1.2.2.2.2.1.length<=300\/¬ a.2.2.2.1.2.2.2.2.2.1.length<=300)\/¬ a.2.2.2.2.1.length<=500):fwA a=false:=by unfold fwA;rcases h with (h | h) | h<;>simp [h]
def Bi_ (l:List AC):Bool:=l.all fwA && decide (l.length<=80)
theorem zi0_ {l:List AC} (h:Bi_ l=true):okL l/\l.length<=80:=by
 unfold Bi_ at h
 simp only [Bool.and_eq_true,decide_eq_true_eq] at h
 refine ⟨⟨fun o ho=>?_,by omega⟩,h.2⟩
 have:=List.all_eq_true.1 h.1 o ho
 unfold fwA at this
 simp only [Bool.and_eq_true,decide_eq_true_eq] at this
 exact ⟨by omega,by omega,by omega⟩
def zd0_:IR:=
(sq (kr [0] [oD 2 (.mov cF)])
(sq (sq (.reg [oD 3 (.mov (cI 0))])
(.block 0
(.loop
(sq (sq (kr [0,3] [oM 4 3,
oM 5 0,
oE 6 5,
oB 7 .lss 4 6])
(.cond 7
.skip
(.exit 0)))
(sq (.block 1
(sq (kr [0,3] [oM 10 0,
oM 11 3,
oI 12 10 10 11,
oK 13 10 12,
oC 14 110 [13],
oD 15 (.un .not 14)])
(.cond 15
(sq (kr [] [oD 2 (.mov cF)])
.ret)
.skip)))
(kr [0,3] [oM 8 3,
oB 9 .add 8 (cI 1),
oM 3 9]))))))
(sq (kr [0] [oM 16 0,
oE 17 16,
oB 18 .leq 17 (cI 80),
oM 2 18])
.ret)))
def zc4_:List RD:=[.tmp 2 true none]
theorem zdu_:zn_ Tryz.prog Tryz.f44 zd0_ zc4_=true:=by kernel_rfl
def Jr_:List AV->List Obj->Option (Prop × AV)
 | [.imm ty0 l],[]=>qb_ ty0 Y2 l fun l=>some ((True,.bool (Bi_ l)))
 | _,_=>none
theorem WP_:zd_ Tryz.prog 44 (RoF Jr_).sum:=by
 refine zi_ Tryz.func44 zdu_ (za_ (s:=RoF vI_) BO_ (zc_ _)) fun args objs p v e=>?_
 unfold Jr_ at e
 split at e
 ·rename_i ty0 l
  obtain rfl:=zZ_ e
  replace e:=z0_ e
  cases e
  refine ⟨rfl,fun hw ho hp=>?_⟩
  change List AC at l
  have hl:l.length<=maxLen:=(hw (.imm Y2 l) (by simp)).2
  unfold maxLen at hl
  clear hw ho
  repeat'(intro t ht;first|(cases t<;>first|(cases ht;done)|(try simp only[zg_]at ht))|((first|refine zb_ ht ?_|refine ht ?_ ?_|refine ht.1 ?_ ?_|refine ht ?_)<;>clear ht))
  all_goals first
   | (intro r h1 h2;clear h1;refine h2 ⟨[0,3],Nat,(fun i=>i<=l.length/\(l.take i).all fwA=true),fun i=>[.imm Y2 l,.int .i64 i],fun _=>[],fun i=>l.length - i,⟨0,⟨Nat.zero_le _,rfl⟩,rfl,rfl⟩,?_⟩;clear h2)
  rintro i ⟨hi,he⟩
  repeat'(intro t ht;first|(cases t<;>first|(cases ht;done)|(try simp only[zg_]at ht;try(exfalso;first|contradiction|omega)))|((first|refine zb_ ht ?_|refine ht ?_ ?_|refine ht.1 ?_ ?_|refine ht ?_)<;>clear ht))
  all_goals (try generalize (Ty.dflt Y2)=od at*)
  all_goals first
   | exact True.intro
   | ((try simp only [zk_,zl_,zj_] at*);omega)
   | (have h:=ZR_ (by omega) he
      refine ⟨?_,rfl⟩;unfold Bi_;rw [h,Bool.true_and];congr 1;exact decide_eq_decide.2 (by omega))
   | (have hf:=zlC_ ht
      exact ⟨i+1,⟨by omega,Zp_ (d:=od) (by omega) he hf⟩,by dsimp only;omega,rfl,rfl⟩)
   | (have hf:=zlD_ ht
      have h:Bi_ l=false:=by unfold Bi_;rw [ZF_ (d:=od) (show i < l.length by omega) hf,Bool.false_and]
      refine ⟨?_,rfl⟩;rw [h];done)
 ·cases e
theorem zjB_ {a:AC} (h:rgA a=false):szA a=0:=by
 unfold szA y2_;unfold rgA at h;rw [h];rfl
theorem uo_ {a:AC} (h:rgA a=true):szA a=(ebA a).length/\8<=szA a/\szA a<=65528/\(ebA a).length % 8=0:=by
 obtain ⟨s0,s1,s2,s3⟩:=Jb_ h
 have l2:=zm_ (n:=a.1) (w:=2) (by decide)
 have hb:(ebA a).length=4+(ZD_ a.1 a.2.1 a.2.2.1 (Zs_ a.2.2.2.1.1 a.2.2.2.1.2.1 a.2.2.2.1.2.2.1 a.2.2.2.1.2.2.2.1 a.2.2.2.1.2.2.2.2.1 a.2.2.2.1.2.2.2.2.2.1) a.2.2.2.2.1).length:=by
  have l3:=zm_ (n:=(4+(ZD_ a.1 a.2.1 a.2.2.1 (Zs_ a.2.2.2.1.1 a.2.2.2.1.2.1 a.2.2.2.1.2.2.1 a.2.2.2.1.2.2.2.1 a.2.2.2.1.2.2.2.2.1 a.2.2.2.1.2.2.2.2.2.1) a.2.2.2.2.1).length)) (w:=2) (by decide)
  unfold ebA WJ_;simp only [List.length_append];omega
 have e:szA a=4+((ZD_ a.1 a.2.1 a.2.2.1 (Zs_ a.2.2.2.1.1 a.2.2.2.1.2.1 a.2.2.2.1.2.2.1 a.2.2.2.1.2.2.2.1 a.2.2.2.1.2.2.2.2.1 a.2.2.2.1.2.2.2.2.2.1) a.2.2.2.2.1).length:Int):=s0
 omega
theorem zgC_ (a:AC):0<=szA a/\szA a<=65528:=by
 cases h:rgA a with
 | true=>have:=uo_ h;omega
 | false=>rw [zjB_ h];decide
def smT (l:List AC) (i:Nat):Int:=((l.take i).map szA).sum
def smL (l:List AC):Int:=(l.map szA).sum
theorem BR_ {l:List AC} {i:Nat} {d:AC} (h:i < l.length):smT l (i+1)=smT l i+szA (l.getD i d):=by
 unfold smT
 rw [List.take_succ_eq_append_getElem h,List.map_append,List.sum_append,List.getD_eq_getElem?_getD,List.getElem?_eq_getElem h]
 simp
theorem Hm_ {l:List AC} {i:Nat} (h:l.length<=i):smT l i=smL l:=by unfold smT smL;rw [List.take_of_length_le h]
theorem zcJ_ {l:List AC} (i:Nat) (hi:i<=l.length):0<=smT l i/\smT l i<=65528*i:=by
 induction i with
 | zero=>unfold smT;simp
 | succ i ih=>
   have:=ih (by omega)
   have d:AC:=(0,0,0,(0,0,false,0,[],[],()),[],())
   have hs:=zgC_ (l.getD i d)
   rw [BR_ (d:=d) (by omega)];omega
def szL (l:List AC):Int:=if 64 < l.length then 0 else if l.all rgA=true then (if 65528 < smL l then 0 else smL l) else 0
def Bd_:IR:=
(sq (kr [0] [oD 2 (.mov (cI 0))])
(sq (sq (.reg [oM 6 0,
oE 7 6,
oB 8 .gtr 7 (cI 64)])
(.cond 8
(sq (.reg [oD 2 (.mov (cI 0))])
.ret)
.skip))
(sq (sq (.reg [oM 9 0,
oE 10 9,
oD 11 (.mov (cI 0))])
(.block 0
(.loop
(sq (kr [2,9,10,11] [oB 12 .lss 11 10])
(sq (.cond 12
.skip
(.exit 0))
(sq (.block 1
(sq (.reg [oI 13 10 9 11,
oK 14 10 13,
oD 4 (.box [.int .i64 0,.int .u64 0,.int .u64 0,.int .i64 0,.int .i64 0,.kb false,.int .u64 0,.imm (.int .u8) [],.imm (.int .u8) [],.imm (.int .u8) []]),
oS 10 4 14])
(sq (.reg [oK 15 10 4,
oC 16 177 [15],
oM 5 16])
(sq (sq (kr [2,5,9,10,11] [oM 17 5,
oB 18 .eql 17 (cI 0)])
(.cond 18
(sq (.reg [oD 2 (.mov (cI 0))])
.ret)
.skip))
(.reg [oM 19 2,
oM 20 5,
oB 21 .add 19 20,
oM 2 21])))))
(kr [2,9,10,11] [oB 22 .add 11 (cI 1),
oM 11 22])))))))
(sq (sq (kr [2] [oM 23 2,
oB 24 .gtr 23 (cI 65528)])
(.cond 24
(sq (.reg [oD 2 (.mov (cI 0))])
.ret)
.skip))
(sq (.reg [oM 25 2,
oM 2 25])
.ret)))))
def HX_:List RD:=[.tmp 2 true none]
theorem bv_:zn_ Tryz.prog Tryz.f133 Bd_ HX_=true:=by kernel_rfl
def jF_:List AV->List Obj->Option (Prop × AV)
 | [.imm ty0 l],[]=>qb_ ty0 Y2 l fun l=>some ((okL l,.int .i64 (szL l)))
 | _,_=>none
theorem XN_:zd_ Tryz.prog 133 (RoF jF_).sum:=by
 refine zi_ Tryz.func133 bv_ (za_ (s:=RoF kX_) wS_ (zc_ _)) fun args objs p v e=>?_
 unfold jF_ at e
 split at e
 ·rename_i ty0 l
  obtain rfl:=zZ_ e
  replace e:=z0_ e
  cases e
  refine ⟨rfl,fun hw ho hp=>?_⟩
  change List AC at l
  clear hw ho
  have hn:=hp.n
  by_cases h64:64 < l.length
  ·have e:szL l=0:=if_pos h64
   rw [e]
   repeat'(intro t ht;first|(cases t<;>first|(cases ht;done)|(try simp only[zg_]at ht;try(exfalso;first|contradiction|omega)))|((first|refine zb_ ht ?_|refine ht ?_ ?_|refine ht.1 ?_ ?_|refine ht ?_)<;>clear ht))
   all_goals first
    | exact True.intro
    | exact ⟨rfl,rfl⟩
    | (exfalso;omega)
  ·have e:szL l=if l.all rgA=true then (if 65528 < smL l then 0 else smL l) else 0:=if_neg h64
   repeat'(intro t ht;first|(cases t<;>first|(cases ht;done)|(try simp only[zg_]at ht;try(exfalso;first|contradiction|omega)))|((first|refine zb_ ht ?_|refine ht ?_ ?_|refine ht.1 ?_ ?_|refine ht ?_)<;>clear ht))
   all_goals first
    | exact True.intro
    | (intro r h1 h2;clear h1;refine h2 ⟨[2,9,10,11],Nat,(fun i=>i<=l.length/\(l.take i).all rgA=true),fun i=>[.int .i64 (smT l i),.imm Y2 l,.int .i64 l.length,.int .i64 i],fun _=>[],fun i=>l.length - i,⟨0,⟨Nat.zero_le _,rfl⟩,rfl,rfl⟩,?_⟩;clear h2)
   rintro i ⟨hi,he⟩
   have hle:=zcJ_ (l:=l) i hi
   repeat'(intro t ht;first|(cases t<;>first|(cases ht;done)|(try simp only[zg_]at ht;try(exfalso;first|contradiction|omega)))|((first|refine zb_ ht ?_|refine ht ?_ ?_|refine ht.1 ?_ ?_|refine ht ?_)<;>clear ht))
   all_goals (try generalize (Ty.dflt Y2)=od at*)
   all_goals first
    | exact True.intro
    | ((try simp only [zk_,zl_,zj_] at*);omega)
    | (have ha:=ZR_ (by omega) he
       have hs:=Hm_ (l:=l) (i:=i) (by omega)
       rw [e,if_pos ha,<- hs]
       first
        | (rw [if_pos (by assumption)];exact ⟨rfl,rfl⟩)
        | (rw [if_neg (by assumption)];exact ⟨rfl,rfl⟩))
    | (have hlt:i < l.length:=by omega
       have hln:=hp.a _ (zD_ hlt od)
       have hsz:=zgC_ (l.getD i od)
       first
        | exact zhe_ hln
        | (unfold szA at hsz;simp only [zj_,Int.toNat_natCast];omega)
        | (have h0:szA (l.getD i od)=0:=by assumption
           have hr:rgA (l.getD i od)=false:=by
            cases hk:rgA (l.getD i od) with
            | false=>rfl
            | true=>have:=uo_ hk;omega
           rw [e,if_neg (by rw [ZF_ hlt hr];decide)];exact ⟨rfl,rfl⟩)
        | (have h0:¬ szA (l.getD i od)=0:=by assumption
           have hr:rgA (l.getD i od)=true:=by
            cases hk:rgA (l.getD i od) with
            | true=>rfl
            | false=>exact absurd (zjB_ hk) h0
           refine ⟨i+1,⟨by omega,Zp_ hlt he hr⟩,by dsimp only;omega,?_,rfl⟩
           dsimp only;rw [BR_ (d:=od) hlt];rfl))
 ·cases e
def rgL (l:List AC):Bool:=decide (l.length=0) || decide (0 < szL l)
def GY_:IR:=
(sq (kr [0] [oD 2 (.mov cF)])
(sq (kr [0] [oM 3 0,
oE 4 3,
oB 5 .eql 4 (cI 0),
oM 6 5,
oF 6 7 (.mov 0),
oF 6 8 (.call false (.f 133) [7]),
oF 6 9 (.bin .gtr 8 (cI 0)),
oP 10 6 cT 9,
oM 2 10])
.ret))
def g3_:List RD:=[.tmp 2 true none]
theorem Gv_:zn_ Tryz.prog Tryz.f169 GY_ g3_=true:=by kernel_rfl
def wO_:List AV->List Obj->Option (Prop × AV)
 | [.imm ty0 l],[]=>qb_ ty0 Y2 l fun l=>some ((okL l,.bool (rgL l)))
 | _,_=>none
theorem uH_:zd_ Tryz.prog 169 (RoF wO_).sum:=by
 refine zi_ Tryz.func169 Gv_ (za_ (s:=RoF jF_) XN_ (zc_ _)) fun args objs p v e=>?_
 unfold wO_ at e
 split at e
 ·rename_i ty0 l
  obtain rfl:=zZ_ e
  replace e:=z0_ e
  cases e
  refine ⟨rfl,fun hw ho hp=>?_⟩
  change List AC at l
  clear hw ho
  have hok:=hp
  by_cases h0:l.length=0
  ·repeat'(intro t ht;first|(cases t<;>first|(cases ht;done)|(try simp only[zg_]at ht;try(exfalso;first|contradiction|omega)))|((first|refine zb_ ht ?_|refine ht ?_ ?_|refine ht.1 ?_ ?_|refine ht ?_)<;>clear ht))
   all_goals first
    | exact True.intro
    | exact hok
    | (refine ⟨congrArg AV.bool ?_,rfl⟩;unfold rgL;rw [decide_eq_true h0];rfl)
    | (exfalso;omega)
  ·repeat'(intro t ht;first|(cases t<;>first|(cases ht;done)|(try simp only[zg_]at ht;try(exfalso;first|contradiction|omega)))|((first|refine zb_ ht ?_|refine ht ?_ ?_|refine ht.1 ?_ ?_|refine ht ?_)<;>clear ht))
   all_goals first
    | exact True.intro
    | exact hok
    | (refine ⟨congrArg AV.bool ?_,rfl⟩;unfold rgL;rw [decide_eq_false h0];rfl)
    | (exfalso;omega)
 ·cases e
def wrS {α:Type} (x:α->List Int) (f:α->Int) (room:Int):List α->List Int->Int->List Int × Int
 | [],l,e=>(l,e)
 | o :: r,l,e=>wrS x f room r (kb_ (x o) l room (zs_ e (f o))) (QT_ (x o) l room (zs_ e (f o)))
theorem BF_ {α:Type} {x:α->List Int} {f:α->Int} {room:Int} {l:List α} {i:Nat} {d:α} {b:List Int} {e:Int} (h:i < l.length):wrS x f room (l.drop i) b e=wrS x f room (l.drop (i+1)) (kb_ (x (l.getD i d)) b room (zs_ e (f (l.getD i d)))) (QT_ (x (l.getD i d)) b room (zs_ e (f (l.getD i d)))):=by
 rw [zA_ h d];rfl
def apB (x:List AC) (l:List Int) (room e:Int):List Int:=if rgL x=true then (wrS exA eeA room x l e).1 else l
def apE (x:List AC) (l:List Int) (room e:Int):Int:=if rgL x=true then (wrS exA eeA room x l e).2 else zs_ e 10001
theorem zhE_ {a:AC}:(exA a).length<=1000000:=by
 unfold exA;split
 ·have:=uo_ (by assumption);omega
 ·simp
def zbU_:IR:=
(sq (sq (kr [0,1] [oM 8 1,
oC 9 169 [8],
oD 10 (.un .not 9)])
(.cond 10
(sq (.reg [oM 11 0,
oC 12 103 [11,(cI 10001)]])
.ret)
.skip))
(sq (.reg [oM 13 1,
oE 14 13,
oD 15 (.mov (cI 0))])
(.block 0
(.loop
(sq (kr [0,13,14,15] [oB 16 .lss 15 14])
(sq (.cond 16
.skip
(.exit 0))
(sq (.block 1
(sq (.reg [oI 17 10 13 15,
oK 18 10 17,
oD 5 (.box [.int .i64 0,.int .u64 0,.int .u64 0,.int .i64 0,.int .i64 0,.kb false,.int .u64 0,.imm (.int .u8) [],.imm (.int .u8) [],.imm (.int .u8) []]),
oS 10 5 18])
(sq (kr [0,5,13,14,15] [oK 20 10 5,
oC 21 178 [20],
oM 19 21,
oX 22 19 0,
oX 23 19 1,
oM 6 22,
oM 7 23])
(sq (kr [0,6,7,13,14,15] [oM 24 0,
oM 25 7,
oC 26 103 [24,25]])
(.reg [oM 27 0,
oM 28 6,
oC 29 117 [27,28]])))))
(kr [0,13,14,15] [oB 30 .add 15 (cI 1),
oM 15 30]))))))))
def zaw_:List RD:=[]
theorem za7_:zn_ Tryz.prog Tryz.f134 zbU_ zaw_=true:=by kernel_rfl
def ge_:List AV->List Obj->Option (Prop × Res)
 | [.ptr 0 0,.imm (.cons (.int .i64) (.cons (.int .u64) (.cons (.int .u64) (.cons (.cons (.int .i64) (.cons (.int .i64) (.cons .bool (.cons (.int .u64) (.cons (.sl (.int .u8)) (.cons (.sl (.int .u8)) .nil)))))) (.cons (.sl (.int .u8)) .nil))))) x],[.box [.own 1,.int .i64 room,.mapv 2,.int .i64 e],.row false (.int .u8) l,.map sq (.int .i64) (.int .i64) h]=>some (okL x/\0<=room/\room<=1000000/\l.length<=1000000,.br (rgL x && decide (0 < x.length)) (.one (.tup []) [.box [.own 3,.int .i64 room,.mapv 2,.int .i64 (apE x l room e)],.dead,.map sq (.int .i64) (.int .i64) h,.row false (.int .u8) (apB x l room e)]) (.one (.tup []) [.box [.own 1,.int .i64 room,.mapv 2,.int .i64 (apE x l room e)],.row false (.int .u8) l,.map sq (.int .i64) (.int .i64) h]))
 | _,_=>none
def yF_:List AV->List Obj->Option (Prop × AV × List Obj)
 | [.ptr 0 0,.imm (.cons (.int .i64) (.cons (.int .u64) (.cons (.int .u64) (.cons (.cons (.int .i64) (.cons (.int .i64) (.cons .bool (.cons (.int .u64) (.cons (.sl (.int .u8)) (.cons (.sl (.int .u8)) .nil)))))) (.cons (.sl (.int .u8)) .nil))))) x],[.box [.own 1,.int .i64 room,.mapv 2,.int .i64 e],.row false (.int .u8) l,.map sq (.int .i64) (.int .i64) h]=>some (okL x/\0<=room/\room<=1000000/\l.length<=1000000,.tup [],[.box [.own 3,.int .i64 room,.mapv 2,.int .i64 (apE x l room e)],.dead,.map sq (.int .i64) (.int .i64) h,.row false (.int .u8) (apB x l room e)])
 | _,_=>none
theorem hZ_:zd_ Tryz.prog 134 (RcF ge_).sum:=by
 refine hg_ Tryz.func134 za7_ (za_ (s:=RoF wO_) uH_ (za_ (s:=RwF zG_) zN_ (za_ (s:=RoF Kk_) y0_ (za_ (s:=RwF zF_) zK_ (zc_ _))))) fun args objs p v e=>?_
 unfold ge_ at e
 split at e
 ·rename_i x room e l sq h
  cases e
  change List Int at l
  change List AC at x
  refine ⟨rfl,fun hw' ho hp=>?_⟩
  clear hw' ho
  obtain ⟨hok,hp1,hp2,hp3⟩:=hp
  have hok':=hok
  have hn:=hok.n
  cases hr:rgL x with
  | false=>
    have e1:apE x l room e=zs_ e 10001:=by unfold apE;rw [hr];rfl
    rw [e1]
    repeat'(intro t ht;first|(cases t<;>first|(cases ht;done)|(try simp only[zg_]at ht;try(exfalso;first|contradiction|omega)))|((first|refine zb_ ht ?_|refine ht ?_ ?_|refine ht.1 ?_ ?_|refine ht ?_)<;>clear ht))
    all_goals first
     | exact True.intro
     | exact hok
     | (exfalso;simp_all;done)
     | exact ⟨rfl,rfl⟩
  | true=>
    have q1:apE x l room e=(wrS exA eeA room x l e).2:=if_pos hr
    have q2:apB x l room e=(wrS exA eeA room x l e).1:=if_pos hr
    rw [q1,q2]
    repeat'(intro t ht;first|(cases t<;>first|(cases ht;done)|(try simp only[zg_]at ht;try(exfalso;first|contradiction|omega)))|((first|refine zb_ ht ?_|refine ht ?_ ?_|refine ht.1 ?_ ?_|refine ht ?_)<;>clear ht))
    all_goals first
     | exact True.intro
     | exact hok
     | (exfalso;simp_all;done)
     | (intro r h1 h2;clear h1;refine h2 ⟨[0,13,14,15],Option (Nat × List Int × Int),(fun a=>match a with | none=>True | some a=>0 < a.1/\a.1<=x.length/\a.2.1.length<=1000000/\wrS exA eeA room x l e=wrS exA eeA room (x.drop a.1) a.2.1 a.2.2),(fun a=>match a with | none=>[.ptr 0 0,.imm Y2 x,.int .i64 x.length,.int .i64 0] | some a=>[.ptr 0 0,.imm Y2 x,.int .i64 x.length,.int .i64 a.1]),(fun a=>match a with | none=>[.box [.own 1,.int .i64 room,.mapv 2,.int .i64 e],.row false (.int .u8) l,.map sq (.int .i64) (.int .i64) h] | some a=>[.box [.own 3,.int .i64 room,.mapv 2,.int .i64 a.2.2],.dead,.map sq (.int .i64) (.int .i64) h,.row false (.int .u8) a.2.1]),(fun a=>match a with | none=>x.length+1 | some a=>x.length - a.1),⟨none,True.intro,rfl,rfl⟩,?_⟩;clear h2)
    rintro (_ | ⟨i,b,f⟩) hJ
    ·repeat'(intro t ht;first|(cases t<;>first|(cases ht;done)|(try simp only[zg_]at ht;try(exfalso;first|contradiction|omega)))|((first|refine zb_ ht ?_|refine ht ?_ ?_|refine ht.1 ?_ ?_|refine ht ?_)<;>clear ht))
     all_goals (try generalize (Ty.dflt Y2)=od at*)
     all_goals first
      | exact True.intro
      | ((try simp only [zk_,zl_,zj_] at*);omega)
      | exact ⟨hp1,hp2,hp3,zhE_ (a:=x.getD 0 od)⟩
      | exact zhe_ (hok'.a _ (zD_ (show 0 < x.length by omega) od))
      | (have hx:x=[]:=List.eq_nil_of_length_eq_zero (by omega)
         subst hx;exact ⟨rfl,rfl⟩)
      | (have hs:=BF_ (x:=exA) (f:=eeA) (room:=room) (l:=x) (i:=0) (d:=od) (b:=l) (e:=e) (by omega)
         refine ⟨some (1,kb_ (exA (x.getD 0 od)) l room (zs_ e (eeA (x.getD 0 od))),QT_ (exA (x.getD 0 od)) l room (zs_ e (eeA (x.getD 0 od)))),⟨Nat.one_pos,?_,?_,hs⟩,?_,rfl,rfl⟩
         ·dsimp only;omega
         ·exact Kc_ hp3 hp2
         ·dsimp only;omega)
    ·obtain ⟨hi0,hi,hb,he⟩:=hJ
     dsimp only at hi0 hi hb he
     repeat'(intro t ht;first|(cases t<;>first|(cases ht;done)|(try simp only[zg_]at ht;try(exfalso;first|contradiction|omega)))|((first|refine zb_ ht ?_|refine ht ?_ ?_|refine ht.1 ?_ ?_|refine ht ?_)<;>clear ht))
     all_goals (try generalize (Ty.dflt Y2)=od at*)
     all_goals first
      | exact True.intro
      | ((try simp only [zk_,zl_,zj_] at*);omega)
      | exact ⟨hp1,hp2,hb,zhE_ (a:=x.getD i od)⟩
      | exact zhe_ (hok'.a _ (zD_ (show i < x.length by omega) od))
      | (rw [List.drop_of_length_le (show x.length<=i by omega)] at he
         have h1:wrS exA eeA room x l e=(b,f):=he
         rw [h1,decide_eq_true (show 0 < x.length by omega)];exact ⟨rfl,rfl⟩)
      | (refine ⟨some (i+1,kb_ (exA (x.getD i od)) b room (zs_ f (eeA (x.getD i od))),QT_ (exA (x.getD i od)) b room (zs_ f (eeA (x.getD i od)))),⟨?_,?_,?_,he.trans (BF_ (d:=od) (show i < x.length by omega))⟩,?_,rfl,rfl⟩
         ·dsimp only;omega
         ·dsimp only;omega
         ·exact Kc_ hb hp2
         ·dsimp only;omega)
 ·cases e
theorem Hl_:zd_ Tryz.prog 134 (RwF yF_).sum:=by
 refine y7_ hZ_ fun args objs p v o e=>?_
 unfold yF_ at e
 split at e
 ·rename_i x room e l sq h
  cases e
  cases hb:(rgL x && decide (0 < x.length)) with
  | true=>exact ⟨_,_,rfl,jN_ hb,.inl rfl⟩
  | false=>
    refine ⟨_,_,rfl,jO_ hb,.inr ⟨0,1,[],[.int .i64 room,.mapv 2,.int .i64 (apE x l room e)],.int .u8,l,rfl,rfl,?_⟩⟩
    have e1:apB x l room e=l:=by
     unfold apB
     split
     ·rename_i hr
      rw [hr,Bool.true_and,decide_eq_false_iff_not] at hb
      have hx:x=[]:=List.eq_nil_of_length_eq_zero (by omega)
      subst hx;rfl
     ·rfl
    rw [e1];rfl
 ·cases e
def boA (l:List AC):List Int:=l.flatMap ebA
theorem Jp_ (o:AC) (r:List AC):boA (o :: r)=ebA o++boA r:=List.flatMap_cons
theorem uj_:∀ (l:List AC),l.all rgA=true->((boA l).length:Int)=smL l/\8*l.length<=(boA l).length
 | [],_=>⟨rfl,Nat.le_refl _⟩
 | o :: r,h=>by
   rw [List.all_cons,Bool.and_eq_true] at h
   obtain ⟨i1,i2⟩:=uj_ r h.2
   have hs:=uo_ h.1
   unfold smL at i1 ⊢
   rw [Jp_,List.length_append,List.map_cons,List.sum_cons,List.length_cons];omega
theorem qg_ {l:List AC} (h:rgL l=true):l.all rgA=true/\l.length<=64/\(boA l).length<=65528/\szL l=(boA l).length:=by
 unfold rgL at h
 rw [Bool.or_eq_true,decide_eq_true_eq,decide_eq_true_eq] at h
 rcases h with h | h
 ·have:l=[]:=List.eq_nil_of_length_eq_zero h
  subst this;exact ⟨rfl,Nat.zero_le _,Nat.zero_le _,rfl⟩
 ·unfold szL at h ⊢
  by_cases h1:64 < l.length
  ·rw [if_pos h1] at h;omega
  ·rw [if_neg h1] at h ⊢
   by_cases h2:l.all rgA=true
   ·rw [if_pos h2] at h ⊢
    by_cases h3:65528 < smL l
    ·rw [if_pos h3] at h;omega
    ·rw [if_neg h3]
     obtain ⟨b1,b2⟩:=uj_ l h2
     exact ⟨h2,by omega,by omega,b1.symm⟩
   ·rw [if_neg h2] at h;omega
theorem zgJ_ {l:List AC} (h1:l.all rgA=true) (h2:l.length<=64) (h3:(boA l).length<=65528):rgL l=true:=by
 obtain ⟨b1,b2⟩:=uj_ l h1
 unfold rgL szL
 rw [if_neg (by omega),if_pos h1,if_neg (by omega),Bool.or_eq_true,decide_eq_true_eq,decide_eq_true_eq]
 omega
theorem zj2_ {l:List AC} (h:rgL l=false):szL l=0:=by
 unfold rgL at h
 rw [Bool.or_eq_false_iff,decide_eq_false_iff_not,decide_eq_false_iff_not] at h
 have:0<=szL l:=by
  unfold szL;repeat' split
  all_goals first | omega | skip
  have:=zcJ_ (l:=l) l.length (Nat.le_refl _)
  rw [Hm_ (Nat.le_refl _)] at this;omega
 omega
theorem zjL_ {a:AC} (h:rgA a=true):exA a=ebA a/\eeA a=0:=⟨if_pos h,if_pos h⟩
theorem zgp_ {room:Int}:∀ (r:List AC) (l:List Int),r.all rgA=true->(l.length:Int)+(boA r).length<=room->wrS exA eeA room r l 0=(l++boA r,0)
 | [],l,_,_=>by unfold boA wrS;simp
 | o :: r,l,h,hl=>by
   rw [List.all_cons,Bool.and_eq_true] at h
   obtain ⟨h2,h3⟩:=zjL_ h.1
   rw [Jp_,List.length_append] at hl
   obtain ⟨b1,b2⟩:=xA_ (x:=ebA o) (l:=l) (room:=room) (by omega)
   have f0:zs_ 0 0=0:=rfl
   unfold wrS
   rw [h2,h3,f0,b1,b2,zgp_ r (l++ebA o) h.2 (by rw [List.length_append];omega),Jp_,List.append_assoc]
theorem zlM_ {x:List AC} {l:List Int} {room:Int} (h:rgL x=true) (hl:(l.length:Int)+(boA x).length<=room):apB x l room 0=l++boA x/\apE x l room 0=0:=by
 unfold apB apE
 rw [if_pos h,if_pos h,zgp_ x l (qg_ h).1 hl];exact ⟨rfl,rfl⟩
theorem zh2_ {x:List AC} {l:List Int} {room e:Int} (h:rgL x=false):apB x l room e=l/\apE x l room e=zs_ e 10001:=by
 unfold apB apE;rw [h];exact ⟨rfl,rfl⟩
def alL (l:List AC):List Int:=if rgL l=true then boA l else []
def alE (l:List AC):Int:=if rgL l=true then 0 else 10001
def vA (y:List Int):AC:=(tT y,acA y 0,acA y 1,(acS y (zz_ (bd y)),acS y (zO_ (bd y)),acH y,acS y (Qa_ (bd y)),acV y (qd_ (bd y)),acV y (qa_ (bd y)),()),acD y,())
def alG (acc:List AC) (y:List Int):List AC × Int:=
 if y.length=0 then (acc,0) else if acc.length=64 then ([],520) else if ¬ acE y=0 then ([],acE y) else alG (acc++[vA y]) (y.drop (max 1 (tN y).toNat))
termination_by y.length
decreasing_by all_goals (rw [List.length_drop];omega)
theorem YH_ {acc:List AC} {y:List Int} (h:y.length=0):alG acc y=(acc,0):=by rw [alG,if_pos h]
theorem zcv_ {acc:List AC} {y:List Int} (h:¬ y.length=0) (h1:acc.length=64):alG acc y=([],520):=by rw [alG,if_neg h,if_pos h1]
theorem Bv_ {acc:List AC} {y:List Int} (h:¬ y.length=0) (h1:¬ acc.length=64) (h2:¬ acE y=0):alG acc y=([],acE y):=by rw [alG,if_neg h,if_neg h1,if_pos h2]
theorem Bu_ {acc:List AC} {y:List Int} (h:¬ y.length=0) (h1:¬ acc.length=64) (h2:acE y=0) (hn:1<=tN y):alG acc y=alG (acc++[vA y]) (y.drop (tN y).toNat):=by
 rw [alG,if_neg h,if_neg h1,if_neg (not_not_intro h2),show max 1 (tN y).toNat=(tN y).toNat by omega]
theorem zet_ {b:List Int} (h0:acE b=0):8<=tN b/\tN b<=b.length/\(tN b).tmod 8=0:=by
 have hT:tlE b 8 8 514=0:=Classical.byContradiction fun h=>by
  unfold acE at h0;rw [if_pos h] at h0;exact h h0
 unfold tlE at hT
 by_cases h1:b.length < 4
 ·rw [if_pos h1] at hT;cases hT
 ·rw [if_neg h1] at hT
  by_cases h2:tN b < 8\/¬ (tN b).tmod 8=0
  ·rw [if_pos h2] at hT;cases hT
  ·rw [if_neg h2] at hT
   by_cases h3:(b.length:Int) < tN b
   ·rw [if_pos h3] at hT;cases hT
   ·omega
def adE (b:List Int):Int:=if ¬ (alG [] b).2=0 then (alG [] b).2 else if 65528 < b.length then 514 else 0
def adL (b:List Int):List AC:=if adE b=0 then (alG [] b).1 else []
theorem zes_ {b:List Int} {e:Int} (h:(alG [] b).2=e) (h0:¬ e=0):adL b=[]/\adE b=e:=by
 have:adE b=e:=by unfold adE;rw [h,if_pos h0]
 exact ⟨by unfold adL;rw [this,if_neg h0],this⟩
theorem gd_ {b:List Int} {acc:List AC} (h:alG [] b=(acc,0)):(65528 < b.length->adL b=[]/\adE b=514)/\(¬ 65528 < b.length->adL b=acc/\adE b=0):=by
 have e:adE b=if 65528 < b.length then 514 else 0:=by unfold adE;rw [h];rfl
 constructor
 ·intro hl
  rw [if_pos hl] at e
  exact ⟨by unfold adL;rw [e];rfl,e⟩
 ·intro hl
  rw [if_neg hl] at e
  exact ⟨by unfold adL;rw [e,h];rfl,e⟩
def Bb_:IR:=
(sq (kr [0] [oD 1 (.boxv 0),
oD 2 (.mov (.c (.undef)))])
(sq (.reg [oD 3 (.mkfn 219 [] [1]),
oM 2 3])
.ret))
def HV_:List RD:=[.tmp 2 true none]
theorem bt_:zn_ Tryz.prog Tryz.f200 Bb_ HV_=true:=by kernel_rfl
def xT_:List AV->List Obj->Option (Prop × AV × List Obj)
 | [.imm (.int .u8) b],[]=>some ((True,.fn 219 [] [.ptr 0 0],[.box [.imm (.int .u8) b]]))
 | _,_=>none
theorem gA_:zd_ Tryz.prog 200 (RwF xT_).sum:=by
 refine qw_ Tryz.func200 bt_ (zc_ _) fun args objs p v o e=>?_
 unfold xT_ at e
 split at e
 ·rename_i b
  cases e
  refine ⟨rfl,fun hw ho hp=>?_⟩
  change List Int at b
  repeat'(intro t ht;first|(cases t<;>first|(cases ht;done)|(try simp only[zg_]at ht;try(exfalso;first|contradiction|omega)))|((first|refine zb_ ht ?_|refine ht ?_ ?_|refine ht.1 ?_ ?_|refine ht ?_)<;>clear ht))
  all_goals first
   | exact True.intro
   | exact ⟨rfl,rfl⟩
 ·cases e
def UJ_:IR:=
(sq (kr [0] [oD 2 (.box [.nils]),
oD 3 (.box [.int .i64 0])])
(sq (.reg [oD 4 (.box [.nils])])
(sq (sq (.reg [oM 7 0,
oC 8 200 [7]])
(.block 0
(.rng 8 [9,10] [0,2,3,4] 219
(sq (kr [2,3,4,9,10] [oD 5 (.box [.int .i64 0,.int .u64 0,.int .u64 0,.int .i64 0,.int .i64 0,.kb false,.int .u64 0,.nils,.nils,.nils]),
oS 10 5 9])
(.reg [oM 6 10]))
(.block 1
(sq (sq (kr [2,3,4,5,6] [oM 11 6,
oB 12 .neq 11 (cI 0)])
(.cond 12
(sq (.reg [oM 13 6,
oN (.store 1 2 (.c (.nils))),
oS 1 3 13])
.ret)
.skip))
(.reg [oL 14 4,
oK 15 10 5,
oD 16 (.sliceAll Y2 1 [(0,10,15)]),
oD 17 (.append Y2 128 14 16),
oS 1 4 17])))
(sq (kr [0,1] [oD 3 (.mov (cI 0))])
(.block 0
(.loop
(sq (sq (kr [0,1,3] [oL 7 1,
oE 8 7,
oB 9 .gtr 8 (cI 0)])
(.cond 9
.skip
(.exit 0)))
(sq (.block 1
(sq (sq (.reg [oM 12 3,
oB 13 .eql 12 (cI 64)])
(.cond 13
(sq (.keep [0]
(.yld [oM 14 0,
oD 15 (.build [.int .i64 0,.int .u64 0,.int .u64 0,.int .i64 0,.int .i64 0,.kb false,.int .u64 0,.imm (.int .u8) [],.imm (.int .u8) [],.imm (.int .u8) []] [])] (some 16) (.t 14) [(.t 15),(.c (.int .i64 520))] [] []))
.ret)
.skip))
(sq (kr [0,1,3] [oL 18 1,
oC 19 220 [18],
oM 17 19,
oX 20 17 0,
oX 21 17 1,
oX 22 17 2,
oD 4 (.box [.int .i64 0,.int .u64 0,.int .u64 0,.int .i64 0,.int .i64 0,.kb false,.int .u64 0,.imm (.int .u8) [],.imm (.int .u8) [],.imm (.int .u8) []]),
oS 10 4 20,
oM 5 21,
oM 6 22])
(sq (sq (.keep [0,1,3,4,5,6]
(.yld [oM 23 0,
oK 24 10 4,
oM 25 6] (some 26) (.t 23) [(.t 24),(.t 25)] [0,1,3,5,6] [oD 27 (.un .not 26),
oM 28 27,
oF 28 29 (.mov 6),
oF 28 30 (.bin .neq 29 (cI 0)),
oP 31 28 cT 30]))
(.cond 31
.ret
.skip))
(kr [0,1,3,5] [oL 32 1,
oM 33 5,
oD 34 (.slice 1 32 (some 33) none none),
oS 1 1 34])))))
(kr [0,1,3] [oM 10 3,
oB 11 .add 10 (cI 1),
oM 3 11])))))))))
(sq (sq (kr [0,2,3,4] [oM 18 0,
oE 19 18,
oB 20 .gtr 19 (cI 65528)])
(.cond 20
(sq (.reg [oN (.store 1 2 (.c (.nils))),
oN (.store 1 3 (cI 514))])
.ret)
.skip))
(sq (.reg [oL 21 4,
oS 1 2 21,
oN (.store 1 3 (cI 0))])
.ret)))))
def uZ_:List RD:=[.cell 2 none true [(some Y2)],.cell 3 none true []]
theorem Um_:zn_ Tryz.prog Tryz.f171 UJ_ uZ_=true:=by kernel_rfl
def jY_:List AV->List Obj->Option (Prop × AV)
 | [.imm (.int .u8) b],[]=>some ((b.length<=100000000,.tup [.imm Y2 (adL b),.int .i64 (adE b)]))
 | _,_=>none
theorem VB_:zd_ Tryz.prog 171 (RoF jY_).sum:=by
 refine zi_ Tryz.func171 Um_ (za_ (s:=RoF Kl_) y1_ (za_ (s:=RwF xT_) gA_ (zc_ _))) fun args objs p v e=>?_
 unfold jY_ at e
 split at e
 ·rename_i b
  cases e
  refine ⟨rfl,fun hw ho hp=>?_⟩
  change List Int at b
  clear hw ho
  repeat'(intro t ht;first|(cases t<;>first|(cases ht;done)|(try simp only[zg_]at ht;try(exfalso;first|contradiction|omega)))|((first|refine zb_ ht ?_|refine ht ?_ ?_|refine ht.1 ?_ ?_|refine ht ?_)<;>clear ht))
  all_goals first
   | exact True.intro
   | (refine .inl fun lr ln=>?_)
  repeat'(intro t ht;first|(cases t<;>first|(cases ht;done)|(try simp only[zg_]at ht;try(exfalso;first|contradiction|omega)))|((first|refine zb_ ht ?_|refine ht ?_ ?_|refine ht.1 ?_ ?_|refine ht ?_)<;>clear ht))
  all_goals first
   | exact True.intro
   | (intro r h1 h2;clear h1;refine h2 ⟨[0,1,3],Option (List AC × List Int),(fun a=>match a with | none=>True | some a=>a.1.length<=64/\a.2.length<=b.length/\alG [] b=alG a.1 a.2),(fun a=>match a with | none=>[.yv ln,.ptr 0 0,.int .i64 0] | some a=>[.yv ln,.ptr 0 0,.int .i64 a.1.length]),(fun a=>match a with | none=>[.box [.imm (.int .u8) b],.box [.nils],.box [.int .i64 0],.box [.nils],.lrec lr 0] | some a=>[.box [.imm (.int .u8) a.2],.box [.nils],.box [.int .i64 0],.box [.own 5],.lrec lr 0,.row false Y2 a.1]),(fun a=>match a with | none=>b.length+1 | some a=>a.2.length),⟨none,True.intro,rfl,rfl⟩,?_⟩;clear h2)
  rintro (_ | ⟨acc,y⟩) hJ
  ·clear hJ
   repeat'(intro t ht;first|(cases t<;>first|(cases ht;done)|(try simp only[zg_]at ht;try(exfalso;first|contradiction|omega)))|((first|refine zb_ ht ?_|refine ht ?_ ?_|refine ht.1 ?_ ?_|refine ht ?_)<;>clear ht))
   all_goals (try dsimp only at*)
   all_goals first
    | exact True.intro
    | ((try simp only [zk_,zl_,zj_] at*);omega)
    | exact ⟨rfl,rfl⟩
    | (have hg:=YH_ (acc:=[]) (y:=b) (by omega)
       rw [((gd_ hg).2 (by omega)).1,((gd_ hg).2 (by omega)).2];exact ⟨rfl,rfl⟩)
    | (simp only [zT_,List.length_cons,List.length_nil];constructor<;>omega)
    | (have h0:acE b=0:=by assumption
       obtain ⟨g1,g2,_⟩:=zet_ h0
       have e1:∀ x,acI b x=x:=fun x=>if_pos h0
       first
        | (rw [e1];constructor<;>omega)
        | (have hm:=Bu_ (acc:=[]) (by omega) (by decide) h0 (by omega)
           refine ⟨some ([]++[vA b],b.drop (tN b).toNat),⟨by simp,?_,hm⟩,?_,rfl,?_⟩
           ·dsimp only;rw [List.length_drop];omega
           ·dsimp only;rw [List.length_drop];omega
           ·dsimp only;rw [e1,e1];rfl))
    | (have h0:¬ acE b=0:=by assumption
       have hm:=Bv_ (acc:=[]) (by omega) (by decide) h0
       obtain ⟨d1,d2⟩:=zes_ (b:=b) (e:=acE b) (by rw [hm]) h0
       rw [d1,d2];exact ⟨rfl,rfl⟩)
  ·obtain ⟨j1,j2,j3⟩:=hJ
   dsimp only at j1 j2 j3
   repeat'(intro t ht;first|(cases t<;>first|(cases ht;done)|(try simp only[zg_]at ht;try(exfalso;first|contradiction|omega)))|((first|refine zb_ ht ?_|refine ht ?_ ?_|refine ht.1 ?_ ?_|refine ht ?_)<;>clear ht))
   all_goals (try dsimp only at*)
   all_goals first
    | exact True.intro
    | ((try simp only [zk_,zl_,zj_] at*);omega)
    | exact ⟨rfl,rfl⟩
    | (have hg:=YH_ (acc:=acc) (y:=y) (by omega)
       rw [<- j3] at hg
       first
        | (obtain ⟨d1,d2⟩:=(gd_ hg).1 (by omega)
           rw [d1,d2];exact ⟨rfl,rfl⟩)
        | (obtain ⟨d1,d2⟩:=(gd_ hg).2 (by omega)
           rw [d1,d2];exact ⟨rfl,rfl⟩))
    | (simp only [zT_,List.length_cons,List.length_nil];constructor<;>omega)
    | (have hm:=zcv_ (acc:=acc) (y:=y) (by omega) (by omega)
       rw [<- j3] at hm
       obtain ⟨d1,d2⟩:=zes_ (b:=b) (e:=520) (by rw [hm]) (by decide)
       rw [d1,d2];exact ⟨rfl,rfl⟩)
    | (have h0:acE y=0:=by assumption
       obtain ⟨g1,g2,_⟩:=zet_ h0
       have e1:∀ x,acI y x=x:=fun x=>if_pos h0
       first
        | (rw [e1];constructor<;>omega)
        | (have hm:=Bu_ (acc:=acc) (by omega) (by omega) h0 (by omega)
           refine ⟨some (acc++[vA y],y.drop (tN y).toNat),⟨?_,?_,j3.trans hm⟩,?_,?_,?_⟩
           ·simp only [List.length_append,List.length_cons,List.length_nil];omega
           ·dsimp only;rw [List.length_drop];omega
           ·dsimp only;rw [List.length_drop];omega
           ·dsimp only;rw [List.length_append];rfl
           ·dsimp only;rw [e1,e1];rfl))
    | (have h0:¬ acE y=0:=by assumption
       have hm:=Bv_ (acc:=acc) (y:=y) (by omega) (by omega) h0
       rw [<- j3] at hm
       obtain ⟨d1,d2⟩:=zes_ (b:=b) (e:=acE y) (by rw [hm]) h0
       rw [d1,d2];exact ⟨rfl,rfl⟩)
 ·cases e
def smA (a b:AC):Bool:=he_ a.1 a.2.1 a.2.2.1 a.2.2.2.1.1 a.2.2.2.1.2.1 a.2.2.2.1.2.2.1 a.2.2.2.1.2.2.2.1 a.2.2.2.1.2.2.2.2.1 a.2.2.2.1.2.2.2.2.2.1 a.2.2.2.2.1 b.1 b.2.1 b.2.2.1 b.2.2.2.1.1 b.2.2.2.1.2.1 b.2.2.2.1.2.2.1 b.2.2.2.1.2.2.2.1 b.2.2.2.1.2.2.2.2.1 b.2.2.2.1.2.2.2.2.2.1 b.2.2.2.2.1
theorem zlc_ {a b:AC} (h:smA a b=true):a=b:=by
 obtain ⟨a1,a2,a3,⟨a4,a5,a6,a7,a8,a9,_⟩,a10,_⟩:=a
 obtain ⟨b1,b2,b3,⟨b4,b5,b6,b7,b8,b9,_⟩,b10,_⟩:=b
 unfold smA he_ qO_ at h
 simp only [Bool.and_eq_true,decide_eq_true_eq,beq_iff_eq] at h
 obtain ⟨⟨⟨⟨h1,h2⟩,h3⟩,⟨⟨⟨⟨⟨h4,h5⟩,h7⟩,h6⟩,h8⟩,h9⟩⟩,h10⟩:=h
 rw [h1,h2,h3,h4,h5,h6,h7,h8,h9,h10]
theorem zld_ {a b:AC} (h:smA a b=false):¬ a=b:=fun e=>by
 rw [e] at h;unfold smA at h;rw [zcM_] at h;cases h
def zbB_:IR:=
(sq (kr [0,1] [oD 4 (.mov cF)])
(sq (sq (kr [0,1] [oM 6 0,
oE 7 6,
oM 8 1,
oE 9 8,
oB 10 .neq 7 9])
(.cond 10
(sq (.reg [oD 4 (.mov cF)])
.ret)
.skip))
(sq (sq (kr [0,1] [oD 5 (.mov (cI 0))])
(.block 0
(.loop
(sq (sq (kr [0,1,5] [oM 11 5,
oM 12 0,
oE 13 12,
oB 14 .lss 11 13])
(.cond 14
.skip
(.exit 0)))
(sq (.block 1
(sq (kd [0,1,5] [(oM 17 0,[]),
(oM 18 5,[0]),
(oI 19 10 17 18,[]),
(oK 20 10 19,[]),
(oM 21 1,[0,0,0,0]),
(oM 22 5,[0,0,0,0,0]),
(oI 23 10 21 22,[2,0,0,0]),
(oK 24 10 23,[3,0,0,0]),
(oC 25 127 [20,24],[]),
(oD 26 (.un .not 25),[])])
(.cond 26
(sq (kr [] [oD 4 (.mov cF)])
.ret)
.skip)))
(kr [0,1,5] [oM 15 5,
oB 16 .add 15 (cI 1),
oM 5 16]))))))
(sq (kr [] [oD 4 (.mov cT)])
.ret))))
def zad_:List RD:=[.tmp 4 true none]
theorem zaO_:zn_ Tryz.prog Tryz.f59 zbB_ zad_=true:=by kernel_rfl
def K5_:List AV->List Obj->Option (Prop × AV)
 | [.imm ty0 a,.imm ty1 b],[]=>qb_ ty0 Y2 a fun a=>qb_ ty1 Y2 b fun b=>some ((True,.bool (decide ((a:List AC)=b))))
 | _,_=>none
theorem JA_:zd_ Tryz.prog 59 (RoF K5_).sum:=by
 refine zi_ Tryz.func59 zaO_ (za_ (s:=RoF yx_) Hd_ (zc_ _)) fun args objs p v e=>?_
 unfold K5_ at e
 split at e
 ·rename_i ty0 a ty1 b
  obtain rfl:=zZ_ e
  replace e:=z0_ e
  obtain rfl:=zZ_ e
  replace e:=z0_ e
  cases e
  refine ⟨rfl,fun hw ho hp=>?_⟩
  change List AC at a
  change List AC at b
  have hl:a.length<=maxLen:=(hw (.imm Y2 a) (by simp)).2
  unfold maxLen at hl
  clear hw ho
  repeat'(intro t ht;first|(cases t<;>first|(cases ht;done)|(try simp only[zg_]at ht))|((first|refine zb_ ht ?_|refine ht ?_ ?_|refine ht.1 ?_ ?_|refine ht ?_)<;>clear ht))
  all_goals first
   | (have hne:a ≠ b:=fun h=>(by assumption:¬ (a.length:Int)=b.length) (by rw [h])
      refine ⟨?_,rfl⟩;rw [decide_eq_false hne];done)
   | (intro r h1 h2;clear h1;refine h2 ⟨[0,1,5],Nat,(fun i=>i<=a.length/\a.take i=b.take i),fun i=>[.imm Y2 a,.imm Y2 b,.int .i64 i],fun _=>[],fun i=>a.length - i,⟨0,⟨Nat.zero_le _,rfl⟩,rfl,rfl⟩,?_⟩;clear h2)
  rintro i ⟨hi,he⟩
  have hl2:a.length=b.length:=by omega
  repeat'(intro t ht;first|(cases t<;>first|(cases ht;done)|(try simp only[zg_]at ht;try(exfalso;first|contradiction|omega)))|((first|refine zb_ ht ?_|refine ht ?_ ?_|refine ht.1 ?_ ?_|refine ht ?_)<;>clear ht))
  all_goals (try generalize (Ty.dflt Y2)=od at*)
  all_goals first
   | exact True.intro
   | ((try simp only [zk_,zl_,zj_] at*);omega)
   | (have e:=Kn_ he (by omega) hl2
      refine ⟨?_,rfl⟩;rw [decide_eq_true e];done)
   | (have hs:smA (a.getD i od) (b.getD i od)=false:=by assumption
      have hne:a ≠ b:=Xs_ (d:=od) (i:=i) (zld_ hs)
      refine ⟨?_,rfl⟩;rw [decide_eq_false hne];done)
   | (have hs:smA (a.getD i od) (b.getD i od)=true:=by assumption
      exact ⟨i+1,⟨by omega,Qg_ he (by omega) hl2 (d:=od) (zlc_ hs)⟩,by (try simp only [zk_,zl_,zj_] at*);omega,rfl,rfl⟩)
 ·cases e
theorem zft_ {α:Type} {l:List α} {i:Nat} {d:α} (h:i < l.length):l.take i++[l.getD i d]=l.take (i+1):=by
 rw [List.take_succ_eq_append_getElem h,List.getD_eq_getElem?_getD,List.getElem?_eq_getElem h];rfl
def b2_:IR:=
(sq (kr [0,1] [oD 4 (.nilrow (.int .u8)),
oD 5 (.mov cF)])
(sq (sq (kr [0,1] [oM 9 0,
oC 10 125 [9],
oD 11 (.un .not 10),
oM 12 11,
oF 12 13 (.mov 0),
oF 12 14 (.call false (.f 147) [13]),
oF 12 15 (.mov 1),
oF 12 16 (.len 15),
oF 12 17 (.bin .neq 14 16),
oP 18 12 cT 17])
(.cond 18
(sq (kr [] [oD 4 (.nilrow (.int .u8)),
oD 5 (.mov cF)])
.ret)
.skip))
(sq (kr [0,1] [oD 6 (.nilrow (.int .u8))])
(sq (.reg [oD 7 (.mov (cI 0))])
(sq (sq (.reg [oD 8 (.mov (cI 0))])
(.block 0
(.loop
(sq (sq (kr [0,1,6,7,8] [oM 19 8,
oM 20 0,
oE 21 20,
oB 22 .lss 19 21])
(.cond 22
.skip
(.exit 0)))
(sq (.block 1
(sq (sq (kr [0,1,6,7,8] [oM 25 0,
oM 26 8,
oI 27 1 25 26,
oL 28 27,
oB 29 .lss 28 (cI 0)])
(.cond 29
(sq (kr [0,1,6,7,8] [oM 30 6,
oM 31 0,
oM 32 8,
oI 33 1 31 32,
oL 34 33,
oD 35 (.un .neg 34),
oD 36 (.appendz (.int .u8) 1 (0:Int) 30 35),
oM 6 36])
(.exit 1))
.skip))
(sq (sq (kd [0,1,6,7,8] [(oM 37 1,[]),
(oM 38 7,[0]),
(oI 39 1 37 38,[]),
(oL 40 39,[]),
(oM 41 0,[0,0,0,0]),
(oM 42 8,[0,0,0,0,0]),
(oI 43 1 41 42,[2,0,0,0]),
(oL 44 43,[3,0,0,0]),
(oC 45 148 [40,44],[]),
(oD 46 (.un .not 45),[])])
(.cond 46
(sq (kr [] [oD 4 (.nilrow (.int .u8)),
oD 5 (.mov cF)])
.ret)
.skip))
(sq (kd [0,1,6,7,8] [(oM 47 6,[]),
(oM 48 1,[0]),
(oM 49 7,[0,0]),
(oI 50 1 48 49,[2]),
(oL 51 50,[3]),
(oM 52 0,[0,0,0,0,0]),
(oM 53 8,[0,0,0,0,0,0]),
(oI 54 1 52 53,[2,0,0,0,0]),
(oL 55 54,[3,0,0,0,0]),
(oC 56 84 [51,55],[8]),
(oD 57 (.append (.int .u8) 1 47 56),[]),
(oM 6 57,[])])
(kr [0,1,6,7,8] [oM 58 7,
oB 59 .add 58 (cI 1),
oM 7 59])))))
(kr [0,1,6,7,8] [oM 23 8,
oB 24 .add 23 (cI 1),
oM 8 24]))))))
(sq (kr [6] [oM 60 6,
oM 4 60,
oD 5 (.mov cT)])
.ret))))))
def HM_:List RD:=[.tmp 4 false none,.tmp 5 false none]
theorem bk_:zn_ Tryz.prog Tryz.f81 b2_ HM_=true:=by kernel_rfl
def jB_:List AV->List Obj->Option (Prop × AV × List Obj)
 | [.imm (.int .i64) w,.imm (.int .u64) xs],[]=>some ((True,.tup [.own 0,.bool (ZM_ w xs)],[.row false (.int .u8) (Zm_ w xs)]))
 | _,_=>none
theorem XJ_:zd_ Tryz.prog 81 (RwF jB_).sum:=by
 refine qw_ Tryz.func81 bk_ (za_ (s:=RoF jA_) XI_ (za_ (s:=RoF jC_) XK_ (za_ (s:=RoF yA_) Hg_ (za_ (s:=RwF Qb_) qL_ (zc_ _))))) fun args objs p v o e=>?_
 unfold jB_ at e
 split at e
 ·rename_i w xs
  cases e
  refine ⟨rfl,fun hw ho hp=>?_⟩
  change List Int at w
  change List Int at xs
  have hx:xs.length<=maxLen:=(hw (.imm (.int .u64) xs) (by simp)).2
  unfold maxLen at hx
  repeat'(intro t ht;first|(cases t<;>first|(cases ht;done)|(try simp only[zg_]at ht))|((first|refine zb_ ht ?_|refine ht ?_ ?_|refine ht.1 ?_ ?_|refine ht ?_)<;>clear ht))
  all_goals first
   | exact True.intro
   | (intro r h1 h2;clear h1;refine h2 ⟨[0,1,6,7,8],Nat × Nat × List Int,(fun a=>a.1<=w.length/\(a.2.2.length:Int)=KR_ zp_ w a.1/\KR_ ZZ_ w a.1=a.2.1/\qJ_ w xs []=qJ_ (w.drop a.1) (xs.drop a.2.1) a.2.2),fun a=>[.imm (.int .i64) w,.imm (.int .u64) xs,.own 0,.int .i64 a.2.1,.int .i64 a.1],fun a=>[.row false (.int .u8) a.2.2],fun a=>w.length - a.1,⟨(0,0,[]),⟨Nat.zero_le _,rfl,rfl,rfl⟩,rfl,rfl⟩,?_⟩;clear h2)
   | ((try simp only [zk_,zl_,zj_] at*);omega)
   | (have hn:¬ (zP_ w=true/\zq_ w=xs.length):=fun h=>by simp_all
      unfold Zm_ ZM_ Q2_;rw [if_neg hn];exact ⟨rfl,rfl⟩)
  rintro ⟨i,k,b⟩ ⟨hi,hb,hk,he⟩
  dsimp only at hi hb hk he
  have hr:zP_ w=true:=by assumption
  have hc:zq_ w=xs.length:=by assumption
  have hsum:(w.map ZZ_).sum=xs.length:=by unfold zq_ at hc;rwa [if_pos hr] at hc
  have hl:=(Zl_.1 hr).1
  have hs:=yP_ hr i
  have h1:=yO_ hr i
  repeat'(intro t ht;first|(cases t<;>first|(cases ht;done)|(try simp only[zg_]at ht))|((first|refine zb_ ht ?_|refine ht ?_ ?_|refine ht.1 ?_ ?_|refine ht ?_)<;>clear ht))
  all_goals first
   | ((try simp only [zk_,zl_,zj_] at*);omega)
   | (have hge:w.length<=i:=by omega
      rw [List.drop_of_length_le hge] at he
      have hf:Q2_ w xs=some b:=by unfold Q2_;rw [if_pos ⟨hr,hc⟩,he];rfl
      unfold Zm_ ZM_;rw [hf];exact ⟨rfl,rfl⟩)
   | skip
  all_goals have hlt:i < w.length:=by omega
  all_goals have hkk:=(Zl_.1 hr).2 _ (zD_ (α:=Int) hlt 0)
  all_goals first
   | ((try simp only [zk_,zl_,zj_] at*);omega)
   | (have hn:w.getD i 0 < 0:=by assumption
      have ha:=Jq_ hn
      have h0:ZZ_ (w.getD i 0)=0:=if_neg (by omega)
      have hbl:=zm_ (n:=0) (w:=0 - w.getD i 0) (by omega)
      first
       | ((try simp only [zk_,zl_,zj_] at*);omega)
       | (refine ⟨(i+1,k,b++ze_ 0 (0 - w.getD i 0)),⟨hlt,?_,?_,?_⟩,by dsimp only;omega,rfl,?_⟩
          ·rw [ZU_ zp_ hlt,ha];simp only [List.length_append];omega
          ·rw [ZU_ ZZ_ hlt,h0];dsimp only;omega
          ·rw [he];exact zax_ hlt hn
          ·dsimp only;rw [<- Vn_];rfl))
   | (have hn:¬ w.getD i 0 < 0:=by assumption
      have hlt2:=zeG_ (w:=w) (i:=i) hlt (by omega)
      have h2:k < xs.length:=by omega
      first
       | ((try simp only [zk_,zl_,zj_] at*);omega)
       | (have h8:=zf3_ (by assumption) hkk.2.1
          have hf:Q2_ w xs=none:=by unfold Q2_;rw [if_pos ⟨hr,hc⟩,he];exact hn_ hlt hn h2 h8.1 h8.2
          unfold Zm_ ZM_;rw [hf];exact ⟨rfl,rfl⟩)
       | (have h8:=zhB_ (by assumption)
          have ha:=Xg_ hn
          have h0:ZZ_ (w.getD i 0)=1:=if_pos (by omega)
          have hbl:=zm_ (n:=xs.getD k 0) (w:=w.getD i 0) (by omega)
          first
           | (simp only [zT_];(try simp only [zk_,zl_,zj_] at*);omega)
           | (refine ⟨(i+1,k+1,b++ze_ (xs.getD k 0) (w.getD i 0)),⟨hlt,?_,?_,?_⟩,by dsimp only;omega,rfl,rfl⟩
              ·rw [ZU_ zp_ hlt,ha];simp only [List.length_append];omega
              ·rw [ZU_ ZZ_ hlt,h0];dsimp only;omega
              ·rw [he];exact hm_ hlt hn h2 h8)))
 ·cases e
def UA_:IR:=
(sq (kr [0] [oD 1 (.boxv 0),
oD 2 (.nilrow (.int .u8))])
(sq (.reg [oD 3 (.nilrow (.int .u8))])
(sq (sq (.reg [oA 5 0 1,
oL 6 5,
oB 7 .eql 6 (cI 65535)])
(.cond 7
(kr [1] [oA 8 3 1,
oL 9 8,
oC 10 84 [9,(cI 4)],
oM 3 10])
.skip))
(sq (kd [1,3] [(oM 11 3,[]),
(oA 12 4 1,[0]),
(oL 13 12,[1]),
(oD 14 (.append (.int .u8) 1 11 13),[]),
(oA 15 5 1,[0,0,0,0]),
(oL 16 15,[1,0,0,0]),
(oD 17 (.append (.int .u8) 1 14 16),[]),
(oM 3 17,[])])
(sq (kr [1,3] [oA 18 1 1,
oL 19 18,
oB 20 .mul (cI 2) 19,
oM 4 20])
(sq (sq (.reg [oA 21 2 1,
oL 22 21])
(.cond 22
(kr [1,3,4] [oM 23 4,
oB 24 .add 23 (cI 1),
oM 4 24])
.skip))
(sq (kr [1,3,4] [oA 25 0 1,
oL 26 25,
oD 27 (.conv .u64 26),
oC 28 84 [27,(cI 2)],
oM 29 4,
oD 30 (.conv .u8 29),
oM 31 3,
oE 32 31,
oD 33 (.conv .u8 32),
oD 34 (.sliceAll (.int .u8) 2 [(0,1,30),(1,1,33)]),
oD 35 (.append (.int .u8) 1 28 34),
oM 36 3,
oD 37 (.append (.int .u8) 1 35 36),
oM 2 37])
.ret)))))))
def uQ_:List RD:=[.tmp 2 false none]
theorem Ud_:zn_ Tryz.prog Tryz.f180 UA_ uQ_=true:=by kernel_rfl
def jT_:List AV->List Obj->Option (Prop × AV × List Obj)
 | [.agg [.int .i64 c,.int .i64 f,.bool h,.int .u64 x,.imm (.int .u8) v,.imm (.int .u8) m]],[]=>some ((0<=f/\f<=127/\0<=c/\c<=65535/\v.length<=100/\m.length<=100,.own 0,[.row false (.int .u8) (ZB_ c f h x v m)]))
 | _,_=>none
theorem Vw_:zd_ Tryz.prog 180 (RwF jT_).sum:=by
 refine qw_ Tryz.func180 Ud_ (za_ (s:=RwF Qb_) qL_ (zc_ _)) fun args objs p v o e=>?_
 unfold jT_ at e
 split at e
 ·rename_i c f h x v m
  cases e
  refine ⟨rfl,fun hw ho hp=>?_⟩
  change List Int at v
  change List Int at m
  have hx:=zm_ (n:=x) (w:=4) (by decide)
  have hc2:=zm_ (n:=c) (w:=2) (by decide)
  cases h<;>by_cases hc:c=65535
  all_goals repeat'(intro t ht;first|(cases t<;>first|(cases ht;done)|(try simp only[zg_]at ht))|((first|refine zb_ ht ?_|refine ht ?_ ?_|refine ht.1 ?_ ?_|refine ht ?_)<;>clear ht))
  all_goals first
   | exact True.intro
   | exact (by decide)
   | contradiction
   | ((try simp only [zk_,zl_,zj_] at*);omega)
   | (simp only [List.length_append,List.length_cons,List.length_nil,zT_];(try simp only [zk_,zl_,zj_] at*);omega)
   | (refine ⟨rfl,?_⟩;(try simp only [zT_]);unfold ZB_ Jo_;simp_all;done)
 ·cases e
def zd1_:IR:=
(sq (kr [0] [oD 2 (.mov (.c (.imm (.int .i64) []))),
oD 3 (.mov cF)])
(sq (sq (.reg [oM 4 0])
(.block 0
(sq (.reg [oB 6 .eql 4 (cI 0),
oM 5 6])
(.cond 5
(sq (.reg [oD 7 (.sliceAll (.int .i64) 3 [(0,1,(cI 4)),(1,1,(cI 2)),(2,1,(cI (-6)))]),
oM 2 7,
oD 3 (.mov cT)])
.ret)
(sq (sq (.reg [oB 9 .eql 4 (cI 22),
oM 8 9])
(.cond 8
.skip
(sq (kr [4] [oB 10 .eql 4 (cI 21),
oM 8 10])
(.cond 8
.skip
(.reg [oB 11 .eql 4 (cI 65535),
oM 8 11])))))
(.cond 8
(sq (kr [] [oD 12 (.sliceAll (.int .i64) 1 [(0,1,(cI 4))]),
oM 2 12,
oD 3 (.mov cT)])
.ret)
(sq (sq (kr [4] [oB 14 .eql 4 (cI 15),
oM 13 14])
(.cond 13
.skip
(.reg [oB 15 .eql 4 (cI 23),
oM 13 15])))
(.cond 13
(sq (.reg [oD 16 (.sliceAll (.int .i64) 2 [(0,1,(cI 1)),(1,1,(cI (-3)))]),
oM 2 16,
oD 3 (.mov cT)])
.ret)
(sq (sq (.reg [oB 18 .eql 4 (cI 11),
oM 17 18])
(.cond 17
.skip
(sq (kr [4] [oB 19 .eql 4 (cI 12),
oM 17 19])
(.cond 17
.skip
(sq (.reg [oB 20 .eql 4 (cI 16),
oM 17 20])
(.cond 17
.skip
(sq (.reg [oB 21 .eql 4 (cI 18),
oM 17 21])
(.cond 17
.skip
(sq (kr [4] [oB 22 .eql 4 (cI 24),
oM 17 22])
(.cond 17
.skip
(.reg [oB 23 .eql 4 (cI 27),
oM 17 23])))))))))))
(.cond 17
(sq (kr [] [oD 24 (.sliceAll (.int .i64) 1 [(0,1,(cI (-4)))]),
oM 2 24,
oD 3 (.mov cT)])
.ret)
(sq (sq (kr [4] [oB 26 .eql 4 (cI 17),
oM 25 26])
(.cond 25
.skip
(sq (.reg [oB 27 .eql 4 (cI 19),
oM 25 27])
(.cond 25
.skip
(sq (.reg [oB 28 .eql 4 (cI 20),
oM 25 28])
(.cond 25
.skip
(kr [4] [oB 29 .eql 4 (cI 26),
oM 25 29])))))))
(.cond 25
(sq (kr [] [oD 30 (.sliceAll (.int .i64) 2 [(0,1,(cI 2)),(1,1,(cI (-2)))]),
oM 2 30,
oD 3 (.mov cT)])
.ret)
.skip))))))))))))
(sq (kr [] [oD 2 (.mov (.c (.imm (.int .i64) []))),
oD 3 (.mov cF)])
.ret)))
def zc5_:List RD:=[.tmp 2 true (some (.int .i64)),.tmp 3 true none]
theorem zdv_:zn_ Tryz.prog Tryz.f173 zd1_ zc5_=true:=by kernel_rfl
def vH_:List AV->List Obj->Option (Prop × AV)
 | [.int .i64 q],[]=>some ((True,.tup [.imm (.int .i64) (zv_ q),.bool (uK_ q)]))
 | _,_=>none
theorem BN_:zd_ Tryz.prog 173 (RoF vH_).sum:=by
 refine zi_ Tryz.func173 zdv_ (zc_ _) fun args objs p v e=>?_
 unfold vH_ at e
 split at e
 ·rename_i q
  cases e
  refine ⟨rfl,fun hw ho hp=>?_⟩
  clear hw ho
  repeat'(intro t ht;first|(cases t<;>first|(cases ht;done)|(try simp only[zg_]at ht;try(exfalso;first|contradiction|omega)))|((first|refine zb_ ht ?_|refine ht ?_ ?_|refine ht.1 ?_ ?_|refine ht ?_)<;>clear ht))
  all_goals first
   | exact True.intro
   | (have h:=zeK_ (t:=q) (by omega)
      rw [h.1,h.2];exact ⟨rfl,rfl⟩)
   | (subst_vars;exact ⟨rfl,rfl⟩)
   | (have h:q=0\/(q=22\/q=21\/q=65535)\/(q=15\/q=23)\/(q=17\/q=19\/q=26\/q=20)\/(q=11\/q=12\/q=16\/q=18\/q=24\/q=27):=by omega
      rcases h with rfl | (rfl | rfl | rfl) | (rfl | rfl) | (rfl | rfl | rfl | rfl) | (rfl | rfl | rfl | rfl | rfl | rfl)<;>first | (exfalso;omega) | exact ⟨rfl,rfl⟩)
 ·cases e
def bR_:IR:=
(sq (kr [0,1] [oD 4 (.mov (cI 0))])
(sq (sq (.reg [oM 5 0])
(.block 0
(sq (.reg [oB 7 .eql 5 (cI 0),
oM 6 7])
(.cond 6
(sq (.reg [oM 8 1,
oB 9 .eql 8 (.c (.int .u64 0))])
(.cond 9
(sq (kr [] [oD 4 (.mov (cI 517))])
.ret)
.skip))
(sq (.reg [oB 11 .eql 5 (cI 22),
oM 10 11])
(.cond 10
(sq (kr [1] [oM 12 1,
oB 13 .gtr 12 (.c (.int .u64 4294967040))])
(.cond 13
(sq (.reg [oD 4 (.mov (cI 522))])
.ret)
.skip))
(sq (kr [1,5] [oB 15 .eql 5 (cI 17),
oM 14 15])
(.cond 14
(sq (kr [1] [oM 16 1,
oB 17 .neq 16 (.c (.int .u64 33024)),
oM 18 17,
oT 18 19 (.mov 1),
oT 18 20 (.bin .neq 19 (.c (.int .u64 34984))),
oP 21 18 20 cF])
(.cond 21
(sq (kr [] [oD 4 (.mov (cI 518))])
.ret)
.skip))
(sq (.reg [oB 23 .eql 5 (cI 19),
oM 22 23])
(.cond 22
(sq (kr [1] [oM 24 1,
oB 25 .neq 24 (.c (.int .u64 34887)),
oM 26 25,
oT 26 27 (.mov 1),
oT 26 28 (.bin .neq 27 (.c (.int .u64 34888))),
oP 29 26 28 cF])
(.cond 29
(sq (kr [] [oD 4 (.mov (cI 518))])
.ret)
.skip))
(sq (.reg [oB 31 .eql 5 (cI 26),
oM 30 31])
(.cond 30
(sq (kr [1] [oM 32 1,
oB 33 .neq 32 (.c (.int .u64 35047))])
(.cond 33
(sq (.reg [oD 4 (.mov (cI 518))])
.ret)
.skip))
.skip))))))))))))
(sq (kr [] [oD 4 (.mov (cI 0))])
.ret)))
def HB_:List RD:=[.tmp 4 true none]
theorem H9_:zn_ Tryz.prog Tryz.f174 bR_ HB_=true:=by kernel_rfl
def xJ_:List AV->List Obj->Option (Prop × AV)
 | [.int .i64 q,.int .u64 n],[]=>some ((True,.int .i64 (G3_ q n)))
 | _,_=>none
theorem gq_:zd_ Tryz.prog 174 (RoF xJ_).sum:=by
 refine zi_ Tryz.func174 H9_ (zc_ _) fun args objs p v e=>?_
 unfold xJ_ at e
 split at e
 ·rename_i q n
  cases e
  refine ⟨rfl,fun hw ho hp=>?_⟩
  clear hw ho
  repeat'(intro t ht;first|(cases t<;>first|(cases ht;done)|(try simp only[zg_]at ht;try(exfalso;first|contradiction|omega)))|((first|refine zb_ ht ?_|refine ht ?_ ?_|refine ht.1 ?_ ?_|refine ht ?_)<;>clear ht))
  all_goals first
   | exact True.intro
   | (refine ⟨congrArg (AV.int .i64) ?_,rfl⟩;unfold G3_;repeat' split
      all_goals first | rfl | omega)
 ·cases e
def zbC_:IR:=
(sq (kr [0,1] [oD 2 (.boxv 0),
oD 4 (.mov (.c (.imm (.int .u64) [])))])
(sq (kr [1,2] [oA 6 1 2,
oL 7 6,
oA 8 2 2,
oL 9 8,
oD 10 (.sliceAll (.int .u64) 2 [(0,1,7),(1,1,9)]),
oM 5 10])
(sq (kr [1,5] [oM 11 5,
oM 12 1,
oC 13 147 [12],
oD 14 (.slice 1 11 none (some 13) none),
oM 4 14])
.ret)))
def zae_:List RD:=[.tmp 4 true (some (.int .u64))]
theorem zaP_:zn_ Tryz.prog Tryz.f206 zbC_ zae_=true:=by kernel_rfl
def yv_:List AV->List Obj->Option (Prop × AV)
 | [.agg [.int .i64 q,.int .u64 a,.int .u64 b,.int .i64 c,.int .i64 f,.bool h,.int .u64 x,.imm (.int .u8) v,.imm (.int .u8) m,.imm (.int .u8) d],.imm (.int .i64) w],[]=>some ((0<=zq_ w/\zq_ w<=2,.imm (.int .u64) ([a,b].take (zq_ w).toNat)))
 | _,_=>none
theorem Hb_:zd_ Tryz.prog 206 (RoF yv_).sum:=by
 refine zi_ Tryz.func206 zaP_ (za_ (s:=RoF jC_) XK_ (zc_ _)) fun args objs p v e=>?_
 unfold yv_ at e
 split at e
 ·rename_i q a b c f h x v m d w
  cases e
  refine ⟨rfl,fun hw ho hp=>?_⟩
  change List Int at v
  change List Int at m
  change List Int at d
  change List Int at w
  clear hw ho
  repeat'(intro t ht;first|(cases t<;>first|(cases ht;done)|(try simp only[zg_]at ht;try(exfalso;first|contradiction|omega)))|((first|refine zb_ ht ?_|refine ht ?_ ?_|refine ht.1 ?_ ?_|refine ht ?_)<;>clear ht))
  all_goals first
   | exact True.intro
   | exact hp
   | ((try simp only [zk_,zl_,zj_] at*);omega)
   | exact ⟨rfl,rfl⟩
 ·cases e
theorem uL_ {q a b c f:Int} {h:Bool} {x:Int} {v m d:List Int} (hx:0<=x) (hv:∀ x ∈ v,0<=x/\x<=255) (hm:∀ x ∈ m,0<=x/\x<=255):zS_ (zB_ c f h x v m) q a b c f h x v m d=zS_ (Kw_ c f h x v m) q a b c f h x v m d:=by rw [YZ_ hx hv hm]
def VW_:IR:=
(sq (kr [0] [oD 2 (.mov cF)])
(sq (kr [0] [oM 6 0,
oC 7 197 [6],
oM 5 7,
oX 8 5 0,
oX 9 5 1,
oD 3 (.box [.str [],.int .i64 0,.int .i64 0,.kb false,.int .i64 0,.imm (.int .u64) []]),
oS 6 3 8,
oM 4 9])
(sq (kr [0,4] [oM 10 4,
oM 11 10,
oT 11 12 (.mov 0),
oT 11 13 (.bin .gtr 12 (cI 2)),
oP 14 11 13 cF,
oM 15 14,
oT 15 16 (.mov 0),
oT 15 17 (.bin .neq 16 (cI 39)),
oP 18 15 17 cF,
oM 2 18])
.ret)))
def VE_:List RD:=[.tmp 2 true none]
theorem VM_:zn_ Tryz.prog Tryz.f201 VW_ VE_=true:=by kernel_rfl
def K7_:List AV->List Obj->Option (Prop × AV)
 | [.int .i64 n],[]=>some ((True,.bool (WZ_ n)))
 | _,_=>none
theorem YS_:zd_ Tryz.prog 201 (RoF K7_).sum:=by
 refine zi_ Tryz.func201 VM_ (za_ (s:=RoF K8_) KS_ (zc_ _)) fun args objs p v e=>?_
 unfold K7_ at e
 split at e
 ·rename_i n
  cases e
  refine ⟨rfl,fun hw ho hp=>?_⟩
  repeat'(intro t ht;first|(cases t<;>first|(cases ht;done)|(try simp only[zg_]at ht))|((first|refine zb_ ht ?_|refine ht ?_ ?_|refine ht.1 ?_ ?_|refine ht ?_)<;>clear ht))
  all_goals try (try simp only [zk_,zl_,zj_] at*)
  all_goals first
   | exact True.intro
   | (refine ⟨?_,trivial⟩;unfold WZ_;congr 1;rw [Bool.eq_iff_iff];first | (have h:=qj_.1 (by assumption);simp at*;omega) | (have h:=jv_.1 (by assumption);simp at*;omega) | (simp at*;omega))
 ·cases e
end Go.Eng
namespace Go.Eng
open Go.Proofs
set_option linter.unusedVariables false
set_option linter.unusedSimpArgs false
set_option maxRecDepth 100000
set_option maxHeartbeats 1000000
set_option maxHeartbeats 8000000
end Go.Eng
