/- Parts of the proof: M1, OG, R7, N1. No condition. -/
import Derived.Test.YtiejmanmofemeaaGreatDoorProg
import Derived.Test.YtiejmanmofemeaaGreatDoorWB10
import Derived.KernelRfl
import Derived.Test.YtiejmanmofemeaaGreatDoorWB14
import Derived.Test.YtiejmanmofemeaaGreatDoorWB11
namespace Go.Eng
open Go.Proofs
set_option linter.unusedVariables false
set_option linter.unusedSimpArgs false
set_option maxRecDepth 100000
set_option maxHeartbeats 1000000
def jk_ {α:Type} (p:α->Bool):List α->Int->Int
 | [],_=>-1
 | o :: r,i=>if p o=true then i else jk_ p r (i+1)
theorem xt_ {α:Type} {p:α->Bool} {l:List α} {i:Nat} (h:l.length<=i):jk_ p (l.drop i) i=-1:=by
 rw [List.drop_of_length_le h];rfl
theorem Yv_ {α:Type} {p:α->Bool} {l:List α} {i:Nat} {d:α} (h:i < l.length) (hk:p (l.getD i d)=true):jk_ p (l.drop i) i=i:=by
 rw [zA_ h d];exact if_pos hk
theorem Yu_ {α:Type} {p:α->Bool} {l:List α} {i:Nat} {d:α} (h:i < l.length) (hk:p (l.getD i d)=false):jk_ p (l.drop i) i=jk_ p (l.drop (i+1)) ((i+1:Nat):Int):=by
 rw [zA_ h d];exact if_neg (by rw [hk];decide)
theorem Jg_ {α:Type} {p:α->Bool}:∀ (l:List α) (i:Int),0<=i->decide (0<=jk_ p l i)=l.any p
 | [],i,h=>rfl
 | o :: r,i,h=>by
   unfold jk_
   rw [List.any_cons]
   cases hk:p o with
   | true=>rw [if_pos rfl,decide_eq_true h];rfl
   | false=>rw [if_neg (by decide),Jg_ r (i+1) (by omega)];rfl
def nzB (c:Int):Bool:=decide (c ≠ 0)
abbrev OV:=Int × Int × Bool × Int × List Int × List Int × Unit
instance:DecidableEq (Int × List Int × List Int × Unit):=inferInstance
instance:DecidableEq OV:=inferInstance
def VU_ (b:List Int):Int:=b.foldl (fun n c=>ZE_ .or .u64 (IntKind.u64.wrap (n*2 ^ min (Int.toNat 8) IntKind.u64.bits)) (IntKind.u64.wrap c)) 0
theorem hr_ {b:List Int} {i:Nat} (h:i < b.length):VU_ (b.take (i+1))=ZE_ .or .u64 (IntKind.u64.wrap (VU_ (b.take i)*2 ^ min (Int.toNat 8) IntKind.u64.bits)) (IntKind.u64.wrap (b.getD i 0)):=by
 unfold VU_
 rw [List.take_succ_eq_append_getElem h,List.foldl_append,List.getD_eq_getElem?_getD,List.getElem?_eq_getElem h];rfl
def UE_:IR:=
(sq (kr [0,1] [oD 4 (.mov (.c (.int .u64 0))),
oD 5 (.mov cF)])
(sq (sq (.reg [oM 8 0,
oE 9 8,
oD 10 (.mov (cI 0))])
(.block 0
(.loop
(sq (kr [0,1,4,8,9,10] [oB 11 .lss 10 9])
(sq (.cond 11
.skip
(.exit 0))
(sq (.block 1
(sq (.reg [oI 12 1 8 10,
oL 13 12,
oM 7 13])
(kr [0,1,4,7,8,9,10] [oM 14 4,
oB 15 .shl 14 (.c (.int .u64 8)),
oM 16 7,
oD 17 (.conv .u64 16),
oB 18 .or 15 17,
oM 4 18])))
(kr [0,1,4,8,9,10] [oB 19 .add 10 (cI 1),
oM 10 19])))))))
(sq (kr [0,1,4] [oM 20 4,
oM 21 0,
oE 22 21,
oM 23 1,
oB 24 .eql 22 23,
oM 4 20,
oM 5 24])
.ret)))
def uU_:List RD:=[.tmp 4 true none,.tmp 5 true none]
theorem Uh_:zn_ Tryz.prog Tryz.f245 UE_ uU_=true:=by kernel_rfl
def jV_:List AV->List Obj->Option (Prop × AV)
 | [.imm (.int .u8) b,.int .i64 z],[]=>some ((True,.tup [.int .u64 (VU_ b),.bool (decide ((b.length:Int)=z))]))
 | _,_=>none
theorem Vy_:zd_ Tryz.prog 245 (RoF jV_).sum:=by
 refine zi_ Tryz.func245 Uh_ (zc_ _) fun args objs p v e=>?_
 unfold jV_ at e
 split at e
 ·rename_i b z
  cases e
  refine ⟨rfl,fun hw ho hp=>?_⟩
  change List Int at b
  have hl:b.length<=maxLen:=(hw (.imm (.int .u8) b) (by simp)).2
  unfold maxLen at hl
  clear hw ho
  repeat'(intro t ht;first|(cases t<;>first|(cases ht;done)|(try simp only[zg_]at ht))|((first|refine zb_ ht ?_|refine ht ?_ ?_|refine ht.1 ?_ ?_|refine ht ?_)<;>clear ht))
  all_goals first
   | (intro r h1 h2;clear h1;refine h2 ⟨[0,1,4,8,9,10],Nat,(fun i=>i<=b.length),fun i=>[.imm (.int .u8) b,.int .i64 z,.int .u64 (VU_ (b.take i)),.imm (.int .u8) b,.int .i64 b.length,.int .i64 i],fun _=>[],fun i=>b.length - i,⟨0,Nat.zero_le _,rfl,rfl⟩,?_⟩;clear h2)
  intro i hi
  repeat'(intro t ht;first|(cases t<;>first|(cases ht;done)|(try simp only[zg_]at ht))|((first|refine zb_ ht ?_|refine ht ?_ ?_)<;>clear ht)|(refine ht.1 (by simp only[zj_];omega) ?_;clear ht)|(refine ht.2 ?_;clear ht)|(refine ht ?_;clear ht))
  all_goals first
   | exact True.intro
   | ((try simp only [zk_,zl_,zj_] at*);omega)
   | (have hge:b.length<=i:=by omega
      rw [List.take_of_length_le hge];exact ⟨rfl,rfl⟩)
   | exact (by decide)
   | (refine ⟨i+1,by omega,by dsimp only;omega,?_,rfl⟩
      dsimp only
      rw [hr_ (by omega)];rfl)
 ·cases e
def VX_:IR:=
(sq (kr [0] [oD 2 (.mov cF)])
(sq (.reg [oM 3 0,
oB 4 .neq 3 (.c (.int .u8 0)),
oM 2 4])
.ret))
def VF_:List RD:=[.tmp 2 true none]
theorem VN_:zn_ Tryz.prog Tryz.f244 VX_ VF_=true:=by kernel_rfl
def qZ_:List AV->List Obj->Option (Prop × AV)
 | [.int .u8 b],[]=>some ((True,.bool (nzB b)))
 | _,_=>none
theorem kx_:zd_ Tryz.prog 244 (RoF qZ_).sum:=by
 refine zi_ Tryz.func244 VN_ (zc_ _) fun args objs p v e=>?_
 unfold qZ_ at e
 split at e
 ·rename_i b
  cases e
  refine ⟨rfl,fun hw ho hp=>?_⟩
  repeat'(intro t ht;first|(cases t<;>first|(cases ht;done)|(try simp only[zg_]at ht;try(exfalso;first|contradiction|omega)))|((first|refine zb_ ht ?_|refine ht ?_ ?_|refine ht.1 ?_ ?_|refine ht ?_)<;>clear ht))
  all_goals first
   | exact True.intro
   | (refine ⟨congrArg AV.bool ?_,rfl⟩;unfold nzB;simp;done)
 ·cases e
def k8_:IR:=
(sq (kr [0,1] [oD 4 (.mov (cI 0))])
(sq (sq (.reg [oM 6 0,
oE 7 6,
oD 8 (.mov (cI 0))])
(.block 0
(.loop
(sq (kr [0,1,7,8] [oB 9 .lss 8 7])
(sq (.cond 9
.skip
(.exit 0))
(sq (.block 1
(sq (.reg [oM 10 8,
oM 5 10])
(sq (kr [0,1,5,7,8] [oM 11 1,
oM 12 0,
oM 13 5,
oI 14 1 12 13,
oL 15 14,
oD 16 (.call false 11 [15])])
(.cond 16
(sq (kr [5] [oM 17 5,
oM 4 17])
.ret)
.skip))))
(kr [0,1,7,8] [oB 18 .add 8 (cI 1),
oM 8 18])))))))
(sq (kr [] [oD 4 (.mov (cI (-1)))])
.ret)))
def k2_:List RD:=[.tmp 4 true none]
theorem k4_:zn_ Tryz.prog Tryz.f256 k8_ k2_=true:=by kernel_rfl
def ZQ_:List AV->List Obj->Option (Prop × AV)
 | [.imm (.int .u8) l,.fn 244 [] []],[]=>some ((True,.int .i64 (jk_ nzB l 0)))
 | _,_=>none
theorem kw_:zd_ Tryz.prog 256 (RoF ZQ_).sum:=by
 refine zi_ Tryz.func256 k4_ (za_ (s:=RoF qZ_) kx_ (zc_ _)) fun args objs p v e=>?_
 unfold ZQ_ at e
 split at e
 ·rename_i l
  cases e
  refine ⟨rfl,fun hw ho hp=>?_⟩
  change List Int at l
  have hl:l.length<=maxLen:=(hw (.imm (.int .u8) l) (by simp)).2
  unfold maxLen at hl
  clear hw ho
  repeat'(intro t ht;first|(cases t<;>first|(cases ht;done)|(try simp only[zg_]at ht))|((first|refine zb_ ht ?_|refine ht ?_ ?_|refine ht.1 ?_ ?_|refine ht ?_)<;>clear ht))
  all_goals first
   | (intro r h1 h2;clear h1;refine h2 ⟨[0,1,7,8],Nat,(fun i=>i<=l.length/\jk_ nzB l 0=jk_ nzB (l.drop i) i),fun i=>[.imm (.int .u8) l,.fn 244 [] [],.int .i64 l.length,.int .i64 i],fun _=>[],fun i=>l.length - i,⟨0,⟨Nat.zero_le _,rfl⟩,rfl,rfl⟩,?_⟩;clear h2)
  rintro i ⟨hi,he⟩
  repeat'(intro t ht;first|(cases t<;>first|(cases ht;done)|(try simp only[zg_]at ht;try(exfalso;first|contradiction|omega)))|((first|refine zb_ ht ?_|refine ht ?_ ?_|refine ht.1 ?_ ?_|refine ht ?_)<;>clear ht))
  all_goals first
   | exact True.intro
   | ((try simp only [zk_,zl_,zj_] at*);omega)
   | (refine ⟨?_,rfl⟩;rw [he,xt_ (by omega)];done)
   | (refine ⟨?_,rfl⟩;rw [he,Yv_ (d:=0) (by omega) (by assumption)];done)
   | exact ⟨i+1,⟨by omega,he.trans (Yu_ (d:=0) (by omega) (by assumption))⟩,by dsimp only;omega,rfl,rfl⟩
 ·cases e
def Q7_:IR:=
(sq (kr [0,1] [oD 4 (.mov cF)])
(sq (kr [0,1] [oM 5 0,
oM 6 1,
oC 7 256 [5,6],
oB 8 .geq 7 (cI 0),
oM 4 8])
.ret))
def Q0_:List RD:=[.tmp 4 true none]
theorem Q4_:zn_ Tryz.prog Tryz.f243 Q7_ Q0_=true:=by kernel_rfl
def Zu_:List AV->List Obj->Option (Prop × AV)
 | [.imm (.int .u8) l,.fn 244 [] []],[]=>some ((True,.bool (l.any nzB)))
 | _,_=>none
theorem QR_:zd_ Tryz.prog 243 (RoF Zu_).sum:=by
 refine zi_ Tryz.func243 Q4_ (za_ (s:=RoF qZ_) kx_ (za_ (s:=RoF ZQ_) kw_ (zc_ _))) fun args objs p v e=>?_
 unfold Zu_ at e
 split at e
 ·rename_i l
  cases e
  refine ⟨rfl,fun hw ho hp=>?_⟩
  change List Int at l
  have h:=Jg_ (p:=nzB) l 0 (Int.le_refl _)
  repeat'(intro t ht;first|(cases t<;>first|(cases ht;done)|(try simp only[zg_]at ht;try(exfalso;first|contradiction|omega)))|((first|refine zb_ ht ?_|refine ht ?_ ?_|refine ht.1 ?_ ?_|refine ht ?_)<;>clear ht))
  all_goals first
   | exact True.intro
   | exact ⟨congrArg AV.bool h,rfl⟩
 ·cases e
def k7_:IR:=
(sq (kr [0,1] [oD 4 (.mov (cI 0))])
(sq (sq (.reg [oM 6 0,
oE 7 6,
oD 8 (.mov (cI 0))])
(.block 0
(.loop
(sq (kr [0,1,7,8] [oB 9 .lss 8 7])
(sq (.cond 9
.skip
(.exit 0))
(sq (.block 1
(sq (.reg [oM 10 8,
oM 5 10])
(sq (kr [0,1,5,7,8] [oM 11 1,
oM 12 0,
oM 13 5,
oI 14 1 12 13,
oL 15 14,
oB 16 .eql 11 15])
(.cond 16
(sq (kr [5] [oM 17 5,
oM 4 17])
.ret)
.skip))))
(kr [0,1,7,8] [oB 18 .add 8 (cI 1),
oM 8 18])))))))
(sq (kr [] [oD 4 (.mov (cI (-1)))])
.ret)))
def k1_:List RD:=[.tmp 4 true none]
theorem k3_:zn_ Tryz.prog Tryz.f257 k7_ k1_=true:=by kernel_rfl
def ZP_:List AV->List Obj->Option (Prop × AV)
 | [.imm (.int .u64) l,.int .u64 x],[]=>some ((True,.int .i64 (jk_ (fun y=>decide (x=y)) l 0)))
 | _,_=>none
theorem kv_:zd_ Tryz.prog 257 (RoF ZP_).sum:=by
 refine zi_ Tryz.func257 k3_ (zc_ _) fun args objs p v e=>?_
 unfold ZP_ at e
 split at e
 ·rename_i l x
  cases e
  refine ⟨rfl,fun hw ho hp=>?_⟩
  change List Int at l
  have hl:l.length<=maxLen:=(hw (.imm (.int .u64) l) (by simp)).2
  unfold maxLen at hl
  clear hw ho
  repeat'(intro t ht;first|(cases t<;>first|(cases ht;done)|(try simp only[zg_]at ht))|((first|refine zb_ ht ?_|refine ht ?_ ?_|refine ht.1 ?_ ?_|refine ht ?_)<;>clear ht))
  all_goals first
   | (intro r h1 h2;clear h1;refine h2 ⟨[0,1,7,8],Nat,(fun i=>i<=l.length/\jk_ (fun y=>decide (x=y)) l 0=jk_ (fun y=>decide (x=y)) (l.drop i) i),fun i=>[.imm (.int .u64) l,.int .u64 x,.int .i64 l.length,.int .i64 i],fun _=>[],fun i=>l.length - i,⟨0,⟨Nat.zero_le _,rfl⟩,rfl,rfl⟩,?_⟩;clear h2)
  rintro i ⟨hi,he⟩
  repeat'(intro t ht;first|(cases t<;>first|(cases ht;done)|(try simp only[zg_]at ht;try(exfalso;first|contradiction|omega)))|((first|refine zb_ ht ?_|refine ht ?_ ?_|refine ht.1 ?_ ?_|refine ht ?_)<;>clear ht))
  all_goals first
   | exact True.intro
   | ((try simp only [zk_,zl_,zj_] at*);omega)
   | (refine ⟨?_,rfl⟩;rw [he,xt_ (by omega)];done)
   | (refine ⟨?_,rfl⟩;rw [he,Yv_ (d:=0) (by omega) (show decide (x=l.getD i 0)=true from decide_eq_true (by assumption))];done)
   | exact ⟨i+1,⟨by omega,he.trans (Yu_ (d:=0) (by omega) (show decide (x=l.getD i 0)=false from decide_eq_false (by assumption)))⟩,by dsimp only;omega,rfl,rfl⟩
 ·cases e
def Q6_:IR:=
(sq (kr [0,1] [oD 4 (.mov cF)])
(sq (kr [0,1] [oM 5 0,
oM 6 1,
oC 7 257 [5,6],
oB 8 .geq 7 (cI 0),
oM 4 8])
.ret))
def QZ_:List RD:=[.tmp 4 true none]
theorem Q3_:zn_ Tryz.prog Tryz.f246 Q6_ QZ_=true:=by kernel_rfl
def Zt_:List AV->List Obj->Option (Prop × AV)
 | [.imm (.int .u64) l,.int .u64 x],[]=>some ((True,.bool (l.any fun y=>decide (x=y))))
 | _,_=>none
theorem QQ_:zd_ Tryz.prog 246 (RoF Zt_).sum:=by
 refine zi_ Tryz.func246 Q3_ (za_ (s:=RoF ZP_) kv_ (zc_ _)) fun args objs p v e=>?_
 unfold Zt_ at e
 split at e
 ·rename_i l x
  cases e
  refine ⟨rfl,fun hw ho hp=>?_⟩
  change List Int at l
  have h:=Jg_ (p:=fun y=>decide (x=y)) l 0 (Int.le_refl _)
  repeat'(intro t ht;first|(cases t<;>first|(cases ht;done)|(try simp only[zg_]at ht;try(exfalso;first|contradiction|omega)))|((first|refine zb_ ht ?_|refine ht ?_ ?_|refine ht.1 ?_ ?_|refine ht ?_)<;>clear ht))
  all_goals first
   | exact True.intro
   | exact ⟨congrArg AV.bool h,rfl⟩
 ·cases e
def metV (n:Int) (vals:List Int) (c f:Int) (h:Bool) (v:List Int):Bool:=decide (c=32768) && decide (f=n) && (if vals.length=0 then v.any nzB else decide ((v.length:Int)=ks_ n) && !h && vals.any fun y=>decide (VU_ v=y))
def GI_:IR:=
(sq (kr [0,1] [oD 2 (.boxv 0),
oD 3 (.boxv 1),
oD 4 (.mov cF)])
(sq (sq (kr [2,3] [oA 9 0 2,
oL 10 9,
oB 11 .neq 10 (cI 32768),
oM 12 11,
oF 12 13 (.fieldAddr 1 2),
oF 12 14 (.load none 13),
oF 12 15 (.fieldAddr 3 3),
oF 12 16 (.load none 15),
oF 12 17 (.bin .neq 14 16),
oP 18 12 cT 17])
(.cond 18
(sq (kr [] [oD 4 (.mov cF)])
.ret)
.skip))
(sq (sq (kr [2,3] [oA 19 4 3,
oL 20 19,
oE 21 20,
oB 22 .eql 21 (cI 0)])
(.cond 22
(sq (.reg [oA 23 4 2,
oL 24 23,
oC 25 243 [24,.f 244],
oM 4 25])
.ret)
.skip))
(sq (kr [2,3] [oA 27 3 3,
oL 28 27,
oC 29 225 [28],
oM 26 29,
oX 30 26 0,
oX 31 26 1,
oD 5 (.box [.int .i64 0,.int .i64 0,.kb false,.int .i64 0,.imm (.int .u64) []]),
oS 5 5 30,
oM 6 31])
(sq (kr [2,3,5] [oA 33 4 2,
oL 34 33,
oA 35 1 5,
oL 36 35,
oC 37 245 [34,36],
oM 32 37,
oX 38 32 0,
oX 39 32 1,
oM 7 38,
oM 8 39])
(sq (kr [2,3,7,8] [oM 40 8,
oM 41 40,
oT 41 42 (.fieldAddr 2 2),
oT 41 43 (.load none 42),
oT 41 44 (.un .not 43),
oP 45 41 44 cF,
oM 46 45,
oT 46 47 (.fieldAddr 4 3),
oT 46 48 (.load none 47),
oT 46 49 (.mov 7),
oT 46 50 (.call false (.f 246) [48,49]),
oP 51 46 50 cF,
oM 4 51])
.ret))))))
def gN_:List RD:=[.tmp 4 true none]
theorem Gf_:zn_ Tryz.prog Tryz.f231 GI_ gN_=true:=by kernel_rfl
def wF_:List AV->List Obj->Option (Prop × AV)
 | [.agg [.int .i64 c,.int .i64 f,.bool h,.int .u64 x,.imm (.int .u8) v,.imm (.int .u8) m],.agg [.int .i64 bits,.int .i64 size,.bool mk,.int .i64 nd,.imm (.int .u64) vals]],[]=>some ((True,.bool (metV nd vals c f h v)))
 | _,_=>none
theorem uz_:zd_ Tryz.prog 231 (RoF wF_).sum:=by
 refine zi_ Tryz.func231 Gf_ (za_ (s:=RoF Zu_) QR_ (za_ (s:=RoF qZ_) kx_ (za_ (s:=RoF je_) JI_ (za_ (s:=RoF jV_) Vy_ (za_ (s:=RoF Zt_) QQ_ (zc_ _)))))) fun args objs p v e=>?_
 unfold wF_ at e
 split at e
 ·rename_i c f h x v m bits size mk nd vals
  cases e
  refine ⟨rfl,fun hw ho hp=>?_⟩
  change List Int at v
  change List Int at m
  change List Int at vals
  clear hw ho
  by_cases h1:c=32768/\f=nd
  ·obtain ⟨rfl,rfl⟩:=h1
   have e:metV f vals 32768 f h v=if vals.length=0 then v.any nzB else decide ((v.length:Int)=ks_ f) && !h && vals.any fun y=>decide (VU_ v=y):=by unfold metV;simp
   rw [e]
   cases h<;>by_cases h2:vals.length=0<;>by_cases h3:(v.length:Int)=ks_ f
   all_goals repeat'(intro t ht;first|(cases t<;>first|(cases ht;done)|(try simp only[zg_]at ht;try(exfalso;first|contradiction|omega)))|((first|refine zb_ ht ?_|refine ht ?_ ?_|refine ht.1 ?_ ?_|refine ht ?_)<;>clear ht))
   all_goals first
    | exact True.intro
    | (refine ⟨congrArg AV.bool ?_,rfl⟩;simp_all;done)
    | (exfalso;simp_all;done)
  ·have e:metV nd vals c f h v=false:=by unfold metV;by_cases h2:c=32768<;>by_cases h3:f=nd<;>simp_all
   rw [e]
   cases h<;>by_cases h2:c=32768<;>by_cases h3:f=nd
   all_goals repeat'(intro t ht;first|(cases t<;>first|(cases ht;done)|(try simp only[zg_]at ht;try(exfalso;first|contradiction|omega)))|((first|refine zb_ ht ?_|refine ht ?_ ?_|refine ht.1 ?_ ?_|refine ht ?_)<;>clear ht))
   all_goals first
    | exact True.intro
    | exact ⟨rfl,rfl⟩
    | (exfalso;omega)
    | (exfalso;simp_all;done)
 ·cases e
def GJ_:IR:=
(sq (kr [0,1] [oD 2 (.boxv 0),
oD 3 (.mov cF)])
(sq (.reg [oK 4 6 2,
oK 5 5 1,
oC 6 231 [4,5],
oM 3 6])
.ret))
def gO_:List RD:=[.tmp 3 true none]
theorem Gg_:zn_ Tryz.prog Tryz.f230 GJ_ gO_=true:=by kernel_rfl
def KG_:List AV->List Obj->Option (Prop × AV)
 | [.agg [.int .i64 c,.int .i64 f,.bool h,.int .u64 x,.imm (.int .u8) v,.imm (.int .u8) m],.ptr 0 0],[.box [.int .i64 bits,.int .i64 size,.bool mk,.int .i64 nd,.imm (.int .u64) vals]]=>some ((True,.bool (metV nd vals c f h v)))
 | _,_=>none
theorem WS_:zd_ Tryz.prog 230 (RoF KG_).sum:=by
 refine zi_ Tryz.func230 Gg_ (za_ (s:=RoF wF_) uz_ (zc_ _)) fun args objs p v e=>?_
 unfold KG_ at e
 split at e
 ·rename_i c f h x v m bits size mk nd vals
  cases e
  refine ⟨rfl,fun hw ho hp=>?_⟩
  change List Int at v
  change List Int at m
  change List Int at vals
  clear hw ho
  repeat'(intro t ht;first|(cases t<;>first|(cases ht;done)|(try simp only[zg_]at ht;try(exfalso;first|contradiction|omega)))|((first|refine zb_ ht ?_|refine ht ?_ ?_|refine ht.1 ?_ ?_|refine ht ?_)<;>clear ht))
  all_goals first
   | exact True.intro
   | exact ⟨rfl,rfl⟩
 ·cases e
def VY_:IR:=
(sq (kr [0,1] [oD 2 (.boxv 0),
oD 3 (.mov cF)])
(sq (.reg [oK 4 6 2,
oK 5 6 1,
oC 6 202 [4,5],
oM 3 6])
.ret))
def VG_:List RD:=[.tmp 3 true none]
theorem VO_:zn_ Tryz.prog Tryz.f210 VY_ VG_=true:=by kernel_rfl
def kf_:List AV->List Obj->Option (Prop × AV)
 | [.agg [.int .i64 c,.int .i64 f,.bool h,.int .u64 x,.imm (.int .u8) v,.imm (.int .u8) m],.ptr 0 0],[.box [.int .i64 c',.int .i64 f',.bool h',.int .u64 x',.imm (.int .u8) v',.imm (.int .u8) m']]=>some ((True,.bool (decide (c=c') && decide (f=f') && decide (x=x'))))
 | _,_=>none
theorem j3_:zd_ Tryz.prog 210 (RoF kf_).sum:=by
 refine zi_ Tryz.func210 VO_ (za_ (s:=RoF jE_) XM_ (zc_ _)) fun args objs p v e=>?_
 unfold kf_ at e
 split at e
 ·rename_i c f h x v m c' f' h' x' v' m'
  cases e
  refine ⟨rfl,fun hw ho hp=>?_⟩
  change List Int at v
  change List Int at m
  change List Int at v'
  change List Int at m'
  clear hw ho
  repeat'(intro t ht;first|(cases t<;>first|(cases ht;done)|(try simp only[zg_]at ht;try(exfalso;first|contradiction|omega)))|((first|refine zb_ ht ?_|refine ht ?_ ?_|refine ht.1 ?_ ?_|refine ht ?_)<;>clear ht))
  all_goals first
   | exact True.intro
   | exact ⟨rfl,rfl⟩
 ·cases e
def rgO (o:OV):Bool:=zB_ o.1 o.2.1 o.2.2.1 o.2.2.2.1 o.2.2.2.2.1 o.2.2.2.2.2.1
def szO (o:OV):Int:=Qe_ o.1 o.2.1 o.2.2.1 o.2.2.2.1 o.2.2.2.2.1 o.2.2.2.2.2.1
def ecO (o:OV):List Int:=ZB_ o.1 o.2.1 o.2.2.1 o.2.2.2.1 o.2.2.2.2.1 o.2.2.2.2.2.1
def alO (x o:OV):Bool:=decide (x.1=o.1) && decide (x.2.1=o.2.1) && decide (x.2.2.2.1=o.2.2.2.1)
theorem zjP_ {x o:OV} (h:(¬ x.1=o.1\/¬ x.2.1=o.2.1)\/¬ x.2.2.2.1=o.2.2.2.1):alO x o=false:=by
 unfold alO
 rcases h with (h | h) | h<;>simp [h]
theorem zjO_ {x o:OV} (h:(x.1=o.1/\x.2.1=o.2.1)/\x.2.2.2.1=o.2.2.2.1):alO x o=true:=by
 unfold alO;rw [h.1.1,h.1.2,h.2];simp
def mtO (n:Int) (vals:List Int) (o:OV):Bool:=metV n vals o.1 o.2.1 o.2.2.1 o.2.2.2.2.1
def lenO (o:OV):Prop:=o.2.2.2.2.1.length<=100000/\o.2.2.2.2.2.1.length<=100000
theorem lenM {o:OV} (h:lenO o):o.2.2.2.2.1.length<=1000000/\o.2.2.2.2.2.1.length<=1000000:=⟨Nat.le_trans h.1 (by decide),Nat.le_trans h.2 (by decide)⟩
structure allLen (l:List OV):Prop where
 h:∀ o ∈ l,lenO o
def vg_:IR:=
(sq (kr [0] [oD 1 (.boxv 0),
oD 2 (.mov cF)])
(sq (.reg [oK 3 6 1,
oC 4 188 [3],
oD 5 (.un .not 4),
oM 2 5])
.ret))
def Y2_:List RD:=[.tmp 2 true none]
theorem Y9_:zn_ Tryz.prog Tryz.f187 vg_ Y2_=true:=by kernel_rfl
def QC_:List AV->List Obj->Option (Prop × AV)
 | [.agg [.int .i64 c,.int .i64 f,.bool h,.int .u64 x,.imm (.int .u8) v,.imm (.int .u8) m]],[]=>some ((v.length<=1000000/\m.length<=1000000,.bool (!zB_ c f h x v m)))
 | _,_=>none
theorem jo_:zd_ Tryz.prog 187 (RoF QC_).sum:=by
 refine zi_ Tryz.func187 Y9_ (za_ (s:=RoF QM_) kR_ (zc_ _)) fun args objs p v e=>?_
 unfold QC_ at e
 split at e
 ·rename_i c f h x v m
  cases e
  refine ⟨rfl,fun hw ho hp=>?_⟩
  change List Int at v
  change List Int at m
  clear hw ho
  repeat'(intro t ht;first|(cases t<;>first|(cases ht;done)|(try simp only[zg_]at ht;try(exfalso;first|contradiction|omega)))|((first|refine zb_ ht ?_|refine ht ?_ ?_|refine ht.1 ?_ ?_|refine ht ?_)<;>clear ht))
  all_goals first
   | exact True.intro
   | exact hp
   | exact ⟨rfl,rfl⟩
 ·cases e
def Qw_:IR:=
(sq (kr [0,1] [oD 4 (.mov (cI 0))])
(sq (sq (.reg [oM 6 0,
oE 7 6,
oD 8 (.mov (cI 0))])
(.block 0
(.loop
(sq (kr [0,1,7,8] [oB 9 .lss 8 7])
(sq (.cond 9
.skip
(.exit 0))
(sq (.block 1
(sq (.reg [oM 10 8,
oM 5 10])
(sq (kr [0,1,5,7,8] [oM 11 1,
oM 12 0,
oM 13 5,
oI 14 6 12 13,
oK 15 6 14,
oD 16 (.call false 11 [15])])
(.cond 16
(sq (kr [5] [oM 17 5,
oM 4 17])
.ret)
.skip))))
(kr [0,1,7,8] [oB 18 .add 8 (cI 1),
oM 8 18])))))))
(sq (kr [] [oD 4 (.mov (cI (-1)))])
.ret)))
def Qs_:List RD:=[.tmp 4 true none]
theorem Qu_:zn_ Tryz.prog Tryz.f207 Qw_ Qs_=true:=by kernel_rfl
def Zb_:List AV->List Obj->Option (Prop × AV)
 | [.imm (.cons (.int .i64) (.cons (.int .i64) (.cons .bool (.cons (.int .u64) (.cons (.sl (.int .u8)) (.cons (.sl (.int .u8)) .nil)))))) l,.fn 230 [] [.ptr 0 0]],[.box [.int .i64 bits,.int .i64 size,.bool mk,.int .i64 nd,.imm (.int .u64) vals]]=>some ((True,.int .i64 (jk_ (α:=OV) (mtO nd vals) l 0)))
 | [.imm (.cons (.int .i64) (.cons (.int .i64) (.cons .bool (.cons (.int .u64) (.cons (.sl (.int .u8)) (.cons (.sl (.int .u8)) .nil)))))) l,.fn 210 [] [.ptr 0 0]],[.box [.int .i64 c',.int .i64 f',.bool h',.int .u64 x',.imm (.int .u8) v',.imm (.int .u8) m']]=>some ((True,.int .i64 (jk_ (α:=OV) (fun x=>alO x (c',f',h',x',v',m',())) l 0)))
 | [.imm (.cons (.int .i64) (.cons (.int .i64) (.cons .bool (.cons (.int .u64) (.cons (.sl (.int .u8)) (.cons (.sl (.int .u8)) .nil)))))) l,.fn 187 [] []],[]=>some ((allLen l,.int .i64 (jk_ (α:=OV) (fun o=>!rgO o) l 0)))
 | _,_=>none
theorem Qh_:zd_ Tryz.prog 207 (RoF Zb_).sum:=by
 refine zi_ Tryz.func207 Qu_ (za_ (s:=RoF QC_) jo_ (za_ (s:=RoF kf_) j3_ (za_ (s:=RoF KG_) WS_ (zc_ _)))) fun args objs p v e=>?_
 unfold Zb_ at e
 split at e
 ·rename_i l bits size mk nd vals
  cases e
  refine ⟨rfl,fun hw ho hp=>?_⟩
  change List Int at vals
  change List OV at l
  have hl:l.length<=maxLen:=(hw (.imm Y1 l) (by simp)).2
  unfold maxLen at hl
  clear hw ho
  repeat'(intro t ht;first|(cases t<;>first|(cases ht;done)|(try simp only[zg_]at ht))|((first|refine zb_ ht ?_|refine ht ?_ ?_|refine ht.1 ?_ ?_|refine ht ?_)<;>clear ht))
  all_goals first
   | (intro r h1 h2;clear h1;refine h2 ⟨[0,1,7,8],Nat,(fun i=>i<=l.length/\jk_ (mtO nd vals) l 0=jk_ (mtO nd vals) (l.drop i) i),fun i=>[.imm Y1 l,.fn 230 [] [.ptr 0 0],.int .i64 l.length,.int .i64 i],fun _=>[.box [.int .i64 bits,.int .i64 size,.bool mk,.int .i64 nd,.imm (.int .u64) vals]],fun i=>l.length - i,⟨0,⟨Nat.zero_le _,rfl⟩,rfl,rfl⟩,?_⟩;clear h2)
  rintro i ⟨hi,he⟩
  repeat'(intro t ht;first|(cases t<;>first|(cases ht;done)|(try simp only[zg_]at ht;try(exfalso;first|contradiction|omega)))|((first|refine zb_ ht ?_|refine ht ?_ ?_|refine ht.1 ?_ ?_|refine ht ?_)<;>clear ht))
  all_goals (try generalize (Ty.dflt Y1)=od at*)
  all_goals first
   | exact True.intro
   | ((try simp only [zk_,zl_,zj_] at*);omega)
   | (refine ⟨?_,rfl⟩;rw [he,xt_ (by omega)];done)
   | (refine ⟨?_,rfl⟩;rw [he,Yv_ (d:=od) (by omega) (by assumption)];done)
   | exact ⟨i+1,⟨by omega,he.trans (Yu_ (d:=od) (by omega) (by assumption))⟩,by dsimp only;omega,rfl,rfl⟩
 ·rename_i l c' f' h' x' v' m'
  cases e
  refine ⟨rfl,fun hw ho hp=>?_⟩
  change List Int at v'
  change List Int at m'
  change List OV at l
  have hl:l.length<=maxLen:=(hw (.imm Y1 l) (by simp)).2
  unfold maxLen at hl
  clear hw ho
  repeat'(intro t ht;first|(cases t<;>first|(cases ht;done)|(try simp only[zg_]at ht))|((first|refine zb_ ht ?_|refine ht ?_ ?_|refine ht.1 ?_ ?_|refine ht ?_)<;>clear ht))
  all_goals first
   | (intro r h1 h2;clear h1;refine h2 ⟨[0,1,7,8],Nat,(fun i=>i<=l.length/\jk_ (fun x=>alO x (c',f',h',x',v',m',())) l 0=jk_ (fun x=>alO x (c',f',h',x',v',m',())) (l.drop i) i),fun i=>[.imm Y1 l,.fn 210 [] [.ptr 0 0],.int .i64 l.length,.int .i64 i],fun _=>[.box [.int .i64 c',.int .i64 f',.bool h',.int .u64 x',.imm (.int .u8) v',.imm (.int .u8) m']],fun i=>l.length - i,⟨0,⟨Nat.zero_le _,rfl⟩,rfl,rfl⟩,?_⟩;clear h2)
  rintro i ⟨hi,he⟩
  repeat'(intro t ht;first|(cases t<;>first|(cases ht;done)|(try simp only[zg_]at ht;try(exfalso;first|contradiction|omega)))|((first|refine zb_ ht ?_|refine ht ?_ ?_|refine ht.1 ?_ ?_|refine ht ?_)<;>clear ht))
  all_goals (try generalize (Ty.dflt Y1)=od at*)
  all_goals first
   | exact True.intro
   | ((try simp only [zk_,zl_,zj_] at*);omega)
   | (refine ⟨?_,rfl⟩;rw [he,xt_ (by omega)];done)
   | (refine ⟨?_,rfl⟩;rw [he,Yv_ (p:=fun x=>alO x (c',f',h',x',v',m',())) (d:=od) (by omega) (zjO_ ht)];done)
   | exact ⟨i+1,⟨by omega,he.trans (Yu_ (p:=fun x=>alO x (c',f',h',x',v',m',())) (d:=od) (by omega) (zjP_ ht))⟩,by dsimp only;omega,rfl,rfl⟩
 ·rename_i l
  cases e
  refine ⟨rfl,fun hw ho hp=>?_⟩
  change List OV at l
  have hl:l.length<=maxLen:=(hw (.imm Y1 l) (by simp)).2
  unfold maxLen at hl
  clear hw ho
  repeat'(intro t ht;first|(cases t<;>first|(cases ht;done)|(try simp only[zg_]at ht))|((first|refine zb_ ht ?_|refine ht ?_ ?_|refine ht.1 ?_ ?_|refine ht ?_)<;>clear ht))
  all_goals first
   | (intro r h1 h2;clear h1;refine h2 ⟨[0,1,7,8],Nat,(fun i=>i<=l.length/\jk_ (fun o=>!rgO o) l 0=jk_ (fun o=>!rgO o) (l.drop i) i),fun i=>[.imm Y1 l,.fn 187 [] [],.int .i64 l.length,.int .i64 i],fun _=>[],fun i=>l.length - i,⟨0,⟨Nat.zero_le _,rfl⟩,rfl,rfl⟩,?_⟩;clear h2)
  rintro i ⟨hi,he⟩
  repeat'(intro t ht;first|(cases t<;>first|(cases ht;done)|(try simp only[zg_]at ht;try(exfalso;first|contradiction|omega)))|((first|refine zb_ ht ?_|refine ht ?_ ?_|refine ht.1 ?_ ?_|refine ht ?_)<;>clear ht))
  all_goals (try generalize (Ty.dflt Y1)=od at*)
  all_goals first
   | exact True.intro
   | ((try simp only [zk_,zl_,zj_] at*);omega)
   | exact lenM (hp.h _ (zD_ (by omega) od))
   | (refine ⟨?_,rfl⟩;rw [he,xt_ (by omega)];done)
   | (refine ⟨?_,rfl⟩;rw [he,Yv_ (p:=fun o=>!rgO o) (d:=od) (by omega) (by (try dsimp only);unfold rgO;rw [ht];rfl)];done)
   | exact ⟨i+1,⟨by omega,he.trans (Yu_ (p:=fun o=>!rgO o) (d:=od) (by omega) (by (try dsimp only);unfold rgO;rw [ht];rfl))⟩,by dsimp only;omega,rfl,rfl⟩
 ·cases e
def qV_:IR:=
(sq (kr [0,1] [oD 4 (.mov cF)])
(sq (kr [0,1] [oM 5 0,
oM 6 1,
oC 7 207 [5,6],
oB 8 .geq 7 (cI 0),
oM 4 8])
.ret))
def qR_:List RD:=[.tmp 4 true none]
theorem qT_:zn_ Tryz.prog Tryz.f186 qV_ qR_=true:=by kernel_rfl
def zy_:List AV->List Obj->Option (Prop × AV)
 | [.imm (.cons (.int .i64) (.cons (.int .i64) (.cons .bool (.cons (.int .u64) (.cons (.sl (.int .u8)) (.cons (.sl (.int .u8)) .nil)))))) l,.fn 230 [] [.ptr 0 0]],[.box [.int .i64 bits,.int .i64 size,.bool mk,.int .i64 nd,.imm (.int .u64) vals]]=>some ((True,.bool ((l:List OV).any (mtO nd vals))))
 | [.imm (.cons (.int .i64) (.cons (.int .i64) (.cons .bool (.cons (.int .u64) (.cons (.sl (.int .u8)) (.cons (.sl (.int .u8)) .nil)))))) l,.fn 210 [] [.ptr 0 0]],[.box [.int .i64 c',.int .i64 f',.bool h',.int .u64 x',.imm (.int .u8) v',.imm (.int .u8) m']]=>some ((True,.bool ((l:List OV).any (fun x=>alO x (c',f',h',x',v',m',())))))
 | [.imm (.cons (.int .i64) (.cons (.int .i64) (.cons .bool (.cons (.int .u64) (.cons (.sl (.int .u8)) (.cons (.sl (.int .u8)) .nil)))))) l,.fn 187 [] []],[]=>some ((allLen l,.bool ((l:List OV).any (fun o=>!rgO o))))
 | _,_=>none
theorem zU_:zd_ Tryz.prog 186 (RoF zy_).sum:=by
 refine zi_ Tryz.func186 qT_ (za_ (s:=RoF Zb_) Qh_ (zc_ _)) fun args objs p v e=>?_
 unfold zy_ at e
 split at e
 ·rename_i l bits size mk nd vals
  cases e
  refine ⟨rfl,fun hw ho hp=>?_⟩
  change List Int at vals
  have h:=Jg_ (p:=mtO nd vals) l 0 (Int.le_refl _)
  repeat'(intro t ht;first|(cases t<;>first|(cases ht;done)|(try simp only[zg_]at ht;try(exfalso;first|contradiction|omega)))|((first|refine zb_ ht ?_|refine ht ?_ ?_|refine ht.1 ?_ ?_|refine ht ?_)<;>clear ht))
  all_goals first
   | exact True.intro
   | exact ⟨congrArg AV.bool h,rfl⟩
 ·rename_i l c' f' h' x' v' m'
  cases e
  refine ⟨rfl,fun hw ho hp=>?_⟩
  change List Int at v'
  change List Int at m'
  have h:=Jg_ (p:=fun x=>alO x (c',f',h',x',v',m',())) l 0 (Int.le_refl _)
  repeat'(intro t ht;first|(cases t<;>first|(cases ht;done)|(try simp only[zg_]at ht;try(exfalso;first|contradiction|omega)))|((first|refine zb_ ht ?_|refine ht ?_ ?_|refine ht.1 ?_ ?_|refine ht ?_)<;>clear ht))
  all_goals first
   | exact True.intro
   | exact ⟨congrArg AV.bool h,rfl⟩
 ·rename_i l
  cases e
  refine ⟨rfl,fun hw ho hp=>?_⟩
  have h:=Jg_ (p:=fun o=>!rgO o) l 0 (Int.le_refl _)
  repeat'(intro t ht;first|(cases t<;>first|(cases ht;done)|(try simp only[zg_]at ht;try(exfalso;first|contradiction|omega)))|((first|refine zb_ ht ?_|refine ht ?_ ?_|refine ht.1 ?_ ?_|refine ht ?_)<;>clear ht))
  all_goals first
   | exact True.intro
   | exact hp
   | exact ⟨congrArg AV.bool h,rfl⟩
 ·cases e
theorem zjM_ {l:List Int} (h:4<=l.length):∃ a b c d r,l=a :: b :: c :: d :: r:=by
 obtain _ | ⟨a0,_ | ⟨a1,_ | ⟨a2,_ | ⟨a3,r⟩⟩⟩⟩:=l
 all_goals first | exact ⟨_,_,_,_,_,rfl⟩ | (simp at h;done)
theorem at2 (n:Int):ze_ n 2=[n.fdiv 256 % 256,n % 256]:=by
 have e:ze_ n 2=[(n.fdiv (2 ^ 8)) % 256,(n.fdiv (2 ^ 0)) % 256]:=rfl
 rw [e,show (2:Int) ^ 8=256 from rfl,Int.pow_zero,Int.fdiv_one]
theorem at4 (n:Int):ze_ n 4=[n.fdiv 16777216 % 256,n.fdiv 65536 % 256,n.fdiv 256 % 256,n % 256]:=by
 have e:ze_ n 4=[(n.fdiv (2 ^ 24)) % 256,(n.fdiv (2 ^ 16)) % 256,(n.fdiv (2 ^ 8)) % 256,(n.fdiv (2 ^ 0)) % 256]:=rfl
 rw [e,show (2:Int) ^ 8=256 from rfl,show (2:Int) ^ 16=65536 from rfl,show (2:Int) ^ 24=16777216 from rfl,Int.pow_zero,Int.fdiv_one]
theorem num2 {n:Int} (h:0<=n/\n<=65535):z8_ (ze_ n 2)=n:=by
 rw [at2,Int.fdiv_eq_ediv_of_nonneg _ (by decide)]
 show (0*256+n / 256 % 256)*256+n % 256=n
 omega
theorem zlp_ {n:Int} (h:0<=n/\n<=4294967295):z8_ (ze_ n 4)=n:=by
 rw [at4,Int.fdiv_eq_ediv_of_nonneg _ (by decide),Int.fdiv_eq_ediv_of_nonneg _ (by decide),Int.fdiv_eq_ediv_of_nonneg _ (by decide)]
 show (((0*256+n / 16777216 % 256)*256+n / 65536 % 256)*256+n / 256 % 256)*256+n % 256=n
 omega
theorem zlK_ {a b:Int} (ha:0<=a/\a<=255) (hb:0<=b/\b<=255):ze_ (z8_ [a,b]) 2=[a,b]:=by
 have e:z8_ [a,b]=a*256+b:=by show (0*256+a)*256+b=_;omega
 rw [e,at2,Int.fdiv_eq_ediv_of_nonneg _ (by decide),show (a*256+b) / 256 % 256=a by omega,show (a*256+b) % 256=b by omega]
theorem zlJ_ {a b c d:Int} (ha:0<=a/\a<=255) (hb:0<=b/\b<=255) (hc:0<=c/\c<=255) (hd:0<=d/\d<=255):ze_ (z8_ [a,b,c,d]) 4=[a,b,c,d]:=by
 have e:z8_ [a,b,c,d]=((a*256+b)*256+c)*256+d:=by show (((0*256+a)*256+b)*256+c)*256+d=_;omega
 rw [e,at4,Int.fdiv_eq_ediv_of_nonneg _ (by decide),Int.fdiv_eq_ediv_of_nonneg _ (by decide),Int.fdiv_eq_ediv_of_nonneg _ (by decide),
  show (((a*256+b)*256+c)*256+d) / 16777216 % 256=a by omega,show (((a*256+b)*256+c)*256+d) / 65536 % 256=b by omega,
  show (((a*256+b)*256+c)*256+d) / 256 % 256=c by omega,show (((a*256+b)*256+c)*256+d) % 256=d by omega]
def hI (h:Bool):Int:=if h=true then 1 else 0
theorem ziW_ {c f:Int} {h:Bool} {x:Int} {v m:List Int} (hr:zB_ c f h x v m=true) (hx:0<=x) (L:List Int) (h0:L.take 4=(ZB_ c f h x v m).take 4):zz_ L=c/\zO_ L=f/\ZK_ L=h/\L.getD 3 0=Zc_ c v m:=by
 obtain ⟨n1,n2,n3,n4,n5,n6,n7,n8⟩:=Z9_ hr
 have hc:0<=c/\c<=65535:=by omega
 have e1:(ZB_ c f h x v m).take 4=[c.fdiv 256 % 256,c % 256,2*f+(if h=true then 1 else 0),Zc_ c v m]:=by
  unfold ZB_;rw [at2,<- n8];rfl
 rw [e1] at h0
 have e2:L.take 2=ze_ c 2:=by
  rw [at2,show L.take 2=(L.take 4).take 2 by rw [List.take_take];rfl,h0];rfl
 have e3:∀ k < 4,L.getD k 0=(L.take 4).getD k 0:=fun k hk=>(YR_ hk).symm
 have g2:L.getD 2 0=2*f+(if h=true then 1 else 0):=by rw [e3 2 (by decide),h0];rfl
 have g3:L.getD 3 0=Zc_ c v m:=by rw [e3 3 (by decide),h0];rfl
 refine ⟨?_,?_,?_,g3⟩
 ·unfold zz_;rw [e2,num2 hc]
 ·unfold zO_;rw [g2,qn_ (by split<;>omega)];split<;>omega
 ·unfold ZK_;rw [g2,kQ_ (by split<;>omega)]
  cases h with
  | true=>exact decide_eq_true (by simp only [if_true];omega)
  | false=>exact decide_eq_false (by simp only [Bool.false_eq_true,if_false];omega)
theorem zkv_ {c f:Int} {h:Bool} {x:Int} {v m:List Int} (hr:zB_ c f h x v m=true) {L:List Int} (hC:zz_ L=c) (hF:zO_ L=f) (hH:ZK_ L=h) (h3:L.getD 3 0=Zc_ c v m):ZJ_ L=v.length/\jl_ L=true:=by
 obtain ⟨n1,n2,n3,n4,n5,n6,n7,n8⟩:=Z9_ hr
 obtain ⟨r1,r2,r3,r4,r5,r6,r7,r8⟩:=kA_ hr
 unfold ZJ_ jl_
 rw [hC,hF,hH,h3]
 rcases n3 with hc | hc
 ·have he:z4_ c=true:=decide_eq_true hc
  have hz:qh_ c f=100:=if_pos hc
  have hre:Zc_ c v m=v.length+m.length+4:=if_pos hc
  unfold Ut_ Yp_
  rw [he,hz,hre,if_pos rfl,if_pos rfl]
  cases h with
  | true=>
    have:=r2 rfl
    simp only [if_true,Bool.and_eq_true,decide_eq_true_eq]
    rw [qn_ (by omega),kQ_ (by omega)];omega
  | false=>
    have:=r3 rfl
    simp only [Bool.false_eq_true,if_false,Bool.and_eq_true,decide_eq_true_eq]
    rw [qn_ (by omega),kQ_ (by omega)];omega
 ·have he:z4_ c=false:=decide_eq_false (by omega)
  have hz:qh_ c f=ks_ f:=if_neg (by omega)
  have hre:Zc_ c v m=v.length+m.length:=if_neg (by omega)
  have hv:(v.length:Int)=ks_ f:=by
   have hfit:Kr_ f v=true:=by
    cases hh:Kr_ f v with
    | true=>rfl
    | false=>
      rw [he] at r8
      unfold QW_ at r8;rw [if_pos ⟨rfl,hh⟩] at r8;exact absurd r8 (by decide)
   unfold Kr_ at hfit
   split at hfit
   ·rename_i hh
    have hi:fIs f=true:=qj_.2 hh.1
    rw [hh.2];unfold ks_;rw [hi];rfl
   ·cases hfit
  unfold Ut_ Yp_
  rw [he,hz,hre]
  cases h with
  | true=>
    have:=r2 rfl
    simp only [Bool.false_eq_true,if_false,if_true,decide_eq_true_eq];omega
  | false=>
    have:=r3 rfl
    simp only [Bool.false_eq_true,if_false,decide_eq_true_eq];omega
theorem mid {p v r:List Int} {A S:Int} (hA:A=p.length) (hS:S=v.length):((p++(v++r)).take (A+S).toNat).drop A.toNat=v:=by
 subst hA hS
 rw [show ((p.length:Int)+v.length).toNat=p.length+v.length by omega,Int.toNat_natCast,<- List.append_assoc,<- List.length_append,List.take_left,List.drop_left]
theorem zfc_ {c f:Int} {h:Bool} {x:Int} {v m b:List Int} (hr:zB_ c f h x v m=true) (hx:0<=x):zM_ (ZB_ c f h x v m++b)=0/\zz_ (ZB_ c f h x v m++b)=c/\zO_ (ZB_ c f h x v m++b)=f/\ZK_ (ZB_ c f h x v m++b)=h/\Qa_ (ZB_ c f h x v m++b)=x/\qd_ (ZB_ c f h x v m++b)=v/\qa_ (ZB_ c f h x v m++b)=m/\Zi_ (ZB_ c f h x v m++b)=(ZB_ c f h x v m).length:=by
 obtain ⟨n1,n2,n3,n4,n5,n6,n7,n8⟩:=Z9_ hr
 obtain ⟨r1,r2,r3,r4,r5,r6,r7,r8⟩:=kA_ hr
 have hl2:=zm_ (n:=c) (w:=2) (by decide)
 have hl4:=zm_ (n:=x) (w:=4) (by decide)
 have hlen:((ZB_ c f h x v m).length:Int)=4+Zc_ c v m:=by
  rw [n8];unfold ZB_;simp only [List.length_append,List.length_cons,List.length_nil];omega
 obtain ⟨L,hL⟩:∃ L,L=ZB_ c f h x v m++b:=⟨_,rfl⟩
 have hLl:(L.length:Int)=4+Zc_ c v m+b.length:=by rw [hL,List.length_append];omega
 have ht:L.take 4=(ZB_ c f h x v m).take 4:=by rw [hL,List.take_append_of_le_length (by omega)]
 obtain ⟨hC,hF,hH,h3⟩:=ziW_ hr hx L ht
 obtain ⟨hS,hK⟩:=zkv_ hr hC hF hH h3
 rw [<- hL]
 have hsplit:L=(ze_ c 2++[2*f+(if h=true then 1 else 0),((Jo_ c x v m).length:Int)]++(if c=65535 then ze_ x 4 else []))++(v++(m++b)):=by
  rw [hL];unfold ZB_;rw [show Jo_ c x v m=(if c=65535 then ze_ x 4 else [])++v++m from rfl];simp only [List.append_assoc]
 obtain ⟨p,hp⟩:∃ p,p=ze_ c 2++[2*f+(if h=true then 1 else 0),((Jo_ c x v m).length:Int)]++(if c=65535 then ze_ x 4 else []):=⟨_,rfl⟩
 rw [<- hp] at hsplit
 have hA:Kh_ L=p.length:=by
  unfold Kh_;rw [hC,hp]
  split
  ·simp only [List.length_append,List.length_cons,List.length_nil];omega
  ·simp only [List.length_append,List.length_cons,List.length_nil];omega
 have hX:Qa_ L=x:=by
  unfold Qa_;rw [hC]
  by_cases hc:c=65535
  ·rw [if_pos hc]
   have hx4:x<=4294967295:=by have:=(zu x hx).1 r7;omega
   have e:(L.drop 4).take 4=ze_ x 4:=by
    rw [hsplit,hp,if_pos hc,at2,at4];rfl
   rw [e,zlp_ ⟨hx,hx4⟩]
  ·rw [if_neg hc]
   have he:z4_ c=false:=decide_eq_false hc
   rw [he] at r6
   exact (r6.resolve_left (by decide)).symm
 have hV:qd_ L=v:=by
  unfold qd_;rw [hA,hS];rw [hsplit];exact mid rfl rfl
 have hM:qa_ L=m:=by
  unfold qa_
  cases h with
  | true=>
    rw [hH,if_pos rfl,hA,hS,hsplit,<- List.append_assoc]
    have:=r2 rfl
    exact mid (p:=p++v) (r:=b) (by rw [List.length_append];omega) (by omega)
  | false=>
    rw [hH]
    exact (List.eq_nil_of_length_eq_zero (r3 rfl)).symm
 have hN:Zi_ L=(ZB_ c f h x v m).length:=by
  unfold Zi_;rw [hH,hS]
  have hre:Zc_ c v m=(if c=65535 then 4 else 0)+v.length+m.length:=by unfold Zc_;split<;>omega
  rw [hlen,hre]
  unfold Kh_;rw [hC]
  cases h with
  | true=>have:=r2 rfl;simp only [if_true];split<;>omega
  | false=>have:=r3 rfl;simp only [Bool.false_eq_true,if_false];split<;>omega
 refine ⟨?_,hC,hF,hH,hX,hV,hM,hN⟩
 rw [Ji_ (by omega) (by rw [hC,hF];exact r4) (fun hh=>by rw [hC,hF];exact r5 (hH.symm.trans hh)) hK (by rw [h3];omega),hC,hF,hH,hV,hM]
 exact r8
theorem uf_ {b:List Int} (hb:∀ x ∈ b,0<=x/\x<=255) (h0:zM_ b=0):zB_ (zz_ b) (zO_ b) (ZK_ b) (Qa_ b) (qd_ b) (qa_ b)=true/\ZB_ (zz_ b) (zO_ b) (ZK_ b) (Qa_ b) (qd_ b) (qa_ b)=b.take (Zi_ b).toNat/\0<=Zi_ b/\Zi_ b<=b.length:=by
 have hq:=YD_ hb 2
 have hn:=YD_ hb 3
 have hof:=hq_ (zz_ b) (zO_ b)
 unfold zM_ at h0
 by_cases h4:b.length < 4
 ·rw [if_pos h4] at h0;exact absurd h0 (by decide)
 rw [if_neg h4] at h0
 by_cases hok:k5_ (zz_ b) (zO_ b)=false
 ·rw [if_pos hok] at h0;exact absurd h0 (by decide)
 rw [if_neg hok] at h0
 by_cases hmk:ZK_ b=true/\qi_ (zz_ b) (zO_ b)=false
 ·rw [if_pos hmk] at h0;exact absurd h0 (by decide)
 rw [if_neg hmk] at h0
 by_cases hkl:jl_ b=false\/(b.length:Int) - 4 < b.getD 3 0
 ·rw [if_pos hkl] at h0;exact absurd h0 (by decide)
 rw [if_neg hkl] at h0
 have hK:jl_ b=true:=by cases hk:jl_ b with | true=>rfl | false=>exact absurd (.inl hk) hkl
 have hlen:4+b.getD 3 0<=(b.length:Int):=by
  have:¬ (b.length:Int) - 4 < b.getD 3 0:=fun h=>hkl (.inr h)
  omega
 have hok':k5_ (zz_ b) (zO_ b)=true:=by simpa using hok
 obtain ⟨d1,d2,d3⟩:=zfb_ hn.1 hof.1 hK
 have hcc:zz_ b=65535\/zz_ b=32768:=by
  unfold k5_ at hok'
  split at hok'
  ·left;assumption
  ·right;simp only [Bool.and_eq_true,decide_eq_true_eq] at hok';exact hok'.2
 have hA0:0<=Kh_ b:=by unfold Kh_;split<;>decide
 have hVl:((qd_ b).length:Int)=ZJ_ b:=ZT_ hA0 d1 (by unfold Zi_ at d2;split at d2<;>omega)
 have hMl:((qa_ b).length:Int)=if ZK_ b=true then ZJ_ b else 0:=by
  unfold qa_
  by_cases hh:ZK_ b=true
  ·rw [if_pos hh,if_pos hh]
   exact ZT_ (by omega) d1 (by unfold Zi_ at d2;rw [if_pos hh] at d2;omega)
  ·rw [if_neg hh,if_neg hh];rfl
 have hX:0<=Qa_ b/\Qa_ b < 4294967296:=by
  unfold Qa_
  split
  ·have:=x4_ ((b.drop 4).take 4) fun y hy=>hb y (List.mem_of_mem_drop (List.mem_of_mem_take hy))
   have h2:∀ k ≤ 4,(256:Int) ^ k<=4294967296:=by decide
   have:=h2 ((b.drop 4).take 4).length (by rw [List.length_take];omega)
   omega
  ·decide
 have hR:zB_ (zz_ b) (zO_ b) (ZK_ b) (Qa_ b) (qd_ b) (qa_ b)=true:=by
  unfold zB_
  rw [hok',(zu _ hX.1).2 hX.2,h0,decide_eq_true (show ((qd_ b).length:Int)<=qh_ (zz_ b) (zO_ b) by omega)]
  have hx0:(z4_ (zz_ b) || decide (Qa_ b=0))=true:=by
   rcases hcc with hc | hc
   ·rw [show z4_ (zz_ b)=true from decide_eq_true hc];rfl
   ·rw [show Qa_ b=0 from if_neg (by omega)];simp
  rw [hx0]
  cases hh:ZK_ b with
  | true=>
    have hm1:qi_ (zz_ b) (zO_ b)=true:=by
     cases hq:qi_ (zz_ b) (zO_ b) with
     | true=>rfl
     | false=>exact absurd ⟨hh,hq⟩ hmk
    rw [hh,if_pos rfl] at hMl
    rw [hm1,decide_eq_true (show ((qa_ b).length:Int)=(qd_ b).length by omega)];rfl
  | false=>
    rw [hh] at hMl
    simp only [Bool.false_eq_true,if_false] at hMl
    rw [decide_eq_true (show (qa_ b).length=0 by omega)];rfl
 refine ⟨hR,?_,by omega,by omega⟩
 obtain ⟨a0,a1,a2,a3,r,hbd⟩:=zjM_ (l:=b) (by omega)
 have q0:=hb a0 (by rw [hbd];simp)
 have q1:=hb a1 (by rw [hbd];simp)
 have q2:=hb a2 (by rw [hbd];simp)
 have q3:=hb a3 (by rw [hbd];simp)
 obtain ⟨n1,n2,n3,n4,n5,n6,n7,n8⟩:=Z9_ hR
 have g2:b.getD 2 0=a2:=by rw [hbd];rfl
 have g3:b.getD 3 0=a3:=by rw [hbd];rfl
 have c2:ze_ (zz_ b) 2=[a0,a1]:=by unfold zz_;rw [hbd];exact zlK_ q0 q1
 have hf:2*zO_ b+(if ZK_ b=true then 1 else 0)=a2:=by
  unfold zO_ ZK_;rw [g2,qn_ q2.1,kQ_ q2.1]
  by_cases h1:a2 % 2=1
  ·rw [decide_eq_true h1,if_pos rfl];omega
  ·rw [decide_eq_false h1];simp only [Bool.false_eq_true,if_false];omega
 have hrl:Zc_ (zz_ b) (qd_ b) (qa_ b)=a3:=by
  unfold Zc_
  rw [hVl,hMl,<- g3]
  unfold Zi_ Kh_ at d2
  by_cases hh:ZK_ b=true
  ·rw [if_pos hh] at d2 ⊢
   by_cases hc:zz_ b=65535
   ·rw [if_pos hc] at d2 ⊢;omega
   ·rw [if_neg hc] at d2 ⊢;omega
  ·rw [if_neg hh] at d2 ⊢
   by_cases hc:zz_ b=65535
   ·rw [if_pos hc] at d2 ⊢;omega
   ·rw [if_neg hc] at d2 ⊢;omega
 have hbody:Jo_ (zz_ b) (Qa_ b) (qd_ b) (qa_ b)=r.take a3.toNat:=by
  have hdr:b.drop 4=r:=by rw [hbd];rfl
  have hXb:(if zz_ b=65535 then ze_ (Qa_ b) 4 else [])=(b.take (Kh_ b).toNat).drop 4:=by
   by_cases hc:zz_ b=65535
   ·have hA8:Kh_ b=8:=if_pos hc
    have hl8:8<=b.length:=by unfold Zi_ at d2;rw [hA8] at d2;split at d2<;>omega
    rw [if_pos hc,hA8]
    have hXe:Qa_ b=z8_ ((b.drop 4).take 4):=if_pos hc
    rw [hXe,hdr]
    have hrl8:4<=r.length:=by rw [hbd] at hl8;simp only [List.length_cons] at hl8;omega
    obtain ⟨x0,x1,x2,x3,s,hrd⟩:=zjM_ hrl8
    have hmr:∀ y ∈ r,0<=y/\y<=255:=fun y hy=>hb y (by rw [hbd];simp [hy])
    have y0:=hmr x0 (by rw [hrd];simp)
    have y1:=hmr x1 (by rw [hrd];simp)
    have y2:=hmr x2 (by rw [hrd];simp)
    have y3:=hmr x3 (by rw [hrd];simp)
    rw [hrd,show (x0 :: x1 :: x2 :: x3 :: s).take 4=[x0,x1,x2,x3] from rfl,zlJ_ y0 y1 y2 y3,hbd,hrd];rfl
   ·have hA4:Kh_ b=4:=if_neg hc
    rw [if_neg hc,hA4,hbd];rfl
  unfold Jo_
  rw [hXb]
  have hAn:4<=(Kh_ b).toNat:=by unfold Kh_;split<;>decide
  have j1:∀ (i j k:Nat),i<=j->j<=k->(b.take j).drop i++(b.take k).drop j=(b.take k).drop i:=fun i j k h1 h2=>by
   rw [show (b.take k).drop i=((b.take k).drop i).take (j - i)++((b.take k).drop i).drop (j - i) from (List.take_append_drop ..).symm,List.drop_drop,show i+(j - i)=j by omega,List.take_drop,show i+(j - i)=j by omega,List.take_take,Nat.min_eq_left h2]
  have hfin:∀ k:Nat,(k:Int)=Zi_ b->(b.take k).drop 4=r.take a3.toNat:=fun k hk=>by
   rw [hbd,show k=a3.toNat+4 by omega];rfl
  unfold qd_ qa_
  by_cases hh:ZK_ b=true
  ·rw [if_pos hh,j1 _ _ _ hAn (by omega),j1 _ _ _ (by omega) (by omega)]
   refine hfin _ ?_
   unfold Zi_;rw [if_pos hh];omega
  ·rw [if_neg hh,List.append_nil,j1 _ _ _ hAn (by omega)]
   refine hfin _ ?_
   unfold Zi_;rw [if_neg hh];omega
 unfold ZB_
 rw [c2,hf,<- n8,hrl,hbody,d2,g3]
 rw [hbd,show (4+a3).toNat=a3.toNat+4 by omega];rfl
def b1_:IR:=
(sq (kr [0] [oD 2 (.mov cF)])
(sq (sq (.reg [oD 3 (.mov (cI 0))])
(.block 0
(.loop
(sq (sq (kr [0,3] [oM 4 3,
oM 5 0,
oE 6 5,
oB 7 .lss 4 6])
(.cond 7
.skip
(.exit 0)))
(sq (.block 1
(sq (kr [0,3] [oM 10 0,
oM 11 3,
oI 12 1 10 11,
oL 13 12,
oB 14 .eql 13 (cI 0),
oM 15 14,
oF 15 16 (.mov 0),
oF 15 17 (.mov 3),
oF 15 18 (.indexSl 1 16 17),
oF 15 19 (.load none 18),
oF 15 20 (.bin .gtr 19 (cI 8)),
oP 21 15 cT 20,
oM 22 21,
oF 22 23 (.mov 0),
oF 22 24 (.mov 3),
oF 22 25 (.indexSl 1 23 24),
oF 22 26 (.load none 25),
oF 22 27 (.bin .lss 26 (cI (-64))),
oP 28 22 cT 27])
(.cond 28
(sq (kr [] [oD 2 (.mov cF)])
.ret)
.skip)))
(kr [0,3] [oM 8 3,
oB 9 .add 8 (cI 1),
oM 3 9]))))))
(sq (kr [0] [oM 29 0,
oE 30 29,
oB 31 .leq 30 (cI 64),
oM 2 31])
.ret)))
def HL_:List RD:=[.tmp 2 true none]
theorem bj_:zn_ Tryz.prog Tryz.f125 b1_ HL_=true:=by kernel_rfl
def jA_:List AV->List Obj->Option (Prop × AV)
 | [.imm (.int .i64) w],[]=>some ((True,.bool (zP_ w)))
 | _,_=>none
theorem XI_:zd_ Tryz.prog 125 (RoF jA_).sum:=by
 refine zi_ Tryz.func125 bj_ (zc_ _) fun args objs p v e=>?_
 unfold jA_ at e
 split at e
 ·rename_i w
  cases e
  refine ⟨rfl,fun hw ho hp=>?_⟩
  change List Int at w
  have hl:w.length<=maxLen:=(hw (.imm (.int .i64) w) (by simp)).2
  unfold maxLen at hl
  repeat'(intro t ht;first|(cases t<;>first|(cases ht;done)|(try simp only[zg_]at ht))|((first|refine zb_ ht ?_|refine ht ?_ ?_|refine ht.1 ?_ ?_|refine ht ?_)<;>clear ht))
  all_goals (intro r h1 h2;clear h1;refine h2 ⟨[0,3],Nat,(fun i=>i<=w.length/\w.all okW=(w.drop i).all okW),fun i=>[.imm (.int .i64) w,.int .i64 i],fun _=>[],fun i=>w.length - i,⟨0,⟨Nat.zero_le _,rfl⟩,rfl,rfl⟩,?_⟩;clear h2)
  rintro i ⟨hi,he⟩
  repeat'(intro t ht;first|(cases t<;>first|(cases ht;done)|(try simp only[zg_]at ht))|((first|refine zb_ ht ?_|refine ht ?_ ?_|refine ht.1 ?_ ?_|refine ht ?_)<;>clear ht))
  all_goals first
   | ((try simp only [zk_,zl_,zj_] at*);omega)
   | (have hge:w.length<=i:=by omega
      rw [List.drop_of_length_le hge] at he
      refine ⟨?_,rfl⟩;unfold zP_;rw [he,List.all_nil,Bool.and_true]
      congr 2;exact propext (by omega))
   | (have hlt:i < w.length:=by omega
      rw [zA_ hlt 0,List.all_cons] at he
      first
       | (have hk:okW (w.getD i 0)=false:=zjF_.2 (by omega)
          refine ⟨?_,rfl⟩;unfold zP_;rw [he,hk];simp;done)
       | (have hk:okW (w.getD i 0)=true:=zeR_.2 (by omega)
          rw [hk,Bool.true_and] at he
          exact ⟨i+1,⟨hlt,he⟩,by (try simp only [zk_,zl_,zj_] at*);omega,rfl,rfl⟩))
 ·cases e
def b3_:IR:=
(sq (kr [0] [oD 2 (.mov (cI 0))])
(sq (.reg [oD 3 (.mov (cI 0))])
(sq (sq (.reg [oD 4 (.mov (cI 0))])
(.block 0
(.loop
(sq (sq (kr [0,3,4] [oM 5 4,
oM 6 0,
oE 7 6,
oB 8 .lss 5 7,
oM 9 8,
oT 9 10 (.mov 0),
oT 9 11 (.call false (.f 125) [10]),
oP 12 9 11 cF])
(.cond 12
.skip
(.exit 0)))
(sq (.block 1
(sq (kr [0,3,4] [oM 15 0,
oM 16 4,
oI 17 1 15 16,
oL 18 17,
oB 19 .gtr 18 (cI 0)])
(.cond 19
(.reg [oM 20 3,
oB 21 .add 20 (cI 1),
oM 3 21])
.skip)))
(kr [0,3,4] [oM 13 4,
oB 14 .add 13 (cI 1),
oM 4 14]))))))
(sq (kr [3] [oM 22 3,
oM 2 22])
.ret))))
def HN_:List RD:=[.tmp 2 true none]
theorem bl_:zn_ Tryz.prog Tryz.f147 b3_ HN_=true:=by kernel_rfl
def jC_:List AV->List Obj->Option (Prop × AV)
 | [.imm (.int .i64) w],[]=>some ((True,.int .i64 (zq_ w)))
 | _,_=>none
theorem XK_:zd_ Tryz.prog 147 (RoF jC_).sum:=by
 refine zi_ Tryz.func147 bl_ (za_ (s:=RoF jA_) XI_ (zc_ _)) fun args objs p v e=>?_
 unfold jC_ at e
 split at e
 ·rename_i w
  cases e
  refine ⟨rfl,fun hw ho hp=>?_⟩
  change List Int at w
  repeat'(intro t ht;first|(cases t<;>first|(cases ht;done)|(try simp only[zg_]at ht))|((first|refine zb_ ht ?_|refine ht ?_ ?_|refine ht.1 ?_ ?_|refine ht ?_)<;>clear ht))
  all_goals first
   | (intro r h1 h2;clear h1;refine h2 ⟨[0,3,4],Nat,(fun i=>i<=w.length/\(zP_ w=false->i=0)),fun i=>[.imm (.int .i64) w,.int .i64 (KR_ ZZ_ w i),.int .i64 i],fun _=>[],fun i=>w.length - i,⟨0,⟨Nat.zero_le _,fun _=>rfl⟩,rfl,rfl⟩,?_⟩;clear h2)
  rintro i ⟨hi,hz⟩
  repeat'(intro t ht;first|(cases t<;>first|(cases ht;done)|(try simp only[zg_]at ht))|((first|refine zb_ ht ?_|refine ht ?_ ?_|refine ht.1 ?_ ?_|refine ht ?_)<;>clear ht))
  all_goals first
   | exact True.intro
   | ((try simp only [zk_,zl_,zj_] at*);omega)
   | (have hge:w.length<=i:=by omega
      refine ⟨?_,rfl⟩;unfold zq_;rw [KQ_ ZZ_ hge]
      cases hr:zP_ w with
      | true=>rfl
      | false=>have h0:=hz hr;have:w=[]:=List.length_eq_zero_iff.1 (by omega);subst this;rfl)
   | (have hr:zP_ w=false:=by assumption
      have h0:=hz hr;subst h0
      refine ⟨?_,rfl⟩;unfold zq_;rw [hr];rfl)
   | (have hr:zP_ w=true:=by assumption
      have hl:=(Zl_.1 hr).1
      have hlt:i < w.length:=by omega
      have hs:=yO_ hr i
      first
       | ((try simp only [zk_,zl_,zj_] at*);omega)
       | (refine ⟨i+1,⟨hlt,fun h=>by rw [hr] at h;cases h⟩,by (try simp only [zk_,zl_,zj_] at*);omega,?_,rfl⟩
          dsimp only
          rw [ZU_ ZZ_ hlt]
          first
           | (have e:ZZ_ (w.getD i 0)=1:=if_pos (by assumption)
              rw [e];rfl)
           | (have e:ZZ_ (w.getD i 0)=0:=if_neg (by assumption)
              rw [e,Int.add_zero];rfl)))
 ·cases e
theorem zin_:∀ k:Nat,k<=7->∀ x:Int,0<=x->(x < (2 ^ (8*k):Nat) ↔ x.fdiv (2 ^ (8*k))=0)
 | k,_,x,hx=>by
   have hp:(0:Int) < 2 ^ (8*k):=Int.pow_pos (by decide)
   have e:((2 ^ (8*k):Nat):Int)=2 ^ (8*k):=by push_cast;rfl
   rw [e,Int.fdiv_eq_ediv_of_nonneg _ (Int.le_of_lt hp)]
   constructor
   ·intro h;exact Int.ediv_eq_zero_of_lt hx h
   ·intro h
    have:=Int.lt_ediv_add_one_mul_self x hp
    rw [h] at this;omega
def Vg_ (x n:Int):Bool:=decide (n=8) || decide (x.fdiv (2 ^ (min (8*n).toNat 64))=0)
theorem ziZ_ {x:Int} (hx:0<=x):∀ k:Nat,1<=k->k<=7->decide (x < 1*2 ^ min (8*(k:Int)).toNat IntKind.u64.bits)=Vg_ x k
 | k,h1,h7=>by
   have e:min (8*(k:Int)).toNat IntKind.u64.bits=8*k:=by
    have:IntKind.u64.bits=64:=rfl
    rw [this];omega
   have e':min (8*(k:Int)).toNat 64=8*k:=by omega
   unfold Vg_
   rw [e,e',decide_eq_false (show ¬ (k:Int)=8 by omega),Bool.false_or,Int.one_mul]
   rw [decide_eq_decide]
   have:=zin_ k h7 x hx
   push_cast at this
   exact this
def zbK_:IR:=
(sq (kr [0,1] [oD 4 (.mov cF)])
(sq (kr [0,1] [oM 5 1,
oB 6 .eql 5 (cI 8),
oM 7 6,
oF 7 8 (.mov 0),
oF 7 9 (.mov 1),
oF 7 10 (.bin .mul (cI 8) 9),
oF 7 11 (.bin .shl (.c (.int .u64 1)) 10),
oF 7 12 (.bin .lss 8 11),
oP 13 7 cT 12,
oM 4 13])
.ret))
def zam_:List RD:=[.tmp 4 true none]
theorem zaX_:zn_ Tryz.prog Tryz.f148 zbK_ zam_=true:=by kernel_rfl
def yA_:List AV->List Obj->Option (Prop × AV)
 | [.int .u64 x,.int .i64 n],[]=>some ((1<=n/\n<=8,.bool (Vg_ x n)))
 | _,_=>none
theorem Hg_:zd_ Tryz.prog 148 (RoF yA_).sum:=by
 refine zi_ Tryz.func148 zaX_ (zc_ _) fun args objs p v e=>?_
 unfold yA_ at e
 split at e
 ·rename_i x n
  cases e
  refine ⟨rfl,fun hw ho hp=>?_⟩
  have hx:IntKind.u64.min<=x/\x<=IntKind.u64.max:=hw (.int .u64 x) (by simp)
  have hx0:0<=x:=hx.1
  obtain ⟨h1,h8⟩:=hp
  obtain ⟨k,rfl⟩:=Int.eq_ofNat_of_zero_le (show 0<=n by omega)
  repeat'(intro t ht;first|(cases t<;>first|(cases ht;done)|(try simp only[zg_]at ht))|((first|refine zb_ ht ?_|refine ht ?_ ?_|refine ht.1 ?_ ?_|refine ht ?_)<;>clear ht))
  all_goals first
   | exact True.intro
   | ((try simp only [zk_,zl_,zj_] at*);omega)
   | (refine ⟨?_,rfl⟩;unfold Vg_;rw [decide_eq_true (by assumption)];rfl)
   | (have hk:k=1\/k=2\/k=3\/k=4\/k=5\/k=6\/k=7:=by omega
      rcases hk with rfl | rfl | rfl | rfl | rfl | rfl | rfl<;>decide)
   | (refine ⟨?_,rfl⟩;rw [<- ziZ_ hx0 k (by omega) (by omega)])
 ·cases e
theorem zf3_ {x n:Int}:Vg_ x n=false->n<=8->(n < 8/\x.fdiv (2 ^ (min (8*n).toNat 64)) ≠ 0):=fun h h8=>by
 unfold Vg_ at h
 simp only [Bool.or_eq_false_iff,decide_eq_false_iff_not] at h
 exact ⟨by omega,h.2⟩
theorem zhB_ {x n:Int}:Vg_ x n=true->¬ (n < 8/\x.fdiv (2 ^ (min (8*n).toNat 64)) ≠ 0):=fun h k=>by
 unfold Vg_ at h
 simp only [Bool.or_eq_true,decide_eq_true_eq] at h
 rcases h with h | h
 ·omega
 ·exact k.2 h
theorem Vn_ (w:Int):List.replicate w.toNat 0=ze_ 0 w:=by
 have:∀ j:Nat,kI_ 0 w j=0:=fun j=>by unfold kI_;rw [Int.zero_fdiv];rfl
 unfold ze_ kH_
 simp only [this,List.map_const',List.length_range]
theorem zco_ {n:Int} {k j:Nat} (h:j < k) (hk:k<=7):kI_ n ((k+1:Nat):Int) j=kI_ (n / 256) k j:=by
 unfold kI_
 have e:min (8*(((k+1:Nat):Int) - 1 - j)).toNat 64=8+8*(k - 1 - j):=by omega
 have e':min (8*((k:Int) - 1 - j)).toNat 64=8*(k - 1 - j):=by omega
 have hp:∀ m:Nat,(0:Int)<=2 ^ m:=fun m=>Int.le_of_lt (Int.pow_pos (by decide))
 rw [e,e',Int.fdiv_eq_ediv_of_nonneg _ (hp _),Int.fdiv_eq_ediv_of_nonneg _ (hp _),Int.pow_add,<- Int.ediv_ediv_of_nonneg (hp 8)]
 rfl
theorem Vo_ {n:Int} {k:Nat} (hk:k<=7):ze_ n ((k+1:Nat):Int)=ze_ (n / 256) k++[n % 256]:=by
 unfold ze_ kH_
 rw [Int.toNat_natCast,Int.toNat_natCast,List.range_succ,List.map_append]
 congr 1
 ·apply List.map_congr_left
  intro j hj
  exact zco_ (List.mem_range.1 hj) hk
 ·show [kI_ n ((k+1:Nat):Int) k]=_
  unfold kI_
  have e:min (8*(((k+1:Nat):Int) - 1 - k)).toNat 64=0:=by omega
  rw [e,Int.pow_zero,Int.fdiv_one]
theorem v8_:∀ (k:Nat) (n:Int),k<=8->0<=n->n < 256 ^ k->z8_ (ze_ n k)=n
 | 0,n,_,h0,h1=>by
   have:n=0:=by rw [Int.pow_zero] at h1;omega
   subst this;rfl
 | k+1,n,hk,h0,h1=>by
   rw [Vo_ (by omega),vc_,v8_ k (n / 256) (by omega) (by omega) (by rw [Int.pow_succ] at h1;exact Int.ediv_lt_of_lt_mul (by decide) h1)]
   omega
theorem qX_:∀ (k:Nat) (b:List Int),k<=8->b.length=k->(∀ x ∈ b,0<=x/\x<=255)->ze_ (z8_ b) k=b
 | 0,b,_,hl,_=>by
   have:b=[]:=List.eq_nil_of_length_eq_zero hl
   subst this;rfl
 | k+1,b,hk,hl,hb=>by
   rcases List.eq_nil_or_concat b with rfl | ⟨l,c,rfl⟩
   ·cases hl
   ·rw [List.concat_eq_append] at hl hb ⊢
    have hc:=hb c (by simp)
    have hl':l.length=k:=by simpa using hl
    rw [vc_,Vo_ (by omega)]
    rw [show (z8_ l*256+c) / 256=z8_ l by omega,show (z8_ l*256+c) % 256=c by omega,qX_ k l (by omega) hl' fun x hx=>hb x (by simp [hx])]
theorem zcm_ (w:Int):ze_ 0 w=List.replicate w.toNat 0:=(Vn_ w).symm
theorem YQ_ (k:Nat):zX_ (List.replicate k 0)=true:=by
 unfold zX_;rw [List.all_eq_true];intro x hx;rw [List.eq_of_mem_replicate hx];rfl
theorem yK_ {b:List Int} (h:zX_ b=true):b=List.replicate b.length 0:=by
 unfold zX_ at h
 rw [List.all_eq_true] at h
 exact List.eq_replicate_iff.2 ⟨rfl,fun x hx=>by simpa using h x hx⟩
theorem Qt_:∀ (w xs b:List Int),qJ_ w xs b=(qJ_ w xs []).map (b++·)
 | [],xs,b=>by simp [qJ_]
 | n :: r,xs,b=>by
   simp only [qJ_]
   split
   ·rw [Qt_ r xs (b++ze_ 0 (0 - n)),Qt_ r xs ([]++ze_ 0 (0 - n)),Option.map_map]
    congr 1;funext z;simp
   ·cases xs with
    | nil=>rfl
    | cons x ys=>
      dsimp only
      split
      ·rfl
      ·rw [Qt_ r ys (b++ze_ x n),Qt_ r ys ([]++ze_ x n),Option.map_map]
       congr 1;funext z;simp
theorem xu_:∀ (w b o:List Int),(Zq_ w b o).2=(Zq_ w b []).2/\((Zq_ w b []).2=0->(Zq_ w b o).1=o++(Zq_ w b []).1)
 | [],b,o=>by simp [Zq_]
 | n :: r,b,o=>by
   simp only [Zq_]
   split
   ·exact ⟨rfl,fun h=>by cases h⟩
   ·split
    ·have h1:=xu_ r (b.drop (zp_ n).toNat) (o++[z8_ (b.take (zp_ n).toNat)])
     have h2:=xu_ r (b.drop (zp_ n).toNat) ([]++[z8_ (b.take (zp_ n).toNat)])
     refine ⟨h1.1.trans h2.1.symm,fun h=>?_⟩
     have h0:=h2.1.symm.trans h
     rw [h1.2 h0,h2.2 h0];simp
    ·split
     ·exact xu_ r (b.drop (zp_ n).toNat) o
     ·exact ⟨rfl,fun h=>by cases h⟩
theorem zkD_ {x n:Int} (h0:0<=x) (h1:x<=18446744073709551615) (hn:0 < n) (h8:n<=8) (hf:¬ (n < 8/\x.fdiv (2 ^ (min (8*n).toNat 64)) ≠ 0)):x < 256 ^ n.toNat:=by
 by_cases hlt:n < 8
 ·have hz:x.fdiv (2 ^ (min (8*n).toNat 64))=0:=Classical.byContradiction fun h=>hf ⟨hlt,h⟩
  have e:min (8*n).toNat 64=8*n.toNat:=by omega
  have hp:(0:Int) < 2 ^ (8*n.toNat):=Int.pow_pos (by decide)
  rw [e,Int.fdiv_eq_ediv_of_nonneg _ (Int.le_of_lt hp)] at hz
  have h2:=Int.lt_ediv_add_one_mul_self x hp
  rw [hz] at h2
  have e2:(2:Int) ^ (8*n.toNat)=256 ^ n.toNat:=by rw [Int.pow_mul];rfl
  rw [<- e2];omega
 ·have:n=8:=by omega
  subst this
  show x < 256 ^ 8
  omega
theorem zku_ {x n:Int} (h0:0<=x) (hn:0 < n) (h8:n<=8) (hx:x < 256 ^ n.toNat):¬ (n < 8/\x.fdiv (2 ^ (min (8*n).toNat 64)) ≠ 0):=by
 rintro ⟨hlt,hz⟩
 apply hz
 have e:min (8*n).toNat 64=8*n.toNat:=by omega
 have hp:(0:Int) < 2 ^ (8*n.toNat):=Int.pow_pos (by decide)
 have e2:(2:Int) ^ (8*n.toNat)=256 ^ n.toNat:=by rw [Int.pow_mul];rfl
 rw [e,Int.fdiv_eq_ediv_of_nonneg _ (Int.le_of_lt hp),e2]
 exact Int.ediv_eq_zero_of_lt h0 hx
def okR (w:List Int):Prop:=∀ n ∈ w,n ≠ 0/\n<=8/\-64<=n
theorem HY_:∀ (w xs r rest:List Int),okR w->(∀ x ∈ xs,0<=x/\x<=18446744073709551615)->(w.map ZZ_).sum=xs.length->qJ_ w xs []=some r->Zq_ w (r++rest) []=(xs,0)
 | [],xs,r,rest,_,_,hc,h=>by
   simp at hc
   have:xs=[]:=List.eq_nil_of_length_eq_zero (by omega)
   subst this;rfl
 | n :: w,xs,r,rest,hw,hx,hc,h=>by
   have hn:=hw n (by simp)
   have hw':okR w:=fun m hm=>hw m (by simp [hm])
   simp only [qJ_] at h
   rw [List.map_cons,List.sum_cons] at hc
   by_cases hneg:n < 0
   ·rw [if_pos hneg,List.nil_append,Qt_] at h
    have h1:ZZ_ n=0:=if_neg (by omega)
    obtain ⟨r',hr',rfl⟩:=Option.map_eq_some_iff.1 h
    have ih:=HY_ w xs r' rest hw' hx (by omega) hr'
    have hl:=zm_ (n:=0) (w:=0 - n) (by omega)
    have ha:=Jq_ hneg
    have hln:(ze_ 0 (0 - n)).length=(zp_ n).toNat:=by omega
    simp only [Zq_]
    rw [List.append_assoc,if_neg (by rw [List.length_append];omega),if_neg (by omega),<- hln,List.take_left,List.drop_left,zcm_,YQ_,if_pos rfl,ih]
   ·rw [if_neg hneg] at h
    have h1:ZZ_ n=1:=if_pos (by omega)
    cases xs with
    | nil=>cases h
    | cons x ys=>
      dsimp only at h
      by_cases hf:n < 8/\x.fdiv (2 ^ (min (8*n).toNat 64)) ≠ 0
      ·rw [if_pos hf] at h;cases h
      ·rw [if_neg hf,List.nil_append,Qt_] at h
       obtain ⟨r',hr',rfl⟩:=Option.map_eq_some_iff.1 h
       have hx0:=hx x (by simp)
       have hlt:=zkD_ hx0.1 hx0.2 (by omega) hn.2.1 hf
       have ih:=HY_ w ys r' rest hw' (fun y hy=>hx y (by simp [hy])) (by rw [List.length_cons] at hc;omega) hr'
       have hl:=zm_ (n:=x) (w:=n) (by omega)
       have ha:=Xg_ hneg
       have hln:(ze_ x n).length=(zp_ n).toNat:=by omega
       have hnum:z8_ (ze_ x n)=x:=by
        have:=v8_ n.toNat x (by omega) hx0.1 hlt
        rwa [show ((n.toNat:Nat):Int)=n by omega] at this
       simp only [Zq_]
       have hacc:=xu_ w (r'++rest) ([]++[x])
       rw [List.append_assoc,if_neg (by rw [List.length_append];omega),if_pos (by omega),<- hln,List.take_left,List.drop_left,hnum]
       rw [ih] at hacc
       exact Prod.ext ((hacc.2 rfl).trans (by simp)) hacc.1
theorem Bf_:∀ (w b xs:List Int),okR w->(∀ x ∈ b,0<=x/\x<=255)->Zq_ w b []=(xs,0)->(w.map ZZ_).sum=xs.length/\(w.map zp_).sum<=b.length/\qJ_ w xs []=some (b.take (w.map zp_).sum.toNat)
 | [],b,xs,_,_,h=>by
   simp only [Zq_,Prod.mk.injEq] at h
   obtain ⟨rfl,_⟩:=h
   exact ⟨rfl,Int.natCast_nonneg _,rfl⟩
 | n :: w,b,xs,hw,hb,h=>by
   have hn:=hw n (by simp)
   have hw':okR w:=fun m hm=>hw m (by simp [hm])
   have ha:=wr_ (n:=n)
   have hs:0<=(w.map zp_).sum:=by
    have:∀ l:List Int,0<=(l.map zp_).sum:=fun l=>by
     induction l with
     | nil=>simp
     | cons a l ih=>rw [List.map_cons,List.sum_cons];have:=wr_ (n:=a);omega
    exact this w
   have hd:(b.drop (zp_ n).toNat).length=b.length - (zp_ n).toNat:=List.length_drop
   have hbd:∀ x ∈ b.drop (zp_ n).toNat,0<=x/\x<=255:=fun x hx=>hb x (List.mem_of_mem_drop hx)
   have htk:∀ k:Nat,(b.take (zp_ n).toNat)++(b.drop (zp_ n).toNat).take k=b.take ((zp_ n).toNat+k):=fun k=>by rw [List.take_add]
   simp only [Zq_] at h
   rw [List.map_cons,List.sum_cons,List.map_cons,List.sum_cons]
   by_cases hsh:(b.length:Int) < zp_ n
   ·rw [if_pos hsh] at h;cases h
   ·rw [if_neg hsh] at h
    have htl:(b.take (zp_ n).toNat).length=(zp_ n).toNat:=by rw [List.length_take];omega
    by_cases hp:0 < n
    ·rw [if_pos hp] at h
     have hacc:=xu_ w (b.drop (zp_ n).toNat) ([]++[z8_ (b.take (zp_ n).toNat)])
     rw [h] at hacc
     have h0:=hacc.1.symm
     obtain ⟨ys,hys⟩:∃ ys,Zq_ w (b.drop (zp_ n).toNat) []=(ys,0):=⟨_,Prod.ext rfl h0⟩
     rw [hys] at hacc
     have hxs:=hacc.2 rfl
     obtain ⟨i1,i2,i3⟩:=Bf_ w _ ys hw' hbd hys
     have e1:ZZ_ n=1:=if_pos hp
     have ea:=Xg_ (n:=n) (by omega)
     dsimp only [List.nil_append] at hxs
     rw [List.singleton_append] at hxs
     subst hxs
     have hbt:∀ x ∈ b.take (zp_ n).toNat,0<=x/\x<=255:=fun x hx=>hb x (List.mem_of_mem_take hx)
     have hnl:=x4_ (b.take (zp_ n).toNat) hbt
     have h2:=hnl.2
     rw [htl] at h2
     have e3:(zp_ n).toNat=n.toNat:=by rw [ea]
     have h4:z8_ (b.take (zp_ n).toNat) < 256 ^ n.toNat:=by rw [<- e3];exact h2
     have hfit:¬ (n < 8/\(z8_ (b.take (zp_ n).toNat)).fdiv (2 ^ (min (8*n).toNat 64)) ≠ 0):=zku_ hnl.1 hp hn.2.1 h4
     have hbk:=qX_ (zp_ n).toNat (b.take (zp_ n).toNat) (by omega) htl hbt
     rw [show (((zp_ n).toNat:Nat):Int)=n by omega] at hbk
     refine ⟨by rw [List.length_cons];omega,by omega,?_⟩
     simp only [qJ_]
     rw [if_neg (by omega),if_neg hfit,List.nil_append,Qt_,i3,hbk]
     show some _=_
     dsimp only;rw [htk];congr 2;omega
    ·rw [if_neg hp] at h
     by_cases hz:zX_ (b.take (zp_ n).toNat)=true
     ·rw [if_pos hz] at h
      obtain ⟨i1,i2,i3⟩:=Bf_ w _ xs hw' hbd h
      have e1:ZZ_ n=0:=if_neg hp
      have hze:=yK_ hz
      rw [htl] at hze
      have ea:=Jq_ (n:=n) (by omega)
      refine ⟨by omega,by omega,?_⟩
      simp only [qJ_]
      rw [if_pos (by omega),List.nil_append,Qt_,i3,zcm_,show (0 - n).toNat=(zp_ n).toNat by omega,<- hze]
      show some _=_
      dsimp only;rw [htk];congr 2;omega
     ·rw [if_neg hz] at h;cases h
theorem x3_ {w xs:List Int} (rest:List Int) (hx:∀ x ∈ xs,0<=x/\x<=18446744073709551615) (hk:ZM_ w xs=true):Zh_ w (Zm_ w xs++rest)=(xs,0)/\(Zm_ w xs).length=(zE_ w).toNat:=by
 unfold ZM_ at hk
 obtain ⟨r,hr⟩:=Option.isSome_iff_exists.1 hk
 have hb:Zm_ w xs=r:=by unfold Zm_;rw [hr];rfl
 rw [hb]
 unfold Q2_ at hr
 split at hr
 ·rename_i h
  have hw:okR w:=(Zl_.1 h.1).2
  have hc:(w.map ZZ_).sum=xs.length:=by have:=h.2;unfold zq_ at this;rwa [if_pos h.1] at this
  unfold Zh_ zE_
  rw [if_pos h.1,if_pos h.1]
  refine ⟨HY_ w xs r rest hw hx hc hr,?_⟩
  have hl:∀ (w xs r:List Int),okR w->qJ_ w xs []=some r->(r.length:Int)=(w.map zp_).sum:=by
   intro w
   induction w with
   | nil=>intro xs r _ h;simp only [qJ_,Option.some.injEq] at h;subst h;rfl
   | cons n w ih=>
     intro xs r hw h
     have hn:=hw n (by simp)
     have hw':okR w:=fun m hm=>hw m (by simp [hm])
     simp only [qJ_] at h
     rw [List.map_cons,List.sum_cons]
     split at h
     ·rw [Qt_] at h
      obtain ⟨r',hr',rfl⟩:=Option.map_eq_some_iff.1 h
      have:=ih _ _ hw' hr'
      have hl:=zm_ (n:=0) (w:=0 - n) (by omega)
      have ha:=Jq_ (n:=n) (by assumption)
      simp only [List.nil_append,List.length_append];omega
     ·cases xs with
      | nil=>cases h
      | cons x ys=>
        dsimp only at h
        split at h
        ·cases h
        ·rw [Qt_] at h
         obtain ⟨r',hr',rfl⟩:=Option.map_eq_some_iff.1 h
         have:=ih _ _ hw' hr'
         have hl:=zm_ (n:=x) (w:=n) (by omega)
         have ha:=Xg_ (n:=n) (by assumption)
         simp only [List.nil_append,List.length_append];omega
  have:=hl w xs r hw hr
  omega
 ·cases hr
theorem kD_ {w b xs:List Int} (hb:∀ x ∈ b,0<=x/\x<=255) (h:Zh_ w b=(xs,0)):ZM_ w xs=true/\Zm_ w xs=b.take (zE_ w).toNat/\zE_ w<=b.length:=by
 unfold Zh_ at h
 split at h
 ·rename_i hr
  obtain ⟨h1,h2,h3⟩:=Bf_ w b xs (Zl_.1 hr).2 hb h
  have hF:Q2_ w xs=some (b.take (w.map zp_).sum.toNat):=by
   unfold Q2_ zq_;rw [if_pos hr,if_pos ⟨hr,h1⟩,h3]
  unfold ZM_ Zm_ zE_
  rw [hF,if_pos hr];exact ⟨rfl,rfl,h2⟩
 ·cases h
end Go.Eng
