/- Parts of the proof: M1, OG, R7, N1. No condition. -/
import Derived.Test.YteihcoggfaenaaaGreatDoorProg
import Derived.Test.YteihcoggfaenaaaGreatDoorWF10
import Derived.KernelRfl
import Derived.Test.YteihcoggfaenaaaGreatDoorWF14
import Derived.Test.YteihcoggfaenaaaGreatDoorWF11
namespace Go.Eng
open Go.Proofs
set_option linter.unusedVariables false
set_option linter.unusedSimpArgs false
set_option maxRecDepth 100000
set_option maxHeartbeats 1000000
def jA_ {α:Type} (p:α->Bool):List α->Int->Int
 | [],_=>-1
 | o :: r,i=>if p o=true then i else jA_ p r (i+1)
theorem xD_ {α:Type} {p:α->Bool} {l:List α} {i:Nat} (h:l.length<=i):jA_ p (l.drop i) i=-1:=by
 rw [List.drop_of_length_le h];rfl
theorem Yy_ {α:Type} {p:α->Bool} {l:List α} {i:Nat} {d:α} (h:i < l.length) (hk:p (l.getD i d)=true):jA_ p (l.drop i) i=i:=by
 rw [zz_ h d];exact if_pos hk
theorem Yx_ {α:Type} {p:α->Bool} {l:List α} {i:Nat} {d:α} (h:i < l.length) (hk:p (l.getD i d)=false):jA_ p (l.drop i) i=jA_ p (l.drop (i+1)) ((i+1:Nat):Int):=by
 rw [zz_ h d];exact if_neg (by rw [hk];decide)
theorem JC_ {α:Type} {p:α->Bool}:∀ (l:List α) (i:Int),0<=i->decide (0<=jA_ p l i)=l.any p
 | [],i,h=>rfl
 | o :: r,i,h=>by
   unfold jA_
   rw [List.any_cons]
   cases hk:p o with
   | true=>rw [if_pos rfl,decide_eq_true h];rfl
   | false=>rw [if_neg (by decide),JC_ r (i+1) (by omega)];rfl
def nzB (c:Int):Bool:=decide (c ≠ 0)
abbrev OV:=Int × Int × Bool × Int × List Int × List Int × Unit
instance:DecidableEq (Int × List Int × List Int × Unit):=inferInstance
instance:DecidableEq OV:=inferInstance
def ue_ (b:List Int):Int:=b.foldl (fun n c=>Zp_ .or .u64 (IntKind.u64.wrap (n*2 ^ min (Int.toNat 8) IntKind.u64.bits)) (IntKind.u64.wrap c)) 0
theorem Hb_ {b:List Int} {i:Nat} (h:i < b.length):ue_ (b.take (i+1))=Zp_ .or .u64 (IntKind.u64.wrap (ue_ (b.take i)*2 ^ min (Int.toNat 8) IntKind.u64.bits)) (IntKind.u64.wrap (b.getD i 0)):=by
 unfold ue_
 rw [List.take_succ_eq_append_getElem h,List.foldl_append,List.getD_eq_getElem?_getD,List.getElem?_eq_getElem h];rfl
def U9_:IR:=
(sq (kr [0,1] [oD 4 (.mov (.c (.int .u64 0))),
oD 5 (.mov cF)])
(sq (sq (.reg [oM 8 0,
oE 9 8,
oD 10 (.mov (cI 0))])
(.block 0
(.loop
(sq (kr [0,1,4,8,9,10] [oB 11 .lss 10 9])
(sq (.cond 11
.skip
(.exit 0))
(sq (.block 1
(sq (.reg [oI 12 1 8 10,
oL 13 12,
oM 7 13])
(kr [0,1,4,7,8,9,10] [oM 14 4,
oB 15 .shl 14 (.c (.int .u64 8)),
oM 16 7,
oD 17 (.conv .u64 16),
oB 18 .or 15 17,
oM 4 18])))
(kr [0,1,4,8,9,10] [oB 19 .add 10 (cI 1),
oM 10 19])))))))
(sq (kr [0,1,4] [oM 20 4,
oM 21 0,
oE 22 21,
oM 23 1,
oB 24 .eql 22 23,
oM 4 20,
oM 5 24])
.ret)))
def Uh_:List RD:=[.tmp 4 true none,.tmp 5 true none]
theorem UK_:zk_ Tryz.prog Tryz.f192 U9_ Uh_=true:=by kernel_rfl
def Jc_:List AV->List Obj->Option (Prop × AV)
 | [.imm (.int .u8) b,.int .i64 z],[]=>some ((True,.tup [.int .u64 (ue_ b),.bool (decide ((b.length:Int)=z))]))
 | _,_=>none
theorem VK_:zd_ Tryz.prog 192 (RoF Jc_).sum:=by
 refine zi_ Tryz.func192 UK_ (zc_ _) fun args objs p v e=>?_
 unfold Jc_ at e
 split at e
 ·rename_i b z
  cases e
  refine ⟨rfl,fun hw ho hp=>?_⟩
  change List Int at b
  have hl:b.length<=maxLen:=(hw (.imm (.int .u8) b) (by simp)).2
  unfold maxLen at hl
  clear hw ho
  repeat'(intro t ht;first|(cases t<;>first|(cases ht;done)|(try simp only[zg_]at ht))|((first|refine zb_ ht ?_|refine ht ?_ ?_|refine ht.1 ?_ ?_|refine ht ?_)<;>clear ht))
  all_goals first
   | (intro r h1 h2;clear h1;refine h2 ⟨[0,1,4,8,9,10],Nat,(fun i=>i<=b.length),fun i=>[.imm (.int .u8) b,.int .i64 z,.int .u64 (ue_ (b.take i)),.imm (.int .u8) b,.int .i64 b.length,.int .i64 i],fun _=>[],fun i=>b.length - i,⟨0,Nat.zero_le _,rfl,rfl⟩,?_⟩;clear h2)
  intro i hi
  repeat'(intro t ht;first|(cases t<;>first|(cases ht;done)|(try simp only[zg_]at ht))|((first|refine zb_ ht ?_|refine ht ?_ ?_)<;>clear ht)|(refine ht.1 (by simp only[zl_];omega) ?_;clear ht)|(refine ht.2 ?_;clear ht)|(refine ht ?_;clear ht))
  all_goals first
   | exact True.intro
   | ((try simp only [zm_,zn_,zl_] at*);omega)
   | (have hge:b.length<=i:=by omega
      rw [List.take_of_length_le hge];exact ⟨rfl,rfl⟩)
   | exact (by decide)
   | (refine ⟨i+1,by omega,by dsimp only;omega,?_,rfl⟩
      dsimp only
      rw [Hb_ (by omega)];rfl)
 ·cases e
def uh_:IR:=
(sq (kr [0] [oD 2 (.mov cF)])
(sq (.reg [oM 3 0,
oB 4 .neq 3 (.c (.int .u8 0)),
oM 2 4])
.ret))
def VT_:List RD:=[.tmp 2 true none]
theorem V4_:zk_ Tryz.prog Tryz.f191 uh_ VT_=true:=by kernel_rfl
def qX_:List AV->List Obj->Option (Prop × AV)
 | [.int .u8 b],[]=>some ((True,.bool (nzB b)))
 | _,_=>none
theorem kv_:zd_ Tryz.prog 191 (RoF qX_).sum:=by
 refine zi_ Tryz.func191 V4_ (zc_ _) fun args objs p v e=>?_
 unfold qX_ at e
 split at e
 ·rename_i b
  cases e
  refine ⟨rfl,fun hw ho hp=>?_⟩
  repeat'(intro t ht;first|(cases t<;>first|(cases ht;done)|(try simp only[zg_]at ht;try(exfalso;first|contradiction|omega)))|((first|refine zb_ ht ?_|refine ht ?_ ?_|refine ht.1 ?_ ?_|refine ht ?_)<;>clear ht))
  all_goals first
   | exact True.intro
   | (refine ⟨congrArg AV.bool ?_,rfl⟩;unfold nzB;simp;done)
 ·cases e
def Kf_:IR:=
(sq (kr [0,1] [oD 4 (.mov (cI 0))])
(sq (sq (.reg [oM 6 0,
oE 7 6,
oD 8 (.mov (cI 0))])
(.block 0
(.loop
(sq (kr [0,1,7,8] [oB 9 .lss 8 7])
(sq (.cond 9
.skip
(.exit 0))
(sq (.block 1
(sq (.reg [oM 10 8,
oM 5 10])
(sq (kr [0,1,5,7,8] [oM 11 1,
oM 12 0,
oM 13 5,
oI 14 1 12 13,
oL 15 14,
oD 16 (.call false 11 [15])])
(.cond 16
(sq (kr [5] [oM 17 5,
oM 4 17])
.ret)
.skip))))
(kr [0,1,7,8] [oB 18 .add 8 (cI 1),
oM 8 18])))))))
(sq (kr [] [oD 4 (.mov (cI (-1)))])
.ret)))
def k9_:List RD:=[.tmp 4 true none]
theorem Kc_:zk_ Tryz.prog Tryz.f207 Kf_ k9_=true:=by kernel_rfl
def ZJ_:List AV->List Obj->Option (Prop × AV)
 | [.imm (.int .u8) l,.fn 191 [] []],[]=>some ((True,.int .i64 (jA_ nzB l 0)))
 | _,_=>none
theorem ku_:zd_ Tryz.prog 207 (RoF ZJ_).sum:=by
 refine zi_ Tryz.func207 Kc_ (za_ (s:=RoF qX_) kv_ (zc_ _)) fun args objs p v e=>?_
 unfold ZJ_ at e
 split at e
 ·rename_i l
  cases e
  refine ⟨rfl,fun hw ho hp=>?_⟩
  change List Int at l
  have hl:l.length<=maxLen:=(hw (.imm (.int .u8) l) (by simp)).2
  unfold maxLen at hl
  clear hw ho
  repeat'(intro t ht;first|(cases t<;>first|(cases ht;done)|(try simp only[zg_]at ht))|((first|refine zb_ ht ?_|refine ht ?_ ?_|refine ht.1 ?_ ?_|refine ht ?_)<;>clear ht))
  all_goals first
   | (intro r h1 h2;clear h1;refine h2 ⟨[0,1,7,8],Nat,(fun i=>i<=l.length/\jA_ nzB l 0=jA_ nzB (l.drop i) i),fun i=>[.imm (.int .u8) l,.fn 191 [] [],.int .i64 l.length,.int .i64 i],fun _=>[],fun i=>l.length - i,⟨0,⟨Nat.zero_le _,rfl⟩,rfl,rfl⟩,?_⟩;clear h2)
  rintro i ⟨hi,he⟩
  repeat'(intro t ht;first|(cases t<;>first|(cases ht;done)|(try simp only[zg_]at ht;try(exfalso;first|contradiction|omega)))|((first|refine zb_ ht ?_|refine ht ?_ ?_|refine ht.1 ?_ ?_|refine ht ?_)<;>clear ht))
  all_goals first
   | exact True.intro
   | ((try simp only [zm_,zn_,zl_] at*);omega)
   | (refine ⟨?_,rfl⟩;rw [he,xD_ (by omega)];done)
   | (refine ⟨?_,rfl⟩;rw [he,Yy_ (d:=0) (by omega) (by assumption)];done)
   | exact ⟨i+1,⟨by omega,he.trans (Yx_ (d:=0) (by omega) (by assumption))⟩,by dsimp only;omega,rfl,rfl⟩
 ·cases e
def Q6_:IR:=
(sq (kr [0,1] [oD 4 (.mov cF)])
(sq (kr [0,1] [oM 5 0,
oM 6 1,
oC 7 207 [5,6],
oB 8 .geq 7 (cI 0),
oM 4 8])
.ret))
def QZ_:List RD:=[.tmp 4 true none]
theorem Q3_:zk_ Tryz.prog Tryz.f190 Q6_ QZ_=true:=by kernel_rfl
def Zs_:List AV->List Obj->Option (Prop × AV)
 | [.imm (.int .u8) l,.fn 191 [] []],[]=>some ((True,.bool (l.any nzB)))
 | _,_=>none
theorem QS_:zd_ Tryz.prog 190 (RoF Zs_).sum:=by
 refine zi_ Tryz.func190 Q3_ (za_ (s:=RoF qX_) kv_ (za_ (s:=RoF ZJ_) ku_ (zc_ _))) fun args objs p v e=>?_
 unfold Zs_ at e
 split at e
 ·rename_i l
  cases e
  refine ⟨rfl,fun hw ho hp=>?_⟩
  change List Int at l
  have h:=JC_ (p:=nzB) l 0 (Int.le_refl _)
  repeat'(intro t ht;first|(cases t<;>first|(cases ht;done)|(try simp only[zg_]at ht;try(exfalso;first|contradiction|omega)))|((first|refine zb_ ht ?_|refine ht ?_ ?_|refine ht.1 ?_ ?_|refine ht ?_)<;>clear ht))
  all_goals first
   | exact True.intro
   | exact ⟨congrArg AV.bool h,rfl⟩
 ·cases e
def Ke_:IR:=
(sq (kr [0,1] [oD 4 (.mov (cI 0))])
(sq (sq (.reg [oM 6 0,
oE 7 6,
oD 8 (.mov (cI 0))])
(.block 0
(.loop
(sq (kr [0,1,7,8] [oB 9 .lss 8 7])
(sq (.cond 9
.skip
(.exit 0))
(sq (.block 1
(sq (.reg [oM 10 8,
oM 5 10])
(sq (kr [0,1,5,7,8] [oM 11 1,
oM 12 0,
oM 13 5,
oI 14 1 12 13,
oL 15 14,
oB 16 .eql 11 15])
(.cond 16
(sq (kr [5] [oM 17 5,
oM 4 17])
.ret)
.skip))))
(kr [0,1,7,8] [oB 18 .add 8 (cI 1),
oM 8 18])))))))
(sq (kr [] [oD 4 (.mov (cI (-1)))])
.ret)))
def k8_:List RD:=[.tmp 4 true none]
theorem Kb_:zk_ Tryz.prog Tryz.f208 Ke_ k8_=true:=by kernel_rfl
def ZI_:List AV->List Obj->Option (Prop × AV)
 | [.imm (.int .u64) l,.int .u64 x],[]=>some ((True,.int .i64 (jA_ (fun y=>decide (x=y)) l 0)))
 | _,_=>none
theorem kt_:zd_ Tryz.prog 208 (RoF ZI_).sum:=by
 refine zi_ Tryz.func208 Kb_ (zc_ _) fun args objs p v e=>?_
 unfold ZI_ at e
 split at e
 ·rename_i l x
  cases e
  refine ⟨rfl,fun hw ho hp=>?_⟩
  change List Int at l
  have hl:l.length<=maxLen:=(hw (.imm (.int .u64) l) (by simp)).2
  unfold maxLen at hl
  clear hw ho
  repeat'(intro t ht;first|(cases t<;>first|(cases ht;done)|(try simp only[zg_]at ht))|((first|refine zb_ ht ?_|refine ht ?_ ?_|refine ht.1 ?_ ?_|refine ht ?_)<;>clear ht))
  all_goals first
   | (intro r h1 h2;clear h1;refine h2 ⟨[0,1,7,8],Nat,(fun i=>i<=l.length/\jA_ (fun y=>decide (x=y)) l 0=jA_ (fun y=>decide (x=y)) (l.drop i) i),fun i=>[.imm (.int .u64) l,.int .u64 x,.int .i64 l.length,.int .i64 i],fun _=>[],fun i=>l.length - i,⟨0,⟨Nat.zero_le _,rfl⟩,rfl,rfl⟩,?_⟩;clear h2)
  rintro i ⟨hi,he⟩
  repeat'(intro t ht;first|(cases t<;>first|(cases ht;done)|(try simp only[zg_]at ht;try(exfalso;first|contradiction|omega)))|((first|refine zb_ ht ?_|refine ht ?_ ?_|refine ht.1 ?_ ?_|refine ht ?_)<;>clear ht))
  all_goals first
   | exact True.intro
   | ((try simp only [zm_,zn_,zl_] at*);omega)
   | (refine ⟨?_,rfl⟩;rw [he,xD_ (by omega)];done)
   | (refine ⟨?_,rfl⟩;rw [he,Yy_ (d:=0) (by omega) (show decide (x=l.getD i 0)=true from decide_eq_true (by assumption))];done)
   | exact ⟨i+1,⟨by omega,he.trans (Yx_ (d:=0) (by omega) (show decide (x=l.getD i 0)=false from decide_eq_false (by assumption)))⟩,by dsimp only;omega,rfl,rfl⟩
 ·cases e
def Q5_:IR:=
(sq (kr [0,1] [oD 4 (.mov cF)])
(sq (kr [0,1] [oM 5 0,
oM 6 1,
oC 7 208 [5,6],
oB 8 .geq 7 (cI 0),
oM 4 8])
.ret))
def QY_:List RD:=[.tmp 4 true none]
theorem Q2_:zk_ Tryz.prog Tryz.f193 Q5_ QY_=true:=by kernel_rfl
def Zr_:List AV->List Obj->Option (Prop × AV)
 | [.imm (.int .u64) l,.int .u64 x],[]=>some ((True,.bool (l.any fun y=>decide (x=y))))
 | _,_=>none
theorem QR_:zd_ Tryz.prog 193 (RoF Zr_).sum:=by
 refine zi_ Tryz.func193 Q2_ (za_ (s:=RoF ZI_) kt_ (zc_ _)) fun args objs p v e=>?_
 unfold Zr_ at e
 split at e
 ·rename_i l x
  cases e
  refine ⟨rfl,fun hw ho hp=>?_⟩
  change List Int at l
  have h:=JC_ (p:=fun y=>decide (x=y)) l 0 (Int.le_refl _)
  repeat'(intro t ht;first|(cases t<;>first|(cases ht;done)|(try simp only[zg_]at ht;try(exfalso;first|contradiction|omega)))|((first|refine zb_ ht ?_|refine ht ?_ ?_|refine ht.1 ?_ ?_|refine ht ?_)<;>clear ht))
  all_goals first
   | exact True.intro
   | exact ⟨congrArg AV.bool h,rfl⟩
 ·cases e
def metV (n:Int) (vals:List Int) (c f:Int) (h:Bool) (v:List Int):Bool:=decide (c=32768) && decide (f=n) && (if vals.length=0 then v.any nzB else decide ((v.length:Int)=kp_ n) && !h && vals.any fun y=>decide (ue_ v=y))
def hp_:IR:=
(sq (kr [0,1] [oD 2 (.boxv 0),
oD 3 (.boxv 1),
oD 4 (.mov cF)])
(sq (sq (kr [2,3] [oA 9 0 2,
oL 10 9,
oB 11 .neq 10 (cI 32768),
oM 12 11,
oF 12 13 (.fieldAddr 1 2),
oF 12 14 (.load none 13),
oF 12 15 (.fieldAddr 3 3),
oF 12 16 (.load none 15),
oF 12 17 (.bin .neq 14 16),
oP 18 12 cT 17])
(.cond 18
(sq (kr [] [oD 4 (.mov cF)])
.ret)
.skip))
(sq (sq (kr [2,3] [oA 19 4 3,
oL 20 19,
oE 21 20,
oB 22 .eql 21 (cI 0)])
(.cond 22
(sq (.reg [oA 23 4 2,
oL 24 23,
oC 25 190 [24,.f 191],
oM 4 25])
.ret)
.skip))
(sq (kr [2,3] [oA 27 3 3,
oL 28 27,
oC 29 170 [28],
oM 26 29,
oX 30 26 0,
oX 31 26 1,
oD 5 (.box [.int .i64 0,.int .i64 0,.kb false,.int .i64 0,.imm (.int .u64) []]),
oS 5 5 30,
oM 6 31])
(sq (kr [2,3,5] [oA 33 4 2,
oL 34 33,
oA 35 1 5,
oL 36 35,
oC 37 192 [34,36],
oM 32 37,
oX 38 32 0,
oX 39 32 1,
oM 7 38,
oM 8 39])
(sq (kr [2,3,7,8] [oM 40 8,
oM 41 40,
oT 41 42 (.fieldAddr 2 2),
oT 41 43 (.load none 42),
oT 41 44 (.un .not 43),
oP 45 41 44 cF,
oM 46 45,
oT 46 47 (.fieldAddr 4 3),
oT 46 48 (.load none 47),
oT 46 49 (.mov 7),
oT 46 50 (.call false (.f 193) [48,49]),
oP 51 46 50 cF,
oM 4 51])
.ret))))))
def Gp_:List RD:=[.tmp 4 true none]
theorem GT_:zk_ Tryz.prog Tryz.f176 hp_ Gp_=true:=by kernel_rfl
def wN_:List AV->List Obj->Option (Prop × AV)
 | [.agg [.int .i64 c,.int .i64 f,.bool h,.int .u64 x,.imm (.int .u8) v,.imm (.int .u8) m],.agg [.int .i64 bits,.int .i64 size,.bool mk,.int .i64 nd,.imm (.int .u64) vals]],[]=>some ((True,.bool (metV nd vals c f h v)))
 | _,_=>none
theorem uV_:zd_ Tryz.prog 176 (RoF wN_).sum:=by
 refine zi_ Tryz.func176 GT_ (za_ (s:=RoF Zs_) QS_ (za_ (s:=RoF qX_) kv_ (za_ (s:=RoF jw_) J0_ (za_ (s:=RoF Jc_) VK_ (za_ (s:=RoF Zr_) QR_ (zc_ _)))))) fun args objs p v e=>?_
 unfold wN_ at e
 split at e
 ·rename_i c f h x v m bits size mk nd vals
  cases e
  refine ⟨rfl,fun hw ho hp=>?_⟩
  change List Int at v
  change List Int at m
  change List Int at vals
  clear hw ho
  by_cases h1:c=32768/\f=nd
  ·obtain ⟨rfl,rfl⟩:=h1
   have e:metV f vals 32768 f h v=if vals.length=0 then v.any nzB else decide ((v.length:Int)=kp_ f) && !h && vals.any fun y=>decide (ue_ v=y):=by unfold metV;simp
   rw [e]
   cases h<;>by_cases h2:vals.length=0<;>by_cases h3:(v.length:Int)=kp_ f
   all_goals repeat'(intro t ht;first|(cases t<;>first|(cases ht;done)|(try simp only[zg_]at ht;try(exfalso;first|contradiction|omega)))|((first|refine zb_ ht ?_|refine ht ?_ ?_|refine ht.1 ?_ ?_|refine ht ?_)<;>clear ht))
   all_goals first
    | exact True.intro
    | (refine ⟨congrArg AV.bool ?_,rfl⟩;simp_all;done)
    | (exfalso;simp_all;done)
  ·have e:metV nd vals c f h v=false:=by unfold metV;by_cases h2:c=32768<;>by_cases h3:f=nd<;>simp_all
   rw [e]
   cases h<;>by_cases h2:c=32768<;>by_cases h3:f=nd
   all_goals repeat'(intro t ht;first|(cases t<;>first|(cases ht;done)|(try simp only[zg_]at ht;try(exfalso;first|contradiction|omega)))|((first|refine zb_ ht ?_|refine ht ?_ ?_|refine ht.1 ?_ ?_|refine ht ?_)<;>clear ht))
   all_goals first
    | exact True.intro
    | exact ⟨rfl,rfl⟩
    | (exfalso;omega)
    | (exfalso;simp_all;done)
 ·cases e
def hq_:IR:=
(sq (kr [0,1] [oD 2 (.boxv 0),
oD 3 (.mov cF)])
(sq (.reg [oK 4 6 2,
oK 5 5 1,
oC 6 176 [4,5],
oM 3 6])
.ret))
def Gq_:List RD:=[.tmp 3 true none]
theorem GU_:zk_ Tryz.prog Tryz.f175 hq_ Gq_=true:=by kernel_rfl
def KQ_:List AV->List Obj->Option (Prop × AV)
 | [.agg [.int .i64 c,.int .i64 f,.bool h,.int .u64 x,.imm (.int .u8) v,.imm (.int .u8) m],.ptr 0 0],[.box [.int .i64 bits,.int .i64 size,.bool mk,.int .i64 nd,.imm (.int .u64) vals]]=>some ((True,.bool (metV nd vals c f h v)))
 | _,_=>none
theorem W0_:zd_ Tryz.prog 175 (RoF KQ_).sum:=by
 refine zi_ Tryz.func175 GU_ (za_ (s:=RoF wN_) uV_ (zc_ _)) fun args objs p v e=>?_
 unfold KQ_ at e
 split at e
 ·rename_i c f h x v m bits size mk nd vals
  cases e
  refine ⟨rfl,fun hw ho hp=>?_⟩
  change List Int at v
  change List Int at m
  change List Int at vals
  clear hw ho
  repeat'(intro t ht;first|(cases t<;>first|(cases ht;done)|(try simp only[zg_]at ht;try(exfalso;first|contradiction|omega)))|((first|refine zb_ ht ?_|refine ht ?_ ?_|refine ht.1 ?_ ?_|refine ht ?_)<;>clear ht))
  all_goals first
   | exact True.intro
   | exact ⟨rfl,rfl⟩
 ·cases e
def ui_:IR:=
(sq (kr [0,1] [oD 2 (.boxv 0),
oD 3 (.mov cF)])
(sq (.reg [oK 4 6 2,
oK 5 6 1,
oC 6 150 [4,5],
oM 3 6])
.ret))
def VU_:List RD:=[.tmp 3 true none]
theorem V5_:zk_ Tryz.prog Tryz.f149 ui_ VU_=true:=by kernel_rfl
def kb_:List AV->List Obj->Option (Prop × AV)
 | [.agg [.int .i64 c,.int .i64 f,.bool h,.int .u64 x,.imm (.int .u8) v,.imm (.int .u8) m],.ptr 0 0],[.box [.int .i64 c',.int .i64 f',.bool h',.int .u64 x',.imm (.int .u8) v',.imm (.int .u8) m']]=>some ((True,.bool (decide (c=c') && decide (f=f') && decide (x=x'))))
 | _,_=>none
theorem Jl_:zd_ Tryz.prog 149 (RoF kb_).sum:=by
 refine zi_ Tryz.func149 V5_ (za_ (s:=RoF jT_) XO_ (zc_ _)) fun args objs p v e=>?_
 unfold kb_ at e
 split at e
 ·rename_i c f h x v m c' f' h' x' v' m'
  cases e
  refine ⟨rfl,fun hw ho hp=>?_⟩
  change List Int at v
  change List Int at m
  change List Int at v'
  change List Int at m'
  clear hw ho
  repeat'(intro t ht;first|(cases t<;>first|(cases ht;done)|(try simp only[zg_]at ht;try(exfalso;first|contradiction|omega)))|((first|refine zb_ ht ?_|refine ht ?_ ?_|refine ht.1 ?_ ?_|refine ht ?_)<;>clear ht))
  all_goals first
   | exact True.intro
   | exact ⟨rfl,rfl⟩
 ·cases e
def rgO (o:OV):Bool:=zG_ o.1 o.2.1 o.2.2.1 o.2.2.2.1 o.2.2.2.2.1 o.2.2.2.2.2.1
def szO (o:OV):Int:=Qi_ o.1 o.2.1 o.2.2.1 o.2.2.2.1 o.2.2.2.2.1 o.2.2.2.2.2.1
def ecO (o:OV):List Int:=Zx_ o.1 o.2.1 o.2.2.1 o.2.2.2.1 o.2.2.2.2.1 o.2.2.2.2.2.1
def alO (x o:OV):Bool:=decide (x.1=o.1) && decide (x.2.1=o.2.1) && decide (x.2.2.2.1=o.2.2.2.1)
theorem zly_ {x o:OV} (h:(¬ x.1=o.1\/¬ x.2.1=o.2.1)\/¬ x.2.2.2.1=o.2.2.2.1):alO x o=false:=by
 unfold alO
 rcases h with (h | h) | h<;>simp [h]
theorem zlx_ {x o:OV} (h:(x.1=o.1/\x.2.1=o.2.1)/\x.2.2.2.1=o.2.2.2.1):alO x o=true:=by
 unfold alO;rw [h.1.1,h.1.2,h.2];simp
def mtO (n:Int) (vals:List Int) (o:OV):Bool:=metV n vals o.1 o.2.1 o.2.2.1 o.2.2.2.2.1
def lenO (o:OV):Prop:=o.2.2.2.2.1.length<=100000/\o.2.2.2.2.2.1.length<=100000
theorem lenM {o:OV} (h:lenO o):o.2.2.2.2.1.length<=1000000/\o.2.2.2.2.2.1.length<=1000000:=⟨Nat.le_trans h.1 (by decide),Nat.le_trans h.2 (by decide)⟩
structure allLen (l:List OV):Prop where
 h:∀ o ∈ l,lenO o
def vr_:IR:=
(sq (kr [0] [oD 1 (.boxv 0),
oD 2 (.mov cF)])
(sq (.reg [oK 3 6 1,
oC 4 118 [3],
oD 5 (.un .not 4),
oM 2 5])
.ret))
def Y9_:List RD:=[.tmp 2 true none]
theorem vi_:zk_ Tryz.prog Tryz.f117 vr_ Y9_=true:=by kernel_rfl
def QD_:List AV->List Obj->Option (Prop × AV)
 | [.agg [.int .i64 c,.int .i64 f,.bool h,.int .u64 x,.imm (.int .u8) v,.imm (.int .u8) m]],[]=>some ((v.length<=1000000/\m.length<=1000000,.bool (!zG_ c f h x v m)))
 | _,_=>none
theorem jF_:zd_ Tryz.prog 117 (RoF QD_).sum:=by
 refine zi_ Tryz.func117 vi_ (za_ (s:=RoF QM_) kR_ (zc_ _)) fun args objs p v e=>?_
 unfold QD_ at e
 split at e
 ·rename_i c f h x v m
  cases e
  refine ⟨rfl,fun hw ho hp=>?_⟩
  change List Int at v
  change List Int at m
  clear hw ho
  repeat'(intro t ht;first|(cases t<;>first|(cases ht;done)|(try simp only[zg_]at ht;try(exfalso;first|contradiction|omega)))|((first|refine zb_ ht ?_|refine ht ?_ ?_|refine ht.1 ?_ ?_|refine ht ?_)<;>clear ht))
  all_goals first
   | exact True.intro
   | exact hp
   | exact ⟨rfl,rfl⟩
 ·cases e
def Qx_:IR:=
(sq (kr [0,1] [oD 4 (.mov (cI 0))])
(sq (sq (.reg [oM 6 0,
oE 7 6,
oD 8 (.mov (cI 0))])
(.block 0
(.loop
(sq (kr [0,1,7,8] [oB 9 .lss 8 7])
(sq (.cond 9
.skip
(.exit 0))
(sq (.block 1
(sq (.reg [oM 10 8,
oM 5 10])
(sq (kr [0,1,5,7,8] [oM 11 1,
oM 12 0,
oM 13 5,
oI 14 6 12 13,
oK 15 6 14,
oD 16 (.call false 11 [15])])
(.cond 16
(sq (kr [5] [oM 17 5,
oM 4 17])
.ret)
.skip))))
(kr [0,1,7,8] [oB 18 .add 8 (cI 1),
oM 8 18])))))))
(sq (kr [] [oD 4 (.mov (cI (-1)))])
.ret)))
def Qt_:List RD:=[.tmp 4 true none]
theorem Qv_:zk_ Tryz.prog Tryz.f146 Qx_ Qt_=true:=by kernel_rfl
def Zc_:List AV->List Obj->Option (Prop × AV)
 | [.imm (.cons (.int .i64) (.cons (.int .i64) (.cons .bool (.cons (.int .u64) (.cons (.sl (.int .u8)) (.cons (.sl (.int .u8)) .nil)))))) l,.fn 175 [] [.ptr 0 0]],[.box [.int .i64 bits,.int .i64 size,.bool mk,.int .i64 nd,.imm (.int .u64) vals]]=>some ((True,.int .i64 (jA_ (α:=OV) (mtO nd vals) l 0)))
 | [.imm (.cons (.int .i64) (.cons (.int .i64) (.cons .bool (.cons (.int .u64) (.cons (.sl (.int .u8)) (.cons (.sl (.int .u8)) .nil)))))) l,.fn 149 [] [.ptr 0 0]],[.box [.int .i64 c',.int .i64 f',.bool h',.int .u64 x',.imm (.int .u8) v',.imm (.int .u8) m']]=>some ((True,.int .i64 (jA_ (α:=OV) (fun x=>alO x (c',f',h',x',v',m',())) l 0)))
 | [.imm (.cons (.int .i64) (.cons (.int .i64) (.cons .bool (.cons (.int .u64) (.cons (.sl (.int .u8)) (.cons (.sl (.int .u8)) .nil)))))) l,.fn 117 [] []],[]=>some ((allLen l,.int .i64 (jA_ (α:=OV) (fun o=>!rgO o) l 0)))
 | _,_=>none
theorem Qj_:zd_ Tryz.prog 146 (RoF Zc_).sum:=by
 refine zi_ Tryz.func146 Qv_ (za_ (s:=RoF QD_) jF_ (za_ (s:=RoF kb_) Jl_ (za_ (s:=RoF KQ_) W0_ (zc_ _)))) fun args objs p v e=>?_
 unfold Zc_ at e
 split at e
 ·rename_i l bits size mk nd vals
  cases e
  refine ⟨rfl,fun hw ho hp=>?_⟩
  change List Int at vals
  change List OV at l
  have hl:l.length<=maxLen:=(hw (.imm Y1 l) (by simp)).2
  unfold maxLen at hl
  clear hw ho
  repeat'(intro t ht;first|(cases t<;>first|(cases ht;done)|(try simp only[zg_]at ht))|((first|refine zb_ ht ?_|refine ht ?_ ?_|refine ht.1 ?_ ?_|refine ht ?_)<;>clear ht))
  all_goals first
   | (intro r h1 h2;clear h1;refine h2 ⟨[0,1,7,8],Nat,(fun i=>i<=l.length/\jA_ (mtO nd vals) l 0=jA_ (mtO nd vals) (l.drop i) i),fun i=>[.imm Y1 l,.fn 175 [] [.ptr 0 0],.int .i64 l.length,.int .i64 i],fun _=>[.box [.int .i64 bits,.int .i64 size,.bool mk,.int .i64 nd,.imm (.int .u64) vals]],fun i=>l.length - i,⟨0,⟨Nat.zero_le _,rfl⟩,rfl,rfl⟩,?_⟩;clear h2)
  rintro i ⟨hi,he⟩
  repeat'(intro t ht;first|(cases t<;>first|(cases ht;done)|(try simp only[zg_]at ht;try(exfalso;first|contradiction|omega)))|((first|refine zb_ ht ?_|refine ht ?_ ?_|refine ht.1 ?_ ?_|refine ht ?_)<;>clear ht))
  all_goals (try generalize (Ty.dflt Y1)=od at*)
  all_goals first
   | exact True.intro
   | ((try simp only [zm_,zn_,zl_] at*);omega)
   | (refine ⟨?_,rfl⟩;rw [he,xD_ (by omega)];done)
   | (refine ⟨?_,rfl⟩;rw [he,Yy_ (d:=od) (by omega) (by assumption)];done)
   | exact ⟨i+1,⟨by omega,he.trans (Yx_ (d:=od) (by omega) (by assumption))⟩,by dsimp only;omega,rfl,rfl⟩
 ·rename_i l c' f' h' x' v' m'
  cases e
  refine ⟨rfl,fun hw ho hp=>?_⟩
  change List Int at v'
  change List Int at m'
  change List OV at l
  have hl:l.length<=maxLen:=(hw (.imm Y1 l) (by simp)).2
  unfold maxLen at hl
  clear hw ho
  repeat'(intro t ht;first|(cases t<;>first|(cases ht;done)|(try simp only[zg_]at ht))|((first|refine zb_ ht ?_|refine ht ?_ ?_|refine ht.1 ?_ ?_|refine ht ?_)<;>clear ht))
  all_goals first
   | (intro r h1 h2;clear h1;refine h2 ⟨[0,1,7,8],Nat,(fun i=>i<=l.length/\jA_ (fun x=>alO x (c',f',h',x',v',m',())) l 0=jA_ (fun x=>alO x (c',f',h',x',v',m',())) (l.drop i) i),fun i=>[.imm Y1 l,.fn 149 [] [.ptr 0 0],.int .i64 l.length,.int .i64 i],fun _=>[.box [.int .i64 c',.int .i64 f',.bool h',.int .u64 x',.imm (.int .u8) v',.imm (.int .u8) m']],fun i=>l.length - i,⟨0,⟨Nat.zero_le _,rfl⟩,rfl,rfl⟩,?_⟩;clear h2)
  rintro i ⟨hi,he⟩
  repeat'(intro t ht;first|(cases t<;>first|(cases ht;done)|(try simp only[zg_]at ht;try(exfalso;first|contradiction|omega)))|((first|refine zb_ ht ?_|refine ht ?_ ?_|refine ht.1 ?_ ?_|refine ht ?_)<;>clear ht))
  all_goals (try generalize (Ty.dflt Y1)=od at*)
  all_goals first
   | exact True.intro
   | ((try simp only [zm_,zn_,zl_] at*);omega)
   | (refine ⟨?_,rfl⟩;rw [he,xD_ (by omega)];done)
   | (refine ⟨?_,rfl⟩;rw [he,Yy_ (p:=fun x=>alO x (c',f',h',x',v',m',())) (d:=od) (by omega) (zlx_ ht)];done)
   | exact ⟨i+1,⟨by omega,he.trans (Yx_ (p:=fun x=>alO x (c',f',h',x',v',m',())) (d:=od) (by omega) (zly_ ht))⟩,by dsimp only;omega,rfl,rfl⟩
 ·rename_i l
  cases e
  refine ⟨rfl,fun hw ho hp=>?_⟩
  change List OV at l
  have hl:l.length<=maxLen:=(hw (.imm Y1 l) (by simp)).2
  unfold maxLen at hl
  clear hw ho
  repeat'(intro t ht;first|(cases t<;>first|(cases ht;done)|(try simp only[zg_]at ht))|((first|refine zb_ ht ?_|refine ht ?_ ?_|refine ht.1 ?_ ?_|refine ht ?_)<;>clear ht))
  all_goals first
   | (intro r h1 h2;clear h1;refine h2 ⟨[0,1,7,8],Nat,(fun i=>i<=l.length/\jA_ (fun o=>!rgO o) l 0=jA_ (fun o=>!rgO o) (l.drop i) i),fun i=>[.imm Y1 l,.fn 117 [] [],.int .i64 l.length,.int .i64 i],fun _=>[],fun i=>l.length - i,⟨0,⟨Nat.zero_le _,rfl⟩,rfl,rfl⟩,?_⟩;clear h2)
  rintro i ⟨hi,he⟩
  repeat'(intro t ht;first|(cases t<;>first|(cases ht;done)|(try simp only[zg_]at ht;try(exfalso;first|contradiction|omega)))|((first|refine zb_ ht ?_|refine ht ?_ ?_|refine ht.1 ?_ ?_|refine ht ?_)<;>clear ht))
  all_goals (try generalize (Ty.dflt Y1)=od at*)
  all_goals first
   | exact True.intro
   | ((try simp only [zm_,zn_,zl_] at*);omega)
   | exact lenM (hp.h _ (zu_ (by omega) od))
   | (refine ⟨?_,rfl⟩;rw [he,xD_ (by omega)];done)
   | (refine ⟨?_,rfl⟩;rw [he,Yy_ (p:=fun o=>!rgO o) (d:=od) (by omega) (by (try dsimp only);unfold rgO;rw [ht];rfl)];done)
   | exact ⟨i+1,⟨by omega,he.trans (Yx_ (p:=fun o=>!rgO o) (d:=od) (by omega) (by (try dsimp only);unfold rgO;rw [ht];rfl))⟩,by dsimp only;omega,rfl,rfl⟩
 ·cases e
def qU_:IR:=
(sq (kr [0,1] [oD 4 (.mov cF)])
(sq (kr [0,1] [oM 5 0,
oM 6 1,
oC 7 146 [5,6],
oB 8 .geq 7 (cI 0),
oM 4 8])
.ret))
def qP_:List RD:=[.tmp 4 true none]
theorem qS_:zk_ Tryz.prog Tryz.f116 qU_ qP_=true:=by kernel_rfl
def zC_:List AV->List Obj->Option (Prop × AV)
 | [.imm (.cons (.int .i64) (.cons (.int .i64) (.cons .bool (.cons (.int .u64) (.cons (.sl (.int .u8)) (.cons (.sl (.int .u8)) .nil)))))) l,.fn 175 [] [.ptr 0 0]],[.box [.int .i64 bits,.int .i64 size,.bool mk,.int .i64 nd,.imm (.int .u64) vals]]=>some ((True,.bool ((l:List OV).any (mtO nd vals))))
 | [.imm (.cons (.int .i64) (.cons (.int .i64) (.cons .bool (.cons (.int .u64) (.cons (.sl (.int .u8)) (.cons (.sl (.int .u8)) .nil)))))) l,.fn 149 [] [.ptr 0 0]],[.box [.int .i64 c',.int .i64 f',.bool h',.int .u64 x',.imm (.int .u8) v',.imm (.int .u8) m']]=>some ((True,.bool ((l:List OV).any (fun x=>alO x (c',f',h',x',v',m',())))))
 | [.imm (.cons (.int .i64) (.cons (.int .i64) (.cons .bool (.cons (.int .u64) (.cons (.sl (.int .u8)) (.cons (.sl (.int .u8)) .nil)))))) l,.fn 117 [] []],[]=>some ((allLen l,.bool ((l:List OV).any (fun o=>!rgO o))))
 | _,_=>none
theorem zU_:zd_ Tryz.prog 116 (RoF zC_).sum:=by
 refine zi_ Tryz.func116 qS_ (za_ (s:=RoF Zc_) Qj_ (zc_ _)) fun args objs p v e=>?_
 unfold zC_ at e
 split at e
 ·rename_i l bits size mk nd vals
  cases e
  refine ⟨rfl,fun hw ho hp=>?_⟩
  change List Int at vals
  have h:=JC_ (p:=mtO nd vals) l 0 (Int.le_refl _)
  repeat'(intro t ht;first|(cases t<;>first|(cases ht;done)|(try simp only[zg_]at ht;try(exfalso;first|contradiction|omega)))|((first|refine zb_ ht ?_|refine ht ?_ ?_|refine ht.1 ?_ ?_|refine ht ?_)<;>clear ht))
  all_goals first
   | exact True.intro
   | exact ⟨congrArg AV.bool h,rfl⟩
 ·rename_i l c' f' h' x' v' m'
  cases e
  refine ⟨rfl,fun hw ho hp=>?_⟩
  change List Int at v'
  change List Int at m'
  have h:=JC_ (p:=fun x=>alO x (c',f',h',x',v',m',())) l 0 (Int.le_refl _)
  repeat'(intro t ht;first|(cases t<;>first|(cases ht;done)|(try simp only[zg_]at ht;try(exfalso;first|contradiction|omega)))|((first|refine zb_ ht ?_|refine ht ?_ ?_|refine ht.1 ?_ ?_|refine ht ?_)<;>clear ht))
  all_goals first
   | exact True.intro
   | exact ⟨congrArg AV.bool h,rfl⟩
 ·rename_i l
  cases e
  refine ⟨rfl,fun hw ho hp=>?_⟩
  have h:=JC_ (p:=fun o=>!rgO o) l 0 (Int.le_refl _)
  repeat'(intro t ht;first|(cases t<;>first|(cases ht;done)|(try simp only[zg_]at ht;try(exfalso;first|contradiction|omega)))|((first|refine zb_ ht ?_|refine ht ?_ ?_|refine ht.1 ?_ ?_|refine ht ?_)<;>clear ht))
  all_goals first
   | exact True.intro
   | exact hp
   | exact ⟨congrArg AV.bool h,rfl⟩
 ·cases e
theorem zlv_ {l:List Int} (h:4<=l.length):∃ a b c d r,l=a :: b :: c :: d :: r:=by
 obtain _ | ⟨a0,_ | ⟨a1,_ | ⟨a2,_ | ⟨a3,r⟩⟩⟩⟩:=l
 all_goals first | exact ⟨_,_,_,_,_,rfl⟩ | (simp at h;done)
theorem at2 (n:Int):ze_ n 2=[n.fdiv 256 % 256,n % 256]:=by
 have e:ze_ n 2=[(n.fdiv (2 ^ 8)) % 256,(n.fdiv (2 ^ 0)) % 256]:=rfl
 rw [e,show (2:Int) ^ 8=256 from rfl,Int.pow_zero,Int.fdiv_one]
theorem at4 (n:Int):ze_ n 4=[n.fdiv 16777216 % 256,n.fdiv 65536 % 256,n.fdiv 256 % 256,n % 256]:=by
 have e:ze_ n 4=[(n.fdiv (2 ^ 24)) % 256,(n.fdiv (2 ^ 16)) % 256,(n.fdiv (2 ^ 8)) % 256,(n.fdiv (2 ^ 0)) % 256]:=rfl
 rw [e,show (2:Int) ^ 8=256 from rfl,show (2:Int) ^ 16=65536 from rfl,show (2:Int) ^ 24=16777216 from rfl,Int.pow_zero,Int.fdiv_one]
theorem num2 {n:Int} (h:0<=n/\n<=65535):Zz_ (ze_ n 2)=n:=by
 rw [at2,Int.fdiv_eq_ediv_of_nonneg _ (by decide)]
 show (0*256+n / 256 % 256)*256+n % 256=n
 omega
theorem zmY_ {n:Int} (h:0<=n/\n<=4294967295):Zz_ (ze_ n 4)=n:=by
 rw [at4,Int.fdiv_eq_ediv_of_nonneg _ (by decide),Int.fdiv_eq_ediv_of_nonneg _ (by decide),Int.fdiv_eq_ediv_of_nonneg _ (by decide)]
 show (((0*256+n / 16777216 % 256)*256+n / 65536 % 256)*256+n / 256 % 256)*256+n % 256=n
 omega
theorem znk_ {a b:Int} (ha:0<=a/\a<=255) (hb:0<=b/\b<=255):ze_ (Zz_ [a,b]) 2=[a,b]:=by
 have e:Zz_ [a,b]=a*256+b:=by show (0*256+a)*256+b=_;omega
 rw [e,at2,Int.fdiv_eq_ediv_of_nonneg _ (by decide),show (a*256+b) / 256 % 256=a by omega,show (a*256+b) % 256=b by omega]
theorem znj_ {a b c d:Int} (ha:0<=a/\a<=255) (hb:0<=b/\b<=255) (hc:0<=c/\c<=255) (hd:0<=d/\d<=255):ze_ (Zz_ [a,b,c,d]) 4=[a,b,c,d]:=by
 have e:Zz_ [a,b,c,d]=((a*256+b)*256+c)*256+d:=by show (((0*256+a)*256+b)*256+c)*256+d=_;omega
 rw [e,at4,Int.fdiv_eq_ediv_of_nonneg _ (by decide),Int.fdiv_eq_ediv_of_nonneg _ (by decide),Int.fdiv_eq_ediv_of_nonneg _ (by decide),
  show (((a*256+b)*256+c)*256+d) / 16777216 % 256=a by omega,show (((a*256+b)*256+c)*256+d) / 65536 % 256=b by omega,
  show (((a*256+b)*256+c)*256+d) / 256 % 256=c by omega,show (((a*256+b)*256+c)*256+d) % 256=d by omega]
def hI (h:Bool):Int:=if h=true then 1 else 0
theorem zkH_ {c f:Int} {h:Bool} {x:Int} {v m:List Int} (hr:zG_ c f h x v m=true) (hx:0<=x) (L:List Int) (h0:L.take 4=(Zx_ c f h x v m).take 4):zE_ L=c/\zT_ L=f/\ZN_ L=h/\L.getD 3 0=Zd_ c v m:=by
 obtain ⟨n1,n2,n3,n4,n5,n6,n7,n8⟩:=Z8_ hr
 have hc:0<=c/\c<=65535:=by omega
 have e1:(Zx_ c f h x v m).take 4=[c.fdiv 256 % 256,c % 256,2*f+(if h=true then 1 else 0),Zd_ c v m]:=by
  unfold Zx_;rw [at2,<- n8];rfl
 rw [e1] at h0
 have e2:L.take 2=ze_ c 2:=by
  rw [at2,show L.take 2=(L.take 4).take 2 by rw [List.take_take];rfl,h0];rfl
 have e3:∀ k < 4,L.getD k 0=(L.take 4).getD k 0:=fun k hk=>(YW_ hk).symm
 have g2:L.getD 2 0=2*f+(if h=true then 1 else 0):=by rw [e3 2 (by decide),h0];rfl
 have g3:L.getD 3 0=Zd_ c v m:=by rw [e3 3 (by decide),h0];rfl
 refine ⟨?_,?_,?_,g3⟩
 ·unfold zE_;rw [e2,num2 hc]
 ·unfold zT_;rw [g2,qp_ (by split<;>omega)];split<;>omega
 ·unfold ZN_;rw [g2,kP_ (by split<;>omega)]
  cases h with
  | true=>exact decide_eq_true (by simp only [if_true];omega)
  | false=>exact decide_eq_false (by simp only [Bool.false_eq_true,if_false];omega)
theorem zl9_ {c f:Int} {h:Bool} {x:Int} {v m:List Int} (hr:zG_ c f h x v m=true) {L:List Int} (hC:zE_ L=c) (hF:zT_ L=f) (hH:ZN_ L=h) (h3:L.getD 3 0=Zd_ c v m):ZC_ L=v.length/\jB_ L=true:=by
 obtain ⟨n1,n2,n3,n4,n5,n6,n7,n8⟩:=Z8_ hr
 obtain ⟨r1,r2,r3,r4,r5,r6,r7,r8⟩:=kx_ hr
 unfold ZC_ jB_
 rw [hC,hF,hH,h3]
 rcases n3 with hc | hc
 ·have he:z5_ c=true:=decide_eq_true hc
  have hz:qh_ c f=100:=if_pos hc
  have hre:Zd_ c v m=v.length+m.length+4:=if_pos hc
  unfold U1_ Yr_
  rw [he,hz,hre,if_pos rfl,if_pos rfl]
  cases h with
  | true=>
    have:=r2 rfl
    simp only [if_true,Bool.and_eq_true,decide_eq_true_eq]
    rw [qp_ (by omega),kP_ (by omega)];omega
  | false=>
    have:=r3 rfl
    simp only [Bool.false_eq_true,if_false,Bool.and_eq_true,decide_eq_true_eq]
    rw [qp_ (by omega),kP_ (by omega)];omega
 ·have he:z5_ c=false:=decide_eq_false (by omega)
  have hz:qh_ c f=kp_ f:=if_neg (by omega)
  have hre:Zd_ c v m=v.length+m.length:=if_neg (by omega)
  have hv:(v.length:Int)=kp_ f:=by
   have hfit:KC_ f v=true:=by
    cases hh:KC_ f v with
    | true=>rfl
    | false=>
      rw [he] at r8
      unfold QV_ at r8;rw [if_pos ⟨rfl,hh⟩] at r8;exact absurd r8 (by decide)
   unfold KC_ at hfit
   split at hfit
   ·rename_i hh
    have hi:fIs f=true:=ql_.2 hh.1
    rw [hh.2];unfold kp_;rw [hi];rfl
   ·cases hfit
  unfold U1_ Yr_
  rw [he,hz,hre]
  cases h with
  | true=>
    have:=r2 rfl
    simp only [Bool.false_eq_true,if_false,if_true,decide_eq_true_eq];omega
  | false=>
    have:=r3 rfl
    simp only [Bool.false_eq_true,if_false,decide_eq_true_eq];omega
theorem mid {p v r:List Int} {A S:Int} (hA:A=p.length) (hS:S=v.length):((p++(v++r)).take (A+S).toNat).drop A.toNat=v:=by
 subst hA hS
 rw [show ((p.length:Int)+v.length).toNat=p.length+v.length by omega,Int.toNat_natCast,<- List.append_assoc,<- List.length_append,List.take_left,List.drop_left]
theorem zgs_ {c f:Int} {h:Bool} {x:Int} {v m b:List Int} (hr:zG_ c f h x v m=true) (hx:0<=x):zO_ (Zx_ c f h x v m++b)=0/\zE_ (Zx_ c f h x v m++b)=c/\zT_ (Zx_ c f h x v m++b)=f/\ZN_ (Zx_ c f h x v m++b)=h/\QF_ (Zx_ c f h x v m++b)=x/\qs_ (Zx_ c f h x v m++b)=v/\qo_ (Zx_ c f h x v m++b)=m/\Zy_ (Zx_ c f h x v m++b)=(Zx_ c f h x v m).length:=by
 obtain ⟨n1,n2,n3,n4,n5,n6,n7,n8⟩:=Z8_ hr
 obtain ⟨r1,r2,r3,r4,r5,r6,r7,r8⟩:=kx_ hr
 have hl2:=zj_ (n:=c) (w:=2) (by decide)
 have hl4:=zj_ (n:=x) (w:=4) (by decide)
 have hlen:((Zx_ c f h x v m).length:Int)=4+Zd_ c v m:=by
  rw [n8];unfold Zx_;simp only [List.length_append,List.length_cons,List.length_nil];omega
 obtain ⟨L,hL⟩:∃ L,L=Zx_ c f h x v m++b:=⟨_,rfl⟩
 have hLl:(L.length:Int)=4+Zd_ c v m+b.length:=by rw [hL,List.length_append];omega
 have ht:L.take 4=(Zx_ c f h x v m).take 4:=by rw [hL,List.take_append_of_le_length (by omega)]
 obtain ⟨hC,hF,hH,h3⟩:=zkH_ hr hx L ht
 obtain ⟨hS,hK⟩:=zl9_ hr hC hF hH h3
 rw [<- hL]
 have hsplit:L=(ze_ c 2++[2*f+(if h=true then 1 else 0),((JJ_ c x v m).length:Int)]++(if c=65535 then ze_ x 4 else []))++(v++(m++b)):=by
  rw [hL];unfold Zx_;rw [show JJ_ c x v m=(if c=65535 then ze_ x 4 else [])++v++m from rfl];simp only [List.append_assoc]
 obtain ⟨p,hp⟩:∃ p,p=ze_ c 2++[2*f+(if h=true then 1 else 0),((JJ_ c x v m).length:Int)]++(if c=65535 then ze_ x 4 else []):=⟨_,rfl⟩
 rw [<- hp] at hsplit
 have hA:Kr_ L=p.length:=by
  unfold Kr_;rw [hC,hp]
  split
  ·simp only [List.length_append,List.length_cons,List.length_nil];omega
  ·simp only [List.length_append,List.length_cons,List.length_nil];omega
 have hX:QF_ L=x:=by
  unfold QF_;rw [hC]
  by_cases hc:c=65535
  ·rw [if_pos hc]
   have hx4:x<=4294967295:=by have:=(zu x hx).1 r7;omega
   have e:(L.drop 4).take 4=ze_ x 4:=by
    rw [hsplit,hp,if_pos hc,at2,at4];rfl
   rw [e,zmY_ ⟨hx,hx4⟩]
  ·rw [if_neg hc]
   have he:z5_ c=false:=decide_eq_false hc
   rw [he] at r6
   exact (r6.resolve_left (by decide)).symm
 have hV:qs_ L=v:=by
  unfold qs_;rw [hA,hS];rw [hsplit];exact mid rfl rfl
 have hM:qo_ L=m:=by
  unfold qo_
  cases h with
  | true=>
    rw [hH,if_pos rfl,hA,hS,hsplit,<- List.append_assoc]
    have:=r2 rfl
    exact mid (p:=p++v) (r:=b) (by rw [List.length_append];omega) (by omega)
  | false=>
    rw [hH]
    exact (List.eq_nil_of_length_eq_zero (r3 rfl)).symm
 have hN:Zy_ L=(Zx_ c f h x v m).length:=by
  unfold Zy_;rw [hH,hS]
  have hre:Zd_ c v m=(if c=65535 then 4 else 0)+v.length+m.length:=by unfold Zd_;split<;>omega
  rw [hlen,hre]
  unfold Kr_;rw [hC]
  cases h with
  | true=>have:=r2 rfl;simp only [if_true];split<;>omega
  | false=>have:=r3 rfl;simp only [Bool.false_eq_true,if_false];split<;>omega
 refine ⟨?_,hC,hF,hH,hX,hV,hM,hN⟩
 rw [JD_ (by omega) (by rw [hC,hF];exact r4) (fun hh=>by rw [hC,hF];exact r5 (hH.symm.trans hh)) hK (by rw [h3];omega),hC,hF,hH,hV,hM]
 exact r8
theorem zgp_ {b:List Int} (hb:∀ x ∈ b,0<=x/\x<=255) (h0:zO_ b=0):zG_ (zE_ b) (zT_ b) (ZN_ b) (QF_ b) (qs_ b) (qo_ b)=true/\Zx_ (zE_ b) (zT_ b) (ZN_ b) (QF_ b) (qs_ b) (qo_ b)=b.take (Zy_ b).toNat/\0<=Zy_ b/\Zy_ b<=b.length:=by
 have hq:=YF_ hb 2
 have hn:=YF_ hb 3
 have hof:=Ha_ (zE_ b) (zT_ b)
 unfold zO_ at h0
 by_cases h4:b.length < 4
 ·rw [if_pos h4] at h0;exact absurd h0 (by decide)
 rw [if_neg h4] at h0
 by_cases hok:Kd_ (zE_ b) (zT_ b)=false
 ·rw [if_pos hok] at h0;exact absurd h0 (by decide)
 rw [if_neg hok] at h0
 by_cases hmk:ZN_ b=true/\qi_ (zE_ b) (zT_ b)=false
 ·rw [if_pos hmk] at h0;exact absurd h0 (by decide)
 rw [if_neg hmk] at h0
 by_cases hkl:jB_ b=false\/(b.length:Int) - 4 < b.getD 3 0
 ·rw [if_pos hkl] at h0;exact absurd h0 (by decide)
 rw [if_neg hkl] at h0
 have hK:jB_ b=true:=by cases hk:jB_ b with | true=>rfl | false=>exact absurd (.inl hk) hkl
 have hlen:4+b.getD 3 0<=(b.length:Int):=by
  have:¬ (b.length:Int) - 4 < b.getD 3 0:=fun h=>hkl (.inr h)
  omega
 have hok':Kd_ (zE_ b) (zT_ b)=true:=by simpa using hok
 obtain ⟨d1,d2,d3⟩:=zgr_ hn.1 hof.1 hK
 have hcc:zE_ b=65535\/zE_ b=32768:=by
  unfold Kd_ at hok'
  split at hok'
  ·left;assumption
  ·right;simp only [Bool.and_eq_true,decide_eq_true_eq] at hok';exact hok'.2
 have hA0:0<=Kr_ b:=by unfold Kr_;split<;>decide
 have hVl:((qs_ b).length:Int)=ZC_ b:=ZP_ hA0 d1 (by unfold Zy_ at d2;split at d2<;>omega)
 have hMl:((qo_ b).length:Int)=if ZN_ b=true then ZC_ b else 0:=by
  unfold qo_
  by_cases hh:ZN_ b=true
  ·rw [if_pos hh,if_pos hh]
   exact ZP_ (by omega) d1 (by unfold Zy_ at d2;rw [if_pos hh] at d2;omega)
  ·rw [if_neg hh,if_neg hh];rfl
 have hX:0<=QF_ b/\QF_ b < 4294967296:=by
  unfold QF_
  split
  ·have:=Yl_ ((b.drop 4).take 4) fun y hy=>hb y (List.mem_of_mem_drop (List.mem_of_mem_take hy))
   have h2:∀ k ≤ 4,(256:Int) ^ k<=4294967296:=by decide
   have:=h2 ((b.drop 4).take 4).length (by rw [List.length_take];omega)
   omega
  ·decide
 have hR:zG_ (zE_ b) (zT_ b) (ZN_ b) (QF_ b) (qs_ b) (qo_ b)=true:=by
  unfold zG_
  rw [hok',(zu _ hX.1).2 hX.2,h0,decide_eq_true (show ((qs_ b).length:Int)<=qh_ (zE_ b) (zT_ b) by omega)]
  have hx0:(z5_ (zE_ b) || decide (QF_ b=0))=true:=by
   rcases hcc with hc | hc
   ·rw [show z5_ (zE_ b)=true from decide_eq_true hc];rfl
   ·rw [show QF_ b=0 from if_neg (by omega)];simp
  rw [hx0]
  cases hh:ZN_ b with
  | true=>
    have hm1:qi_ (zE_ b) (zT_ b)=true:=by
     cases hq:qi_ (zE_ b) (zT_ b) with
     | true=>rfl
     | false=>exact absurd ⟨hh,hq⟩ hmk
    rw [hh,if_pos rfl] at hMl
    rw [hm1,decide_eq_true (show ((qo_ b).length:Int)=(qs_ b).length by omega)];rfl
  | false=>
    rw [hh] at hMl
    simp only [Bool.false_eq_true,if_false] at hMl
    rw [decide_eq_true (show (qo_ b).length=0 by omega)];rfl
 refine ⟨hR,?_,by omega,by omega⟩
 obtain ⟨a0,a1,a2,a3,r,hbd⟩:=zlv_ (l:=b) (by omega)
 have q0:=hb a0 (by rw [hbd];simp)
 have q1:=hb a1 (by rw [hbd];simp)
 have q2:=hb a2 (by rw [hbd];simp)
 have q3:=hb a3 (by rw [hbd];simp)
 obtain ⟨n1,n2,n3,n4,n5,n6,n7,n8⟩:=Z8_ hR
 have g2:b.getD 2 0=a2:=by rw [hbd];rfl
 have g3:b.getD 3 0=a3:=by rw [hbd];rfl
 have c2:ze_ (zE_ b) 2=[a0,a1]:=by unfold zE_;rw [hbd];exact znk_ q0 q1
 have hf:2*zT_ b+(if ZN_ b=true then 1 else 0)=a2:=by
  unfold zT_ ZN_;rw [g2,qp_ q2.1,kP_ q2.1]
  by_cases h1:a2 % 2=1
  ·rw [decide_eq_true h1,if_pos rfl];omega
  ·rw [decide_eq_false h1];simp only [Bool.false_eq_true,if_false];omega
 have hrl:Zd_ (zE_ b) (qs_ b) (qo_ b)=a3:=by
  unfold Zd_
  rw [hVl,hMl,<- g3]
  unfold Zy_ Kr_ at d2
  by_cases hh:ZN_ b=true
  ·rw [if_pos hh] at d2 ⊢
   by_cases hc:zE_ b=65535
   ·rw [if_pos hc] at d2 ⊢;omega
   ·rw [if_neg hc] at d2 ⊢;omega
  ·rw [if_neg hh] at d2 ⊢
   by_cases hc:zE_ b=65535
   ·rw [if_pos hc] at d2 ⊢;omega
   ·rw [if_neg hc] at d2 ⊢;omega
 have hbody:JJ_ (zE_ b) (QF_ b) (qs_ b) (qo_ b)=r.take a3.toNat:=by
  have hdr:b.drop 4=r:=by rw [hbd];rfl
  have hXb:(if zE_ b=65535 then ze_ (QF_ b) 4 else [])=(b.take (Kr_ b).toNat).drop 4:=by
   by_cases hc:zE_ b=65535
   ·have hA8:Kr_ b=8:=if_pos hc
    have hl8:8<=b.length:=by unfold Zy_ at d2;rw [hA8] at d2;split at d2<;>omega
    rw [if_pos hc,hA8]
    have hXe:QF_ b=Zz_ ((b.drop 4).take 4):=if_pos hc
    rw [hXe,hdr]
    have hrl8:4<=r.length:=by rw [hbd] at hl8;simp only [List.length_cons] at hl8;omega
    obtain ⟨x0,x1,x2,x3,s,hrd⟩:=zlv_ hrl8
    have hmr:∀ y ∈ r,0<=y/\y<=255:=fun y hy=>hb y (by rw [hbd];simp [hy])
    have y0:=hmr x0 (by rw [hrd];simp)
    have y1:=hmr x1 (by rw [hrd];simp)
    have y2:=hmr x2 (by rw [hrd];simp)
    have y3:=hmr x3 (by rw [hrd];simp)
    rw [hrd,show (x0 :: x1 :: x2 :: x3 :: s).take 4=[x0,x1,x2,x3] from rfl,znj_ y0 y1 y2 y3,hbd,hrd];rfl
   ·have hA4:Kr_ b=4:=if_neg hc
    rw [if_neg hc,hA4,hbd];rfl
  unfold JJ_
  rw [hXb]
  have hAn:4<=(Kr_ b).toNat:=by unfold Kr_;split<;>decide
  have j1:∀ (i j k:Nat),i<=j->j<=k->(b.take j).drop i++(b.take k).drop j=(b.take k).drop i:=fun i j k h1 h2=>by
   rw [show (b.take k).drop i=((b.take k).drop i).take (j - i)++((b.take k).drop i).drop (j - i) from (List.take_append_drop ..).symm,List.drop_drop,show i+(j - i)=j by omega,List.take_drop,show i+(j - i)=j by omega,List.take_take,Nat.min_eq_left h2]
  have hfin:∀ k:Nat,(k:Int)=Zy_ b->(b.take k).drop 4=r.take a3.toNat:=fun k hk=>by
   rw [hbd,show k=a3.toNat+4 by omega];rfl
  unfold qs_ qo_
  by_cases hh:ZN_ b=true
  ·rw [if_pos hh,j1 _ _ _ hAn (by omega),j1 _ _ _ (by omega) (by omega)]
   refine hfin _ ?_
   unfold Zy_;rw [if_pos hh];omega
  ·rw [if_neg hh,List.append_nil,j1 _ _ _ hAn (by omega)]
   refine hfin _ ?_
   unfold Zy_;rw [if_neg hh];omega
 unfold Zx_
 rw [c2,hf,<- n8,hrl,hbody,d2,g3]
 rw [hbd,show (4+a3).toNat=a3.toNat+4 by omega];rfl
def BV_:IR:=
(sq (kr [0] [oD 2 (.mov cF)])
(sq (sq (.reg [oD 3 (.mov (cI 0))])
(.block 0
(.loop
(sq (sq (kr [0,3] [oM 4 3,
oM 5 0,
oE 6 5,
oB 7 .lss 4 6])
(.cond 7
.skip
(.exit 0)))
(sq (.block 1
(sq (kr [0,3] [oM 10 0,
oM 11 3,
oI 12 1 10 11,
oL 13 12,
oB 14 .eql 13 (cI 0),
oM 15 14,
oF 15 16 (.mov 0),
oF 15 17 (.mov 3),
oF 15 18 (.indexSl 1 16 17),
oF 15 19 (.load none 18),
oF 15 20 (.bin .gtr 19 (cI 8)),
oP 21 15 cT 20,
oM 22 21,
oF 22 23 (.mov 0),
oF 22 24 (.mov 3),
oF 22 25 (.indexSl 1 23 24),
oF 22 26 (.load none 25),
oF 22 27 (.bin .lss 26 (cI (-64))),
oP 28 22 cT 27])
(.cond 28
(sq (kr [] [oD 2 (.mov cF)])
.ret)
.skip)))
(kr [0,3] [oM 8 3,
oB 9 .add 8 (cI 1),
oM 3 9]))))))
(sq (kr [0] [oM 29 0,
oE 30 29,
oB 31 .leq 30 (cI 64),
oM 2 31])
.ret)))
def bv_:List RD:=[.tmp 2 true none]
theorem b8_:zk_ Tryz.prog Tryz.f85 BV_ bv_=true:=by kernel_rfl
def jR_:List AV->List Obj->Option (Prop × AV)
 | [.imm (.int .i64) w],[]=>some ((True,.bool (z3_ w)))
 | _,_=>none
theorem XM_:zd_ Tryz.prog 85 (RoF jR_).sum:=by
 refine zi_ Tryz.func85 b8_ (zc_ _) fun args objs p v e=>?_
 unfold jR_ at e
 split at e
 ·rename_i w
  cases e
  refine ⟨rfl,fun hw ho hp=>?_⟩
  change List Int at w
  have hl:w.length<=maxLen:=(hw (.imm (.int .i64) w) (by simp)).2
  unfold maxLen at hl
  repeat'(intro t ht;first|(cases t<;>first|(cases ht;done)|(try simp only[zg_]at ht))|((first|refine zb_ ht ?_|refine ht ?_ ?_|refine ht.1 ?_ ?_|refine ht ?_)<;>clear ht))
  all_goals (intro r h1 h2;clear h1;refine h2 ⟨[0,3],Nat,(fun i=>i<=w.length/\w.all okW=(w.drop i).all okW),fun i=>[.imm (.int .i64) w,.int .i64 i],fun _=>[],fun i=>w.length - i,⟨0,⟨Nat.zero_le _,rfl⟩,rfl,rfl⟩,?_⟩;clear h2)
  rintro i ⟨hi,he⟩
  repeat'(intro t ht;first|(cases t<;>first|(cases ht;done)|(try simp only[zg_]at ht))|((first|refine zb_ ht ?_|refine ht ?_ ?_|refine ht.1 ?_ ?_|refine ht ?_)<;>clear ht))
  all_goals first
   | ((try simp only [zm_,zn_,zl_] at*);omega)
   | (have hge:w.length<=i:=by omega
      rw [List.drop_of_length_le hge] at he
      refine ⟨?_,rfl⟩;unfold z3_;rw [he,List.all_nil,Bool.and_true]
      congr 2;exact propext (by omega))
   | (have hlt:i < w.length:=by omega
      rw [zz_ hlt 0,List.all_cons] at he
      first
       | (have hk:okW (w.getD i 0)=false:=zll_.2 (by omega)
          refine ⟨?_,rfl⟩;unfold z3_;rw [he,hk];simp;done)
       | (have hk:okW (w.getD i 0)=true:=zfV_.2 (by omega)
          rw [hk,Bool.true_and] at he
          exact ⟨i+1,⟨hlt,he⟩,by (try simp only [zm_,zn_,zl_] at*);omega,rfl,rfl⟩))
 ·cases e
def BX_:IR:=
(sq (kr [0] [oD 2 (.mov (cI 0))])
(sq (.reg [oD 3 (.mov (cI 0))])
(sq (sq (.reg [oD 4 (.mov (cI 0))])
(.block 0
(.loop
(sq (sq (kr [0,3,4] [oM 5 4,
oM 6 0,
oE 7 6,
oB 8 .lss 5 7,
oM 9 8,
oT 9 10 (.mov 0),
oT 9 11 (.call false (.f 85) [10]),
oP 12 9 11 cF])
(.cond 12
.skip
(.exit 0)))
(sq (.block 1
(sq (kr [0,3,4] [oM 15 0,
oM 16 4,
oI 17 1 15 16,
oL 18 17,
oB 19 .gtr 18 (cI 0)])
(.cond 19
(.reg [oM 20 3,
oB 21 .add 20 (cI 1),
oM 3 21])
.skip)))
(kr [0,3,4] [oM 13 4,
oB 14 .add 13 (cI 1),
oM 4 14]))))))
(sq (kr [3] [oM 22 3,
oM 2 22])
.ret))))
def bx_:List RD:=[.tmp 2 true none]
theorem Ba_:zk_ Tryz.prog Tryz.f86 BX_ bx_=true:=by kernel_rfl
def Ko_:List AV->List Obj->Option (Prop × AV)
 | [.imm (.int .i64) w],[]=>some ((True,.int .i64 (zo_ w)))
 | _,_=>none
theorem jZ_:zd_ Tryz.prog 86 (RoF Ko_).sum:=by
 refine zi_ Tryz.func86 Ba_ (za_ (s:=RoF jR_) XM_ (zc_ _)) fun args objs p v e=>?_
 unfold Ko_ at e
 split at e
 ·rename_i w
  cases e
  refine ⟨rfl,fun hw ho hp=>?_⟩
  change List Int at w
  repeat'(intro t ht;first|(cases t<;>first|(cases ht;done)|(try simp only[zg_]at ht))|((first|refine zb_ ht ?_|refine ht ?_ ?_|refine ht.1 ?_ ?_|refine ht ?_)<;>clear ht))
  all_goals first
   | (intro r h1 h2;clear h1;refine h2 ⟨[0,3,4],Nat,(fun i=>i<=w.length/\(z3_ w=false->i=0)),fun i=>[.imm (.int .i64) w,.int .i64 (K6_ ZW_ w i),.int .i64 i],fun _=>[],fun i=>w.length - i,⟨0,⟨Nat.zero_le _,fun _=>rfl⟩,rfl,rfl⟩,?_⟩;clear h2)
  rintro i ⟨hi,hz⟩
  repeat'(intro t ht;first|(cases t<;>first|(cases ht;done)|(try simp only[zg_]at ht))|((first|refine zb_ ht ?_|refine ht ?_ ?_|refine ht.1 ?_ ?_|refine ht ?_)<;>clear ht))
  all_goals first
   | exact True.intro
   | ((try simp only [zm_,zn_,zl_] at*);omega)
   | (have hge:w.length<=i:=by omega
      refine ⟨?_,rfl⟩;unfold zo_;rw [K5_ ZW_ hge]
      cases hr:z3_ w with
      | true=>rfl
      | false=>have h0:=hz hr;have:w=[]:=List.length_eq_zero_iff.1 (by omega);subst this;rfl)
   | (have hr:z3_ w=false:=by assumption
      have h0:=hz hr;subst h0
      refine ⟨?_,rfl⟩;unfold zo_;rw [hr];rfl)
   | (have hr:z3_ w=true:=by assumption
      have hl:=(Zk_.1 hr).1
      have hlt:i < w.length:=by omega
      have hs:=yR_ hr i
      first
       | ((try simp only [zm_,zn_,zl_] at*);omega)
       | (refine ⟨i+1,⟨hlt,fun h=>by rw [hr] at h;cases h⟩,by (try simp only [zm_,zn_,zl_] at*);omega,?_,rfl⟩
          dsimp only
          rw [ZR_ ZW_ hlt]
          first
           | (have e:ZW_ (w.getD i 0)=1:=if_pos (by assumption)
              rw [e];rfl)
           | (have e:ZW_ (w.getD i 0)=0:=if_neg (by assumption)
              rw [e,Int.add_zero];rfl)))
 ·cases e
theorem zj9_:∀ k:Nat,k<=7->∀ x:Int,0<=x->(x < (2 ^ (8*k):Nat) ↔ x.fdiv (2 ^ (8*k))=0)
 | k,_,x,hx=>by
   have hp:(0:Int) < 2 ^ (8*k):=Int.pow_pos (by decide)
   have e:((2 ^ (8*k):Nat):Int)=2 ^ (8*k):=by push_cast;rfl
   rw [e,Int.fdiv_eq_ediv_of_nonneg _ (Int.le_of_lt hp)]
   constructor
   ·intro h;exact Int.ediv_eq_zero_of_lt hx h
   ·intro h
    have:=Int.lt_ediv_add_one_mul_self x hp
    rw [h] at this;omega
def Vr_ (x n:Int):Bool:=decide (n=8) || decide (x.fdiv (2 ^ (min (8*n).toNat 64))=0)
theorem zkJ_ {x:Int} (hx:0<=x):∀ k:Nat,1<=k->k<=7->decide (x < 1*2 ^ min (8*(k:Int)).toNat IntKind.u64.bits)=Vr_ x k
 | k,h1,h7=>by
   have e:min (8*(k:Int)).toNat IntKind.u64.bits=8*k:=by
    have:IntKind.u64.bits=64:=rfl
    rw [this];omega
   have e':min (8*(k:Int)).toNat 64=8*k:=by omega
   unfold Vr_
   rw [e,e',decide_eq_false (show ¬ (k:Int)=8 by omega),Bool.false_or,Int.one_mul]
   rw [decide_eq_decide]
   have:=zj9_ k h7 x hx
   push_cast at this
   exact this
def zcp_:IR:=
(sq (kr [0,1] [oD 4 (.mov cF)])
(sq (kr [0,1] [oM 5 1,
oB 6 .eql 5 (cI 8),
oM 7 6,
oF 7 8 (.mov 0),
oF 7 9 (.mov 1),
oF 7 10 (.bin .mul (cI 8) 9),
oF 7 11 (.bin .shl (.c (.int .u64 1)) 10),
oF 7 12 (.bin .lss 8 11),
oP 13 7 cT 12,
oM 4 13])
.ret))
def zbf_:List RD:=[.tmp 4 true none]
theorem zbJ_:zk_ Tryz.prog Tryz.f87 zcp_ zbf_=true:=by kernel_rfl
def yD_:List AV->List Obj->Option (Prop × AV)
 | [.int .u64 x,.int .i64 n],[]=>some ((1<=n/\n<=8,.bool (Vr_ x n)))
 | _,_=>none
theorem HY_:zd_ Tryz.prog 87 (RoF yD_).sum:=by
 refine zi_ Tryz.func87 zbJ_ (zc_ _) fun args objs p v e=>?_
 unfold yD_ at e
 split at e
 ·rename_i x n
  cases e
  refine ⟨rfl,fun hw ho hp=>?_⟩
  have hx:IntKind.u64.min<=x/\x<=IntKind.u64.max:=hw (.int .u64 x) (by simp)
  have hx0:0<=x:=hx.1
  obtain ⟨h1,h8⟩:=hp
  obtain ⟨k,rfl⟩:=Int.eq_ofNat_of_zero_le (show 0<=n by omega)
  repeat'(intro t ht;first|(cases t<;>first|(cases ht;done)|(try simp only[zg_]at ht))|((first|refine zb_ ht ?_|refine ht ?_ ?_|refine ht.1 ?_ ?_|refine ht ?_)<;>clear ht))
  all_goals first
   | exact True.intro
   | ((try simp only [zm_,zn_,zl_] at*);omega)
   | (refine ⟨?_,rfl⟩;unfold Vr_;rw [decide_eq_true (by assumption)];rfl)
   | (have hk:k=1\/k=2\/k=3\/k=4\/k=5\/k=6\/k=7:=by omega
      rcases hk with rfl | rfl | rfl | rfl | rfl | rfl | rfl<;>decide)
   | (refine ⟨?_,rfl⟩;rw [<- zkJ_ hx0 k (by omega) (by omega)])
 ·cases e
theorem zhp_ {x n:Int}:Vr_ x n=false->n<=8->(n < 8/\x.fdiv (2 ^ (min (8*n).toNat 64)) ≠ 0):=fun h h8=>by
 unfold Vr_ at h
 simp only [Bool.or_eq_false_iff,decide_eq_false_iff_not] at h
 exact ⟨by omega,h.2⟩
theorem zjf_ {x n:Int}:Vr_ x n=true->¬ (n < 8/\x.fdiv (2 ^ (min (8*n).toNat 64)) ≠ 0):=fun h k=>by
 unfold Vr_ at h
 simp only [Bool.or_eq_true,decide_eq_true_eq] at h
 rcases h with h | h
 ·omega
 ·exact k.2 h
theorem Vy_ (w:Int):List.replicate w.toNat 0=ze_ 0 w:=by
 have:∀ j:Nat,kG_ 0 w j=0:=fun j=>by unfold kG_;rw [Int.zero_fdiv];rfl
 unfold ze_ kF_
 simp only [this,List.map_const',List.length_range]
theorem zc7_ {n:Int} {k j:Nat} (h:j < k) (hk:k<=7):kG_ n ((k+1:Nat):Int) j=kG_ (n / 256) k j:=by
 unfold kG_
 have e:min (8*(((k+1:Nat):Int) - 1 - j)).toNat 64=8+8*(k - 1 - j):=by omega
 have e':min (8*((k:Int) - 1 - j)).toNat 64=8*(k - 1 - j):=by omega
 have hp:∀ m:Nat,(0:Int)<=2 ^ m:=fun m=>Int.le_of_lt (Int.pow_pos (by decide))
 rw [e,e',Int.fdiv_eq_ediv_of_nonneg _ (hp _),Int.fdiv_eq_ediv_of_nonneg _ (hp _),Int.pow_add,<- Int.ediv_ediv_of_nonneg (hp 8)]
 rfl
theorem Vz_ {n:Int} {k:Nat} (hk:k<=7):ze_ n ((k+1:Nat):Int)=ze_ (n / 256) k++[n % 256]:=by
 unfold ze_ kF_
 rw [Int.toNat_natCast,Int.toNat_natCast,List.range_succ,List.map_append]
 congr 1
 ·apply List.map_congr_left
  intro j hj
  exact zc7_ (List.mem_range.1 hj) hk
 ·show [kG_ n ((k+1:Nat):Int) k]=_
  unfold kG_
  have e:min (8*(((k+1:Nat):Int) - 1 - k)).toNat 64=0:=by omega
  rw [e,Int.pow_zero,Int.fdiv_one]
theorem Vk_:∀ (k:Nat) (n:Int),k<=8->0<=n->n < 256 ^ k->Zz_ (ze_ n k)=n
 | 0,n,_,h0,h1=>by
   have:n=0:=by rw [Int.pow_zero] at h1;omega
   subst this;rfl
 | k+1,n,hk,h0,h1=>by
   rw [Vz_ (by omega),vm_,Vk_ k (n / 256) (by omega) (by omega) (by rw [Int.pow_succ] at h1;exact Int.ediv_lt_of_lt_mul (by decide) h1)]
   omega
theorem xL_:∀ (k:Nat) (b:List Int),k<=8->b.length=k->(∀ x ∈ b,0<=x/\x<=255)->ze_ (Zz_ b) k=b
 | 0,b,_,hl,_=>by
   have:b=[]:=List.eq_nil_of_length_eq_zero hl
   subst this;rfl
 | k+1,b,hk,hl,hb=>by
   rcases List.eq_nil_or_concat b with rfl | ⟨l,c,rfl⟩
   ·cases hl
   ·rw [List.concat_eq_append] at hl hb ⊢
    have hc:=hb c (by simp)
    have hl':l.length=k:=by simpa using hl
    rw [vm_,Vz_ (by omega)]
    rw [show (Zz_ l*256+c) / 256=Zz_ l by omega,show (Zz_ l*256+c) % 256=c by omega,xL_ k l (by omega) hl' fun x hx=>hb x (by simp [hx])]
theorem zc6_ (w:Int):ze_ 0 w=List.replicate w.toNat 0:=(Vy_ w).symm
theorem YV_ (k:Nat):Zo_ (List.replicate k 0)=true:=by
 unfold Zo_;rw [List.all_eq_true];intro x hx;rw [List.eq_of_mem_replicate hx];rfl
theorem zhM_ {b:List Int} (h:Zo_ b=true):b=List.replicate b.length 0:=by
 unfold Zo_ at h
 rw [List.all_eq_true] at h
 exact List.eq_replicate_iff.2 ⟨rfl,fun x hx=>by simpa using h x hx⟩
theorem Qu_:∀ (w xs b:List Int),qQ_ w xs b=(qQ_ w xs []).map (b++·)
 | [],xs,b=>by simp [qQ_]
 | n :: r,xs,b=>by
   simp only [qQ_]
   split
   ·rw [Qu_ r xs (b++ze_ 0 (0 - n)),Qu_ r xs ([]++ze_ 0 (0 - n)),Option.map_map]
    congr 1;funext z;simp
   ·cases xs with
    | nil=>rfl
    | cons x ys=>
      dsimp only
      split
      ·rfl
      ·rw [Qu_ r ys (b++ze_ x n),Qu_ r ys ([]++ze_ x n),Option.map_map]
       congr 1;funext z;simp
theorem xE_:∀ (w b o:List Int),(ZG_ w b o).2=(ZG_ w b []).2/\((ZG_ w b []).2=0->(ZG_ w b o).1=o++(ZG_ w b []).1)
 | [],b,o=>by simp [ZG_]
 | n :: r,b,o=>by
   simp only [ZG_]
   split
   ·exact ⟨rfl,fun h=>by cases h⟩
   ·split
    ·have h1:=xE_ r (b.drop (zt_ n).toNat) (o++[Zz_ (b.take (zt_ n).toNat)])
     have h2:=xE_ r (b.drop (zt_ n).toNat) ([]++[Zz_ (b.take (zt_ n).toNat)])
     refine ⟨h1.1.trans h2.1.symm,fun h=>?_⟩
     have h0:=h2.1.symm.trans h
     rw [h1.2 h0,h2.2 h0];simp
    ·split
     ·exact xE_ r (b.drop (zt_ n).toNat) o
     ·exact ⟨rfl,fun h=>by cases h⟩
theorem zmm_ {x n:Int} (h0:0<=x) (h1:x<=18446744073709551615) (hn:0 < n) (h8:n<=8) (hf:¬ (n < 8/\x.fdiv (2 ^ (min (8*n).toNat 64)) ≠ 0)):x < 256 ^ n.toNat:=by
 by_cases hlt:n < 8
 ·have hz:x.fdiv (2 ^ (min (8*n).toNat 64))=0:=Classical.byContradiction fun h=>hf ⟨hlt,h⟩
  have e:min (8*n).toNat 64=8*n.toNat:=by omega
  have hp:(0:Int) < 2 ^ (8*n.toNat):=Int.pow_pos (by decide)
  rw [e,Int.fdiv_eq_ediv_of_nonneg _ (Int.le_of_lt hp)] at hz
  have h2:=Int.lt_ediv_add_one_mul_self x hp
  rw [hz] at h2
  have e2:(2:Int) ^ (8*n.toNat)=256 ^ n.toNat:=by rw [Int.pow_mul];rfl
  rw [<- e2];omega
 ·have:n=8:=by omega
  subst this
  show x < 256 ^ 8
  omega
theorem zl8_ {x n:Int} (h0:0<=x) (hn:0 < n) (h8:n<=8) (hx:x < 256 ^ n.toNat):¬ (n < 8/\x.fdiv (2 ^ (min (8*n).toNat 64)) ≠ 0):=by
 rintro ⟨hlt,hz⟩
 apply hz
 have e:min (8*n).toNat 64=8*n.toNat:=by omega
 have hp:(0:Int) < 2 ^ (8*n.toNat):=Int.pow_pos (by decide)
 have e2:(2:Int) ^ (8*n.toNat)=256 ^ n.toNat:=by rw [Int.pow_mul];rfl
 rw [e,Int.fdiv_eq_ediv_of_nonneg _ (Int.le_of_lt hp),e2]
 exact Int.ediv_eq_zero_of_lt h0 hx
def okR (w:List Int):Prop:=∀ n ∈ w,n ≠ 0/\n<=8/\-64<=n
theorem bM_:∀ (w xs r rest:List Int),okR w->(∀ x ∈ xs,0<=x/\x<=18446744073709551615)->(w.map ZW_).sum=xs.length->qQ_ w xs []=some r->ZG_ w (r++rest) []=(xs,0)
 | [],xs,r,rest,_,_,hc,h=>by
   simp at hc
   have:xs=[]:=List.eq_nil_of_length_eq_zero (by omega)
   subst this;rfl
 | n :: w,xs,r,rest,hw,hx,hc,h=>by
   have hn:=hw n (by simp)
   have hw':okR w:=fun m hm=>hw m (by simp [hm])
   simp only [qQ_] at h
   rw [List.map_cons,List.sum_cons] at hc
   by_cases hneg:n < 0
   ·rw [if_pos hneg,List.nil_append,Qu_] at h
    have h1:ZW_ n=0:=if_neg (by omega)
    obtain ⟨r',hr',rfl⟩:=Option.map_eq_some_iff.1 h
    have ih:=bM_ w xs r' rest hw' hx (by omega) hr'
    have hl:=zj_ (n:=0) (w:=0 - n) (by omega)
    have ha:=JL_ hneg
    have hln:(ze_ 0 (0 - n)).length=(zt_ n).toNat:=by omega
    simp only [ZG_]
    rw [List.append_assoc,if_neg (by rw [List.length_append];omega),if_neg (by omega),<- hln,List.take_left,List.drop_left,zc6_,YV_,if_pos rfl,ih]
   ·rw [if_neg hneg] at h
    have h1:ZW_ n=1:=if_pos (by omega)
    cases xs with
    | nil=>cases h
    | cons x ys=>
      dsimp only at h
      by_cases hf:n < 8/\x.fdiv (2 ^ (min (8*n).toNat 64)) ≠ 0
      ·rw [if_pos hf] at h;cases h
      ·rw [if_neg hf,List.nil_append,Qu_] at h
       obtain ⟨r',hr',rfl⟩:=Option.map_eq_some_iff.1 h
       have hx0:=hx x (by simp)
       have hlt:=zmm_ hx0.1 hx0.2 (by omega) hn.2.1 hf
       have ih:=bM_ w ys r' rest hw' (fun y hy=>hx y (by simp [hy])) (by rw [List.length_cons] at hc;omega) hr'
       have hl:=zj_ (n:=x) (w:=n) (by omega)
       have ha:=Xp_ hneg
       have hln:(ze_ x n).length=(zt_ n).toNat:=by omega
       have hnum:Zz_ (ze_ x n)=x:=by
        have:=Vk_ n.toNat x (by omega) hx0.1 hlt
        rwa [show ((n.toNat:Nat):Int)=n by omega] at this
       simp only [ZG_]
       have hacc:=xE_ w (r'++rest) ([]++[x])
       rw [List.append_assoc,if_neg (by rw [List.length_append];omega),if_pos (by omega),<- hln,List.take_left,List.drop_left,hnum]
       rw [ih] at hacc
       exact Prod.ext ((hacc.2 rfl).trans (by simp)) hacc.1
theorem zae_:∀ (w b xs:List Int),okR w->(∀ x ∈ b,0<=x/\x<=255)->ZG_ w b []=(xs,0)->(w.map ZW_).sum=xs.length/\(w.map zt_).sum<=b.length/\qQ_ w xs []=some (b.take (w.map zt_).sum.toNat)
 | [],b,xs,_,_,h=>by
   simp only [ZG_,Prod.mk.injEq] at h
   obtain ⟨rfl,_⟩:=h
   exact ⟨rfl,Int.natCast_nonneg _,rfl⟩
 | n :: w,b,xs,hw,hb,h=>by
   have hn:=hw n (by simp)
   have hw':okR w:=fun m hm=>hw m (by simp [hm])
   have ha:=wF_ (n:=n)
   have hs:0<=(w.map zt_).sum:=by
    have:∀ l:List Int,0<=(l.map zt_).sum:=fun l=>by
     induction l with
     | nil=>simp
     | cons a l ih=>rw [List.map_cons,List.sum_cons];have:=wF_ (n:=a);omega
    exact this w
   have hd:(b.drop (zt_ n).toNat).length=b.length - (zt_ n).toNat:=List.length_drop
   have hbd:∀ x ∈ b.drop (zt_ n).toNat,0<=x/\x<=255:=fun x hx=>hb x (List.mem_of_mem_drop hx)
   have htk:∀ k:Nat,(b.take (zt_ n).toNat)++(b.drop (zt_ n).toNat).take k=b.take ((zt_ n).toNat+k):=fun k=>by rw [List.take_add]
   simp only [ZG_] at h
   rw [List.map_cons,List.sum_cons,List.map_cons,List.sum_cons]
   by_cases hsh:(b.length:Int) < zt_ n
   ·rw [if_pos hsh] at h;cases h
   ·rw [if_neg hsh] at h
    have htl:(b.take (zt_ n).toNat).length=(zt_ n).toNat:=by rw [List.length_take];omega
    by_cases hp:0 < n
    ·rw [if_pos hp] at h
     have hacc:=xE_ w (b.drop (zt_ n).toNat) ([]++[Zz_ (b.take (zt_ n).toNat)])
     rw [h] at hacc
     have h0:=hacc.1.symm
     obtain ⟨ys,hys⟩:∃ ys,ZG_ w (b.drop (zt_ n).toNat) []=(ys,0):=⟨_,Prod.ext rfl h0⟩
     rw [hys] at hacc
     have hxs:=hacc.2 rfl
     obtain ⟨i1,i2,i3⟩:=zae_ w _ ys hw' hbd hys
     have e1:ZW_ n=1:=if_pos hp
     have ea:=Xp_ (n:=n) (by omega)
     dsimp only [List.nil_append] at hxs
     rw [List.singleton_append] at hxs
     subst hxs
     have hbt:∀ x ∈ b.take (zt_ n).toNat,0<=x/\x<=255:=fun x hx=>hb x (List.mem_of_mem_take hx)
     have hnl:=Yl_ (b.take (zt_ n).toNat) hbt
     have h2:=hnl.2
     rw [htl] at h2
     have e3:(zt_ n).toNat=n.toNat:=by rw [ea]
     have h4:Zz_ (b.take (zt_ n).toNat) < 256 ^ n.toNat:=by rw [<- e3];exact h2
     have hfit:¬ (n < 8/\(Zz_ (b.take (zt_ n).toNat)).fdiv (2 ^ (min (8*n).toNat 64)) ≠ 0):=zl8_ hnl.1 hp hn.2.1 h4
     have hbk:=xL_ (zt_ n).toNat (b.take (zt_ n).toNat) (by omega) htl hbt
     rw [show (((zt_ n).toNat:Nat):Int)=n by omega] at hbk
     refine ⟨by rw [List.length_cons];omega,by omega,?_⟩
     simp only [qQ_]
     rw [if_neg (by omega),if_neg hfit,List.nil_append,Qu_,i3,hbk]
     show some _=_
     dsimp only;rw [htk];congr 2;omega
    ·rw [if_neg hp] at h
     by_cases hz:Zo_ (b.take (zt_ n).toNat)=true
     ·rw [if_pos hz] at h
      obtain ⟨i1,i2,i3⟩:=zae_ w _ xs hw' hbd h
      have e1:ZW_ n=0:=if_neg hp
      have hze:=zhM_ hz
      rw [htl] at hze
      have ea:=JL_ (n:=n) (by omega)
      refine ⟨by omega,by omega,?_⟩
      simp only [qQ_]
      rw [if_pos (by omega),List.nil_append,Qu_,i3,zc6_,show (0 - n).toNat=(zt_ n).toNat by omega,<- hze]
      show some _=_
      dsimp only;rw [htk];congr 2;omega
     ·rw [if_neg hz] at h;cases h
theorem vd_ {w xs:List Int} (rest:List Int) (hx:∀ x ∈ xs,0<=x/\x<=18446744073709551615) (hk:ZM_ w xs=true):ZX_ w (zR_ w xs++rest)=(xs,0)/\(zR_ w xs).length=(zP_ w).toNat:=by
 unfold ZM_ at hk
 obtain ⟨r,hr⟩:=Option.isSome_iff_exists.1 hk
 have hb:zR_ w xs=r:=by unfold zR_;rw [hr];rfl
 rw [hb]
 unfold Ka_ at hr
 split at hr
 ·rename_i h
  have hw:okR w:=(Zk_.1 h.1).2
  have hc:(w.map ZW_).sum=xs.length:=by have:=h.2;unfold zo_ at this;rwa [if_pos h.1] at this
  unfold ZX_ zP_
  rw [if_pos h.1,if_pos h.1]
  refine ⟨bM_ w xs r rest hw hx hc hr,?_⟩
  have hl:∀ (w xs r:List Int),okR w->qQ_ w xs []=some r->(r.length:Int)=(w.map zt_).sum:=by
   intro w
   induction w with
   | nil=>intro xs r _ h;simp only [qQ_,Option.some.injEq] at h;subst h;rfl
   | cons n w ih=>
     intro xs r hw h
     have hn:=hw n (by simp)
     have hw':okR w:=fun m hm=>hw m (by simp [hm])
     simp only [qQ_] at h
     rw [List.map_cons,List.sum_cons]
     split at h
     ·rw [Qu_] at h
      obtain ⟨r',hr',rfl⟩:=Option.map_eq_some_iff.1 h
      have:=ih _ _ hw' hr'
      have hl:=zj_ (n:=0) (w:=0 - n) (by omega)
      have ha:=JL_ (n:=n) (by assumption)
      simp only [List.nil_append,List.length_append];omega
     ·cases xs with
      | nil=>cases h
      | cons x ys=>
        dsimp only at h
        split at h
        ·cases h
        ·rw [Qu_] at h
         obtain ⟨r',hr',rfl⟩:=Option.map_eq_some_iff.1 h
         have:=ih _ _ hw' hr'
         have hl:=zj_ (n:=x) (w:=n) (by omega)
         have ha:=Xp_ (n:=n) (by assumption)
         simp only [List.nil_append,List.length_append];omega
  have:=hl w xs r hw hr
  omega
 ·cases hr
theorem vx_ {w b xs:List Int} (hb:∀ x ∈ b,0<=x/\x<=255) (h:ZX_ w b=(xs,0)):ZM_ w xs=true/\zR_ w xs=b.take (zP_ w).toNat/\zP_ w<=b.length:=by
 unfold ZX_ at h
 split at h
 ·rename_i hr
  obtain ⟨h1,h2,h3⟩:=zae_ w b xs (Zk_.1 hr).2 hb h
  have hF:Ka_ w xs=some (b.take (w.map zt_).sum.toNat):=by
   unfold Ka_ zo_;rw [if_pos hr,if_pos ⟨hr,h1⟩,h3]
  unfold ZM_ zR_ zP_
  rw [hF,if_pos hr];exact ⟨rfl,rfl,h2⟩
 ·cases h
end Go.Eng
