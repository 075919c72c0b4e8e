/- Parts of the proof: M1, OG, R7, N1, M2. No condition. -/
import Derived.Test.YtmkcbchflaoakaaProg
import Derived.Test.YtmkcbchflaoakaaXB10
import Derived.KernelRfl
import Derived.Test.YtmkcbchflaoakaaXB11
namespace Go.Eng
open Go.Proofs
set_option linter.unusedVariables false
set_option linter.unusedSimpArgs false
set_option maxRecDepth 100000
set_option maxHeartbeats 1000000
def jp_ {α:Type} (p:α->Bool):List α->Int->Int
 | [],_=>-1
 | o :: r,i=>if p o=true then i else jp_ p r (i+1)
theorem wD_ {α:Type} {p:α->Bool} {l:List α} {i:Nat} (h:l.length<=i):jp_ p (l.drop i) i=-1:=by
 rw [List.drop_of_length_le h];rfl
theorem xA_ {α:Type} {p:α->Bool} {l:List α} {i:Nat} {d:α} (h:i < l.length) (hk:p (l.getD i d)=true):jp_ p (l.drop i) i=i:=by
 rw [QS_ h d];exact if_pos hk
theorem xz_ {α:Type} {p:α->Bool} {l:List α} {i:Nat} {d:α} (h:i < l.length) (hk:p (l.getD i d)=false):jp_ p (l.drop i) i=jp_ p (l.drop (i+1)) ((i+1:Nat):Int):=by
 rw [QS_ h d];exact if_neg (by rw [hk];decide)
theorem jT_ {α:Type} {p:α->Bool}:∀ (l:List α) (i:Int),0<=i->decide (0<=jp_ p l i)=l.any p
 | [],i,h=>rfl
 | o :: r,i,h=>by
   unfold jp_
   rw [List.any_cons]
   cases hk:p o with
   | true=>rw [if_pos rfl,decide_eq_true h];rfl
   | false=>rw [if_neg (by decide),jT_ r (i+1) (by omega)];rfl
def nzB (c:Int):Bool:=decide (c ≠ 0)
abbrev OV:=Int × Int × Bool × Int × List Int × List Int × Unit
instance:DecidableEq (Int × List Int × List Int × Unit):=inferInstance
instance:DecidableEq OV:=inferInstance
def xi_ (b:List Int):Int:=b.foldl (fun n c=>ZW_ .or .u64 (IntKind.u64.wrap (n*2 ^ min (Int.toNat 8) IntKind.u64.bits)) (IntKind.u64.wrap c)) 0
theorem yW_ {b:List Int} {i:Nat} (h:i < b.length):xi_ (b.take (i+1))=ZW_ .or .u64 (IntKind.u64.wrap (xi_ (b.take i)*2 ^ min (Int.toNat 8) IntKind.u64.bits)) (IntKind.u64.wrap (b.getD i 0)):=by
 unfold xi_
 rw [List.take_succ_eq_append_getElem h,List.foldl_append,List.getD_eq_getElem?_getD,List.getElem?_eq_getElem h];rfl
def Xs_:IR:=
(sq (kr [0,1] [oD 4 (.mov (.c (.int .u64 0))),
oD 5 (.mov cF)])
(sq (sq (.reg [oM 8 0,
oE 9 8,
oD 10 (.mov (cI 0))])
(.block 0
(.loop
(sq (kr [0,1,4,8,9,10] [oB 11 .lss 10 9])
(sq (.cond 11
.skip
(.exit 0))
(sq (.block 1
(sq (.reg [oI 12 1 8 10,
oL 13 12,
oM 7 13])
(kr [0,1,4,7,8,9,10] [oM 14 4,
oB 15 .shl 14 (.c (.int .u64 8)),
oM 16 7,
oD 17 (.conv .u64 16),
oB 18 .or 15 17,
oM 4 18])))
(kr [0,1,4,8,9,10] [oB 19 .add 10 (cI 1),
oM 10 19])))))))
(sq (kr [0,1,4] [oM 20 4,
oM 21 0,
oE 22 21,
oM 23 1,
oB 24 .eql 22 23,
oM 4 20,
oM 5 24])
.ret)))
def xX_:List RD:=[.tmp 4 true none,.tmp 5 true none]
theorem Xb_:zl_ Try.prog Try.f49 Xs_ xX_=true:=by kernel_rfl
def KH_:List AV->List Obj->Option (Prop × AV)
 | [.imm (.int .u8) b,.int .i64 z],[]=>some ((True,.tup [.int .u64 (xi_ b),.bool (decide ((b.length:Int)=z))]))
 | _,_=>none
theorem W6_:zf_ Try.prog 49 (RoF KH_).sum:=by
 refine zo_ Try.func49 Xb_ (ze_ _) fun args objs p v e=>?_
 unfold KH_ at e
 split at e
 ·rename_i b z
  cases e
  refine ⟨rfl,fun hw ho hp=>?_⟩
  change List Int at b
  have hl:b.length<=maxLen:=(hw (.imm (.int .u8) b) (by simp)).2
  unfold maxLen at hl
  clear hw ho
  repeat'(intro t ht;first|(cases t<;>first|(cases ht;done)|(try simp only[zh_]at ht))|((first|refine za_ ht ?_|refine ht ?_ ?_|refine ht.1 ?_ ?_|refine ht ?_)<;>clear ht))
  all_goals first
   | (intro r h1 h2;clear h1;refine h2 ⟨[0,1,4,8,9,10],Nat,(fun i=>i<=b.length),fun i=>[.imm (.int .u8) b,.int .i64 z,.int .u64 (xi_ (b.take i)),.imm (.int .u8) b,.int .i64 b.length,.int .i64 i],fun _=>[],fun i=>b.length - i,⟨0,Nat.zero_le _,rfl,rfl⟩,?_⟩;clear h2)
  intro i hi
  repeat'(intro t ht;first|(cases t<;>first|(cases ht;done)|(try simp only[zh_]at ht))|((first|refine za_ ht ?_|refine ht ?_ ?_)<;>clear ht)|(refine ht.1 (by simp only[zi_];omega) ?_;clear ht)|(refine ht.2 ?_;clear ht)|(refine ht ?_;clear ht))
  all_goals first
   | exact True.intro
   | ((try simp only [z0_,z1_,zi_] at*);omega)
   | (have hge:b.length<=i:=by omega
      rw [List.take_of_length_le hge];exact ⟨rfl,rfl⟩)
   | exact (by decide)
   | (refine ⟨i+1,by omega,by dsimp only;omega,?_,rfl⟩
      dsimp only
      rw [yW_ (by omega)];rfl)
 ·cases e
def xk_:IR:=
(sq (kr [0] [oD 2 (.mov cF)])
(sq (.reg [oM 3 0,
oB 4 .neq 3 (.c (.int .u8 0)),
oM 2 4])
.ret))
def W8_:List RD:=[.tmp 2 true none]
theorem xd_:zl_ Try.prog Try.f48 xk_ W8_=true:=by kernel_rfl
def Z9_:List AV->List Obj->Option (Prop × AV)
 | [.int .u8 b],[]=>some ((True,.bool (nzB b)))
 | _,_=>none
theorem QI_:zf_ Try.prog 48 (RoF Z9_).sum:=by
 refine zo_ Try.func48 xd_ (ze_ _) fun args objs p v e=>?_
 unfold Z9_ at e
 split at e
 ·rename_i b
  cases e
  refine ⟨rfl,fun hw ho hp=>?_⟩
  repeat'(intro t ht;first|(cases t<;>first|(cases ht;done)|(try simp only[zh_]at ht;try(exfalso;first|contradiction|omega)))|((first|refine za_ ht ?_|refine ht ?_ ?_|refine ht.1 ?_ ?_|refine ht ?_)<;>clear ht))
  all_goals first
   | exact True.intro
   | (refine ⟨congrArg AV.bool ?_,rfl⟩;unfold nzB;simp;done)
 ·cases e
def kk_:IR:=
(sq (kr [0,1] [oD 4 (.mov (cI 0))])
(sq (sq (.reg [oM 6 0,
oE 7 6,
oD 8 (.mov (cI 0))])
(.block 0
(.loop
(sq (kr [0,1,7,8] [oB 9 .lss 8 7])
(sq (.cond 9
.skip
(.exit 0))
(sq (.block 1
(sq (.reg [oM 10 8,
oM 5 10])
(sq (kr [0,1,5,7,8] [oM 11 1,
oM 12 0,
oM 13 5,
oI 14 1 12 13,
oL 15 14,
oD 16 (.call false 11 [15])])
(.cond 16
(sq (kr [5] [oM 17 5,
oM 4 17])
.ret)
.skip))))
(kr [0,1,7,8] [oB 18 .add 8 (cI 1),
oM 8 18])))))))
(sq (kr [] [oD 4 (.mov (cI (-1)))])
.ret)))
def kc_:List RD:=[.tmp 4 true none]
theorem kg_:zl_ Try.prog Try.f58 kk_ kc_=true:=by kernel_rfl
def Zd_:List AV->List Obj->Option (Prop × AV)
 | [.imm (.int .u8) l,.fn 48 [] []],[]=>some ((True,.int .i64 (jp_ nzB l 0)))
 | _,_=>none
theorem QH_:zf_ Try.prog 58 (RoF Zd_).sum:=by
 refine zo_ Try.func58 kg_ (zc_ (s:=RoF Z9_) QI_ (ze_ _)) fun args objs p v e=>?_
 unfold Zd_ at e
 split at e
 ·rename_i l
  cases e
  refine ⟨rfl,fun hw ho hp=>?_⟩
  change List Int at l
  have hl:l.length<=maxLen:=(hw (.imm (.int .u8) l) (by simp)).2
  unfold maxLen at hl
  clear hw ho
  repeat'(intro t ht;first|(cases t<;>first|(cases ht;done)|(try simp only[zh_]at ht))|((first|refine za_ ht ?_|refine ht ?_ ?_|refine ht.1 ?_ ?_|refine ht ?_)<;>clear ht))
  all_goals first
   | (intro r h1 h2;clear h1;refine h2 ⟨[0,1,7,8],Nat,(fun i=>i<=l.length/\jp_ nzB l 0=jp_ nzB (l.drop i) i),fun i=>[.imm (.int .u8) l,.fn 48 [] [],.int .i64 l.length,.int .i64 i],fun _=>[],fun i=>l.length - i,⟨0,⟨Nat.zero_le _,rfl⟩,rfl,rfl⟩,?_⟩;clear h2)
  rintro i ⟨hi,he⟩
  repeat'(intro t ht;first|(cases t<;>first|(cases ht;done)|(try simp only[zh_]at ht;try(exfalso;first|contradiction|omega)))|((first|refine za_ ht ?_|refine ht ?_ ?_|refine ht.1 ?_ ?_|refine ht ?_)<;>clear ht))
  all_goals first
   | exact True.intro
   | ((try simp only [z0_,z1_,zi_] at*);omega)
   | (refine ⟨?_,rfl⟩;rw [he,wD_ (by omega)];done)
   | (refine ⟨?_,rfl⟩;rw [he,xA_ (d:=0) (by omega) (by assumption)];done)
   | exact ⟨i+1,⟨by omega,he.trans (xz_ (d:=0) (by omega) (by assumption))⟩,by dsimp only;omega,rfl,rfl⟩
 ·cases e
def Qi_:IR:=
(sq (kr [0,1] [oD 4 (.mov cF)])
(sq (kr [0,1] [oM 5 0,
oM 6 1,
oC 7 58 [5,6],
oB 8 .geq 7 (cI 0),
oM 4 8])
.ret))
def q8_:List RD:=[.tmp 4 true none]
theorem Qc_:zl_ Try.prog Try.f47 Qi_ q8_=true:=by kernel_rfl
def zV_:List AV->List Obj->Option (Prop × AV)
 | [.imm (.int .u8) l,.fn 48 [] []],[]=>some ((True,.bool (l.any nzB)))
 | _,_=>none
theorem qU_:zf_ Try.prog 47 (RoF zV_).sum:=by
 refine zo_ Try.func47 Qc_ (zc_ (s:=RoF Z9_) QI_ (zc_ (s:=RoF Zd_) QH_ (ze_ _))) fun args objs p v e=>?_
 unfold zV_ at e
 split at e
 ·rename_i l
  cases e
  refine ⟨rfl,fun hw ho hp=>?_⟩
  change List Int at l
  have h:=jT_ (p:=nzB) l 0 (Int.le_refl _)
  repeat'(intro t ht;first|(cases t<;>first|(cases ht;done)|(try simp only[zh_]at ht;try(exfalso;first|contradiction|omega)))|((first|refine za_ ht ?_|refine ht ?_ ?_|refine ht.1 ?_ ?_|refine ht ?_)<;>clear ht))
  all_goals first
   | exact True.intro
   | exact ⟨congrArg AV.bool h,rfl⟩
 ·cases e
def kj_:IR:=
(sq (kr [0,1] [oD 4 (.mov (cI 0))])
(sq (sq (.reg [oM 6 0,
oE 7 6,
oD 8 (.mov (cI 0))])
(.block 0
(.loop
(sq (kr [0,1,7,8] [oB 9 .lss 8 7])
(sq (.cond 9
.skip
(.exit 0))
(sq (.block 1
(sq (.reg [oM 10 8,
oM 5 10])
(sq (kr [0,1,5,7,8] [oM 11 1,
oM 12 0,
oM 13 5,
oI 14 1 12 13,
oL 15 14,
oB 16 .eql 11 15])
(.cond 16
(sq (kr [5] [oM 17 5,
oM 4 17])
.ret)
.skip))))
(kr [0,1,7,8] [oB 18 .add 8 (cI 1),
oM 8 18])))))))
(sq (kr [] [oD 4 (.mov (cI (-1)))])
.ret)))
def kb_:List RD:=[.tmp 4 true none]
theorem kf_:zl_ Try.prog Try.f59 kj_ kb_=true:=by kernel_rfl
def Zc_:List AV->List Obj->Option (Prop × AV)
 | [.imm (.int .u64) l,.int .u64 x],[]=>some ((True,.int .i64 (jp_ (fun y=>decide (x=y)) l 0)))
 | _,_=>none
theorem QG_:zf_ Try.prog 59 (RoF Zc_).sum:=by
 refine zo_ Try.func59 kf_ (ze_ _) fun args objs p v e=>?_
 unfold Zc_ at e
 split at e
 ·rename_i l x
  cases e
  refine ⟨rfl,fun hw ho hp=>?_⟩
  change List Int at l
  have hl:l.length<=maxLen:=(hw (.imm (.int .u64) l) (by simp)).2
  unfold maxLen at hl
  clear hw ho
  repeat'(intro t ht;first|(cases t<;>first|(cases ht;done)|(try simp only[zh_]at ht))|((first|refine za_ ht ?_|refine ht ?_ ?_|refine ht.1 ?_ ?_|refine ht ?_)<;>clear ht))
  all_goals first
   | (intro r h1 h2;clear h1;refine h2 ⟨[0,1,7,8],Nat,(fun i=>i<=l.length/\jp_ (fun y=>decide (x=y)) l 0=jp_ (fun y=>decide (x=y)) (l.drop i) i),fun i=>[.imm (.int .u64) l,.int .u64 x,.int .i64 l.length,.int .i64 i],fun _=>[],fun i=>l.length - i,⟨0,⟨Nat.zero_le _,rfl⟩,rfl,rfl⟩,?_⟩;clear h2)
  rintro i ⟨hi,he⟩
  repeat'(intro t ht;first|(cases t<;>first|(cases ht;done)|(try simp only[zh_]at ht;try(exfalso;first|contradiction|omega)))|((first|refine za_ ht ?_|refine ht ?_ ?_|refine ht.1 ?_ ?_|refine ht ?_)<;>clear ht))
  all_goals first
   | exact True.intro
   | ((try simp only [z0_,z1_,zi_] at*);omega)
   | (refine ⟨?_,rfl⟩;rw [he,wD_ (by omega)];done)
   | (refine ⟨?_,rfl⟩;rw [he,xA_ (d:=0) (by omega) (show decide (x=l.getD i 0)=true from decide_eq_true (by assumption))];done)
   | exact ⟨i+1,⟨by omega,he.trans (xz_ (d:=0) (by omega) (show decide (x=l.getD i 0)=false from decide_eq_false (by assumption)))⟩,by dsimp only;omega,rfl,rfl⟩
 ·cases e
def Qh_:IR:=
(sq (kr [0,1] [oD 4 (.mov cF)])
(sq (kr [0,1] [oM 5 0,
oM 6 1,
oC 7 59 [5,6],
oB 8 .geq 7 (cI 0),
oM 4 8])
.ret))
def q7_:List RD:=[.tmp 4 true none]
theorem Qb_:zl_ Try.prog Try.f50 Qh_ q7_=true:=by kernel_rfl
def zU_:List AV->List Obj->Option (Prop × AV)
 | [.imm (.int .u64) l,.int .u64 x],[]=>some ((True,.bool (l.any fun y=>decide (x=y))))
 | _,_=>none
theorem qT_:zf_ Try.prog 50 (RoF zU_).sum:=by
 refine zo_ Try.func50 Qb_ (zc_ (s:=RoF Zc_) QG_ (ze_ _)) fun args objs p v e=>?_
 unfold zU_ at e
 split at e
 ·rename_i l x
  cases e
  refine ⟨rfl,fun hw ho hp=>?_⟩
  change List Int at l
  have h:=jT_ (p:=fun y=>decide (x=y)) l 0 (Int.le_refl _)
  repeat'(intro t ht;first|(cases t<;>first|(cases ht;done)|(try simp only[zh_]at ht;try(exfalso;first|contradiction|omega)))|((first|refine za_ ht ?_|refine ht ?_ ?_|refine ht.1 ?_ ?_|refine ht ?_)<;>clear ht))
  all_goals first
   | exact True.intro
   | exact ⟨congrArg AV.bool h,rfl⟩
 ·cases e
def Y4_ (n:Int) (vals:List Int) (c f:Int) (h:Bool) (v:List Int):Bool:=decide (c=32768) && decide (f=n) && (if vals.length=0 then v.any nzB else decide ((v.length:Int)=ZV_ n) && !h && vals.any fun y=>decide (xi_ v=y))
def yv_:IR:=
(sq (kr [0,1] [oD 2 (.boxv 0),
oD 3 (.boxv 1),
oD 4 (.mov cF)])
(sq (sq (kr [2,3] [oA 9 0 2,
oL 10 9,
oB 11 .neq 10 (cI 32768),
oM 12 11,
oF 12 13 (.fieldAddr 1 2),
oF 12 14 (.load none 13),
oF 12 15 (.fieldAddr 3 3),
oF 12 16 (.load none 15),
oF 12 17 (.bin .neq 14 16),
oP 18 12 cT 17])
(.cond 18
(sq (kr [] [oD 4 (.mov cF)])
.ret)
.skip))
(sq (sq (kr [2,3] [oA 19 4 3,
oL 20 19,
oE 21 20,
oB 22 .eql 21 (cI 0)])
(.cond 22
(sq (.reg [oA 23 4 2,
oL 24 23,
oC 25 47 [24,.f 48],
oM 4 25])
.ret)
.skip))
(sq (kr [2,3] [oA 27 3 3,
oL 28 27,
oC 29 18 [28],
oM 26 29,
oX 30 26 0,
oX 31 26 1,
oD 5 (.box [.int .i64 0,.int .i64 0,.kb false,.int .i64 0,.imm (.int .u64) []]),
oS 5 5 30,
oM 6 31])
(sq (kr [2,3,5] [oA 33 4 2,
oL 34 33,
oA 35 1 5,
oL 36 35,
oC 37 49 [34,36],
oM 32 37,
oX 38 32 0,
oX 39 32 1,
oM 7 38,
oM 8 39])
(sq (kr [2,3,7,8] [oM 40 8,
oM 41 40,
oT 41 42 (.fieldAddr 2 2),
oT 41 43 (.load none 42),
oT 41 44 (.un .not 43),
oP 45 41 44 cF,
oM 46 45,
oT 46 47 (.fieldAddr 4 3),
oT 46 48 (.load none 47),
oT 46 49 (.mov 7),
oT 46 50 (.call false (.f 50) [48,49]),
oP 51 46 50 cF,
oM 4 51])
.ret))))))
def yc_:List RD:=[.tmp 4 true none]
theorem yl_:zl_ Try.prog Try.f27 yv_ yc_=true:=by kernel_rfl
def jy_:List AV->List Obj->Option (Prop × AV)
 | [.agg [.int .i64 c,.int .i64 f,.bool h,.int .u64 x,.imm (.int .u8) v,.imm (.int .u8) m],.agg [.int .i64 bits,.int .i64 size,.bool mk,.int .i64 nd,.imm (.int .u64) vals]],[]=>some ((True,.bool (Y4_ nd vals c f h v)))
 | _,_=>none
theorem xO_:zf_ Try.prog 27 (RoF jy_).sum:=by
 refine zo_ Try.func27 yl_ (zc_ (s:=RoF zV_) qU_ (zc_ (s:=RoF Z9_) QI_ (zc_ (s:=RoF Kg_) K9_ (zc_ (s:=RoF KH_) W6_ (zc_ (s:=RoF zU_) qT_ (ze_ _)))))) fun args objs p v e=>?_
 unfold jy_ at e
 split at e
 ·rename_i c f h x v m bits size mk nd vals
  cases e
  refine ⟨rfl,fun hw ho hp=>?_⟩
  change List Int at v
  change List Int at m
  change List Int at vals
  clear hw ho
  by_cases h1:c=32768/\f=nd
  ·obtain ⟨rfl,rfl⟩:=h1
   have e:Y4_ f vals 32768 f h v=if vals.length=0 then v.any nzB else decide ((v.length:Int)=ZV_ f) && !h && vals.any fun y=>decide (xi_ v=y):=by unfold Y4_;simp
   rw [e]
   cases h<;>by_cases h2:vals.length=0<;>by_cases h3:(v.length:Int)=ZV_ f
   all_goals repeat'(intro t ht;first|(cases t<;>first|(cases ht;done)|(try simp only[zh_]at ht;try(exfalso;first|contradiction|omega)))|((first|refine za_ ht ?_|refine ht ?_ ?_|refine ht.1 ?_ ?_|refine ht ?_)<;>clear ht))
   all_goals first
    | exact True.intro
    | (refine ⟨congrArg AV.bool ?_,rfl⟩;simp_all;done)
    | (exfalso;simp_all;done)
  ·have e:Y4_ nd vals c f h v=false:=by unfold Y4_;by_cases h2:c=32768<;>by_cases h3:f=nd<;>simp_all
   rw [e]
   cases h<;>by_cases h2:c=32768<;>by_cases h3:f=nd
   all_goals repeat'(intro t ht;first|(cases t<;>first|(cases ht;done)|(try simp only[zh_]at ht;try(exfalso;first|contradiction|omega)))|((first|refine za_ ht ?_|refine ht ?_ ?_|refine ht.1 ?_ ?_|refine ht ?_)<;>clear ht))
   all_goals first
    | exact True.intro
    | exact ⟨rfl,rfl⟩
    | (exfalso;omega)
    | (exfalso;simp_all;done)
 ·cases e
def yw_:IR:=
(sq (kr [0,1] [oD 2 (.boxv 0),
oD 3 (.mov cF)])
(sq (.reg [oK 4 6 2,
oK 5 5 1,
oC 6 27 [4,5],
oM 3 6])
.ret))
def yd_:List RD:=[.tmp 3 true none]
theorem ym_:zl_ Try.prog Try.f26 yw_ yd_=true:=by kernel_rfl
def kV_:List AV->List Obj->Option (Prop × AV)
 | [.agg [.int .i64 c,.int .i64 f,.bool h,.int .u64 x,.imm (.int .u8) v,.imm (.int .u8) m],.ptr 0 0],[.box [.int .i64 bits,.int .i64 size,.bool mk,.int .i64 nd,.imm (.int .u64) vals]]=>some ((True,.bool (Y4_ nd vals c f h v)))
 | _,_=>none
theorem jJ_:zf_ Try.prog 26 (RoF kV_).sum:=by
 refine zo_ Try.func26 ym_ (zc_ (s:=RoF jy_) xO_ (ze_ _)) fun args objs p v e=>?_
 unfold kV_ at e
 split at e
 ·rename_i c f h x v m bits size mk nd vals
  cases e
  refine ⟨rfl,fun hw ho hp=>?_⟩
  change List Int at v
  change List Int at m
  change List Int at vals
  clear hw ho
  repeat'(intro t ht;first|(cases t<;>first|(cases ht;done)|(try simp only[zh_]at ht;try(exfalso;first|contradiction|omega)))|((first|refine za_ ht ?_|refine ht ?_ ?_|refine ht.1 ?_ ?_|refine ht ?_)<;>clear ht))
  all_goals first
   | exact True.intro
   | exact ⟨rfl,rfl⟩
 ·cases e
def xm_:IR:=
(sq (kr [0,1] [oD 2 (.boxv 0),
oD 3 (.mov cF)])
(sq (.reg [oK 4 6 2,
oK 5 6 1,
oC 6 24 [4,5],
oM 3 6])
.ret))
def xa_:List RD:=[.tmp 3 true none]
theorem xf_:zl_ Try.prog Try.f23 xm_ xa_=true:=by kernel_rfl
def Qo_:List AV->List Obj->Option (Prop × AV)
 | [.agg [.int .i64 c,.int .i64 f,.bool h,.int .u64 x,.imm (.int .u8) v,.imm (.int .u8) m],.ptr 0 0],[.box [.int .i64 c',.int .i64 f',.bool h',.int .u64 x',.imm (.int .u8) v',.imm (.int .u8) m']]=>some ((True,.bool (decide (c=c') && decide (f=f') && decide (x=x'))))
 | _,_=>none
theorem KK_:zf_ Try.prog 23 (RoF Qo_).sum:=by
 refine zo_ Try.func23 xf_ (zc_ (s:=RoF j5_) X9_ (ze_ _)) fun args objs p v e=>?_
 unfold Qo_ at e
 split at e
 ·rename_i c f h x v m c' f' h' x' v' m'
  cases e
  refine ⟨rfl,fun hw ho hp=>?_⟩
  change List Int at v
  change List Int at m
  change List Int at v'
  change List Int at m'
  clear hw ho
  repeat'(intro t ht;first|(cases t<;>first|(cases ht;done)|(try simp only[zh_]at ht;try(exfalso;first|contradiction|omega)))|((first|refine za_ ht ?_|refine ht ?_ ?_|refine ht.1 ?_ ?_|refine ht ?_)<;>clear ht))
  all_goals first
   | exact True.intro
   | exact ⟨rfl,rfl⟩
 ·cases e
def alO (x o:OV):Bool:=decide (x.1=o.1) && decide (x.2.1=o.2.1) && decide (x.2.2.2.1=o.2.2.2.1)
theorem bK_ {x o:OV} (h:(¬ x.1=o.1\/¬ x.2.1=o.2.1)\/¬ x.2.2.2.1=o.2.2.2.1):alO x o=false:=by
 unfold alO
 rcases h with (h | h) | h<;>simp [h]
theorem bJ_ {x o:OV} (h:(x.1=o.1/\x.2.1=o.2.1)/\x.2.2.2.1=o.2.2.2.1):alO x o=true:=by
 unfold alO;rw [h.1.1,h.1.2,h.2];simp
def mtO (n:Int) (vals:List Int) (o:OV):Bool:=Y4_ n vals o.1 o.2.1 o.2.2.1 o.2.2.2.2.1
def B8_ (o:OV):Prop:=o.2.2.2.2.1.length<=100000/\o.2.2.2.2.2.1.length<=100000
structure allLen (l:List OV):Prop where
 h:∀ o ∈ l,B8_ o
def qx_:IR:=
(sq (kr [0,1] [oD 4 (.mov (cI 0))])
(sq (sq (.reg [oM 6 0,
oE 7 6,
oD 8 (.mov (cI 0))])
(.block 0
(.loop
(sq (kr [0,1,7,8] [oB 9 .lss 8 7])
(sq (.cond 9
.skip
(.exit 0))
(sq (.block 1
(sq (.reg [oM 10 8,
oM 5 10])
(sq (kr [0,1,5,7,8] [oM 11 1,
oM 12 0,
oM 13 5,
oI 14 6 12 13,
oK 15 6 14,
oD 16 (.call false 11 [15])])
(.cond 16
(sq (kr [5] [oM 17 5,
oM 4 17])
.ret)
.skip))))
(kr [0,1,7,8] [oB 18 .add 8 (cI 1),
oM 8 18])))))))
(sq (kr [] [oD 4 (.mov (cI (-1)))])
.ret)))
def qq_:List RD:=[.tmp 4 true none]
theorem qt_:zl_ Try.prog Try.f46 qx_ qq_=true:=by kernel_rfl
def zJ_:List AV->List Obj->Option (Prop × AV)
 | [.imm (.cons (.int .i64) (.cons (.int .i64) (.cons .bool (.cons (.int .u64) (.cons (.sl (.int .u8)) (.cons (.sl (.int .u8)) .nil)))))) l,.fn 26 [] [.ptr 0 0]],[.box [.int .i64 bits,.int .i64 size,.bool mk,.int .i64 nd,.imm (.int .u64) vals]]=>some ((True,.int .i64 (jp_ (α:=OV) (mtO nd vals) l 0)))
 | [.imm (.cons (.int .i64) (.cons (.int .i64) (.cons .bool (.cons (.int .u64) (.cons (.sl (.int .u8)) (.cons (.sl (.int .u8)) .nil)))))) l,.fn 23 [] [.ptr 0 0]],[.box [.int .i64 c',.int .i64 f',.bool h',.int .u64 x',.imm (.int .u8) v',.imm (.int .u8) m']]=>some ((True,.int .i64 (jp_ (α:=OV) (fun x=>alO x (c',f',h',x',v',m',())) l 0)))
 | _,_=>none
theorem qj_:zf_ Try.prog 46 (RoF zJ_).sum:=by
 refine zo_ Try.func46 qt_ (zc_ (s:=RoF Qo_) KK_ (zc_ (s:=RoF kV_) jJ_ (ze_ _))) fun args objs p v e=>?_
 unfold zJ_ at e
 split at e
 ·rename_i l bits size mk nd vals
  cases e
  refine ⟨rfl,fun hw ho hp=>?_⟩
  change List Int at vals
  change List OV at l
  have hl:l.length<=maxLen:=(hw (.imm Y1 l) (by simp)).2
  unfold maxLen at hl
  clear hw ho
  repeat'(intro t ht;first|(cases t<;>first|(cases ht;done)|(try simp only[zh_]at ht))|((first|refine za_ ht ?_|refine ht ?_ ?_|refine ht.1 ?_ ?_|refine ht ?_)<;>clear ht))
  all_goals first
   | (intro r h1 h2;clear h1;refine h2 ⟨[0,1,7,8],Nat,(fun i=>i<=l.length/\jp_ (mtO nd vals) l 0=jp_ (mtO nd vals) (l.drop i) i),fun i=>[.imm Y1 l,.fn 26 [] [.ptr 0 0],.int .i64 l.length,.int .i64 i],fun _=>[.box [.int .i64 bits,.int .i64 size,.bool mk,.int .i64 nd,.imm (.int .u64) vals]],fun i=>l.length - i,⟨0,⟨Nat.zero_le _,rfl⟩,rfl,rfl⟩,?_⟩;clear h2)
  rintro i ⟨hi,he⟩
  repeat'(intro t ht;first|(cases t<;>first|(cases ht;done)|(try simp only[zh_]at ht;try(exfalso;first|contradiction|omega)))|((first|refine za_ ht ?_|refine ht ?_ ?_|refine ht.1 ?_ ?_|refine ht ?_)<;>clear ht))
  all_goals (try generalize (Ty.dflt Y1)=od at*)
  all_goals first
   | exact True.intro
   | ((try simp only [z0_,z1_,zi_] at*);omega)
   | (refine ⟨?_,rfl⟩;rw [he,wD_ (by omega)];done)
   | (refine ⟨?_,rfl⟩;rw [he,xA_ (d:=od) (by omega) (by assumption)];done)
   | exact ⟨i+1,⟨by omega,he.trans (xz_ (d:=od) (by omega) (by assumption))⟩,by dsimp only;omega,rfl,rfl⟩
 ·rename_i l c' f' h' x' v' m'
  cases e
  refine ⟨rfl,fun hw ho hp=>?_⟩
  change List Int at v'
  change List Int at m'
  change List OV at l
  have hl:l.length<=maxLen:=(hw (.imm Y1 l) (by simp)).2
  unfold maxLen at hl
  clear hw ho
  repeat'(intro t ht;first|(cases t<;>first|(cases ht;done)|(try simp only[zh_]at ht))|((first|refine za_ ht ?_|refine ht ?_ ?_|refine ht.1 ?_ ?_|refine ht ?_)<;>clear ht))
  all_goals first
   | (intro r h1 h2;clear h1;refine h2 ⟨[0,1,7,8],Nat,(fun i=>i<=l.length/\jp_ (fun x=>alO x (c',f',h',x',v',m',())) l 0=jp_ (fun x=>alO x (c',f',h',x',v',m',())) (l.drop i) i),fun i=>[.imm Y1 l,.fn 23 [] [.ptr 0 0],.int .i64 l.length,.int .i64 i],fun _=>[.box [.int .i64 c',.int .i64 f',.bool h',.int .u64 x',.imm (.int .u8) v',.imm (.int .u8) m']],fun i=>l.length - i,⟨0,⟨Nat.zero_le _,rfl⟩,rfl,rfl⟩,?_⟩;clear h2)
  rintro i ⟨hi,he⟩
  repeat'(intro t ht;first|(cases t<;>first|(cases ht;done)|(try simp only[zh_]at ht;try(exfalso;first|contradiction|omega)))|((first|refine za_ ht ?_|refine ht ?_ ?_|refine ht.1 ?_ ?_|refine ht ?_)<;>clear ht))
  all_goals (try generalize (Ty.dflt Y1)=od at*)
  all_goals first
   | exact True.intro
   | ((try simp only [z0_,z1_,zi_] at*);omega)
   | (refine ⟨?_,rfl⟩;rw [he,wD_ (by omega)];done)
   | (refine ⟨?_,rfl⟩;rw [he,xA_ (p:=fun x=>alO x (c',f',h',x',v',m',())) (d:=od) (by omega) (bJ_ ht)];done)
   | exact ⟨i+1,⟨by omega,he.trans (xz_ (p:=fun x=>alO x (c',f',h',x',v',m',())) (d:=od) (by omega) (bK_ ht))⟩,by dsimp only;omega,rfl,rfl⟩
 ·cases e
def Z8_:IR:=
(sq (kr [0,1] [oD 4 (.mov cF)])
(sq (kr [0,1] [oM 5 0,
oM 6 1,
oC 7 46 [5,6],
oB 8 .geq 7 (cI 0),
oM 4 8])
.ret))
def Z3_:List RD:=[.tmp 4 true none]
theorem Z6_:zl_ Try.prog Try.f22 Z8_ Z3_=true:=by kernel_rfl
def zm_:List AV->List Obj->Option (Prop × AV)
 | [.imm (.cons (.int .i64) (.cons (.int .i64) (.cons .bool (.cons (.int .u64) (.cons (.sl (.int .u8)) (.cons (.sl (.int .u8)) .nil)))))) l,.fn 26 [] [.ptr 0 0]],[.box [.int .i64 bits,.int .i64 size,.bool mk,.int .i64 nd,.imm (.int .u64) vals]]=>some ((True,.bool ((l:List OV).any (mtO nd vals))))
 | [.imm (.cons (.int .i64) (.cons (.int .i64) (.cons .bool (.cons (.int .u64) (.cons (.sl (.int .u8)) (.cons (.sl (.int .u8)) .nil)))))) l,.fn 23 [] [.ptr 0 0]],[.box [.int .i64 c',.int .i64 f',.bool h',.int .u64 x',.imm (.int .u8) v',.imm (.int .u8) m']]=>some ((True,.bool ((l:List OV).any (fun x=>alO x (c',f',h',x',v',m',())))))
 | _,_=>none
theorem z5_:zf_ Try.prog 22 (RoF zm_).sum:=by
 refine zo_ Try.func22 Z6_ (zc_ (s:=RoF zJ_) qj_ (ze_ _)) fun args objs p v e=>?_
 unfold zm_ at e
 split at e
 ·rename_i l bits size mk nd vals
  cases e
  refine ⟨rfl,fun hw ho hp=>?_⟩
  change List Int at vals
  have h:=jT_ (p:=mtO nd vals) l 0 (Int.le_refl _)
  repeat'(intro t ht;first|(cases t<;>first|(cases ht;done)|(try simp only[zh_]at ht;try(exfalso;first|contradiction|omega)))|((first|refine za_ ht ?_|refine ht ?_ ?_|refine ht.1 ?_ ?_|refine ht ?_)<;>clear ht))
  all_goals first
   | exact True.intro
   | exact ⟨congrArg AV.bool h,rfl⟩
 ·rename_i l c' f' h' x' v' m'
  cases e
  refine ⟨rfl,fun hw ho hp=>?_⟩
  change List Int at v'
  change List Int at m'
  have h:=jT_ (p:=fun x=>alO x (c',f',h',x',v',m',())) l 0 (Int.le_refl _)
  repeat'(intro t ht;first|(cases t<;>first|(cases ht;done)|(try simp only[zh_]at ht;try(exfalso;first|contradiction|omega)))|((first|refine za_ ht ?_|refine ht ?_ ?_|refine ht.1 ?_ ?_|refine ht ?_)<;>clear ht))
  all_goals first
   | exact True.intro
   | exact ⟨congrArg AV.bool h,rfl⟩
 ·cases e
theorem at2 (n:Int):zr_ n 2=[n.fdiv 256 % 256,n % 256]:=by
 have e:zr_ n 2=[(n.fdiv (2 ^ 8)) % 256,(n.fdiv (2 ^ 0)) % 256]:=rfl
 rw [e,show (2:Int) ^ 8=256 from rfl,Int.pow_zero,Int.fdiv_one]
theorem B7_ {n:Int} (h:0<=n/\n<=65535):Ju_ (zr_ n 2)=n:=by
 rw [at2,Int.fdiv_eq_ediv_of_nonneg _ (by decide)]
 show (0*256+n / 256 % 256)*256+n % 256=n
 omega
def hI (h:Bool):Int:=if h=true then 1 else 0
theorem mid {p v r:List Int} {A S:Int} (hA:A=p.length) (hS:S=v.length):((p++(v++r)).take (A+S).toNat).drop A.toNat=v:=by
 subst hA hS
 rw [show ((p.length:Int)+v.length).toNat=p.length+v.length by omega,Int.toNat_natCast,<- List.append_assoc,<- List.length_append,List.take_left,List.drop_left]
theorem VQ_ {n:Int} {k j:Nat} (h:j < k) (hk:k<=7):KF_ n ((k+1:Nat):Int) j=KF_ (n / 256) k j:=by
 unfold KF_
 have e:min (8*(((k+1:Nat):Int) - 1 - j)).toNat 64=8+8*(k - 1 - j):=by omega
 have e':min (8*((k:Int) - 1 - j)).toNat 64=8*(k - 1 - j):=by omega
 have hp:∀ m:Nat,(0:Int)<=2 ^ m:=fun m=>Int.le_of_lt (Int.pow_pos (by decide))
 rw [e,e',Int.fdiv_eq_ediv_of_nonneg _ (hp _),Int.fdiv_eq_ediv_of_nonneg _ (hp _),Int.pow_add,<- Int.ediv_ediv_of_nonneg (hp 8)]
 rfl
theorem VO_ {n:Int} {k:Nat} (hk:k<=7):zr_ n ((k+1:Nat):Int)=zr_ (n / 256) k++[n % 256]:=by
 unfold zr_ XP_
 rw [Int.toNat_natCast,Int.toNat_natCast,List.range_succ,List.map_append]
 congr 1
 ·apply List.map_congr_left
  intro j hj
  exact VQ_ (List.mem_range.1 hj) hk
 ·show [KF_ n ((k+1:Nat):Int) k]=_
  unfold KF_
  have e:min (8*(((k+1:Nat):Int) - 1 - k)).toNat 64=0:=by omega
  rw [e,Int.pow_zero,Int.fdiv_one]
theorem WY_:∀ (k:Nat) (b:List Int),k<=8->b.length=k->(∀ x ∈ b,0<=x/\x<=255)->zr_ (Ju_ b) k=b
 | 0,b,_,hl,_=>by
   have:b=[]:=List.eq_nil_of_length_eq_zero hl
   subst this;rfl
 | k+1,b,hk,hl,hb=>by
   rcases List.eq_nil_or_concat b with rfl | ⟨l,c,rfl⟩
   ·cases hl
   ·rw [List.concat_eq_append] at hl hb ⊢
    have hc:=hb c (by simp)
    have hl':l.length=k:=by simpa using hl
    rw [yX_,VO_ (by omega)]
    rw [show (Ju_ l*256+c) / 256=Ju_ l by omega,show (Ju_ l*256+c) % 256=c by omega,WY_ k l (by omega) hl' fun x hx=>hb x (by simp [hx])]
theorem QW_ {α:Type} {p:α->Bool} {l:List α} {i:Nat} {d:α} (h:i < l.length) (ht:(l.take i).any p=false) (hd:p (l.getD i d)=false):(l.take (i+1)).any p=false:=by
 rw [List.take_succ_eq_append_getElem h,List.any_append,ht,Bool.false_or,List.any_cons,List.any_nil,Bool.or_false]
 rwa [List.getD_eq_getElem?_getD,List.getElem?_eq_getElem h] at hd
theorem wO_ {α:Type} {p:α->Bool} {l:List α} {i:Nat} (h:l.length<=i) (ht:(l.take i).any p=false):l.any p=false:=by
 rwa [List.take_of_length_le h] at ht
theorem wN_ {α:Type} {p:α->Bool} {l:List α} {i:Nat} {d:α} (h:i < l.length) (hd:p (l.getD i d)=true):l.any p=true:=
 List.any_eq_true.2 ⟨_,ZM_ h d,hd⟩
theorem gY_ {α:Type} {f:α->Bool} {l:List α} {i:Nat} {d:α} (h:i < l.length) (ht:(l.take i).all f=true) (hd:f (l.getD i d)=true):(l.take (i+1)).all f=true:=by
 rw [List.take_succ_eq_append_getElem h,List.all_append,ht,Bool.true_and,List.all_cons,List.all_nil,Bool.and_true]
 rwa [List.getD_eq_getElem?_getD,List.getElem?_eq_getElem h] at hd
theorem Ha_ {α:Type} {f:α->Bool} {l:List α} {i:Nat} (h:l.length<=i) (ht:(l.take i).all f=true):l.all f=true:=by
 rwa [List.take_of_length_le h] at ht
theorem h9_ {α:Type} {f:α->Bool} {l:List α} {i:Nat} {d:α} (h:i < l.length) (hd:f (l.getD i d)=false):l.all f=false:=by
 rw [List.all_eq_false]
 exact ⟨l.getD i d,ZM_ h d,by rw [hd];decide⟩
def Jv_ (c f:Int):Bool:=decide (c ≠ 32768) || !fIs f || decide (zz_ f < 0)
def Qy_ (l:List OV) (c f:Int):Bool:=if Jv_ c f=true then true else l.any (mtO (zz_ f) (zY_ f))
def Vo_:IR:=
(sq (kr [0,1] [oD 3 (.boxv 1),
oD 4 (.mov cF)])
(sq (kr [0,3] [oA 8 1 3,
oL 9 8,
oC 10 18 [9],
oM 7 10,
oX 11 7 0,
oX 12 7 1,
oD 5 (.box [.int .i64 0,.int .i64 0,.kb false,.int .i64 0,.imm (.int .u64) []]),
oS 5 5 11,
oM 6 12])
(sq (sq (kr [0,3,5,6] [oA 13 0 3,
oL 14 13,
oB 15 .neq 14 (cI 32768),
oM 16 15,
oF 16 17 (.mov 6),
oF 16 18 (.un .not 17),
oP 19 16 cT 18,
oM 20 19,
oF 20 21 (.fieldAddr 3 5),
oF 20 22 (.load none 21),
oF 20 23 (.bin .lss 22 (cI 0)),
oP 24 20 cT 23])
(.cond 24
(sq (kr [] [oD 4 (.mov cT)])
.ret)
.skip))
(sq (kr [0,5] [oM 25 0,
oD 26 (.mkfn 26 [] [5]),
oC 27 22 [25,26],
oM 4 27])
.ret))))
def vN_:List RD:=[.tmp 4 true none]
theorem v0_:zl_ Try.prog Try.f10 Vo_ vN_=true:=by kernel_rfl
def Kc_:List AV->List Obj->Option (Prop × AV)
 | [.imm (.cons (.int .i64) (.cons (.int .i64) (.cons .bool (.cons (.int .u64) (.cons (.sl (.int .u8)) (.cons (.sl (.int .u8)) .nil)))))) l,.agg [.int .i64 c,.int .i64 f,.bool h,.int .u64 x,.imm (.int .u8) v,.imm (.int .u8) m]],[]=>some ((True,.bool (Qy_ l c f)))
 | _,_=>none
theorem K6_:zf_ Try.prog 10 (RoF Kc_).sum:=by
 refine zo_ Try.func10 v0_ (zc_ (s:=RoF Kg_) K9_ (zc_ (s:=RoF kV_) jJ_ (zc_ (s:=RoF zm_) z5_ (ze_ _)))) fun args objs p v e=>?_
 unfold Kc_ at e
 split at e
 ·rename_i l c f h x v m
  cases e
  refine ⟨rfl,fun hw ho hp=>?_⟩
  change List Int at v
  change List Int at m
  change List OV at l
  clear hw ho
  cases hn:Jv_ c f with
  | true=>
    have e:Qy_ l c f=true:=by unfold Qy_;rw [if_pos hn]
    rw [e]
    repeat'(intro t ht;first|(cases t<;>first|(cases ht;done)|(try simp only[zh_]at ht;try(exfalso;first|contradiction|omega)))|((first|refine za_ ht ?_|refine ht ?_ ?_|refine ht.1 ?_ ?_|refine ht ?_)<;>clear ht))
    all_goals first
     | exact True.intro
     | exact ⟨rfl,rfl⟩
     | (exfalso;unfold Jv_ at hn;simp_all;done)
     | (exfalso;unfold Jv_ at hn;simp_all;omega)
  | false=>
    have e:Qy_ l c f=l.any (mtO (zz_ f) (zY_ f)):=by unfold Qy_;rw [hn];rfl
    rw [e]
    repeat'(intro t ht;first|(cases t<;>first|(cases ht;done)|(try simp only[zh_]at ht;try(exfalso;first|contradiction|omega)))|((first|refine za_ ht ?_|refine ht ?_ ?_|refine ht.1 ?_ ?_|refine ht ?_)<;>clear ht))
    all_goals first
     | exact True.intro
     | exact ⟨rfl,rfl⟩
     | (exfalso;unfold Jv_ at hn;simp_all;done)
     | (exfalso;unfold Jv_ at hn;simp_all;omega)
 ·cases e
def ckS:List OV->List OV->Int × Int
 | _,[]=>(0,0)
 | pre,o :: r=>if pre.any (fun x=>alO x o)=true then (((pre.length:Nat):Int),1035) else if Qy_ pre o.1 o.2.1=true then ckS (pre++[o]) r else (((pre.length:Nat):Int),1034)
theorem UO_ {l:List OV} {i:Nat} (h:l.length<=i):ckS (l.take i) (l.drop i)=(0,0):=by
 rw [List.drop_of_length_le h];unfold ckS;rfl
theorem Hq_ {α:Type} {b:List α} {k j:Nat} {d:α} (h:j < k):(b.take k).getD j d=b.getD j d:=by
 rw [List.getD_eq_getElem?_getD,List.getD_eq_getElem?_getD,List.getElem?_take,if_pos h]
theorem k4_ {α:Type} {l:List α} {i:Nat} (h:i<=l.length):(l.take i).length=i:=by rw [List.length_take];omega
theorem UN_ {l:List OV} {i:Nat} {d:OV} (h:i < l.length) (hk:(l.take i).any (fun x=>alO x (l.getD i d))=true):ckS (l.take i) (l.drop i)=(((i:Nat):Int),1035):=by
 rw [QS_ h d];unfold ckS;rw [if_pos hk,k4_ (by omega)]
theorem VL_ {l:List OV} {i:Nat} {d:OV} (h:i < l.length) (hk:(l.take i).any (fun x=>alO x (l.getD i d))=false) (hm:Qy_ (l.take i) (l.getD i d).1 (l.getD i d).2.1=false):ckS (l.take i) (l.drop i)=(((i:Nat):Int),1034):=by
 rw [QS_ h d];unfold ckS;rw [if_neg (by rw [hk];decide),if_neg (by rw [hm];decide),k4_ (by omega)]
theorem hP_ {l:List OV} {i:Nat} {d:OV} (h:i < l.length) (hk:(l.take i).any (fun x=>alO x (l.getD i d))=false) (hm:Qy_ (l.take i) (l.getD i d).1 (l.getD i d).2.1=true):ckS (l.take i) (l.drop i)=ckS (l.take (i+1)) (l.drop (i+1)):=by
 have e:l.take (i+1)=l.take i++[l.getD i d]:=by
  rw [List.take_succ_eq_append_getElem h,List.getD_eq_getElem?_getD,List.getElem?_eq_getElem h];rfl
 rw [e,QS_ h d]
 conv=>lhs;unfold ckS
 rw [if_neg (by rw [hk];decide),if_pos hm]
def yx_:IR:=
(sq (kr [0] [oD 2 (.mov (cI 0)),
oD 3 (.mov (cI 0))])
(.scope
(sq (.reg [oD 4 (.mov (cI 0)),
oD 5 (.mov (cI 0))])
(sq .skip
(sq (sq (.reg [oM 8 0,
oE 9 8,
oD 10 (.mov (cI 0))])
(.block 0
(.loop
(sq (kr [0,4,5,8,9,10] [oB 11 .lss 10 9])
(sq (.cond 11
.skip
(.exit 0))
(sq (.block 1
(sq (kr [0,4,5,8,9,10] [oM 12 10,
oI 13 6 8 10,
oK 14 6 13,
oD 7 (.box [.int .i64 0,.int .i64 0,.kb false,.int .u64 0,.imm (.int .u8) [],.imm (.int .u8) []]),
oM 6 12,
oS 6 7 14])
(.block 2
(sq (kr [0,4,5,6,7,8,9,10] [oM 16 0,
oM 17 6,
oD 18 (.slice 6 16 none (some 17) none),
oD 19 (.mkfn 23 [] [7]),
oC 20 22 [18,19],
oM 15 20])
(.cond 15
(sq (kr [6] [oM 21 6,
oM 4 21,
oD 5 (.mov (cI 1035))])
(.exit 0))
(sq (kd [0,4,5,6,7,8,9,10] [(oM 23 0,[]),
(oM 24 6,[0]),
(oD 25 (.slice 6 23 none (some 24) none),[]),
(oK 26 6 7,[0,0,0]),
(oC 27 10 [25,26],[]),
(oD 28 (.un .not 27),[]),
(oM 22 28,[])])
(.cond 22
(sq (kr [6] [oM 29 6,
oM 4 29,
oD 5 (.mov (cI 1034))])
(.exit 0))
.skip)))))))
(kr [0,4,5,8,9,10] [oB 30 .add 10 (cI 1),
oM 10 30])))))))
(sq (kr [4,5] [oM 31 4,
oM 32 5,
oM 2 31,
oM 3 32])
.ret))))))
def ye_:List RD:=[.tmp 2 true none,.tmp 3 true none]
theorem yn_:zl_ Try.prog Try.f8 yx_ ye_=true:=by kernel_rfl
def qf_:List AV->List Obj->Option (Prop × AV)
 | [.imm (.cons (.int .i64) (.cons (.int .i64) (.cons .bool (.cons (.int .u64) (.cons (.sl (.int .u8)) (.cons (.sl (.int .u8)) .nil)))))) l],[]=>some ((True,.tup [.int .i64 (ckS [] l).1,.int .i64 (ckS [] l).2]))
 | _,_=>none
theorem q5_:zf_ Try.prog 8 (RoF qf_).sum:=by
 refine zo_ Try.func8 yn_ (zc_ (s:=RoF Qo_) KK_ (zc_ (s:=RoF zm_) z5_ (zc_ (s:=RoF Kc_) K6_ (ze_ _)))) fun args objs p v e=>?_
 unfold qf_ at e
 split at e
 ·rename_i l
  cases e
  refine ⟨rfl,fun hw ho hp=>?_⟩
  change List OV at l
  have hl:l.length<=maxLen:=(hw (.imm Y1 l) (by simp)).2
  unfold maxLen at hl
  clear hw ho
  repeat'(intro t ht;first|(cases t<;>first|(cases ht;done)|(try simp only[zh_]at ht))|((first|refine za_ ht ?_|refine ht ?_ ?_|refine ht.1 ?_ ?_|refine ht ?_)<;>clear ht))
  all_goals first
   | (intro r h1 h2;clear h1;refine h2 ⟨[0,4,5,8,9,10],Nat,(fun i=>i<=l.length/\ckS [] l=ckS (l.take i) (l.drop i)),fun i=>[.imm Y1 l,.int .i64 0,.int .i64 0,.imm Y1 l,.int .i64 l.length,.int .i64 i],fun _=>[],fun i=>l.length - i,⟨0,⟨Nat.zero_le _,rfl⟩,rfl,rfl⟩,?_⟩;clear h2)
  rintro i ⟨hi,he⟩
  repeat'(intro t ht;first|(cases t<;>first|(cases ht;done)|(try simp only[zh_]at ht;try(exfalso;first|contradiction|omega)))|((first|refine za_ ht ?_|refine ht ?_ ?_|refine ht.1 ?_ ?_|refine ht ?_)<;>clear ht))
  all_goals (try generalize (Ty.dflt Y1)=od at*)
  all_goals first
   | exact True.intro
   | ((try simp only [z0_,z1_,zi_] at*);omega)
   | (rw [he,UO_ (by omega)];exact ⟨rfl,rfl⟩)
   | (have hk:(l.take i).any (fun x=>alO x (l.getD i od))=true:=by assumption
      rw [he,UN_ (by omega) hk];exact ⟨rfl,rfl⟩)
   | (have hk:(l.take i).any (fun x=>alO x (l.getD i od))=false:=by assumption
      first
       | (have hm:Qy_ (l.take i) (l.getD i od).1 (l.getD i od).2.1=false:=by assumption
          rw [he,VL_ (by omega) hk hm];exact ⟨rfl,rfl⟩)
       | (have hm:Qy_ (l.take i) (l.getD i od).1 (l.getD i od).2.1=true:=by assumption
          exact ⟨i+1,⟨by omega,he.trans (hP_ (by omega) hk hm)⟩,by dsimp only;omega,rfl,rfl⟩))
 ·cases e
def mrV (nd:Int) (vals:List Int) (c f:Int) (h:Bool) (v:List Int):Bool:=decide (c=32768) && decide (f=nd) && (if vals.length=0 then v.any nzB else vals.any fun y=>!h && decide (v=zr_ y (Zf_ nd)))
def mrO (nd:Int) (vals:List Int) (o:OV):Bool:=mrV nd vals o.1 o.2.1 o.2.2.1 o.2.2.2.2.1
theorem G0_ {nd:Int} {vals:List Int} {o:OV} (hv:vals.length=0) (h1:o.1=32768) (h2:o.2.1=nd):mrO nd vals o=o.2.2.2.2.1.any nzB:=by
 unfold mrO mrV;rw [if_pos hv,h1,h2];simp
theorem HZ_ {nd S:Int} {vals:List Int} {o:OV} (hv:¬ vals.length=0) (h1:o.1=32768) (h2:o.2.1=nd) (hS:Zf_ nd=S):mrO nd vals o=vals.any fun y=>!o.2.2.1 && decide (o.2.2.2.2.1=zr_ y S):=by
 unfold mrO mrV;rw [if_neg hv,h1,h2,hS];simp
theorem B6_ {v:List Int} {k:Nat} (h:v.getD k 0=0):nzB (v.getD k 0)=false:=by unfold nzB;rw [h];rfl
theorem B5_ {v:List Int} {k:Nat} (h:¬ v.getD k 0=0):nzB (v.getD k 0)=true:=decide_eq_true h
theorem Ux_ {v:List Int} (hb:∀ x ∈ v,0<=x/\x<=255) (h:v.length<=8):xi_ v=Ju_ v:=by
 have key:∀ i,i<=v.length->xi_ (v.take i)=Y0_ v i:=by
  intro i
  induction i with
  | zero=>intro _;rfl
  | succ i ih=>
    intro hi
    have hk:=hb _ (ZM_ (α:=Int) (show i < v.length by omega) 0)
    have hn:=HR_ hb i (by omega)
    have e8:(2:Int) ^ min (Int.toNat 8) IntKind.u64.bits=256:=by decide
    rw [yW_ (by omega),gq_ (by omega),ih (by omega),e8,K1_ ⟨by rw [wu_];omega,by rw [xw_];omega⟩,K1_ ⟨by rw [wu_];omega,by rw [xw_];omega⟩]
    exact HM_ hn.1 (by omega) hk.1 hk.2
 have:=key v.length (Nat.le_refl _)
 rwa [List.take_length,GM_ (Nat.le_refl _)] at this
def bu_ (k:Nat):Bool:=decide ((zY_ (k:Nat)).length=0) || ((zY_ (k:Nat)).all fun y=>decide (0<=y) && decide (y<=65535) && (decide (Zf_ (zz_ (k:Nat))=2) || (decide (Zf_ (zz_ (k:Nat))=1) && decide (y<=255))))
theorem BF_:∀ k < 40,zz_ (k:Nat)=z9_ (k:Nat)/\zY_ (k:Nat)=qP_ (k:Nat)/\bu_ k=true:=by decide+kernel
theorem BN_ (f:Int):zz_ f=z9_ f/\zY_ f=qP_ f/\∀ y ∈ zY_ f,0<=y/\y<=65535/\(Zf_ (zz_ f)=2\/(Zf_ (zz_ f)=1/\y<=255)):=by
 cases h:fIs f with
 | true=>
   have hn:=Qj_.1 h
   have:=BF_ f.toNat (by omega)
   unfold bu_ at this
   rw [Int.toNat_of_nonneg hn.1] at this
   refine ⟨this.1,this.2.1,fun y hy=>?_⟩
   have h3:=this.2.2
   rw [Bool.or_eq_true] at h3
   rcases h3 with h3 | h3
   ·have:zY_ f=[]:=List.eq_nil_of_length_eq_zero (of_decide_eq_true h3)
    rw [this] at hy;cases hy
   ·have:=List.all_eq_true.1 h3 y hy
    simp only [Bool.and_eq_true,Bool.or_eq_true,decide_eq_true_eq] at this
    exact ⟨this.1.1,this.1.2,this.2⟩
 | false=>
   unfold zz_ zY_ z9_ qP_;rw [h];exact ⟨rfl,rfl,fun y hy=>by cases hy⟩
theorem bO_ {v:List Int} {y z:Int} (hb:∀ x ∈ v,0<=x/\x<=255) (hy:0<=y/\y<=65535/\(z=2\/(z=1/\y<=255))):decide (v=zr_ y z)=(decide ((v.length:Int)=z) && decide (xi_ v=y)):=by
 rw [Bool.eq_iff_iff]
 simp only [Bool.and_eq_true,decide_eq_true_eq]
 obtain ⟨h1,h2,h3⟩:=hy
 have hn:Ju_ (zr_ y z)=y:=by
  rcases h3 with rfl | ⟨rfl,h3⟩
  ·exact B7_ ⟨h1,h2⟩
  ·rw [BX_ ⟨h1,h3⟩];show 0*256+y=y;omega
 have hz:(zr_ y z).length=z:=uV_ (by omega)
 constructor
 ·intro e
  have hl:(v.length:Int)=z:=by rw [e];exact hz
  exact ⟨hl,by rw [Ux_ hb (by omega),e];exact hn⟩
 ·rintro ⟨e1,e2⟩
  rw [Ux_ hb (by omega)] at e2
  have:=WY_ v.length v (by omega) rfl hb
  rw [e2,e1] at this;exact this.symm
theorem H1_ {k:Int} {o:OV} (hb:∀ x ∈ o.2.2.2.2.1,0<=x/\x<=255):mrO (zz_ k) (zY_ k) o=mtO (zz_ k) (zY_ k) o:=by
 obtain ⟨_,_,h3⟩:=BN_ k
 have hs:ZV_ (zz_ k)=Zf_ (zz_ k):=(law8 (zz_ k)).2.1
 unfold mrO mtO mrV Y4_
 congr 1
 by_cases hv:(zY_ k).length=0
 ·rw [if_pos hv,if_pos hv]
 ·rw [if_neg hv,if_neg hv,hs]
  have:∀ l:List Int,(∀ y ∈ l,0<=y/\y<=65535/\(Zf_ (zz_ k)=2\/(Zf_ (zz_ k)=1/\y<=255)))->(l.any fun y=>!o.2.2.1 && decide (o.2.2.2.2.1=zr_ y (Zf_ (zz_ k))))=(decide ((o.2.2.2.2.1.length:Int)=Zf_ (zz_ k)) && !o.2.2.1 && l.any fun y=>decide (xi_ o.2.2.2.2.1=y)):=by
   intro l
   induction l with
   | nil=>intro _;simp
   | cons y l ih=>
     intro h
     rw [List.any_cons,List.any_cons,ih fun y hy=>h y (List.mem_cons_of_mem _ hy),bO_ hb (h y (List.mem_cons_self ..))]
     cases o.2.2.1<;>cases decide ((o.2.2.2.2.1.length:Int)=Zf_ (zz_ k))<;>cases decide (xi_ o.2.2.2.2.1=y)<;>simp
  exact this _ h3
def bysO (o:OV):Prop:=0<=o.2.2.2.1/\(∀ x ∈ o.2.2.2.2.1,0<=x/\x<=255)/\(∀ x ∈ o.2.2.2.2.2.1,0<=x/\x<=255)
theorem b6_ {l:List OV} (h:Ty.wf (.sl Y1) l):∀ o ∈ l,bysO o:=fun o ho=>by
 obtain ⟨h1,h2,h3,h4,h5,h6,_⟩:=h.1 o ho
 refine ⟨?_,fun x hx=>?_,fun x hx=>?_⟩
 ·unfold Ty.wf inK at h4;rw [wu_] at h4;exact h4.1
 ·have:=h5.1 x hx;unfold Ty.wf inK at this;rw [G7_,hb_] at this;exact this
 ·have:=h6.1 x hx;unfold Ty.wf inK at this;rw [G7_,hb_] at this;exact this
def uC_:IR:=
(sq (kr [0,1] [oD 3 (.boxv 1),
oD 4 (.mov cF)])
(sq (kr [0,3] [oA 14 1 3,
oL 15 14,
oC 16 28 [15],
oM 13 16,
oX 17 13 0,
oX 18 13 1,
oD 5 (.box [.str [],.int .i64 0,.int .i64 0,.kb false,.int .i64 0,.imm (.int .u64) []]),
oS 6 5 17,
oM 6 18])
(sq (sq (kr [0,3,5,6] [oA 19 0 3,
oL 20 19,
oB 21 .neq 20 (cI 32768),
oM 22 21,
oF 22 23 (.mov 6),
oF 22 24 (.un .not 23),
oP 25 22 cT 24,
oM 26 25,
oF 26 27 (.fieldAddr 4 5),
oF 26 28 (.load none 27),
oF 26 29 (.bin .lss 28 (cI 0)),
oP 30 26 cT 29])
(.cond 30
(sq (kr [] [oD 4 (.mov cT)])
.ret)
.skip))
(sq (kr [0,5] [oA 32 4 5,
oL 33 32,
oC 34 28 [33],
oM 31 34,
oX 35 31 0,
oX 36 31 1,
oD 7 (.box [.str [],.int .i64 0,.int .i64 0,.kb false,.int .i64 0,.imm (.int .u64) []]),
oS 6 7 35,
oM 8 36])
(sq (sq (kr [0,5,7] [oD 9 (.mov (cI 0))])
(.block 0
(.loop
(sq (sq (kr [0,5,7,9] [oM 37 9,
oM 38 0,
oE 39 38,
oB 40 .lss 37 39])
(.cond 40
.skip
(.exit 0)))
(sq (.block 1
(sq (kr [0,5,7,9] [oM 43 0,
oM 44 9,
oI 45 6 43 44,
oK 46 6 45,
oD 10 (.box [.int .i64 0,.int .i64 0,.kb false,.int .u64 0,.imm (.int .u8) [],.imm (.int .u8) []]),
oS 6 10 46])
(sq (sq (kr [0,5,7,9,10] [oA 47 0 10,
oL 48 47,
oB 49 .neq 48 (cI 32768),
oM 50 49,
oF 50 51 (.fieldAddr 1 10),
oF 50 52 (.load none 51),
oF 50 53 (.fieldAddr 4 5),
oF 50 54 (.load none 53),
oF 50 55 (.bin .neq 52 54),
oP 56 50 cT 55])
(.cond 56
(.exit 1)
.skip))
(sq (sq (kr [0,5,7,9,10] [oA 57 5 5,
oL 58 57,
oE 59 58,
oB 60 .eql 59 (cI 0)])
(.cond 60
(sq (sq (.reg [oD 11 (.mov (cI 0))])
(.block 2
(.loop
(sq (sq (kr [0,5,7,9,10,11] [oM 61 11,
oA 62 4 10,
oL 63 62,
oE 64 63,
oB 65 .lss 61 64])
(.cond 65
.skip
(.exit 2)))
(sq (.block 3
(sq (kr [0,5,7,9,10,11] [oA 68 4 10,
oL 69 68,
oM 70 11,
oI 71 1 69 70,
oL 72 71,
oB 73 .neq 72 (.c (.int .u8 0))])
(.cond 73
(sq (kr [] [oD 4 (.mov cT)])
.ret)
.skip)))
(kr [0,5,7,9,10,11] [oM 66 11,
oB 67 .add 66 (cI 1),
oM 11 67]))))))
(.exit 1))
.skip))
(sq (kr [0,5,7,9,10] [oD 12 (.mov (cI 0))])
(.block 4
(.loop
(sq (sq (kr [0,5,7,9,10,12] [oM 74 12,
oA 75 5 5,
oL 76 75,
oE 77 76,
oB 78 .lss 74 77])
(.cond 78
.skip
(.exit 4)))
(sq (.block 5
(sq (kd [0,5,7,9,10,12] [(oA 81 2 10,[]),
(oL 82 81,[]),
(oD 83 (.un .not 82),[]),
(oM 84 83,[]),
(oT 84 85 (.fieldAddr 4 10),[]),
(oT 84 86 (.load none 85),[]),
(oT 84 87 (.fieldAddr 5 5),[0,0]),
(oT 84 88 (.load none 87),[1,0]),
(oT 84 89 (.mov 12),[0,0,0,0]),
(oT 84 90 (.indexSl 1 88 89),[3,0]),
(oT 84 91 (.load none 90),[4,0]),
(oT 84 92 (.fieldAddr 2 7),[0,0,0,0,0,0,0]),
(oT 84 93 (.load none 92),[1,0,0,0,0,0,0]),
(oT 84 94 (.call false (.f 20) [91,93]),[7,0]),
(oT 84 95 (.call false (.f 29) [86,94]),[]),
(oP 96 84 95 cF,[])])
(.cond 96
(sq (kr [] [oD 4 (.mov cT)])
.ret)
.skip)))
(kr [0,5,7,9,10,12] [oM 79 12,
oB 80 .add 79 (cI 1),
oM 12 80]))))))))))
(kr [0,5,7,9] [oM 41 9,
oB 42 .add 41 (cI 1),
oM 9 42]))))))
(sq (kr [] [oD 4 (.mov cF)])
.ret))))))
def ue_:List RD:=[.tmp 4 true none]
theorem um_:zl_ Try.prog Try.f11 uC_ ue_=true:=by kernel_rfl
def Jk_:List AV->List Obj->Option (Prop × AV)
 | [.imm (.cons (.int .i64) (.cons (.int .i64) (.cons .bool (.cons (.int .u64) (.cons (.sl (.int .u8)) (.cons (.sl (.int .u8)) .nil)))))) l,.agg [.int .i64 c,.int .i64 f,.bool h,.int .u64 x,.imm (.int .u8) v,.imm (.int .u8) m]],[]=>some ((True,.bool (Qy_ l c f)))
 | _,_=>none
theorem WJ_:zf_ Try.prog 11 (RoF Jk_).sum:=by
 refine zo_ Try.func11 um_ (zc_ (s:=RoF wP_) xN_ (zc_ (s:=RwF Jm_) WL_ (zc_ (s:=RoF Kx_) Jz_ (ze_ _)))) fun args objs p v e=>?_
 unfold Jk_ at e
 split at e
 ·rename_i l c f h x v m
  cases e
  refine ⟨rfl,fun hw ho hp=>?_⟩
  change List Int at v
  change List Int at m
  change List OV at l
  have hl:l.length<=maxLen:=(hw (.imm Y1 l) (by simp)).2
  have hby:=b6_ (l:=l) (hw (.imm Y1 l) (by simp))
  unfold maxLen at hl
  have hvl:∀ o ∈ l,o.2.2.2.2.1.length<=9223372036854775807:=fun o ho=>by
   have:=((hw (.imm Y1 l) (by simp)).1 o ho).2.2.2.2.1.2
   unfold maxLen at this;exact this
  have hvs:(qP_ f).length<=10:=by
   cases h:fIs f with
   | true=>
     have hn:=Qj_.1 h
     have:∀ k < 40,(qP_ (k:Nat)).length<=10:=by decide+kernel
     have:=this f.toNat (by omega)
     rwa [Int.toNat_of_nonneg hn.1] at this
   | false=>unfold qP_;rw [h];exact Nat.zero_le _
  clear hw ho
  obtain ⟨w1,w2,w3⟩:=BN_ f
  have hsz:=Gh_ (z9_ f)
  have hlaw:∀ o ∈ l,mrO (z9_ f) (qP_ f) o=mtO (zz_ f) (zY_ f) o:=fun o ho=>by
   rw [<- w1,<- w2];exact H1_ (hby o ho).2.1
  have hany:l.any (mtO (zz_ f) (zY_ f))=l.any (mrO (z9_ f) (qP_ f)):=by
   rw [Bool.eq_iff_iff,List.any_eq_true,List.any_eq_true]
   constructor
   ·rintro ⟨o,ho,hk⟩;exact ⟨o,ho,(hlaw o ho).trans hk⟩
   ·rintro ⟨o,ho,hk⟩;exact ⟨o,ho,(hlaw o ho).symm.trans hk⟩
  cases hn:Jv_ c f with
  | true=>
    have e:Qy_ l c f=true:=by unfold Qy_;rw [if_pos hn]
    rw [e]
    repeat'(intro t ht;first|(cases t<;>first|(cases ht;done)|(try simp only[zh_]at ht;try(exfalso;first|contradiction|omega)))|((first|refine za_ ht ?_|refine ht ?_ ?_|refine ht.1 ?_ ?_|refine ht ?_)<;>clear ht))
    all_goals first
     | exact True.intro
     | exact ⟨rfl,rfl⟩
     | (exfalso;unfold Jv_ at hn;simp_all;done)
     | (exfalso;unfold Jv_ at hn;simp_all;omega)
  | false=>
    have e:Qy_ l c f=l.any (mrO (z9_ f) (qP_ f)):=by rw [<- hany];unfold Qy_;rw [hn];rfl
    rw [e]
    clear e hany
    have hn1:c=32768:=Classical.byContradiction fun h=>by unfold Jv_ at hn;simp [h] at hn
    have hn2:fIs f=true:=by cases hf:fIs f with | true=>rfl | false=>unfold Jv_ at hn;simp [hf] at hn
    have hn3:¬ z9_ f < 0:=fun h=>by rw [<- w1] at h;unfold Jv_ at hn;simp [h] at hn
    clear hn hlaw
    generalize hS:Zf_ (z9_ f)=S at*
    generalize hN:z9_ f=nd at*
    generalize hV:qP_ f=vals at*
    repeat'(intro t ht;first|(cases t<;>first|(cases ht;done)|(try simp only[zh_]at ht;try(exfalso;first|contradiction|omega)))|((first|refine za_ ht ?_|refine ht ?_ ?_|refine ht.1 ?_ ?_|refine ht ?_)<;>clear ht))
    all_goals first
     | exact True.intro
     | (intro r h1 h2;clear h1;refine h2 ⟨[0,5,7,9],Nat,(fun i=>i<=l.length/\(l.take i).any (mrO nd vals)=false),fun i=>[.imm Y1 l,.ptr 0 0,.ptr 1 0,.int .i64 i],fun _=>[.box [.str (KN_ f),.int .i64 (QD_ f),.int .i64 (Zf_ f),.bool (kG_ f),.int .i64 nd,.imm (.int .u64) vals],.box [.str (KN_ nd),.int .i64 (QD_ nd),.int .i64 S,.bool (kG_ nd),.int .i64 (z9_ nd),.imm (.int .u64) (qP_ nd)]],fun i=>l.length - i,⟨0,⟨Nat.zero_le _,rfl⟩,rfl,(by rw [hN,hV,hS])⟩,?_⟩;clear h2)
     | (exfalso;rw [hn2] at ht;cases ht)
    rintro i ⟨hi,he⟩
    repeat'(intro t ht;first|(cases t<;>first|(cases ht;done)|(try simp only[zh_]at ht;try(exfalso;first|contradiction|omega)))|((first|refine za_ ht ?_|refine ht ?_ ?_|refine ht.1 ?_ ?_|refine ht ?_)<;>clear ht))
    all_goals (try generalize (Ty.dflt Y1)=od at*)
    all_goals first
     | exact True.intro
     | ((try simp only [z0_,z1_,zi_] at*);omega)
     | (rw [wO_ (by omega) he];exact ⟨rfl,rfl⟩)
     | (have hm:mrO nd vals (l.getD i od)=false:=by
         unfold mrO mrV
         first
          | (rw [decide_eq_false (show ¬ (l.getD i od).1=32768 by assumption)];rfl)
          | (rw [decide_eq_false (show ¬ (l.getD i od).2.1=nd by assumption)];simp;done)
        exact ⟨i+1,⟨by omega,QW_ (d:=od) (by omega) he hm⟩,by dsimp only;omega,rfl,rfl⟩)
     | (intro r h1 h2;clear h1;refine h2 ⟨[0,5,7,9,10,11],Nat,(fun k=>k<=(l.getD i od).2.2.2.2.1.length/\((l.getD i od).2.2.2.2.1.take k).any nzB=false),fun k=>[.imm Y1 l,.ptr 0 0,.ptr 1 0,.int .i64 i,.ptr 2 0,.int .i64 k],fun _=>[.box [.str (KN_ f),.int .i64 (QD_ f),.int .i64 (Zf_ f),.bool (kG_ f),.int .i64 nd,.imm (.int .u64) vals],.box [.str (KN_ nd),.int .i64 (QD_ nd),.int .i64 S,.bool (kG_ nd),.int .i64 (z9_ nd),.imm (.int .u64) (qP_ nd)],.box [.int .i64 ((l.getD i od).1),.int .i64 ((l.getD i od).2.1),.bool ((l.getD i od).2.2.1),.int .u64 ((l.getD i od).2.2.2.1),.imm (.int .u8) ((l.getD i od).2.2.2.2.1),.imm (.int .u8) ((l.getD i od).2.2.2.2.2.1)]],fun k=>(l.getD i od).2.2.2.2.1.length - k,⟨0,⟨Nat.zero_le _,rfl⟩,rfl,rfl⟩,?_⟩;clear h2)
     | (intro r h1 h2;clear h1;refine h2 ⟨[0,5,7,9,10,12],Nat,(fun k=>k<=vals.length/\((vals.take k).any fun y=>!(l.getD i od).2.2.1 && decide ((l.getD i od).2.2.2.2.1=zr_ y S))=false),fun k=>[.imm Y1 l,.ptr 0 0,.ptr 1 0,.int .i64 i,.ptr 2 0,.int .i64 k],fun _=>[.box [.str (KN_ f),.int .i64 (QD_ f),.int .i64 (Zf_ f),.bool (kG_ f),.int .i64 nd,.imm (.int .u64) vals],.box [.str (KN_ nd),.int .i64 (QD_ nd),.int .i64 S,.bool (kG_ nd),.int .i64 (z9_ nd),.imm (.int .u64) (qP_ nd)],.box [.int .i64 ((l.getD i od).1),.int .i64 ((l.getD i od).2.1),.bool ((l.getD i od).2.2.1),.int .u64 ((l.getD i od).2.2.2.1),.imm (.int .u8) ((l.getD i od).2.2.2.2.1),.imm (.int .u8) ((l.getD i od).2.2.2.2.2.1)]],fun k=>vals.length - k,⟨0,⟨Nat.zero_le _,rfl⟩,rfl,rfl⟩,?_⟩;clear h2)
    all_goals rintro k ⟨hk,hke⟩
    all_goals (have hvli:=hvl _ (ZM_ (show i < l.length by omega) od))
    all_goals repeat'(intro t ht;first|(cases t<;>first|(cases ht;done)|(try simp only[zh_]at ht;try(exfalso;first|contradiction|omega)))|((first|refine za_ ht ?_|refine ht ?_ ?_|refine ht.1 ?_ ?_|refine ht ?_)<;>clear ht))
    all_goals first
     | exact True.intro
     | ((try simp only [z0_,z1_,zi_] at*);omega)
     | (have hm:=G0_ (nd:=nd) (vals:=vals) (o:=l.getD i od) (by omega) (by assumption) (by assumption)
        first
         | (rw [wO_ (by omega) hke] at hm
            exact ⟨i+1,⟨by omega,QW_ (d:=od) (by omega) he hm⟩,by dsimp only;omega,rfl,rfl⟩)
         | (have hz:=B5_ (v:=(l.getD i od).2.2.2.2.1) (k:=k) (by assumption)
            rw [wN_ (show k < (l.getD i od).2.2.2.2.1.length by omega) hz] at hm
            rw [wN_ (show i < l.length by omega) hm];exact ⟨rfl,rfl⟩)
         | exact ⟨k+1,⟨by omega,QW_ (d:=0) (by omega) hke (B6_ (by assumption))⟩,by dsimp only;omega,rfl,rfl⟩)
     | (have hm:=HZ_ (nd:=nd) (vals:=vals) (o:=l.getD i od) (show ¬ vals.length=0 by omega) (by assumption) (by assumption) hS
        first
         | (rw [wO_ (by omega) hke] at hm
            exact ⟨i+1,⟨by omega,QW_ (d:=od) (by omega) he hm⟩,by dsimp only;omega,rfl,rfl⟩)
         | (have hh:(l.getD i od).2.2.1=true:=by assumption
            exact ⟨k+1,⟨by omega,QW_ (p:=fun y=>!(l.getD i od).2.2.1 && decide ((l.getD i od).2.2.2.2.1=zr_ y S)) (d:=0) (by omega) hke (by (try dsimp only);rw [hh];rfl)⟩,by dsimp only;omega,rfl,rfl⟩)
         | (have hh:(l.getD i od).2.2.1=false:=by assumption
            have hq:(l.getD i od).2.2.2.2.1=zr_ (vals.getD k 0) S:=by assumption
            rw [wN_ (p:=fun y=>!(l.getD i od).2.2.1 && decide ((l.getD i od).2.2.2.2.1=zr_ y S)) (d:=0) (show k < vals.length by omega) (by (try dsimp only);rw [hh,decide_eq_true hq];rfl)] at hm
            rw [wN_ (show i < l.length by omega) hm];exact ⟨rfl,rfl⟩)
         | (have hq:¬ (l.getD i od).2.2.2.2.1=zr_ (vals.getD k 0) S:=by assumption
            exact ⟨k+1,⟨by omega,QW_ (p:=fun y=>!(l.getD i od).2.2.1 && decide ((l.getD i od).2.2.2.2.1=zr_ y S)) (d:=0) (by omega) hke (by (try dsimp only);rw [decide_eq_false hq,Bool.and_false])⟩,by dsimp only;omega,rfl,rfl⟩))
 ·cases e
def va_:IR:=
(sq (kr [0] [oD 2 (.mov (cI 0)),
oD 3 (.mov (cI 0))])
(sq (sq (.reg [oD 4 (.mov (cI 0))])
(.block 0
(.loop
(sq (sq (kr [0,4] [oM 6 4,
oM 7 0,
oE 8 7,
oB 9 .lss 6 8])
(.cond 9
.skip
(.exit 0)))
(sq (.block 1
(sq (sq (.reg [oD 5 (.mov (cI 0))])
(.block 2
(.loop
(sq (sq (kr [0,4,5] [oM 12 5,
oM 13 4,
oB 14 .lss 12 13])
(.cond 14
.skip
(.exit 2)))
(sq (.block 3
(sq (kd [0,4,5] [(oM 17 0,[]),
(oM 18 5,[0]),
(oI 19 6 17 18,[]),
(oK 20 6 19,[]),
(oM 21 0,[0,0,0,0]),
(oM 22 4,[0,0,0,0,0]),
(oI 23 6 21 22,[2,0,0,0]),
(oK 24 6 23,[3,0,0,0]),
(oC 25 25 [20,24],[])])
(.cond 25
(sq (kr [4] [oM 26 4,
oM 2 26,
oD 3 (.mov (cI 1035))])
.ret)
.skip)))
(kr [0,4,5] [oM 15 5,
oB 16 .add 15 (cI 1),
oM 5 16]))))))
(sq (kd [0,4] [(oM 27 0,[]),
(oM 28 4,[0]),
(oD 29 (.slice 6 27 none (some 28) none),[]),
(oM 30 0,[0,0,0]),
(oM 31 4,[0,0,0,0]),
(oI 32 6 30 31,[2,0,0]),
(oK 33 6 32,[3,0,0]),
(oC 34 11 [29,33],[]),
(oD 35 (.un .not 34),[])])
(.cond 35
(sq (kr [4] [oM 36 4,
oM 2 36,
oD 3 (.mov (cI 1034))])
.ret)
.skip))))
(kr [0,4] [oM 10 4,
oB 11 .add 10 (cI 1),
oM 4 11]))))))
(sq (kr [] [oD 2 (.mov (cI 0)),
oD 3 (.mov (cI 0))])
.ret)))
def YJ_:List RD:=[.tmp 2 true none,.tmp 3 true none]
theorem YU_:zl_ Try.prog Try.f9 va_ YJ_=true:=by kernel_rfl
def j3_:List AV->List Obj->Option (Prop × AV)
 | [.imm (.cons (.int .i64) (.cons (.int .i64) (.cons .bool (.cons (.int .u64) (.cons (.sl (.int .u8)) (.cons (.sl (.int .u8)) .nil)))))) l],[]=>some ((True,.tup [.int .i64 (ckS [] l).1,.int .i64 (ckS [] l).2]))
 | _,_=>none
theorem X7_:zf_ Try.prog 9 (RoF j3_).sum:=by
 refine zo_ Try.func9 YU_ (zc_ (s:=RoF Kw_) Jy_ (zc_ (s:=RoF Jk_) WJ_ (ze_ _))) fun args objs p v e=>?_
 unfold j3_ at e
 split at e
 ·rename_i l
  cases e
  refine ⟨rfl,fun hw ho hp=>?_⟩
  change List OV at l
  have hl:l.length<=maxLen:=(hw (.imm Y1 l) (by simp)).2
  unfold maxLen at hl
  clear hw ho
  repeat'(intro t ht;first|(cases t<;>first|(cases ht;done)|(try simp only[zh_]at ht))|((first|refine za_ ht ?_|refine ht ?_ ?_|refine ht.1 ?_ ?_|refine ht ?_)<;>clear ht))
  all_goals first
   | (intro r h1 h2;clear h1;refine h2 ⟨[0,4],Nat,(fun i=>i<=l.length/\ckS [] l=ckS (l.take i) (l.drop i)),fun i=>[.imm Y1 l,.int .i64 i],fun _=>[],fun i=>l.length - i,⟨0,⟨Nat.zero_le _,rfl⟩,rfl,rfl⟩,?_⟩;clear h2)
  rintro i ⟨hi,he⟩
  repeat'(intro t ht;first|(cases t<;>first|(cases ht;done)|(try simp only[zh_]at ht))|((first|refine za_ ht ?_|refine ht ?_ ?_|refine ht.1 ?_ ?_|refine ht ?_)<;>clear ht))
  all_goals first
   | exact True.intro
   | ((try simp only [z0_,z1_,zi_] at*);omega)
   | (rw [he,UO_ (by omega)];exact ⟨rfl,rfl⟩)
   | (intro r h1 h2;clear h1;refine h2 ⟨[0,4,5],Nat,(fun k=>k<=i/\(((l.take i).take k).any (fun x=>alO x (l.getD i (Ty.dflt Y1))))=false),fun k=>[.imm Y1 l,.int .i64 i,.int .i64 k],fun _=>[],fun k=>i - k,⟨0,⟨Nat.zero_le _,rfl⟩,rfl,rfl⟩,?_⟩;clear h2)
  all_goals rintro k ⟨hk,hke⟩
  all_goals have hlt:i < l.length:=by omega
  all_goals have htk:(l.take i).length=i:=k4_ (by omega)
  all_goals repeat'(intro t ht;first|(cases t<;>first|(cases ht;done)|(try simp only[zh_]at ht;try(exfalso;first|contradiction|omega)))|((first|refine za_ ht ?_|refine ht ?_ ?_|refine ht.1 ?_ ?_|refine ht ?_)<;>clear ht))
  all_goals (try generalize (Ty.dflt Y1)=od at*)
  all_goals first
   | exact True.intro
   | ((try simp only [z0_,z1_,zi_] at*);omega)
   | (have hka:=wO_ (by omega) hke
      first
       | (have hm:Qy_ (l.take i) (l.getD i od).1 (l.getD i od).2.1=false:=by assumption
          rw [he,VL_ hlt hka hm];exact ⟨rfl,rfl⟩)
       | (have hm:Qy_ (l.take i) (l.getD i od).1 (l.getD i od).2.1=true:=by assumption
          exact ⟨i+1,⟨by omega,he.trans (hP_ (by omega) hka hm)⟩,by dsimp only;omega,rfl,rfl⟩))
   | (have hg:(l.take i).getD k od=l.getD k od:=Hq_ (by omega)
      first
       | (have hm:=bJ_ ht
          rw [<- hg] at hm
          have hka:=wN_ (p:=fun x=>alO x (l.getD i od)) (d:=od) (show k < (l.take i).length by omega) hm
          rw [he,UN_ hlt hka];exact ⟨rfl,rfl⟩)
       | (have hm:=bK_ ht
          rw [<- hg] at hm
          exact ⟨k+1,⟨by omega,QW_ (p:=fun x=>alO x (l.getD i od)) (d:=od) (by omega) hke hm⟩,by dsimp only;omega,rfl,rfl⟩))
 ·cases e
end Go.Eng
