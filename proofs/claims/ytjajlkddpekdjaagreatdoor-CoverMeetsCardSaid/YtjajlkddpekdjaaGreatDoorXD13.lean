/- Parts of the proof: M1, OG, R7, N1, M2, S1, S2. No condition. -/
import Derived.Test.YtjajlkddpekdjaaGreatDoorProg
import Derived.Test.YtjajlkddpekdjaaGreatDoorXD10
import Derived.KernelRfl
import Derived.Test.YtjajlkddpekdjaaGreatDoorXD12
namespace Go.Eng
open Go.Proofs
set_option linter.unusedVariables false
set_option linter.unusedSimpArgs false
set_option maxRecDepth 100000
set_option maxHeartbeats 1000000
def qp_ {α:Type} (p:α->Bool):List α->Int->Int
 | [],_=>-1
 | o :: r,i=>if p o=true then i else qp_ p r (i+1)
theorem Qm_ {α:Type} {p:α->Bool} {l:List α} {i:Nat} (h:l.length<=i):qp_ p (l.drop i) i=-1:=by
 rw [List.drop_of_length_le h];rfl
theorem kA_ {α:Type} {p:α->Bool} {l:List α} {i:Nat} {d:α} (h:i < l.length) (hk:p (l.getD i d)=true):qp_ p (l.drop i) i=i:=by
 rw [z2_ h d];exact if_pos hk
theorem kz_ {α:Type} {p:α->Bool} {l:List α} {i:Nat} {d:α} (h:i < l.length) (hk:p (l.getD i d)=false):qp_ p (l.drop i) i=qp_ p (l.drop (i+1)) ((i+1:Nat):Int):=by
 rw [z2_ h d];exact if_neg (by rw [hk];decide)
theorem qG_ {α:Type} {p:α->Bool}:∀ (l:List α) (i:Int),0<=i->decide (0<=qp_ p l i)=l.any p
 | [],i,h=>rfl
 | o :: r,i,h=>by
   unfold qp_
   rw [List.any_cons]
   cases hk:p o with
   | true=>rw [if_pos rfl,decide_eq_true h];rfl
   | false=>rw [if_neg (by decide),qG_ r (i+1) (by omega)];rfl
def nzB (c:Int):Bool:=decide (c ≠ 0)
abbrev OV:=Int × Int × Bool × Int × List Int × List Int × Unit
instance:DecidableEq (Int × List Int × List Int × Unit):=inferInstance
instance:DecidableEq OV:=inferInstance
def xQ_ (b:List Int):Int:=b.foldl (fun n c=>zk_ .or .u64 (IntKind.u64.wrap (n*2 ^ min (Int.toNat 8) IntKind.u64.bits)) (IntKind.u64.wrap c)) 0
theorem vv_ {b:List Int} {i:Nat} (h:i < b.length):xQ_ (b.take (i+1))=zk_ .or .u64 (IntKind.u64.wrap (xQ_ (b.take i)*2 ^ min (Int.toNat 8) IntKind.u64.bits)) (IntKind.u64.wrap (b.getD i 0)):=by
 unfold xQ_
 rw [List.take_succ_eq_append_getElem h,List.foldl_append,List.getD_eq_getElem?_getD,List.getElem?_eq_getElem h];rfl
def yo_:IR:=
(sq (kr [0,1] [oD 4 (.mov (.c (.int .u64 0))),
oD 5 (.mov cF)])
(sq (sq (.reg [oM 8 0,
oE 9 8,
oD 10 (.mov (cI 0))])
(.block 0
(.loop
(sq (kr [0,1,4,8,9,10] [oB 11 .lss 10 9])
(sq (.cond 11
.skip
(.exit 0))
(sq (.block 1
(sq (.reg [oI 12 1 8 10,
oL 13 12,
oM 7 13])
(kr [0,1,4,7,8,9,10] [oM 14 4,
oB 15 .shl 14 (.c (.int .u64 8)),
oM 16 7,
oD 17 (.conv .u64 16),
oB 18 .or 15 17,
oM 4 18])))
(kr [0,1,4,8,9,10] [oB 19 .add 10 (cI 1),
oM 10 19])))))))
(sq (kr [0,1,4] [oM 20 4,
oM 21 0,
oE 22 21,
oM 23 1,
oB 24 .eql 22 23,
oM 4 20,
oM 5 24])
.ret)))
def XN_:List RD:=[.tmp 4 true none,.tmp 5 true none]
theorem X7_:zl_ Tryz.prog Tryz.f98 yo_ XN_=true:=by kernel_rfl
def Ko_:List AV->List Obj->Option (Prop × AV)
 | [.imm (.int .u8) b,.int .i64 z],[]=>some ((True,.tup [.int .u64 (xQ_ b),.bool (decide ((b.length:Int)=z))]))
 | _,_=>none
theorem xz_:zf_ Tryz.prog 98 (RoF Ko_).sum:=by
 refine zh_ Tryz.func98 X7_ (zd_ _) fun args objs p v e=>?_
 unfold Ko_ at e
 split at e
 ·rename_i b z
  cases e
  refine ⟨rfl,fun hw ho hp=>?_⟩
  change List Int at b
  have hl:b.length<=maxLen:=(hw (.imm (.int .u8) b) (by simp)).2
  unfold maxLen at hl
  clear hw ho
  repeat'(intro t ht;first|(cases t<;>first|(cases ht;done)|(try simp only[zg_]at ht))|((first|refine za_ ht ?_|refine ht ?_ ?_|refine ht.1 ?_ ?_|refine ht ?_)<;>clear ht))
  all_goals first
   | (intro r h1 h2;clear h1;refine h2 ⟨[0,1,4,8,9,10],Nat,(fun i=>i<=b.length),fun i=>[.imm (.int .u8) b,.int .i64 z,.int .u64 (xQ_ (b.take i)),.imm (.int .u8) b,.int .i64 b.length,.int .i64 i],fun _=>[],fun i=>b.length - i,⟨0,Nat.zero_le _,rfl,rfl⟩,?_⟩;clear h2)
  intro i hi
  repeat'(intro t ht;first|(cases t<;>first|(cases ht;done)|(try simp only[zg_]at ht))|((first|refine za_ ht ?_|refine ht ?_ ?_)<;>clear ht)|(refine ht.1 (by simp only[zj_];omega) ?_;clear ht)|(refine ht.2 ?_;clear ht)|(refine ht ?_;clear ht))
  all_goals first
   | exact True.intro
   | ((try simp only [zq_,zr_,zj_] at*);omega)
   | (have hge:b.length<=i:=by omega
      rw [List.take_of_length_le hge];exact ⟨rfl,rfl⟩)
   | exact (by decide)
   | (refine ⟨i+1,by omega,by dsimp only;omega,?_,rfl⟩
      dsimp only
      rw [vv_ (by omega)];rfl)
 ·cases e
def xS_:IR:=
(sq (kr [0] [oD 2 (.mov cF)])
(sq (.reg [oM 3 0,
oB 4 .neq 3 (.c (.int .u8 0)),
oM 2 4])
.ret))
def xE_:List RD:=[.tmp 2 true none]
theorem xK_:zl_ Tryz.prog Tryz.f97 xS_ xE_=true:=by kernel_rfl
def Z7_:List AV->List Obj->Option (Prop × AV)
 | [.int .u8 b],[]=>some ((True,.bool (nzB b)))
 | _,_=>none
theorem QL_:zf_ Tryz.prog 97 (RoF Z7_).sum:=by
 refine zh_ Tryz.func97 xK_ (zd_ _) fun args objs p v e=>?_
 unfold Z7_ at e
 split at e
 ·rename_i b
  cases e
  refine ⟨rfl,fun hw ho hp=>?_⟩
  repeat'(intro t ht;first|(cases t<;>first|(cases ht;done)|(try simp only[zg_]at ht;try(exfalso;first|contradiction|omega)))|((first|refine za_ ht ?_|refine ht ?_ ?_|refine ht.1 ?_ ?_|refine ht ?_)<;>clear ht))
  all_goals first
   | exact True.intro
   | (refine ⟨congrArg AV.bool ?_,rfl⟩;unfold nzB;simp;done)
 ·cases e
def kg_:IR:=
(sq (kr [0,1] [oD 4 (.mov (cI 0))])
(sq (sq (.reg [oM 6 0,
oE 7 6,
oD 8 (.mov (cI 0))])
(.block 0
(.loop
(sq (kr [0,1,7,8] [oB 9 .lss 8 7])
(sq (.cond 9
.skip
(.exit 0))
(sq (.block 1
(sq (.reg [oM 10 8,
oM 5 10])
(sq (kr [0,1,5,7,8] [oM 11 1,
oM 12 0,
oM 13 5,
oI 14 1 12 13,
oL 15 14,
oD 16 (.call false 11 [15])])
(.cond 16
(sq (kr [5] [oM 17 5,
oM 4 17])
.ret)
.skip))))
(kr [0,1,7,8] [oB 18 .add 8 (cI 1),
oM 8 18])))))))
(sq (kr [] [oD 4 (.mov (cI (-1)))])
.ret)))
def kc_:List RD:=[.tmp 4 true none]
theorem ke_:zl_ Tryz.prog Tryz.f109 kg_ kc_=true:=by kernel_rfl
def Zb_:List AV->List Obj->Option (Prop × AV)
 | [.imm (.int .u8) l,.fn 97 [] []],[]=>some ((True,.int .i64 (qp_ nzB l 0)))
 | _,_=>none
theorem QK_:zf_ Tryz.prog 109 (RoF Zb_).sum:=by
 refine zh_ Tryz.func109 ke_ (zb_ (s:=RoF Z7_) QL_ (zd_ _)) fun args objs p v e=>?_
 unfold Zb_ at e
 split at e
 ·rename_i l
  cases e
  refine ⟨rfl,fun hw ho hp=>?_⟩
  change List Int at l
  have hl:l.length<=maxLen:=(hw (.imm (.int .u8) l) (by simp)).2
  unfold maxLen at hl
  clear hw ho
  repeat'(intro t ht;first|(cases t<;>first|(cases ht;done)|(try simp only[zg_]at ht))|((first|refine za_ ht ?_|refine ht ?_ ?_|refine ht.1 ?_ ?_|refine ht ?_)<;>clear ht))
  all_goals first
   | (intro r h1 h2;clear h1;refine h2 ⟨[0,1,7,8],Nat,(fun i=>i<=l.length/\qp_ nzB l 0=qp_ nzB (l.drop i) i),fun i=>[.imm (.int .u8) l,.fn 97 [] [],.int .i64 l.length,.int .i64 i],fun _=>[],fun i=>l.length - i,⟨0,⟨Nat.zero_le _,rfl⟩,rfl,rfl⟩,?_⟩;clear h2)
  rintro i ⟨hi,he⟩
  repeat'(intro t ht;first|(cases t<;>first|(cases ht;done)|(try simp only[zg_]at ht;try(exfalso;first|contradiction|omega)))|((first|refine za_ ht ?_|refine ht ?_ ?_|refine ht.1 ?_ ?_|refine ht ?_)<;>clear ht))
  all_goals first
   | exact True.intro
   | ((try simp only [zq_,zr_,zj_] at*);omega)
   | (refine ⟨?_,rfl⟩;rw [he,Qm_ (by omega)];done)
   | (refine ⟨?_,rfl⟩;rw [he,kA_ (d:=0) (by omega) (by assumption)];done)
   | exact ⟨i+1,⟨by omega,he.trans (kz_ (d:=0) (by omega) (by assumption))⟩,by dsimp only;omega,rfl,rfl⟩
 ·cases e
def Ql_:IR:=
(sq (kr [0,1] [oD 4 (.mov cF)])
(sq (kr [0,1] [oM 5 0,
oM 6 1,
oC 7 109 [5,6],
oB 8 .geq 7 (cI 0),
oM 4 8])
.ret))
def Qe_:List RD:=[.tmp 4 true none]
theorem Qh_:zl_ Tryz.prog Tryz.f96 Ql_ Qe_=true:=by kernel_rfl
def zZ_:List AV->List Obj->Option (Prop × AV)
 | [.imm (.int .u8) l,.fn 97 [] []],[]=>some ((True,.bool (l.any nzB)))
 | _,_=>none
theorem q4_:zf_ Tryz.prog 96 (RoF zZ_).sum:=by
 refine zh_ Tryz.func96 Qh_ (zb_ (s:=RoF Z7_) QL_ (zb_ (s:=RoF Zb_) QK_ (zd_ _))) fun args objs p v e=>?_
 unfold zZ_ at e
 split at e
 ·rename_i l
  cases e
  refine ⟨rfl,fun hw ho hp=>?_⟩
  change List Int at l
  have h:=qG_ (p:=nzB) l 0 (Int.le_refl _)
  repeat'(intro t ht;first|(cases t<;>first|(cases ht;done)|(try simp only[zg_]at ht;try(exfalso;first|contradiction|omega)))|((first|refine za_ ht ?_|refine ht ?_ ?_|refine ht.1 ?_ ?_|refine ht ?_)<;>clear ht))
  all_goals first
   | exact True.intro
   | exact ⟨congrArg AV.bool h,rfl⟩
 ·cases e
def kf_:IR:=
(sq (kr [0,1] [oD 4 (.mov (cI 0))])
(sq (sq (.reg [oM 6 0,
oE 7 6,
oD 8 (.mov (cI 0))])
(.block 0
(.loop
(sq (kr [0,1,7,8] [oB 9 .lss 8 7])
(sq (.cond 9
.skip
(.exit 0))
(sq (.block 1
(sq (.reg [oM 10 8,
oM 5 10])
(sq (kr [0,1,5,7,8] [oM 11 1,
oM 12 0,
oM 13 5,
oI 14 1 12 13,
oL 15 14,
oB 16 .eql 11 15])
(.cond 16
(sq (kr [5] [oM 17 5,
oM 4 17])
.ret)
.skip))))
(kr [0,1,7,8] [oB 18 .add 8 (cI 1),
oM 8 18])))))))
(sq (kr [] [oD 4 (.mov (cI (-1)))])
.ret)))
def kb_:List RD:=[.tmp 4 true none]
theorem kd_:zl_ Tryz.prog Tryz.f110 kf_ kb_=true:=by kernel_rfl
def Za_:List AV->List Obj->Option (Prop × AV)
 | [.imm (.int .u64) l,.int .u64 x],[]=>some ((True,.int .i64 (qp_ (fun y=>decide (x=y)) l 0)))
 | _,_=>none
theorem QJ_:zf_ Tryz.prog 110 (RoF Za_).sum:=by
 refine zh_ Tryz.func110 kd_ (zd_ _) fun args objs p v e=>?_
 unfold Za_ at e
 split at e
 ·rename_i l x
  cases e
  refine ⟨rfl,fun hw ho hp=>?_⟩
  change List Int at l
  have hl:l.length<=maxLen:=(hw (.imm (.int .u64) l) (by simp)).2
  unfold maxLen at hl
  clear hw ho
  repeat'(intro t ht;first|(cases t<;>first|(cases ht;done)|(try simp only[zg_]at ht))|((first|refine za_ ht ?_|refine ht ?_ ?_|refine ht.1 ?_ ?_|refine ht ?_)<;>clear ht))
  all_goals first
   | (intro r h1 h2;clear h1;refine h2 ⟨[0,1,7,8],Nat,(fun i=>i<=l.length/\qp_ (fun y=>decide (x=y)) l 0=qp_ (fun y=>decide (x=y)) (l.drop i) i),fun i=>[.imm (.int .u64) l,.int .u64 x,.int .i64 l.length,.int .i64 i],fun _=>[],fun i=>l.length - i,⟨0,⟨Nat.zero_le _,rfl⟩,rfl,rfl⟩,?_⟩;clear h2)
  rintro i ⟨hi,he⟩
  repeat'(intro t ht;first|(cases t<;>first|(cases ht;done)|(try simp only[zg_]at ht;try(exfalso;first|contradiction|omega)))|((first|refine za_ ht ?_|refine ht ?_ ?_|refine ht.1 ?_ ?_|refine ht ?_)<;>clear ht))
  all_goals first
   | exact True.intro
   | ((try simp only [zq_,zr_,zj_] at*);omega)
   | (refine ⟨?_,rfl⟩;rw [he,Qm_ (by omega)];done)
   | (refine ⟨?_,rfl⟩;rw [he,kA_ (d:=0) (by omega) (show decide (x=l.getD i 0)=true from decide_eq_true (by assumption))];done)
   | exact ⟨i+1,⟨by omega,he.trans (kz_ (d:=0) (by omega) (show decide (x=l.getD i 0)=false from decide_eq_false (by assumption)))⟩,by dsimp only;omega,rfl,rfl⟩
 ·cases e
def Qk_:IR:=
(sq (kr [0,1] [oD 4 (.mov cF)])
(sq (kr [0,1] [oM 5 0,
oM 6 1,
oC 7 110 [5,6],
oB 8 .geq 7 (cI 0),
oM 4 8])
.ret))
def Qd_:List RD:=[.tmp 4 true none]
theorem Qg_:zl_ Tryz.prog Tryz.f99 Qk_ Qd_=true:=by kernel_rfl
def zY_:List AV->List Obj->Option (Prop × AV)
 | [.imm (.int .u64) l,.int .u64 x],[]=>some ((True,.bool (l.any fun y=>decide (x=y))))
 | _,_=>none
theorem q3_:zf_ Tryz.prog 99 (RoF zY_).sum:=by
 refine zh_ Tryz.func99 Qg_ (zb_ (s:=RoF Za_) QJ_ (zd_ _)) fun args objs p v e=>?_
 unfold zY_ at e
 split at e
 ·rename_i l x
  cases e
  refine ⟨rfl,fun hw ho hp=>?_⟩
  change List Int at l
  have h:=qG_ (p:=fun y=>decide (x=y)) l 0 (Int.le_refl _)
  repeat'(intro t ht;first|(cases t<;>first|(cases ht;done)|(try simp only[zg_]at ht;try(exfalso;first|contradiction|omega)))|((first|refine za_ ht ?_|refine ht ?_ ?_|refine ht.1 ?_ ?_|refine ht ?_)<;>clear ht))
  all_goals first
   | exact True.intro
   | exact ⟨congrArg AV.bool h,rfl⟩
 ·cases e
def UI_ (n:Int) (vals:List Int) (c f:Int) (h:Bool) (v:List Int):Bool:=decide (c=32768) && decide (f=n) && (if vals.length=0 then v.any nzB else decide ((v.length:Int)=kS_ n) && !h && vals.any fun y=>decide (xQ_ v=y))
def YY_:IR:=
(sq (kr [0,1] [oD 2 (.boxv 0),
oD 3 (.boxv 1),
oD 4 (.mov cF)])
(sq (sq (kr [2,3] [oA 9 0 2,
oL 10 9,
oB 11 .neq 10 (cI 32768),
oM 12 11,
oF 12 13 (.fieldAddr 1 2),
oF 12 14 (.load none 13),
oF 12 15 (.fieldAddr 3 3),
oF 12 16 (.load none 15),
oF 12 17 (.bin .neq 14 16),
oP 18 12 cT 17])
(.cond 18
(sq (kr [] [oD 4 (.mov cF)])
.ret)
.skip))
(sq (sq (kr [2,3] [oA 19 4 3,
oL 20 19,
oE 21 20,
oB 22 .eql 21 (cI 0)])
(.cond 22
(sq (.reg [oA 23 4 2,
oL 24 23,
oC 25 96 [24,.f 97],
oM 4 25])
.ret)
.skip))
(sq (kr [2,3] [oA 27 3 3,
oL 28 27,
oC 29 69 [28],
oM 26 29,
oX 30 26 0,
oX 31 26 1,
oD 5 (.box [.int .i64 0,.int .i64 0,.kb false,.int .i64 0,.imm (.int .u64) []]),
oS 5 5 30,
oM 6 31])
(sq (kr [2,3,5] [oA 33 4 2,
oL 34 33,
oA 35 1 5,
oL 36 35,
oC 37 98 [34,36],
oM 32 37,
oX 38 32 0,
oX 39 32 1,
oM 7 38,
oM 8 39])
(sq (kr [2,3,7,8] [oM 40 8,
oM 41 40,
oT 41 42 (.fieldAddr 2 2),
oT 41 43 (.load none 42),
oT 41 44 (.un .not 43),
oP 45 41 44 cF,
oM 46 45,
oT 46 47 (.fieldAddr 4 3),
oT 46 48 (.load none 47),
oT 46 49 (.mov 7),
oT 46 50 (.call false (.f 99) [48,49]),
oP 51 46 50 cF,
oM 4 51])
.ret))))))
def Yq_:List RD:=[.tmp 4 true none]
theorem YG_:zl_ Tryz.prog Tryz.f82 YY_ Yq_=true:=by kernel_rfl
def jb_:List AV->List Obj->Option (Prop × AV)
 | [.agg [.int .i64 c,.int .i64 f,.bool h,.int .u64 x,.imm (.int .u8) v,.imm (.int .u8) m],.agg [.int .i64 bits,.int .i64 size,.bool mk,.int .i64 nd,.imm (.int .u64) vals]],[]=>some ((True,.bool (UI_ nd vals c f h v)))
 | _,_=>none
theorem Xw_:zf_ Tryz.prog 82 (RoF jb_).sum:=by
 refine zh_ Tryz.func82 YG_ (zb_ (s:=RoF zZ_) q4_ (zb_ (s:=RoF Z7_) QL_ (zb_ (s:=RoF QX_) kv_ (zb_ (s:=RoF Ko_) xz_ (zb_ (s:=RoF zY_) q3_ (zd_ _)))))) fun args objs p v e=>?_
 unfold jb_ at e
 split at e
 ·rename_i c f h x v m bits size mk nd vals
  cases e
  refine ⟨rfl,fun hw ho hp=>?_⟩
  change List Int at v
  change List Int at m
  change List Int at vals
  clear hw ho
  by_cases h1:c=32768/\f=nd
  ·obtain ⟨rfl,rfl⟩:=h1
   have e:UI_ f vals 32768 f h v=if vals.length=0 then v.any nzB else decide ((v.length:Int)=kS_ f) && !h && vals.any fun y=>decide (xQ_ v=y):=by unfold UI_;simp
   rw [e]
   cases h<;>by_cases h2:vals.length=0<;>by_cases h3:(v.length:Int)=kS_ f
   all_goals repeat'(intro t ht;first|(cases t<;>first|(cases ht;done)|(try simp only[zg_]at ht;try(exfalso;first|contradiction|omega)))|((first|refine za_ ht ?_|refine ht ?_ ?_|refine ht.1 ?_ ?_|refine ht ?_)<;>clear ht))
   all_goals first
    | exact True.intro
    | (refine ⟨congrArg AV.bool ?_,rfl⟩;simp_all;done)
    | (exfalso;simp_all;done)
  ·have e:UI_ nd vals c f h v=false:=by unfold UI_;by_cases h2:c=32768<;>by_cases h3:f=nd<;>simp_all
   rw [e]
   cases h<;>by_cases h2:c=32768<;>by_cases h3:f=nd
   all_goals repeat'(intro t ht;first|(cases t<;>first|(cases ht;done)|(try simp only[zg_]at ht;try(exfalso;first|contradiction|omega)))|((first|refine za_ ht ?_|refine ht ?_ ?_|refine ht.1 ?_ ?_|refine ht ?_)<;>clear ht))
   all_goals first
    | exact True.intro
    | exact ⟨rfl,rfl⟩
    | (exfalso;omega)
    | (exfalso;simp_all;done)
 ·cases e
def YZ_:IR:=
(sq (kr [0,1] [oD 2 (.boxv 0),
oD 3 (.mov cF)])
(sq (.reg [oK 4 6 2,
oK 5 5 1,
oC 6 82 [4,5],
oM 3 6])
.ret))
def Yr_:List RD:=[.tmp 3 true none]
theorem YH_:zl_ Tryz.prog Tryz.f81 YZ_ Yr_=true:=by kernel_rfl
def qr_:List AV->List Obj->Option (Prop × AV)
 | [.agg [.int .i64 c,.int .i64 f,.bool h,.int .u64 x,.imm (.int .u8) v,.imm (.int .u8) m],.ptr 0 0],[.box [.int .i64 bits,.int .i64 size,.bool mk,.int .i64 nd,.imm (.int .u64) vals]]=>some ((True,.bool (UI_ nd vals c f h v)))
 | _,_=>none
theorem Qb_:zf_ Tryz.prog 81 (RoF qr_).sum:=by
 refine zh_ Tryz.func81 YH_ (zb_ (s:=RoF jb_) Xw_ (zd_ _)) fun args objs p v e=>?_
 unfold qr_ at e
 split at e
 ·rename_i c f h x v m bits size mk nd vals
  cases e
  refine ⟨rfl,fun hw ho hp=>?_⟩
  change List Int at v
  change List Int at m
  change List Int at vals
  clear hw ho
  repeat'(intro t ht;first|(cases t<;>first|(cases ht;done)|(try simp only[zg_]at ht;try(exfalso;first|contradiction|omega)))|((first|refine za_ ht ?_|refine ht ?_ ?_|refine ht.1 ?_ ?_|refine ht ?_)<;>clear ht))
  all_goals first
   | exact True.intro
   | exact ⟨rfl,rfl⟩
 ·cases e
def xT_:IR:=
(sq (kr [0,1] [oD 2 (.boxv 0),
oD 3 (.mov cF)])
(sq (.reg [oK 4 6 2,
oK 5 6 1,
oC 6 60 [4,5],
oM 3 6])
.ret))
def xF_:List RD:=[.tmp 3 true none]
theorem xL_:zl_ Tryz.prog Tryz.f59 xT_ xF_=true:=by kernel_rfl
def Zw_:List AV->List Obj->Option (Prop × AV)
 | [.agg [.int .i64 c,.int .i64 f,.bool h,.int .u64 x,.imm (.int .u8) v,.imm (.int .u8) m],.ptr 0 0],[.box [.int .i64 c',.int .i64 f',.bool h',.int .u64 x',.imm (.int .u8) v',.imm (.int .u8) m']]=>some ((True,.bool (decide (c=c') && decide (f=f') && decide (x=x'))))
 | _,_=>none
theorem qd_:zf_ Tryz.prog 59 (RoF Zw_).sum:=by
 refine zh_ Tryz.func59 xL_ (zb_ (s:=RoF q0_) Q2_ (zd_ _)) fun args objs p v e=>?_
 unfold Zw_ at e
 split at e
 ·rename_i c f h x v m c' f' h' x' v' m'
  cases e
  refine ⟨rfl,fun hw ho hp=>?_⟩
  change List Int at v
  change List Int at m
  change List Int at v'
  change List Int at m'
  clear hw ho
  repeat'(intro t ht;first|(cases t<;>first|(cases ht;done)|(try simp only[zg_]at ht;try(exfalso;first|contradiction|omega)))|((first|refine za_ ht ?_|refine ht ?_ ?_|refine ht.1 ?_ ?_|refine ht ?_)<;>clear ht))
  all_goals first
   | exact True.intro
   | exact ⟨rfl,rfl⟩
 ·cases e
def rgO (o:OV):Bool:=z7_ o.1 o.2.1 o.2.2.1 o.2.2.2.1 o.2.2.2.2.1 o.2.2.2.2.2.1
def szO (o:OV):Int:=jE_ o.1 o.2.1 o.2.2.1 o.2.2.2.1 o.2.2.2.2.1 o.2.2.2.2.2.1
def ecO (o:OV):List Int:=XL_ o.1 o.2.1 o.2.2.1 o.2.2.2.1 o.2.2.2.2.1 o.2.2.2.2.2.1
def alO (x o:OV):Bool:=decide (x.1=o.1) && decide (x.2.1=o.2.1) && decide (x.2.2.2.1=o.2.2.2.1)
theorem hA_ {x o:OV} (h:(¬ x.1=o.1\/¬ x.2.1=o.2.1)\/¬ x.2.2.2.1=o.2.2.2.1):alO x o=false:=by
 unfold alO
 rcases h with (h | h) | h<;>simp [h]
theorem w8_ {x o:OV} (h:(x.1=o.1/\x.2.1=o.2.1)/\x.2.2.2.1=o.2.2.2.1):alO x o=true:=by
 unfold alO;rw [h.1.1,h.1.2,h.2];simp
def mtO (n:Int) (vals:List Int) (o:OV):Bool:=UI_ n vals o.1 o.2.1 o.2.2.1 o.2.2.2.2.1
def lenO (o:OV):Prop:=o.2.2.2.2.1.length<=100000/\o.2.2.2.2.2.1.length<=100000
theorem ub_ {o:OV} (h:lenO o):o.2.2.2.2.1.length<=1000000/\o.2.2.2.2.2.1.length<=1000000:=⟨Nat.le_trans h.1 (by decide),Nat.le_trans h.2 (by decide)⟩
structure allLen (l:List OV):Prop where
 h:∀ o ∈ l,lenO o
def WG_:IR:=
(sq (kr [0] [oD 1 (.boxv 0),
oD 2 (.mov cF)])
(sq (.reg [oK 3 6 1,
oC 4 29 [3],
oD 5 (.un .not 4),
oM 2 5])
.ret))
def Wn_:List RD:=[.tmp 2 true none]
theorem Wx_:zl_ Tryz.prog Tryz.f28 WG_ Wn_=true:=by kernel_rfl
def Zk_:List AV->List Obj->Option (Prop × AV)
 | [.agg [.int .i64 c,.int .i64 f,.bool h,.int .u64 x,.imm (.int .u8) v,.imm (.int .u8) m]],[]=>some ((v.length<=1000000/\m.length<=1000000,.bool (!z7_ c f h x v m)))
 | _,_=>none
theorem ZU_:zf_ Tryz.prog 28 (RoF Zk_).sum:=by
 refine zh_ Tryz.func28 Wx_ (zb_ (s:=RoF Kf_) JC_ (zd_ _)) fun args objs p v e=>?_
 unfold Zk_ at e
 split at e
 ·rename_i c f h x v m
  cases e
  refine ⟨rfl,fun hw ho hp=>?_⟩
  change List Int at v
  change List Int at m
  clear hw ho
  repeat'(intro t ht;first|(cases t<;>first|(cases ht;done)|(try simp only[zg_]at ht;try(exfalso;first|contradiction|omega)))|((first|refine za_ ht ?_|refine ht ?_ ?_|refine ht.1 ?_ ?_|refine ht ?_)<;>clear ht))
  all_goals first
   | exact True.intro
   | exact hp
   | exact ⟨rfl,rfl⟩
 ·cases e
def qF_:IR:=
(sq (kr [0,1] [oD 4 (.mov (cI 0))])
(sq (sq (.reg [oM 6 0,
oE 7 6,
oD 8 (.mov (cI 0))])
(.block 0
(.loop
(sq (kr [0,1,7,8] [oB 9 .lss 8 7])
(sq (.cond 9
.skip
(.exit 0))
(sq (.block 1
(sq (.reg [oM 10 8,
oM 5 10])
(sq (kr [0,1,5,7,8] [oM 11 1,
oM 12 0,
oM 13 5,
oI 14 6 12 13,
oK 15 6 14,
oD 16 (.call false 11 [15])])
(.cond 16
(sq (kr [5] [oM 17 5,
oM 4 17])
.ret)
.skip))))
(kr [0,1,7,8] [oB 18 .add 8 (cI 1),
oM 8 18])))))))
(sq (kr [] [oD 4 (.mov (cI (-1)))])
.ret)))
def qC_:List RD:=[.tmp 4 true none]
theorem qD_:zl_ Tryz.prog Tryz.f56 qF_ qC_=true:=by kernel_rfl
def zQ_:List AV->List Obj->Option (Prop × AV)
 | [.imm (.cons (.int .i64) (.cons (.int .i64) (.cons .bool (.cons (.int .u64) (.cons (.sl (.int .u8)) (.cons (.sl (.int .u8)) .nil)))))) l,.fn 81 [] [.ptr 0 0]],[.box [.int .i64 bits,.int .i64 size,.bool mk,.int .i64 nd,.imm (.int .u64) vals]]=>some ((True,.int .i64 (qp_ (α:=OV) (mtO nd vals) l 0)))
 | [.imm (.cons (.int .i64) (.cons (.int .i64) (.cons .bool (.cons (.int .u64) (.cons (.sl (.int .u8)) (.cons (.sl (.int .u8)) .nil)))))) l,.fn 59 [] [.ptr 0 0]],[.box [.int .i64 c',.int .i64 f',.bool h',.int .u64 x',.imm (.int .u8) v',.imm (.int .u8) m']]=>some ((True,.int .i64 (qp_ (α:=OV) (fun x=>alO x (c',f',h',x',v',m',())) l 0)))
 | [.imm (.cons (.int .i64) (.cons (.int .i64) (.cons .bool (.cons (.int .u64) (.cons (.sl (.int .u8)) (.cons (.sl (.int .u8)) .nil)))))) l,.fn 28 [] []],[]=>some ((allLen l,.int .i64 (qp_ (α:=OV) (fun o=>!rgO o) l 0)))
 | _,_=>none
theorem qx_:zf_ Tryz.prog 56 (RoF zQ_).sum:=by
 refine zh_ Tryz.func56 qD_ (zb_ (s:=RoF Zk_) ZU_ (zb_ (s:=RoF Zw_) qd_ (zb_ (s:=RoF qr_) Qb_ (zd_ _)))) fun args objs p v e=>?_
 unfold zQ_ at e
 split at e
 ·rename_i l bits size mk nd vals
  cases e
  refine ⟨rfl,fun hw ho hp=>?_⟩
  change List Int at vals
  change List OV at l
  have hl:l.length<=maxLen:=(hw (.imm Y1 l) (by simp)).2
  unfold maxLen at hl
  clear hw ho
  repeat'(intro t ht;first|(cases t<;>first|(cases ht;done)|(try simp only[zg_]at ht))|((first|refine za_ ht ?_|refine ht ?_ ?_|refine ht.1 ?_ ?_|refine ht ?_)<;>clear ht))
  all_goals first
   | (intro r h1 h2;clear h1;refine h2 ⟨[0,1,7,8],Nat,(fun i=>i<=l.length/\qp_ (mtO nd vals) l 0=qp_ (mtO nd vals) (l.drop i) i),fun i=>[.imm Y1 l,.fn 81 [] [.ptr 0 0],.int .i64 l.length,.int .i64 i],fun _=>[.box [.int .i64 bits,.int .i64 size,.bool mk,.int .i64 nd,.imm (.int .u64) vals]],fun i=>l.length - i,⟨0,⟨Nat.zero_le _,rfl⟩,rfl,rfl⟩,?_⟩;clear h2)
  rintro i ⟨hi,he⟩
  repeat'(intro t ht;first|(cases t<;>first|(cases ht;done)|(try simp only[zg_]at ht;try(exfalso;first|contradiction|omega)))|((first|refine za_ ht ?_|refine ht ?_ ?_|refine ht.1 ?_ ?_|refine ht ?_)<;>clear ht))
  all_goals (try generalize (Ty.dflt Y1)=od at*)
  all_goals first
   | exact True.intro
   | ((try simp only [zq_,zr_,zj_] at*);omega)
   | (refine ⟨?_,rfl⟩;rw [he,Qm_ (by omega)];done)
   | (refine ⟨?_,rfl⟩;rw [he,kA_ (d:=od) (by omega) (by assumption)];done)
   | exact ⟨i+1,⟨by omega,he.trans (kz_ (d:=od) (by omega) (by assumption))⟩,by dsimp only;omega,rfl,rfl⟩
 ·rename_i l c' f' h' x' v' m'
  cases e
  refine ⟨rfl,fun hw ho hp=>?_⟩
  change List Int at v'
  change List Int at m'
  change List OV at l
  have hl:l.length<=maxLen:=(hw (.imm Y1 l) (by simp)).2
  unfold maxLen at hl
  clear hw ho
  repeat'(intro t ht;first|(cases t<;>first|(cases ht;done)|(try simp only[zg_]at ht))|((first|refine za_ ht ?_|refine ht ?_ ?_|refine ht.1 ?_ ?_|refine ht ?_)<;>clear ht))
  all_goals first
   | (intro r h1 h2;clear h1;refine h2 ⟨[0,1,7,8],Nat,(fun i=>i<=l.length/\qp_ (fun x=>alO x (c',f',h',x',v',m',())) l 0=qp_ (fun x=>alO x (c',f',h',x',v',m',())) (l.drop i) i),fun i=>[.imm Y1 l,.fn 59 [] [.ptr 0 0],.int .i64 l.length,.int .i64 i],fun _=>[.box [.int .i64 c',.int .i64 f',.bool h',.int .u64 x',.imm (.int .u8) v',.imm (.int .u8) m']],fun i=>l.length - i,⟨0,⟨Nat.zero_le _,rfl⟩,rfl,rfl⟩,?_⟩;clear h2)
  rintro i ⟨hi,he⟩
  repeat'(intro t ht;first|(cases t<;>first|(cases ht;done)|(try simp only[zg_]at ht;try(exfalso;first|contradiction|omega)))|((first|refine za_ ht ?_|refine ht ?_ ?_|refine ht.1 ?_ ?_|refine ht ?_)<;>clear ht))
  all_goals (try generalize (Ty.dflt Y1)=od at*)
  all_goals first
   | exact True.intro
   | ((try simp only [zq_,zr_,zj_] at*);omega)
   | (refine ⟨?_,rfl⟩;rw [he,Qm_ (by omega)];done)
   | (refine ⟨?_,rfl⟩;rw [he,kA_ (p:=fun x=>alO x (c',f',h',x',v',m',())) (d:=od) (by omega) (w8_ ht)];done)
   | exact ⟨i+1,⟨by omega,he.trans (kz_ (p:=fun x=>alO x (c',f',h',x',v',m',())) (d:=od) (by omega) (hA_ ht))⟩,by dsimp only;omega,rfl,rfl⟩
 ·rename_i l
  cases e
  refine ⟨rfl,fun hw ho hp=>?_⟩
  change List OV at l
  have hl:l.length<=maxLen:=(hw (.imm Y1 l) (by simp)).2
  unfold maxLen at hl
  clear hw ho
  repeat'(intro t ht;first|(cases t<;>first|(cases ht;done)|(try simp only[zg_]at ht))|((first|refine za_ ht ?_|refine ht ?_ ?_|refine ht.1 ?_ ?_|refine ht ?_)<;>clear ht))
  all_goals first
   | (intro r h1 h2;clear h1;refine h2 ⟨[0,1,7,8],Nat,(fun i=>i<=l.length/\qp_ (fun o=>!rgO o) l 0=qp_ (fun o=>!rgO o) (l.drop i) i),fun i=>[.imm Y1 l,.fn 28 [] [],.int .i64 l.length,.int .i64 i],fun _=>[],fun i=>l.length - i,⟨0,⟨Nat.zero_le _,rfl⟩,rfl,rfl⟩,?_⟩;clear h2)
  rintro i ⟨hi,he⟩
  repeat'(intro t ht;first|(cases t<;>first|(cases ht;done)|(try simp only[zg_]at ht;try(exfalso;first|contradiction|omega)))|((first|refine za_ ht ?_|refine ht ?_ ?_|refine ht.1 ?_ ?_|refine ht ?_)<;>clear ht))
  all_goals (try generalize (Ty.dflt Y1)=od at*)
  all_goals first
   | exact True.intro
   | ((try simp only [zq_,zr_,zj_] at*);omega)
   | exact ub_ (hp.h _ (zu_ (by omega) od))
   | (refine ⟨?_,rfl⟩;rw [he,Qm_ (by omega)];done)
   | (refine ⟨?_,rfl⟩;rw [he,kA_ (p:=fun o=>!rgO o) (d:=od) (by omega) (by (try dsimp only);unfold rgO;rw [ht];rfl)];done)
   | exact ⟨i+1,⟨by omega,he.trans (kz_ (p:=fun o=>!rgO o) (d:=od) (by omega) (by (try dsimp only);unfold rgO;rw [ht];rfl))⟩,by dsimp only;omega,rfl,rfl⟩
 ·cases e
def Z6_:IR:=
(sq (kr [0,1] [oD 4 (.mov cF)])
(sq (kr [0,1] [oM 5 0,
oM 6 1,
oC 7 56 [5,6],
oB 8 .geq 7 (cI 0),
oM 4 8])
.ret))
def Z1_:List RD:=[.tmp 4 true none]
theorem Z4_:zl_ Tryz.prog Tryz.f27 Z6_ Z1_=true:=by kernel_rfl
def zo_:List AV->List Obj->Option (Prop × AV)
 | [.imm (.cons (.int .i64) (.cons (.int .i64) (.cons .bool (.cons (.int .u64) (.cons (.sl (.int .u8)) (.cons (.sl (.int .u8)) .nil)))))) l,.fn 81 [] [.ptr 0 0]],[.box [.int .i64 bits,.int .i64 size,.bool mk,.int .i64 nd,.imm (.int .u64) vals]]=>some ((True,.bool ((l:List OV).any (mtO nd vals))))
 | [.imm (.cons (.int .i64) (.cons (.int .i64) (.cons .bool (.cons (.int .u64) (.cons (.sl (.int .u8)) (.cons (.sl (.int .u8)) .nil)))))) l,.fn 59 [] [.ptr 0 0]],[.box [.int .i64 c',.int .i64 f',.bool h',.int .u64 x',.imm (.int .u8) v',.imm (.int .u8) m']]=>some ((True,.bool ((l:List OV).any (fun x=>alO x (c',f',h',x',v',m',())))))
 | [.imm (.cons (.int .i64) (.cons (.int .i64) (.cons .bool (.cons (.int .u64) (.cons (.sl (.int .u8)) (.cons (.sl (.int .u8)) .nil)))))) l,.fn 28 [] []],[]=>some ((allLen l,.bool ((l:List OV).any (fun o=>!rgO o))))
 | _,_=>none
theorem zC_:zf_ Tryz.prog 27 (RoF zo_).sum:=by
 refine zh_ Tryz.func27 Z4_ (zb_ (s:=RoF zQ_) qx_ (zd_ _)) fun args objs p v e=>?_
 unfold zo_ at e
 split at e
 ·rename_i l bits size mk nd vals
  cases e
  refine ⟨rfl,fun hw ho hp=>?_⟩
  change List Int at vals
  have h:=qG_ (p:=mtO nd vals) l 0 (Int.le_refl _)
  repeat'(intro t ht;first|(cases t<;>first|(cases ht;done)|(try simp only[zg_]at ht;try(exfalso;first|contradiction|omega)))|((first|refine za_ ht ?_|refine ht ?_ ?_|refine ht.1 ?_ ?_|refine ht ?_)<;>clear ht))
  all_goals first
   | exact True.intro
   | exact ⟨congrArg AV.bool h,rfl⟩
 ·rename_i l c' f' h' x' v' m'
  cases e
  refine ⟨rfl,fun hw ho hp=>?_⟩
  change List Int at v'
  change List Int at m'
  have h:=qG_ (p:=fun x=>alO x (c',f',h',x',v',m',())) l 0 (Int.le_refl _)
  repeat'(intro t ht;first|(cases t<;>first|(cases ht;done)|(try simp only[zg_]at ht;try(exfalso;first|contradiction|omega)))|((first|refine za_ ht ?_|refine ht ?_ ?_|refine ht.1 ?_ ?_|refine ht ?_)<;>clear ht))
  all_goals first
   | exact True.intro
   | exact ⟨congrArg AV.bool h,rfl⟩
 ·rename_i l
  cases e
  refine ⟨rfl,fun hw ho hp=>?_⟩
  have h:=qG_ (p:=fun o=>!rgO o) l 0 (Int.le_refl _)
  repeat'(intro t ht;first|(cases t<;>first|(cases ht;done)|(try simp only[zg_]at ht;try(exfalso;first|contradiction|omega)))|((first|refine za_ ht ?_|refine ht ?_ ?_|refine ht.1 ?_ ?_|refine ht ?_)<;>clear ht))
  all_goals first
   | exact True.intro
   | exact hp
   | exact ⟨congrArg AV.bool h,rfl⟩
 ·cases e
theorem at2 (n:Int):zA_ n 2=[n.fdiv 256 % 256,n % 256]:=by
 have e:zA_ n 2=[(n.fdiv (2 ^ 8)) % 256,(n.fdiv (2 ^ 0)) % 256]:=rfl
 rw [e,show (2:Int) ^ 8=256 from rfl,Int.pow_zero,Int.fdiv_one]
theorem num2 {n:Int} (h:0<=n/\n<=65535):Jy_ (zA_ n 2)=n:=by
 rw [at2,Int.fdiv_eq_ediv_of_nonneg _ (by decide)]
 show (0*256+n / 256 % 256)*256+n % 256=n
 omega
def hI (h:Bool):Int:=if h=true then 1 else 0
theorem mid {p v r:List Int} {A S:Int} (hA:A=p.length) (hS:S=v.length):((p++(v++r)).take (A+S).toNat).drop A.toNat=v:=by
 subst hA hS
 rw [show ((p.length:Int)+v.length).toNat=p.length+v.length by omega,Int.toNat_natCast,<- List.append_assoc,<- List.length_append,List.take_left,List.drop_left]
theorem gt_ {n:Int} {k j:Nat} (h:j < k) (hk:k<=7):Km_ n ((k+1:Nat):Int) j=Km_ (n / 256) k j:=by
 unfold Km_
 have e:min (8*(((k+1:Nat):Int) - 1 - j)).toNat 64=8+8*(k - 1 - j):=by omega
 have e':min (8*((k:Int) - 1 - j)).toNat 64=8*(k - 1 - j):=by omega
 have hp:∀ m:Nat,(0:Int)<=2 ^ m:=fun m=>Int.le_of_lt (Int.pow_pos (by decide))
 rw [e,e',Int.fdiv_eq_ediv_of_nonneg _ (hp _),Int.fdiv_eq_ediv_of_nonneg _ (hp _),Int.pow_add,<- Int.ediv_ediv_of_nonneg (hp 8)]
 rfl
theorem gr_ {n:Int} {k:Nat} (hk:k<=7):zA_ n ((k+1:Nat):Int)=zA_ (n / 256) k++[n % 256]:=by
 unfold zA_ yQ_
 rw [Int.toNat_natCast,Int.toNat_natCast,List.range_succ,List.map_append]
 congr 1
 ·apply List.map_congr_left
  intro j hj
  exact gt_ (List.mem_range.1 hj) hk
 ·show [Km_ n ((k+1:Nat):Int) k]=_
  unfold Km_
  have e:min (8*(((k+1:Nat):Int) - 1 - k)).toNat 64=0:=by omega
  rw [e,Int.pow_zero,Int.fdiv_one]
theorem xt_:∀ (k:Nat) (b:List Int),k<=8->b.length=k->(∀ x ∈ b,0<=x/\x<=255)->zA_ (Jy_ b) k=b
 | 0,b,_,hl,_=>by
   have:b=[]:=List.eq_nil_of_length_eq_zero hl
   subst this;rfl
 | k+1,b,hk,hl,hb=>by
   rcases List.eq_nil_or_concat b with rfl | ⟨l,c,rfl⟩
   ·cases hl
   ·rw [List.concat_eq_append] at hl hb ⊢
    have hc:=hb c (by simp)
    have hl':l.length=k:=by simpa using hl
    rw [vw_,gr_ (by omega)]
    rw [show (Jy_ l*256+c) / 256=Jy_ l by omega,show (Jy_ l*256+c) % 256=c by omega,xt_ k l (by omega) hl' fun x hx=>hb x (by simp [hx])]
theorem qq_ {α:Type} {p:α->Bool} {l:List α} {i:Nat} {d:α} (h:i < l.length) (ht:(l.take i).any p=false) (hd:p (l.getD i d)=false):(l.take (i+1)).any p=false:=by
 rw [List.take_succ_eq_append_getElem h,List.any_append,ht,Bool.false_or,List.any_cons,List.any_nil,Bool.or_false]
 rwa [List.getD_eq_getElem?_getD,List.getElem?_eq_getElem h] at hd
theorem w5_ {α:Type} {p:α->Bool} {l:List α} {i:Nat} (h:l.length<=i) (ht:(l.take i).any p=false):l.any p=false:=by
 rwa [List.take_of_length_le h] at ht
theorem K6_ {α:Type} {p:α->Bool} {l:List α} {i:Nat} {d:α} (h:i < l.length) (hd:p (l.getD i d)=true):l.any p=true:=
 List.any_eq_true.2 ⟨_,zu_ h d,hd⟩
theorem Jp_ {α:Type} {f:α->Bool} {l:List α} {i:Nat} {d:α} (h:i < l.length) (ht:(l.take i).all f=true) (hd:f (l.getD i d)=true):(l.take (i+1)).all f=true:=by
 rw [List.take_succ_eq_append_getElem h,List.all_append,ht,Bool.true_and,List.all_cons,List.all_nil,Bool.and_true]
 rwa [List.getD_eq_getElem?_getD,List.getElem?_eq_getElem h] at hd
theorem w7_ {α:Type} {f:α->Bool} {l:List α} {i:Nat} (h:l.length<=i) (ht:(l.take i).all f=true):l.all f=true:=by
 rwa [List.take_of_length_le h] at ht
theorem w6_ {α:Type} {f:α->Bool} {l:List α} {i:Nat} {d:α} (h:i < l.length) (hd:f (l.getD i d)=false):l.all f=false:=by
 rw [List.all_eq_false]
 exact ⟨l.getD i d,zu_ h d,by rw [hd];decide⟩
def xR_ (c f:Int):Bool:=decide (c ≠ 32768) || !fIs f || decide (ZF_ f < 0)
def Kk_ (l:List OV) (c f:Int):Bool:=if xR_ c f=true then true else l.any (mtO (ZF_ f) (kh_ f))
def U2_:IR:=
(sq (kr [0,1] [oD 3 (.boxv 1),
oD 4 (.mov cF)])
(sq (kr [0,3] [oA 8 1 3,
oL 9 8,
oC 10 69 [9],
oM 7 10,
oX 11 7 0,
oX 12 7 1,
oD 5 (.box [.int .i64 0,.int .i64 0,.kb false,.int .i64 0,.imm (.int .u64) []]),
oS 5 5 11,
oM 6 12])
(sq (sq (kr [0,3,5,6] [oA 13 0 3,
oL 14 13,
oB 15 .neq 14 (cI 32768),
oM 16 15,
oF 16 17 (.mov 6),
oF 16 18 (.un .not 17),
oP 19 16 cT 18,
oM 20 19,
oF 20 21 (.fieldAddr 3 5),
oF 20 22 (.load none 21),
oF 20 23 (.bin .lss 22 (cI 0)),
oP 24 20 cT 23])
(.cond 24
(sq (kr [] [oD 4 (.mov cT)])
.ret)
.skip))
(sq (kr [0,5] [oM 25 0,
oD 26 (.mkfn 81 [] [5]),
oC 27 27 [25,26],
oM 4 27])
.ret))))
def Ug_:List RD:=[.tmp 4 true none]
theorem Uy_:zl_ Tryz.prog Tryz.f61 U2_ Ug_=true:=by kernel_rfl
def we_:List AV->List Obj->Option (Prop × AV)
 | [.imm (.cons (.int .i64) (.cons (.int .i64) (.cons .bool (.cons (.int .u64) (.cons (.sl (.int .u8)) (.cons (.sl (.int .u8)) .nil)))))) l,.agg [.int .i64 c,.int .i64 f,.bool h,.int .u64 x,.imm (.int .u8) v,.imm (.int .u8) m]],[]=>some ((True,.bool (Kk_ l c f)))
 | _,_=>none
theorem Vk_:zf_ Tryz.prog 61 (RoF we_).sum:=by
 refine zh_ Tryz.func61 Uy_ (zb_ (s:=RoF QX_) kv_ (zb_ (s:=RoF qr_) Qb_ (zb_ (s:=RoF zo_) zC_ (zd_ _)))) fun args objs p v e=>?_
 unfold we_ at e
 split at e
 ·rename_i l c f h x v m
  cases e
  refine ⟨rfl,fun hw ho hp=>?_⟩
  change List Int at v
  change List Int at m
  change List OV at l
  clear hw ho
  cases hn:xR_ c f with
  | true=>
    have e:Kk_ l c f=true:=by unfold Kk_;rw [if_pos hn]
    rw [e]
    repeat'(intro t ht;first|(cases t<;>first|(cases ht;done)|(try simp only[zg_]at ht;try(exfalso;first|contradiction|omega)))|((first|refine za_ ht ?_|refine ht ?_ ?_|refine ht.1 ?_ ?_|refine ht ?_)<;>clear ht))
    all_goals first
     | exact True.intro
     | exact ⟨rfl,rfl⟩
     | (exfalso;unfold xR_ at hn;simp_all;done)
     | (exfalso;unfold xR_ at hn;simp_all;omega)
  | false=>
    have e:Kk_ l c f=l.any (mtO (ZF_ f) (kh_ f)):=by unfold Kk_;rw [hn];rfl
    rw [e]
    repeat'(intro t ht;first|(cases t<;>first|(cases ht;done)|(try simp only[zg_]at ht;try(exfalso;first|contradiction|omega)))|((first|refine za_ ht ?_|refine ht ?_ ?_|refine ht.1 ?_ ?_|refine ht ?_)<;>clear ht))
    all_goals first
     | exact True.intro
     | exact ⟨rfl,rfl⟩
     | (exfalso;unfold xR_ at hn;simp_all;done)
     | (exfalso;unfold xR_ at hn;simp_all;omega)
 ·cases e
def ckS:List OV->List OV->Int × Int
 | _,[]=>(0,0)
 | pre,o :: r=>if pre.any (fun x=>alO x o)=true then (((pre.length:Nat):Int),1035) else if Kk_ pre o.1 o.2.1=true then ckS (pre++[o]) r else (((pre.length:Nat):Int),1034)
theorem hw_ {l:List OV} {i:Nat} (h:l.length<=i):ckS (l.take i) (l.drop i)=(0,0):=by
 rw [List.drop_of_length_le h];unfold ckS;rfl
theorem BN_ {α:Type} {b:List α} {k j:Nat} {d:α} (h:j < k):(b.take k).getD j d=b.getD j d:=by
 rw [List.getD_eq_getElem?_getD,List.getD_eq_getElem?_getD,List.getElem?_take,if_pos h]
theorem jA_ {α:Type} {l:List α} {i:Nat} (h:i<=l.length):(l.take i).length=i:=by rw [List.length_take];omega
theorem hv_ {l:List OV} {i:Nat} {d:OV} (h:i < l.length) (hk:(l.take i).any (fun x=>alO x (l.getD i d))=true):ckS (l.take i) (l.drop i)=(((i:Nat):Int),1035):=by
 rw [z2_ h d];unfold ckS;rw [if_pos hk,jA_ (by omega)]
theorem go_ {l:List OV} {i:Nat} {d:OV} (h:i < l.length) (hk:(l.take i).any (fun x=>alO x (l.getD i d))=false) (hm:Kk_ (l.take i) (l.getD i d).1 (l.getD i d).2.1=false):ckS (l.take i) (l.drop i)=(((i:Nat):Int),1034):=by
 rw [z2_ h d];unfold ckS;rw [if_neg (by rw [hk];decide),if_neg (by rw [hm];decide),jA_ (by omega)]
theorem Be_ {l:List OV} {i:Nat} {d:OV} (h:i < l.length) (hk:(l.take i).any (fun x=>alO x (l.getD i d))=false) (hm:Kk_ (l.take i) (l.getD i d).1 (l.getD i d).2.1=true):ckS (l.take i) (l.drop i)=ckS (l.take (i+1)) (l.drop (i+1)):=by
 have e:l.take (i+1)=l.take i++[l.getD i d]:=by
  rw [List.take_succ_eq_append_getElem h,List.getD_eq_getElem?_getD,List.getElem?_eq_getElem h];rfl
 rw [e,z2_ h d]
 conv=>lhs;unfold ckS
 rw [if_neg (by rw [hk];decide),if_pos hm]
def Y0_:IR:=
(sq (kr [0] [oD 2 (.mov (cI 0)),
oD 3 (.mov (cI 0))])
(.scope
(sq (.reg [oD 4 (.mov (cI 0)),
oD 5 (.mov (cI 0))])
(sq .skip
(sq (sq (.reg [oM 8 0,
oE 9 8,
oD 10 (.mov (cI 0))])
(.block 0
(.loop
(sq (kr [0,4,5,8,9,10] [oB 11 .lss 10 9])
(sq (.cond 11
.skip
(.exit 0))
(sq (.block 1
(sq (kr [0,4,5,8,9,10] [oM 12 10,
oI 13 6 8 10,
oK 14 6 13,
oD 7 (.box [.int .i64 0,.int .i64 0,.kb false,.int .u64 0,.imm (.int .u8) [],.imm (.int .u8) []]),
oM 6 12,
oS 6 7 14])
(.block 2
(sq (kr [0,4,5,6,7,8,9,10] [oM 16 0,
oM 17 6,
oD 18 (.slice 6 16 none (some 17) none),
oD 19 (.mkfn 59 [] [7]),
oC 20 27 [18,19],
oM 15 20])
(.cond 15
(sq (kr [6] [oM 21 6,
oM 4 21,
oD 5 (.mov (cI 1035))])
(.exit 0))
(sq (kd [0,4,5,6,7,8,9,10] [(oM 23 0,[]),
(oM 24 6,[0]),
(oD 25 (.slice 6 23 none (some 24) none),[]),
(oK 26 6 7,[0,0,0]),
(oC 27 61 [25,26],[]),
(oD 28 (.un .not 27),[]),
(oM 22 28,[])])
(.cond 22
(sq (kr [6] [oM 29 6,
oM 4 29,
oD 5 (.mov (cI 1034))])
(.exit 0))
.skip)))))))
(kr [0,4,5,8,9,10] [oB 30 .add 10 (cI 1),
oM 10 30])))))))
(sq (kr [4,5] [oM 31 4,
oM 32 5,
oM 2 31,
oM 3 32])
.ret))))))
def Ys_:List RD:=[.tmp 2 true none,.tmp 3 true none]
theorem YI_:zl_ Tryz.prog Tryz.f30 Y0_ Ys_=true:=by kernel_rfl
def jc_:List AV->List Obj->Option (Prop × AV)
 | [.imm (.cons (.int .i64) (.cons (.int .i64) (.cons .bool (.cons (.int .u64) (.cons (.sl (.int .u8)) (.cons (.sl (.int .u8)) .nil)))))) l],[]=>some ((True,.tup [.int .i64 (ckS [] l).1,.int .i64 (ckS [] l).2]))
 | _,_=>none
theorem Xx_:zf_ Tryz.prog 30 (RoF jc_).sum:=by
 refine zh_ Tryz.func30 YI_ (zb_ (s:=RoF Zw_) qd_ (zb_ (s:=RoF zo_) zC_ (zb_ (s:=RoF we_) Vk_ (zd_ _)))) fun args objs p v e=>?_
 unfold jc_ at e
 split at e
 ·rename_i l
  cases e
  refine ⟨rfl,fun hw ho hp=>?_⟩
  change List OV at l
  have hl:l.length<=maxLen:=(hw (.imm Y1 l) (by simp)).2
  unfold maxLen at hl
  clear hw ho
  repeat'(intro t ht;first|(cases t<;>first|(cases ht;done)|(try simp only[zg_]at ht))|((first|refine za_ ht ?_|refine ht ?_ ?_|refine ht.1 ?_ ?_|refine ht ?_)<;>clear ht))
  all_goals first
   | (intro r h1 h2;clear h1;refine h2 ⟨[0,4,5,8,9,10],Nat,(fun i=>i<=l.length/\ckS [] l=ckS (l.take i) (l.drop i)),fun i=>[.imm Y1 l,.int .i64 0,.int .i64 0,.imm Y1 l,.int .i64 l.length,.int .i64 i],fun _=>[],fun i=>l.length - i,⟨0,⟨Nat.zero_le _,rfl⟩,rfl,rfl⟩,?_⟩;clear h2)
  rintro i ⟨hi,he⟩
  repeat'(intro t ht;first|(cases t<;>first|(cases ht;done)|(try simp only[zg_]at ht;try(exfalso;first|contradiction|omega)))|((first|refine za_ ht ?_|refine ht ?_ ?_|refine ht.1 ?_ ?_|refine ht ?_)<;>clear ht))
  all_goals (try generalize (Ty.dflt Y1)=od at*)
  all_goals first
   | exact True.intro
   | ((try simp only [zq_,zr_,zj_] at*);omega)
   | (rw [he,hw_ (by omega)];exact ⟨rfl,rfl⟩)
   | (have hk:(l.take i).any (fun x=>alO x (l.getD i od))=true:=by assumption
      rw [he,hv_ (by omega) hk];exact ⟨rfl,rfl⟩)
   | (have hk:(l.take i).any (fun x=>alO x (l.getD i od))=false:=by assumption
      first
       | (have hm:Kk_ (l.take i) (l.getD i od).1 (l.getD i od).2.1=false:=by assumption
          rw [he,go_ (by omega) hk hm];exact ⟨rfl,rfl⟩)
       | (have hm:Kk_ (l.take i) (l.getD i od).1 (l.getD i od).2.1=true:=by assumption
          exact ⟨i+1,⟨by omega,he.trans (Be_ (by omega) hk hm)⟩,by dsimp only;omega,rfl,rfl⟩))
 ·cases e
def mrV (nd:Int) (vals:List Int) (c f:Int) (h:Bool) (v:List Int):Bool:=decide (c=32768) && decide (f=nd) && (if vals.length=0 then v.any nzB else vals.any fun y=>!h && decide (v=zA_ y (zy_ nd)))
def mrO (nd:Int) (vals:List Int) (o:OV):Bool:=mrV nd vals o.1 o.2.1 o.2.2.1 o.2.2.2.2.1
theorem bt_ {nd:Int} {vals:List Int} {o:OV} (hv:vals.length=0) (h1:o.1=32768) (h2:o.2.1=nd):mrO nd vals o=o.2.2.2.2.1.any nzB:=by
 unfold mrO mrV;rw [if_pos hv,h1,h2];simp
theorem zao_ {nd S:Int} {vals:List Int} {o:OV} (hv:¬ vals.length=0) (h1:o.1=32768) (h2:o.2.1=nd) (hS:zy_ nd=S):mrO nd vals o=vals.any fun y=>!o.2.2.1 && decide (o.2.2.2.2.1=zA_ y S):=by
 unfold mrO mrV;rw [if_neg hv,h1,h2,hS];simp
theorem nz_f {v:List Int} {k:Nat} (h:v.getD k 0=0):nzB (v.getD k 0)=false:=by unfold nzB;rw [h];rfl
theorem nz_t {v:List Int} {k:Nat} (h:¬ v.getD k 0=0):nzB (v.getD k 0)=true:=decide_eq_true h
theorem G8_ {v:List Int} (hb:∀ x ∈ v,0<=x/\x<=255) (h:v.length<=8):xQ_ v=Jy_ v:=by
 have key:∀ i,i<=v.length->xQ_ (v.take i)=V1_ v i:=by
  intro i
  induction i with
  | zero=>intro _;rfl
  | succ i ih=>
    intro hi
    have hk:=hb _ (zu_ (α:=Int) (show i < v.length by omega) 0)
    have hn:=zaf_ hb i (by omega)
    have e8:(2:Int) ^ min (Int.toNat 8) IntKind.u64.bits=256:=by decide
    rw [vv_ (by omega),h4_ (by omega),ih (by omega),e8,KF_ ⟨by rw [Xa_];omega,by rw [V7_];omega⟩,KF_ ⟨by rw [Xa_];omega,by rw [V7_];omega⟩]
    exact zaa_ hn.1 (by omega) hk.1 hk.2
 have:=key v.length (Nat.le_refl _)
 rwa [List.take_length,bm_ (Nat.le_refl _)] at this
def za1_ (k:Nat):Bool:=decide ((kh_ (k:Nat)).length=0) || ((kh_ (k:Nat)).all fun y=>decide (0<=y) && decide (y<=65535) && (decide (zy_ (ZF_ (k:Nat))=2) || (decide (zy_ (ZF_ (k:Nat))=1) && decide (y<=255))))
theorem zcg_:∀ k < 40,ZF_ (k:Nat)=qv_ (k:Nat)/\kh_ (k:Nat)=qu_ (k:Nat)/\za1_ k=true:=by decide+kernel
theorem law9 (f:Int):ZF_ f=qv_ f/\kh_ f=qu_ f/\∀ y ∈ kh_ f,0<=y/\y<=65535/\(zy_ (ZF_ f)=2\/(zy_ (ZF_ f)=1/\y<=255)):=by
 cases h:fIs f with
 | true=>
   have hn:=ZG_.1 h
   have:=zcg_ f.toNat (by omega)
   unfold za1_ at this
   rw [Int.toNat_of_nonneg hn.1] at this
   refine ⟨this.1,this.2.1,fun y hy=>?_⟩
   have h3:=this.2.2
   rw [Bool.or_eq_true] at h3
   rcases h3 with h3 | h3
   ·have:kh_ f=[]:=List.eq_nil_of_length_eq_zero (of_decide_eq_true h3)
    rw [this] at hy;cases hy
   ·have:=List.all_eq_true.1 h3 y hy
    simp only [Bool.and_eq_true,Bool.or_eq_true,decide_eq_true_eq] at this
    exact ⟨this.1.1,this.1.2,this.2⟩
 | false=>
   unfold ZF_ kh_ qv_ qu_;rw [h];exact ⟨rfl,rfl,fun y hy=>by cases hy⟩
theorem zbc_ {v:List Int} {y z:Int} (hb:∀ x ∈ v,0<=x/\x<=255) (hy:0<=y/\y<=65535/\(z=2\/(z=1/\y<=255))):decide (v=zA_ y z)=(decide ((v.length:Int)=z) && decide (xQ_ v=y)):=by
 rw [Bool.eq_iff_iff]
 simp only [Bool.and_eq_true,decide_eq_true_eq]
 obtain ⟨h1,h2,h3⟩:=hy
 have hn:Jy_ (zA_ y z)=y:=by
  rcases h3 with rfl | ⟨rfl,h3⟩
  ·exact num2 ⟨h1,h2⟩
  ·rw [Bl_ ⟨h1,h3⟩];show 0*256+y=y;omega
 have hz:(zA_ y z).length=z:=QU_ (by omega)
 constructor
 ·intro e
  have hl:(v.length:Int)=z:=by rw [e];exact hz
  exact ⟨hl,by rw [G8_ hb (by omega),e];exact hn⟩
 ·rintro ⟨e1,e2⟩
  rw [G8_ hb (by omega)] at e2
  have:=xt_ v.length v (by omega) rfl hb
  rw [e2,e1] at this;exact this.symm
theorem zar_ {k:Int} {o:OV} (hb:∀ x ∈ o.2.2.2.2.1,0<=x/\x<=255):mrO (ZF_ k) (kh_ k) o=mtO (ZF_ k) (kh_ k) o:=by
 obtain ⟨_,_,h3⟩:=law9 k
 have hs:kS_ (ZF_ k)=zy_ (ZF_ k):=(He_ (ZF_ k)).2.1
 unfold mrO mtO mrV UI_
 congr 1
 by_cases hv:(kh_ k).length=0
 ·rw [if_pos hv,if_pos hv]
 ·rw [if_neg hv,if_neg hv,hs]
  have:∀ l:List Int,(∀ y ∈ l,0<=y/\y<=65535/\(zy_ (ZF_ k)=2\/(zy_ (ZF_ k)=1/\y<=255)))->(l.any fun y=>!o.2.2.1 && decide (o.2.2.2.2.1=zA_ y (zy_ (ZF_ k))))=(decide ((o.2.2.2.2.1.length:Int)=zy_ (ZF_ k)) && !o.2.2.1 && l.any fun y=>decide (xQ_ o.2.2.2.2.1=y)):=by
   intro l
   induction l with
   | nil=>intro _;simp
   | cons y l ih=>
     intro h
     rw [List.any_cons,List.any_cons,ih fun y hy=>h y (List.mem_cons_of_mem _ hy),zbc_ hb (h y (List.mem_cons_self ..))]
     cases o.2.2.1<;>cases decide ((o.2.2.2.2.1.length:Int)=zy_ (ZF_ k))<;>cases decide (xQ_ o.2.2.2.2.1=y)<;>simp
  exact this _ h3
def qV_ (o:OV):Prop:=0<=o.2.2.2.1/\(∀ x ∈ o.2.2.2.2.1,0<=x/\x<=255)/\(∀ x ∈ o.2.2.2.2.2.1,0<=x/\x<=255)
theorem VH_ {l:List OV} (h:Ty.wf (.sl Y1) l):∀ o ∈ l,qV_ o:=fun o ho=>by
 obtain ⟨h1,h2,h3,h4,h5,h6,_⟩:=h.1 o ho
 refine ⟨?_,fun x hx=>?_,fun x hx=>?_⟩
 ·unfold Ty.wf inK at h4;rw [Xa_] at h4;exact h4.1
 ·have:=h5.1 x hx;unfold Ty.wf inK at this;rw [bz_,bE_] at this;exact this
 ·have:=h6.1 x hx;unfold Ty.wf inK at this;rw [bz_,bE_] at this;exact this
def Gh_:IR:=
(sq (kr [0,1] [oD 3 (.boxv 1),
oD 4 (.mov cF)])
(sq (kr [0,3] [oA 14 1 3,
oL 15 14,
oC 16 53 [15],
oM 13 16,
oX 17 13 0,
oX 18 13 1,
oD 5 (.box [.str [],.int .i64 0,.int .i64 0,.kb false,.int .i64 0,.imm (.int .u64) []]),
oS 6 5 17,
oM 6 18])
(sq (sq (kr [0,3,5,6] [oA 19 0 3,
oL 20 19,
oB 21 .neq 20 (cI 32768),
oM 22 21,
oF 22 23 (.mov 6),
oF 22 24 (.un .not 23),
oP 25 22 cT 24,
oM 26 25,
oF 26 27 (.fieldAddr 4 5),
oF 26 28 (.load none 27),
oF 26 29 (.bin .lss 28 (cI 0)),
oP 30 26 cT 29])
(.cond 30
(sq (kr [] [oD 4 (.mov cT)])
.ret)
.skip))
(sq (kr [0,5] [oA 32 4 5,
oL 33 32,
oC 34 53 [33],
oM 31 34,
oX 35 31 0,
oX 36 31 1,
oD 7 (.box [.str [],.int .i64 0,.int .i64 0,.kb false,.int .i64 0,.imm (.int .u64) []]),
oS 6 7 35,
oM 8 36])
(sq (sq (kr [0,5,7] [oD 9 (.mov (cI 0))])
(.block 0
(.loop
(sq (sq (kr [0,5,7,9] [oM 37 9,
oM 38 0,
oE 39 38,
oB 40 .lss 37 39])
(.cond 40
.skip
(.exit 0)))
(sq (.block 1
(sq (kr [0,5,7,9] [oM 43 0,
oM 44 9,
oI 45 6 43 44,
oK 46 6 45,
oD 10 (.box [.int .i64 0,.int .i64 0,.kb false,.int .u64 0,.imm (.int .u8) [],.imm (.int .u8) []]),
oS 6 10 46])
(sq (sq (kr [0,5,7,9,10] [oA 47 0 10,
oL 48 47,
oB 49 .neq 48 (cI 32768),
oM 50 49,
oF 50 51 (.fieldAddr 1 10),
oF 50 52 (.load none 51),
oF 50 53 (.fieldAddr 4 5),
oF 50 54 (.load none 53),
oF 50 55 (.bin .neq 52 54),
oP 56 50 cT 55])
(.cond 56
(.exit 1)
.skip))
(sq (sq (kr [0,5,7,9,10] [oA 57 5 5,
oL 58 57,
oE 59 58,
oB 60 .eql 59 (cI 0)])
(.cond 60
(sq (sq (.reg [oD 11 (.mov (cI 0))])
(.block 2
(.loop
(sq (sq (kr [0,5,7,9,10,11] [oM 61 11,
oA 62 4 10,
oL 63 62,
oE 64 63,
oB 65 .lss 61 64])
(.cond 65
.skip
(.exit 2)))
(sq (.block 3
(sq (kr [0,5,7,9,10,11] [oA 68 4 10,
oL 69 68,
oM 70 11,
oI 71 1 69 70,
oL 72 71,
oB 73 .neq 72 (.c (.int .u8 0))])
(.cond 73
(sq (kr [] [oD 4 (.mov cT)])
.ret)
.skip)))
(kr [0,5,7,9,10,11] [oM 66 11,
oB 67 .add 66 (cI 1),
oM 11 67]))))))
(.exit 1))
.skip))
(sq (kr [0,5,7,9,10] [oD 12 (.mov (cI 0))])
(.block 4
(.loop
(sq (sq (kr [0,5,7,9,10,12] [oM 74 12,
oA 75 5 5,
oL 76 75,
oE 77 76,
oB 78 .lss 74 77])
(.cond 78
.skip
(.exit 4)))
(sq (.block 5
(sq (kd [0,5,7,9,10,12] [(oA 81 2 10,[]),
(oL 82 81,[]),
(oD 83 (.un .not 82),[]),
(oM 84 83,[]),
(oT 84 85 (.fieldAddr 4 10),[]),
(oT 84 86 (.load none 85),[]),
(oT 84 87 (.fieldAddr 5 5),[0,0]),
(oT 84 88 (.load none 87),[1,0]),
(oT 84 89 (.mov 12),[0,0,0,0]),
(oT 84 90 (.indexSl 1 88 89),[3,0]),
(oT 84 91 (.load none 90),[4,0]),
(oT 84 92 (.fieldAddr 2 7),[0,0,0,0,0,0,0]),
(oT 84 93 (.load none 92),[1,0,0,0,0,0,0]),
(oT 84 94 (.call false (.f 73) [91,93]),[7,0]),
(oT 84 95 (.call false (.f 55) [86,94]),[]),
(oP 96 84 95 cF,[])])
(.cond 96
(sq (kr [] [oD 4 (.mov cT)])
.ret)
.skip)))
(kr [0,5,7,9,10,12] [oM 79 12,
oB 80 .add 79 (cI 1),
oM 12 80]))))))))))
(kr [0,5,7,9] [oM 41 9,
oB 42 .add 41 (cI 1),
oM 9 42]))))))
(sq (kr [] [oD 4 (.mov cF)])
.ret))))))
def gV_:List RD:=[.tmp 4 true none]
theorem g2_:zl_ Tryz.prog Tryz.f74 Gh_ gV_=true:=by kernel_rfl
def W2_:List AV->List Obj->Option (Prop × AV)
 | [.imm (.cons (.int .i64) (.cons (.int .i64) (.cons .bool (.cons (.int .u64) (.cons (.sl (.int .u8)) (.cons (.sl (.int .u8)) .nil)))))) l,.agg [.int .i64 c,.int .i64 f,.bool h,.int .u64 x,.imm (.int .u8) v,.imm (.int .u8) m]],[]=>some ((True,.bool (Kk_ l c f)))
 | _,_=>none
theorem uU_:zf_ Tryz.prog 74 (RoF W2_).sum:=by
 refine zh_ Tryz.func74 g2_ (zb_ (s:=RoF kV_) kK_ (zb_ (s:=RwF Jr_) xf_ (zb_ (s:=RoF Ke_) JB_ (zd_ _)))) fun args objs p v e=>?_
 unfold W2_ at e
 split at e
 ·rename_i l c f h x v m
  cases e
  refine ⟨rfl,fun hw ho hp=>?_⟩
  change List Int at v
  change List Int at m
  change List OV at l
  have hl:l.length<=maxLen:=(hw (.imm Y1 l) (by simp)).2
  have hby:=VH_ (l:=l) (hw (.imm Y1 l) (by simp))
  unfold maxLen at hl
  have hvl:∀ o ∈ l,o.2.2.2.2.1.length<=9223372036854775807:=fun o ho=>by
   have:=((hw (.imm Y1 l) (by simp)).1 o ho).2.2.2.2.1.2
   unfold maxLen at this;exact this
  have hvs:(qu_ f).length<=10:=by
   cases h:fIs f with
   | true=>
     have hn:=ZG_.1 h
     have:∀ k < 40,(qu_ (k:Nat)).length<=10:=by decide+kernel
     have:=this f.toNat (by omega)
     rwa [Int.toNat_of_nonneg hn.1] at this
   | false=>unfold qu_;rw [h];exact Nat.zero_le _
  clear hw ho
  obtain ⟨w1,w2,w3⟩:=law9 f
  have hsz:=H1_ (qv_ f)
  have hlaw:∀ o ∈ l,mrO (qv_ f) (qu_ f) o=mtO (ZF_ f) (kh_ f) o:=fun o ho=>by
   rw [<- w1,<- w2];exact zar_ (hby o ho).2.1
  have hany:l.any (mtO (ZF_ f) (kh_ f))=l.any (mrO (qv_ f) (qu_ f)):=by
   rw [Bool.eq_iff_iff,List.any_eq_true,List.any_eq_true]
   constructor
   ·rintro ⟨o,ho,hk⟩;exact ⟨o,ho,(hlaw o ho).trans hk⟩
   ·rintro ⟨o,ho,hk⟩;exact ⟨o,ho,(hlaw o ho).symm.trans hk⟩
  cases hn:xR_ c f with
  | true=>
    have e:Kk_ l c f=true:=by unfold Kk_;rw [if_pos hn]
    rw [e]
    repeat'(intro t ht;first|(cases t<;>first|(cases ht;done)|(try simp only[zg_]at ht;try(exfalso;first|contradiction|omega)))|((first|refine za_ ht ?_|refine ht ?_ ?_|refine ht.1 ?_ ?_|refine ht ?_)<;>clear ht))
    all_goals first
     | exact True.intro
     | exact ⟨rfl,rfl⟩
     | (exfalso;unfold xR_ at hn;simp_all;done)
     | (exfalso;unfold xR_ at hn;simp_all;omega)
  | false=>
    have e:Kk_ l c f=l.any (mrO (qv_ f) (qu_ f)):=by rw [<- hany];unfold Kk_;rw [hn];rfl
    rw [e]
    clear e hany
    have hn1:c=32768:=Classical.byContradiction fun h=>by unfold xR_ at hn;simp [h] at hn
    have hn2:fIs f=true:=by cases hf:fIs f with | true=>rfl | false=>unfold xR_ at hn;simp [hf] at hn
    have hn3:¬ qv_ f < 0:=fun h=>by rw [<- w1] at h;unfold xR_ at hn;simp [h] at hn
    clear hn hlaw
    generalize hS:zy_ (qv_ f)=S at*
    generalize hN:qv_ f=nd at*
    generalize hV:qu_ f=vals at*
    repeat'(intro t ht;first|(cases t<;>first|(cases ht;done)|(try simp only[zg_]at ht;try(exfalso;first|contradiction|omega)))|((first|refine za_ ht ?_|refine ht ?_ ?_|refine ht.1 ?_ ?_|refine ht ?_)<;>clear ht))
    all_goals first
     | exact True.intro
     | (intro r h1 h2;clear h1;refine h2 ⟨[0,5,7,9],Nat,(fun i=>i<=l.length/\(l.take i).any (mrO nd vals)=false),fun i=>[.imm Y1 l,.ptr 0 0,.ptr 1 0,.int .i64 i],fun _=>[.box [.str (kO_ f),.int .i64 (zB_ f),.int .i64 (zy_ f),.bool (qX_ f),.int .i64 nd,.imm (.int .u64) vals],.box [.str (kO_ nd),.int .i64 (zB_ nd),.int .i64 S,.bool (qX_ nd),.int .i64 (qv_ nd),.imm (.int .u64) (qu_ nd)]],fun i=>l.length - i,⟨0,⟨Nat.zero_le _,rfl⟩,rfl,(by rw [hN,hV,hS])⟩,?_⟩;clear h2)
     | (exfalso;rw [hn2] at ht;cases ht)
    rintro i ⟨hi,he⟩
    repeat'(intro t ht;first|(cases t<;>first|(cases ht;done)|(try simp only[zg_]at ht;try(exfalso;first|contradiction|omega)))|((first|refine za_ ht ?_|refine ht ?_ ?_|refine ht.1 ?_ ?_|refine ht ?_)<;>clear ht))
    all_goals (try generalize (Ty.dflt Y1)=od at*)
    all_goals first
     | exact True.intro
     | ((try simp only [zq_,zr_,zj_] at*);omega)
     | (rw [w5_ (by omega) he];exact ⟨rfl,rfl⟩)
     | (have hm:mrO nd vals (l.getD i od)=false:=by
         unfold mrO mrV
         first
          | (rw [decide_eq_false (show ¬ (l.getD i od).1=32768 by assumption)];rfl)
          | (rw [decide_eq_false (show ¬ (l.getD i od).2.1=nd by assumption)];simp;done)
        exact ⟨i+1,⟨by omega,qq_ (d:=od) (by omega) he hm⟩,by dsimp only;omega,rfl,rfl⟩)
     | (intro r h1 h2;clear h1;refine h2 ⟨[0,5,7,9,10,11],Nat,(fun k=>k<=(l.getD i od).2.2.2.2.1.length/\((l.getD i od).2.2.2.2.1.take k).any nzB=false),fun k=>[.imm Y1 l,.ptr 0 0,.ptr 1 0,.int .i64 i,.ptr 2 0,.int .i64 k],fun _=>[.box [.str (kO_ f),.int .i64 (zB_ f),.int .i64 (zy_ f),.bool (qX_ f),.int .i64 nd,.imm (.int .u64) vals],.box [.str (kO_ nd),.int .i64 (zB_ nd),.int .i64 S,.bool (qX_ nd),.int .i64 (qv_ nd),.imm (.int .u64) (qu_ nd)],.box [.int .i64 ((l.getD i od).1),.int .i64 ((l.getD i od).2.1),.bool ((l.getD i od).2.2.1),.int .u64 ((l.getD i od).2.2.2.1),.imm (.int .u8) ((l.getD i od).2.2.2.2.1),.imm (.int .u8) ((l.getD i od).2.2.2.2.2.1)]],fun k=>(l.getD i od).2.2.2.2.1.length - k,⟨0,⟨Nat.zero_le _,rfl⟩,rfl,rfl⟩,?_⟩;clear h2)
     | (intro r h1 h2;clear h1;refine h2 ⟨[0,5,7,9,10,12],Nat,(fun k=>k<=vals.length/\((vals.take k).any fun y=>!(l.getD i od).2.2.1 && decide ((l.getD i od).2.2.2.2.1=zA_ y S))=false),fun k=>[.imm Y1 l,.ptr 0 0,.ptr 1 0,.int .i64 i,.ptr 2 0,.int .i64 k],fun _=>[.box [.str (kO_ f),.int .i64 (zB_ f),.int .i64 (zy_ f),.bool (qX_ f),.int .i64 nd,.imm (.int .u64) vals],.box [.str (kO_ nd),.int .i64 (zB_ nd),.int .i64 S,.bool (qX_ nd),.int .i64 (qv_ nd),.imm (.int .u64) (qu_ nd)],.box [.int .i64 ((l.getD i od).1),.int .i64 ((l.getD i od).2.1),.bool ((l.getD i od).2.2.1),.int .u64 ((l.getD i od).2.2.2.1),.imm (.int .u8) ((l.getD i od).2.2.2.2.1),.imm (.int .u8) ((l.getD i od).2.2.2.2.2.1)]],fun k=>vals.length - k,⟨0,⟨Nat.zero_le _,rfl⟩,rfl,rfl⟩,?_⟩;clear h2)
    all_goals rintro k ⟨hk,hke⟩
    all_goals (have hvli:=hvl _ (zu_ (show i < l.length by omega) od))
    all_goals repeat'(intro t ht;first|(cases t<;>first|(cases ht;done)|(try simp only[zg_]at ht;try(exfalso;first|contradiction|omega)))|((first|refine za_ ht ?_|refine ht ?_ ?_|refine ht.1 ?_ ?_|refine ht ?_)<;>clear ht))
    all_goals first
     | exact True.intro
     | ((try simp only [zq_,zr_,zj_] at*);omega)
     | (have hm:=bt_ (nd:=nd) (vals:=vals) (o:=l.getD i od) (by omega) (by assumption) (by assumption)
        first
         | (rw [w5_ (by omega) hke] at hm
            exact ⟨i+1,⟨by omega,qq_ (d:=od) (by omega) he hm⟩,by dsimp only;omega,rfl,rfl⟩)
         | (have hz:=nz_t (v:=(l.getD i od).2.2.2.2.1) (k:=k) (by assumption)
            rw [K6_ (show k < (l.getD i od).2.2.2.2.1.length by omega) hz] at hm
            rw [K6_ (show i < l.length by omega) hm];exact ⟨rfl,rfl⟩)
         | exact ⟨k+1,⟨by omega,qq_ (d:=0) (by omega) hke (nz_f (by assumption))⟩,by dsimp only;omega,rfl,rfl⟩)
     | (have hm:=zao_ (nd:=nd) (vals:=vals) (o:=l.getD i od) (show ¬ vals.length=0 by omega) (by assumption) (by assumption) hS
        first
         | (rw [w5_ (by omega) hke] at hm
            exact ⟨i+1,⟨by omega,qq_ (d:=od) (by omega) he hm⟩,by dsimp only;omega,rfl,rfl⟩)
         | (have hh:(l.getD i od).2.2.1=true:=by assumption
            exact ⟨k+1,⟨by omega,qq_ (p:=fun y=>!(l.getD i od).2.2.1 && decide ((l.getD i od).2.2.2.2.1=zA_ y S)) (d:=0) (by omega) hke (by (try dsimp only);rw [hh];rfl)⟩,by dsimp only;omega,rfl,rfl⟩)
         | (have hh:(l.getD i od).2.2.1=false:=by assumption
            have hq:(l.getD i od).2.2.2.2.1=zA_ (vals.getD k 0) S:=by assumption
            rw [K6_ (p:=fun y=>!(l.getD i od).2.2.1 && decide ((l.getD i od).2.2.2.2.1=zA_ y S)) (d:=0) (show k < vals.length by omega) (by (try dsimp only);rw [hh,decide_eq_true hq];rfl)] at hm
            rw [K6_ (show i < l.length by omega) hm];exact ⟨rfl,rfl⟩)
         | (have hq:¬ (l.getD i od).2.2.2.2.1=zA_ (vals.getD k 0) S:=by assumption
            exact ⟨k+1,⟨by omega,qq_ (p:=fun y=>!(l.getD i od).2.2.1 && decide ((l.getD i od).2.2.2.2.1=zA_ y S)) (d:=0) (by omega) hke (by (try dsimp only);rw [decide_eq_false hq,Bool.and_false])⟩,by dsimp only;omega,rfl,rfl⟩))
 ·cases e
def ui_:IR:=
(sq (kr [0] [oD 2 (.mov (cI 0)),
oD 3 (.mov (cI 0))])
(sq (sq (.reg [oD 4 (.mov (cI 0))])
(.block 0
(.loop
(sq (sq (kr [0,4] [oM 6 4,
oM 7 0,
oE 8 7,
oB 9 .lss 6 8])
(.cond 9
.skip
(.exit 0)))
(sq (.block 1
(sq (sq (.reg [oD 5 (.mov (cI 0))])
(.block 2
(.loop
(sq (sq (kr [0,4,5] [oM 12 5,
oM 13 4,
oB 14 .lss 12 13])
(.cond 14
.skip
(.exit 2)))
(sq (.block 3
(sq (kd [0,4,5] [(oM 17 0,[]),
(oM 18 5,[0]),
(oI 19 6 17 18,[]),
(oK 20 6 19,[]),
(oM 21 0,[0,0,0,0]),
(oM 22 4,[0,0,0,0,0]),
(oI 23 6 21 22,[2,0,0,0]),
(oK 24 6 23,[3,0,0,0]),
(oC 25 23 [20,24],[])])
(.cond 25
(sq (kr [4] [oM 26 4,
oM 2 26,
oD 3 (.mov (cI 1035))])
.ret)
.skip)))
(kr [0,4,5] [oM 15 5,
oB 16 .add 15 (cI 1),
oM 5 16]))))))
(sq (kd [0,4] [(oM 27 0,[]),
(oM 28 4,[0]),
(oD 29 (.slice 6 27 none (some 28) none),[]),
(oM 30 0,[0,0,0]),
(oM 31 4,[0,0,0,0]),
(oI 32 6 30 31,[2,0,0]),
(oK 33 6 32,[3,0,0]),
(oC 34 74 [29,33],[]),
(oD 35 (.un .not 34),[])])
(.cond 35
(sq (kr [4] [oM 36 4,
oM 2 36,
oD 3 (.mov (cI 1034))])
.ret)
.skip))))
(kr [0,4] [oM 10 4,
oB 11 .add 10 (cI 1),
oM 4 11]))))))
(sq (kr [] [oD 2 (.mov (cI 0)),
oD 3 (.mov (cI 0))])
.ret)))
def Vv_:List RD:=[.tmp 2 true none,.tmp 3 true none]
theorem VO_:zl_ Tryz.prog Tryz.f50 ui_ Vv_=true:=by kernel_rfl
def j2_:List AV->List Obj->Option (Prop × AV)
 | [.imm (.cons (.int .i64) (.cons (.int .i64) (.cons .bool (.cons (.int .u64) (.cons (.sl (.int .u8)) (.cons (.sl (.int .u8)) .nil)))))) l],[]=>some ((True,.tup [.int .i64 (ckS [] l).1,.int .i64 (ckS [] l).2]))
 | _,_=>none
theorem Yf_:zf_ Tryz.prog 50 (RoF j2_).sum:=by
 refine zh_ Tryz.func50 VO_ (zb_ (s:=RoF qZ_) Q1_ (zb_ (s:=RoF W2_) uU_ (zd_ _))) fun args objs p v e=>?_
 unfold j2_ at e
 split at e
 ·rename_i l
  cases e
  refine ⟨rfl,fun hw ho hp=>?_⟩
  change List OV at l
  have hl:l.length<=maxLen:=(hw (.imm Y1 l) (by simp)).2
  unfold maxLen at hl
  clear hw ho
  repeat'(intro t ht;first|(cases t<;>first|(cases ht;done)|(try simp only[zg_]at ht))|((first|refine za_ ht ?_|refine ht ?_ ?_|refine ht.1 ?_ ?_|refine ht ?_)<;>clear ht))
  all_goals first
   | (intro r h1 h2;clear h1;refine h2 ⟨[0,4],Nat,(fun i=>i<=l.length/\ckS [] l=ckS (l.take i) (l.drop i)),fun i=>[.imm Y1 l,.int .i64 i],fun _=>[],fun i=>l.length - i,⟨0,⟨Nat.zero_le _,rfl⟩,rfl,rfl⟩,?_⟩;clear h2)
  rintro i ⟨hi,he⟩
  repeat'(intro t ht;first|(cases t<;>first|(cases ht;done)|(try simp only[zg_]at ht))|((first|refine za_ ht ?_|refine ht ?_ ?_|refine ht.1 ?_ ?_|refine ht ?_)<;>clear ht))
  all_goals first
   | exact True.intro
   | ((try simp only [zq_,zr_,zj_] at*);omega)
   | (rw [he,hw_ (by omega)];exact ⟨rfl,rfl⟩)
   | (intro r h1 h2;clear h1;refine h2 ⟨[0,4,5],Nat,(fun k=>k<=i/\(((l.take i).take k).any (fun x=>alO x (l.getD i (Ty.dflt Y1))))=false),fun k=>[.imm Y1 l,.int .i64 i,.int .i64 k],fun _=>[],fun k=>i - k,⟨0,⟨Nat.zero_le _,rfl⟩,rfl,rfl⟩,?_⟩;clear h2)
  all_goals rintro k ⟨hk,hke⟩
  all_goals have hlt:i < l.length:=by omega
  all_goals have htk:(l.take i).length=i:=jA_ (by omega)
  all_goals repeat'(intro t ht;first|(cases t<;>first|(cases ht;done)|(try simp only[zg_]at ht;try(exfalso;first|contradiction|omega)))|((first|refine za_ ht ?_|refine ht ?_ ?_|refine ht.1 ?_ ?_|refine ht ?_)<;>clear ht))
  all_goals (try generalize (Ty.dflt Y1)=od at*)
  all_goals first
   | exact True.intro
   | ((try simp only [zq_,zr_,zj_] at*);omega)
   | (have hka:=w5_ (by omega) hke
      first
       | (have hm:Kk_ (l.take i) (l.getD i od).1 (l.getD i od).2.1=false:=by assumption
          rw [he,go_ hlt hka hm];exact ⟨rfl,rfl⟩)
       | (have hm:Kk_ (l.take i) (l.getD i od).1 (l.getD i od).2.1=true:=by assumption
          exact ⟨i+1,⟨by omega,he.trans (Be_ (by omega) hka hm)⟩,by dsimp only;omega,rfl,rfl⟩))
   | (have hg:(l.take i).getD k od=l.getD k od:=BN_ (by omega)
      first
       | (have hm:=w8_ ht
          rw [<- hg] at hm
          have hka:=K6_ (p:=fun x=>alO x (l.getD i od)) (d:=od) (show k < (l.take i).length by omega) hm
          rw [he,hv_ hlt hka];exact ⟨rfl,rfl⟩)
       | (have hm:=hA_ ht
          rw [<- hg] at hm
          exact ⟨k+1,⟨by omega,qq_ (p:=fun x=>alO x (l.getD i od)) (d:=od) (by omega) hke hm⟩,by dsimp only;omega,rfl,rfl⟩))
 ·cases e
structure Rear (l:List Int) (a b:Nat) (r:List Int):Prop where
 perm:r.Perm l
 lo:r.take a=l.take a
 hi:r.drop b=l.drop b
theorem Rear.refl (l:List Int) (a b:Nat):Rear l a b l:=⟨.refl _,rfl,rfl⟩
theorem Rear.len {l r:List Int} {a b:Nat} (h:Rear l a b r):r.length=l.length:=h.perm.length_eq
theorem Rear.trans {l r s:List Int} {a b:Nat} (h:Rear l a b r) (k:Rear r a b s):Rear l a b s:=⟨k.perm.trans h.perm,k.lo.trans h.lo,k.hi.trans h.hi⟩
theorem Rear.wide {l r:List Int} {a b a' b':Nat} (h:Rear l a b r) (ha:a'<=a) (hb:b<=b'):Rear l a' b' r:=by
 refine ⟨h.perm,?_,?_⟩
 ·have:=congrArg (List.take a') h.lo
  rwa [List.take_take,List.take_take,Nat.min_eq_left ha] at this
 ·have:=congrArg (List.drop (b' - b)) h.hi
  rwa [List.drop_drop,List.drop_drop,show b+(b' - b)=b' by omega] at this
theorem vC_ {l:List Int} {k a:Nat} (h:k < a):(l.take a).getD k 0=l.getD k 0:=by
 simp only [List.getD_eq_getElem?_getD,List.getElem?_take,if_pos h]
theorem vD_ (l:List Int) (k b:Nat):(l.drop b).getD k 0=l.getD (b+k) 0:=by
 simp only [List.getD_eq_getElem?_getD,List.getElem?_drop]
theorem Rear.get {l r:List Int} {a b k:Nat} (h:Rear l a b r) (hk:k < a\/b<=k):r.getD k 0=l.getD k 0:=by
 rcases hk with hk | hk
 ·rw [<- vC_ hk,h.lo,vC_ hk]
 ·have:=vD_ r (k - b) b
  rw [h.hi,vD_,show b+(k - b)=k by omega] at this
  exact this.symm
def midR (l:List Int) (a b:Nat):List Int:=(l.take b).drop a
theorem cut3 (l:List Int) {a b:Nat} (h:a<=b):l=l.take a++midR l a b++l.drop b:=by
 unfold midR
 have h1:l.take a=(l.take b).take a:=by rw [List.take_take,Nat.min_eq_left h]
 rw [h1,List.take_append_drop,List.take_append_drop]
theorem Rear.midR {l r:List Int} {a b:Nat} (h:Rear l a b r) (hab:a<=b):(midR r a b).Perm (midR l a b):=by
 have h1:=h.perm
 rw [cut3 l hab,cut3 r hab,h.lo,h.hi] at h1
 exact (List.perm_append_left_iff _).1 ((List.perm_append_right_iff _).1 h1)
theorem wO_ (l:List Int) {a b k:Nat} (hb:b<=l.length) (hk:a+k < b):(midR l a b)[k]?=some (l.getD (a+k) 0):=by
 unfold midR
 rw [List.getElem?_drop,List.getElem?_take,if_pos hk,List.getElem?_eq_getElem (by omega),List.getD_eq_getElem?_getD,List.getElem?_eq_getElem (by omega)];rfl
theorem wN_ (l:List Int) {a b:Nat} (hb:b<=l.length):(midR l a b).length=b - a:=by
 unfold midR;rw [List.length_drop,List.length_take,Nat.min_eq_left hb]
def y2_ (l:List Int) (a b:Nat):Prop:=∀ i j,a<=i->i < j->j < b->l.getD i 0<=l.getD j 0
theorem y2_.pw {l:List Int} {a b:Nat} (h:y2_ l a b) (hb:b<=l.length):(midR l a b).Pairwise (· <=·):=by
 rw [List.pairwise_iff_getElem]
 intro i j hi hj hij
 rw [wN_ l hb] at hi hj
 have e1:=wO_ l (a:=a) (k:=i) hb (by omega)
 have e2:=wO_ l (a:=a) (k:=j) hb (by omega)
 rw [List.getElem?_eq_getElem (by rw [wN_ l hb];omega)] at e1 e2
 rw [Option.some.inj e1,Option.some.inj e2]
 exact h _ _ (by omega) (by omega) (by omega)
def leI (x y:Int):Bool:=decide (x<=y)
def srt (l:List Int) (a b:Nat):List Int:=l.take a++(midR l a b).mergeSort leI++l.drop b
theorem Rear.at {l r:List Int} {a b i:Nat} (h:Rear l a b r) (hab:a<=b) (hb:b<=l.length) (hi:a<=i/\i < b):∃ j,a<=j/\j < b/\r.getD i 0=l.getD j 0:=by
 have hm:=h.midR hab
 have hbr:b<=r.length:=by rw [h.len];exact hb
 have e1:=wO_ r (a:=a) (k:=i - a) hbr (by omega)
 have hin:r.getD i 0 ∈ Go.Eng.midR r a b:=by
  rw [show a+(i - a)=i by omega] at e1
  exact List.mem_of_getElem? e1
 have:=(hm.mem_iff).1 hin
 obtain ⟨k,hk,e⟩:=List.mem_iff_getElem.1 this
 rw [wN_ l hb] at hk
 have e2:=wO_ l (a:=a) (k:=k) hb (by omega)
 rw [List.getElem?_eq_getElem (by rw [wN_ l hb];exact hk)] at e2
 exact ⟨a+k,by omega,by omega,by rw [<- e];exact Option.some.inj e2⟩
structure InsJ (l r:List Int) (a b i j:Nat):Prop where
 R:Rear l a b r
 aj:a<=j
 ji:j<=i
 ib:i < b
 s:∀ p q,a<=p->p < q->q<=i->q ≠ j->r.getD p 0<=r.getD q 0
def Hp (r:List Int) (f lo hi:Nat):Prop:=∀ i c,lo<=i->(c=2*i+1\/c=2*i+2)->c < hi->r.getD (f+c) 0<=r.getD (f+i) 0
structure SiftJ (l r:List Int) (f lo hi x:Nat):Prop where
 R:Rear l (f+lo) (f+hi) r
 lx:lo<=x
 h:∀ i c,lo<=i->i ≠ x->(c=2*i+1\/c=2*i+2)->c < hi->r.getD (f+c) 0<=r.getD (f+i) 0
 g:∀ p c,lo<=p->(x=2*p+1\/x=2*p+2)->(c=2*x+1\/c=2*x+2)->c < hi->r.getD (f+c) 0<=r.getD (f+p) 0
structure PopJ (l r:List Int) (a b i:Nat):Prop where
 R:Rear l a b r
 h:Hp r a 0 i
 s:∀ p q,i<=q->p < q->a+q < b->r.getD (a+p) 0<=r.getD (a+q) 0
structure PartJ (l r:List Int) (a b i j:Nat):Prop where
 R:Rear l a b r
 ai:a < i
 jb:j < b
 ij:i<=j+1
 lt:∀ k,a < k->k < i->r.getD k 0<=r.getD a 0
 ge:∀ k,j < k->k < b->r.getD a 0<=r.getD k 0
structure PartR (l r:List Int) (a b m:Nat):Prop where
 R:Rear l a b r
 am:a<=m
 mb:m < b
 lo:∀ k,a<=k->k < m->r.getD k 0<=r.getD m 0
 hi:∀ k,m < k->k < b->r.getD m 0<=r.getD k 0
def We_ (l:List Int) (a b:Nat):Prop:=0 < a->∀ k,a<=k->k < b->l.getD (a - 1) 0<=l.getD k 0
theorem We_.rear {l r:List Int} {a b:Nat} (h:We_ l a b) (hR:Rear l a b r) (hab:a<=b) (hb:b<=l.length):We_ r a b:=fun h0 k h1 h2=>by
 rw [hR.get (.inl (by omega))]
 obtain ⟨j,j1,j2,j3⟩:=hR.at hab hb ⟨h1,h2⟩
 rw [j3];exact h h0 j j1 j2
theorem We_.sub {l:List Int} {a b m:Nat} (h:We_ l a b) (hm:m<=b):We_ l a m:=fun h0 k h1 h2=>h h0 k h1 (by omega)
structure EqlJ (l r:List Int) (a b i j:Nat) (x:Int):Prop where
 R:Rear l a b r
 pv:r.getD a 0=x
 ai:a < i
 jb:j < b
 ij:i<=j+1
 le:∀ k,a < k->k < i->r.getD k 0<=r.getD a 0
 gt:∀ k,j < k->k < b->r.getD a 0 < r.getD k 0
structure EqlR (l r:List Int) (a b m:Nat) (x:Int):Prop where
 R:Rear l a b r
 pv:r.getD a 0=x
 am:a < m
 mb:m<=b
 lo:∀ k,a<=k->k < m->r.getD k 0<=r.getD a 0
 hi:∀ k,m<=k->k < b->r.getD a 0 < r.getD k 0
structure SrX where
 r:List Int
structure SrM where
 r:List Int
 m:Nat
structure SrF where
 r:List Int
 m:Nat
 f:Bool
structure SrI where
 s:Int
structure SrP where
 j:Int
 h:Int
 s:Int
theorem y2_.mono {l:List Int} {a b c:Nat} (h:y2_ l a b) (hc:c<=b):y2_ l a c:=fun i j h1 h2 h3=>h i j h1 h2 (by omega)
def WL_:IR:=
(sq (kr [0] [oD 2 (.mov cF)])
(sq (.reg [oM 3 0,
oM 4 0,
oB 5 .neq 3 4,
oM 2 5])
.ret))
def Ws_:List RD:=[.tmp 2 true none]
theorem WC_:zl_ Tryz.prog Tryz.f71 WL_ Ws_=true:=by kernel_rfl
def kp_:List AV->List Obj->Option (Prop × AV)
 | [.int .i64 x],[]=>some ((True,.bool false))
 | _,_=>none
theorem ws_:zf_ Tryz.prog 71 (RoF kp_).sum:=by
 refine zh_ Tryz.func71 WC_ (zd_ _) fun args objs p v e=>?_
 unfold kp_ at e
 split at e
 ·rename_i x
  cases e
  refine ⟨rfl,fun hw ho hp=>?_⟩
  repeat'(intro t ht;first|(cases t<;>first|(cases ht;done)|(try simp only[zg_]at ht;try(exfalso;first|contradiction|omega)))|((first|refine za_ ht ?_|refine ht ?_ ?_|refine ht.1 ?_ ?_|refine ht ?_)<;>clear ht))
  all_goals first
   | exact True.intro
   | exact ⟨rfl,rfl⟩
   | (refine ⟨congrArg AV.bool ?_,rfl⟩;simp;done)
 ·cases e
end Go.Eng
