/- Parts of the proof: M1, OG, R7, N1, M2, S1, S2. No condition. -/
import Derived.Test.YtjajlkddpekdjaaGreatDoorProg
import Derived.Test.YtjajlkddpekdjaaGreatDoorXC10
import Derived.KernelRfl
import Derived.Test.YtjajlkddpekdjaaGreatDoorXC12
namespace Go.Eng
open Go.Proofs
set_option linter.unusedVariables false
set_option linter.unusedSimpArgs false
set_option maxRecDepth 100000
set_option maxHeartbeats 1000000
def qz_ {α:Type} (p:α->Bool):List α->Int->Int
 | [],_=>-1
 | o :: r,i=>if p o=true then i else qz_ p r (i+1)
theorem Qv_ {α:Type} {p:α->Bool} {l:List α} {i:Nat} (h:l.length<=i):qz_ p (l.drop i) i=-1:=by
 rw [List.drop_of_length_le h];rfl
theorem kL_ {α:Type} {p:α->Bool} {l:List α} {i:Nat} {d:α} (h:i < l.length) (hk:p (l.getD i d)=true):qz_ p (l.drop i) i=i:=by
 rw [z8_ h d];exact if_pos hk
theorem kK_ {α:Type} {p:α->Bool} {l:List α} {i:Nat} {d:α} (h:i < l.length) (hk:p (l.getD i d)=false):qz_ p (l.drop i) i=qz_ p (l.drop (i+1)) ((i+1:Nat):Int):=by
 rw [z8_ h d];exact if_neg (by rw [hk];decide)
theorem qP_ {α:Type} {p:α->Bool}:∀ (l:List α) (i:Int),0<=i->decide (0<=qz_ p l i)=l.any p
 | [],i,h=>rfl
 | o :: r,i,h=>by
   unfold qz_
   rw [List.any_cons]
   cases hk:p o with
   | true=>rw [if_pos rfl,decide_eq_true h];rfl
   | false=>rw [if_neg (by decide),qP_ r (i+1) (by omega)];rfl
def nzB (c:Int):Bool:=decide (c ≠ 0)
abbrev OV:=Int × Int × Bool × Int × List Int × List Int × Unit
instance:DecidableEq (Int × List Int × List Int × Unit):=inferInstance
instance:DecidableEq OV:=inferInstance
def gv_ (b:List Int):Int:=b.foldl (fun n c=>zj_ .or .u64 (IntKind.u64.wrap (n*2 ^ min (Int.toNat 8) IntKind.u64.bits)) (IntKind.u64.wrap c)) 0
theorem hm_ {b:List Int} {i:Nat} (h:i < b.length):gv_ (b.take (i+1))=zj_ .or .u64 (IntKind.u64.wrap (gv_ (b.take i)*2 ^ min (Int.toNat 8) IntKind.u64.bits)) (IntKind.u64.wrap (b.getD i 0)):=by
 unfold gv_
 rw [List.take_succ_eq_append_getElem h,List.foldl_append,List.getD_eq_getElem?_getD,List.getElem?_eq_getElem h];rfl
def yh_:IR:=
(sq (kr [0,1] [oD 4 (.mov (.c (.int .u64 0))),
oD 5 (.mov cF)])
(sq (sq (.reg [oM 8 0,
oE 9 8,
oD 10 (.mov (cI 0))])
(.block 0
(.loop
(sq (kr [0,1,4,8,9,10] [oB 11 .lss 10 9])
(sq (.cond 11
.skip
(.exit 0))
(sq (.block 1
(sq (.reg [oI 12 1 8 10,
oL 13 12,
oM 7 13])
(kr [0,1,4,7,8,9,10] [oM 14 4,
oB 15 .shl 14 (.c (.int .u64 8)),
oM 16 7,
oD 17 (.conv .u64 16),
oB 18 .or 15 17,
oM 4 18])))
(kr [0,1,4,8,9,10] [oB 19 .add 10 (cI 1),
oM 10 19])))))))
(sq (kr [0,1,4] [oM 20 4,
oM 21 0,
oE 22 21,
oM 23 1,
oB 24 .eql 22 23,
oM 4 20,
oM 5 24])
.ret)))
def XA_:List RD:=[.tmp 4 true none,.tmp 5 true none]
theorem XV_:zn_ Tryz.prog Tryz.f98 yh_ XA_=true:=by kernel_rfl
def Kv_:List AV->List Obj->Option (Prop × AV)
 | [.imm (.int .u8) b,.int .i64 z],[]=>some ((True,.tup [.int .u64 (gv_ b),.bool (decide ((b.length:Int)=z))]))
 | _,_=>none
theorem xr_:zf_ Tryz.prog 98 (RoF Kv_).sum:=by
 refine zi_ Tryz.func98 XV_ (ze_ _) fun args objs p v e=>?_
 unfold Kv_ at e
 split at e
 ·rename_i b z
  cases e
  refine ⟨rfl,fun hw ho hp=>?_⟩
  change List Int at b
  have hl:b.length<=maxLen:=(hw (.imm (.int .u8) b) (by simp)).2
  unfold maxLen at hl
  clear hw ho
  repeat'(intro t ht;first|(cases t<;>first|(cases ht;done)|(try simp only[zg_]at ht))|((first|refine za_ ht ?_|refine ht ?_ ?_|refine ht.1 ?_ ?_|refine ht ?_)<;>clear ht))
  all_goals first
   | (intro r h1 h2;clear h1;refine h2 ⟨[0,1,4,8,9,10],Nat,(fun i=>i<=b.length),fun i=>[.imm (.int .u8) b,.int .i64 z,.int .u64 (gv_ (b.take i)),.imm (.int .u8) b,.int .i64 b.length,.int .i64 i],fun _=>[],fun i=>b.length - i,⟨0,Nat.zero_le _,rfl,rfl⟩,?_⟩;clear h2)
  intro i hi
  repeat'(intro t ht;first|(cases t<;>first|(cases ht;done)|(try simp only[zg_]at ht))|((first|refine za_ ht ?_|refine ht ?_ ?_)<;>clear ht)|(refine ht.1 (by simp only[zm_];omega) ?_;clear ht)|(refine ht.2 ?_;clear ht)|(refine ht ?_;clear ht))
  all_goals first
   | exact True.intro
   | ((try simp only [zy_,zz_,zm_] at*);omega)
   | (have hge:b.length<=i:=by omega
      rw [List.take_of_length_le hge];exact ⟨rfl,rfl⟩)
   | exact (by decide)
   | (refine ⟨i+1,by omega,by dsimp only;omega,?_,rfl⟩
      dsimp only
      rw [hm_ (by omega)];rfl)
 ·cases e
def xH_:IR:=
(sq (kr [0] [oD 2 (.mov cF)])
(sq (.reg [oM 3 0,
oB 4 .neq 3 (.c (.int .u8 0)),
oM 2 4])
.ret))
def xv_:List RD:=[.tmp 2 true none]
theorem xB_:zn_ Tryz.prog Tryz.f97 xH_ xv_=true:=by kernel_rfl
def qi_:List AV->List Obj->Option (Prop × AV)
 | [.int .u8 b],[]=>some ((True,.bool (nzB b)))
 | _,_=>none
theorem QW_:zf_ Tryz.prog 97 (RoF qi_).sum:=by
 refine zi_ Tryz.func97 xB_ (ze_ _) fun args objs p v e=>?_
 unfold qi_ at e
 split at e
 ·rename_i b
  cases e
  refine ⟨rfl,fun hw ho hp=>?_⟩
  repeat'(intro t ht;first|(cases t<;>first|(cases ht;done)|(try simp only[zg_]at ht;try(exfalso;first|contradiction|omega)))|((first|refine za_ ht ?_|refine ht ?_ ?_|refine ht.1 ?_ ?_|refine ht ?_)<;>clear ht))
  all_goals first
   | exact True.intro
   | (refine ⟨congrArg AV.bool ?_,rfl⟩;unfold nzB;simp;done)
 ·cases e
def ko_:IR:=
(sq (kr [0,1] [oD 4 (.mov (cI 0))])
(sq (sq (.reg [oM 6 0,
oE 7 6,
oD 8 (.mov (cI 0))])
(.block 0
(.loop
(sq (kr [0,1,7,8] [oB 9 .lss 8 7])
(sq (.cond 9
.skip
(.exit 0))
(sq (.block 1
(sq (.reg [oM 10 8,
oM 5 10])
(sq (kr [0,1,5,7,8] [oM 11 1,
oM 12 0,
oM 13 5,
oI 14 1 12 13,
oL 15 14,
oD 16 (.call false 11 [15])])
(.cond 16
(sq (kr [5] [oM 17 5,
oM 4 17])
.ret)
.skip))))
(kr [0,1,7,8] [oB 18 .add 8 (cI 1),
oM 8 18])))))))
(sq (kr [] [oD 4 (.mov (cI (-1)))])
.ret)))
def kk_:List RD:=[.tmp 4 true none]
theorem km_:zn_ Tryz.prog Tryz.f109 ko_ kk_=true:=by kernel_rfl
def Zb_:List AV->List Obj->Option (Prop × AV)
 | [.imm (.int .u8) l,.fn 97 [] []],[]=>some ((True,.int .i64 (qz_ nzB l 0)))
 | _,_=>none
theorem QV_:zf_ Tryz.prog 109 (RoF Zb_).sum:=by
 refine zi_ Tryz.func109 km_ (zb_ (s:=RoF qi_) QW_ (ze_ _)) fun args objs p v e=>?_
 unfold Zb_ at e
 split at e
 ·rename_i l
  cases e
  refine ⟨rfl,fun hw ho hp=>?_⟩
  change List Int at l
  have hl:l.length<=maxLen:=(hw (.imm (.int .u8) l) (by simp)).2
  unfold maxLen at hl
  clear hw ho
  repeat'(intro t ht;first|(cases t<;>first|(cases ht;done)|(try simp only[zg_]at ht))|((first|refine za_ ht ?_|refine ht ?_ ?_|refine ht.1 ?_ ?_|refine ht ?_)<;>clear ht))
  all_goals first
   | (intro r h1 h2;clear h1;refine h2 ⟨[0,1,7,8],Nat,(fun i=>i<=l.length/\qz_ nzB l 0=qz_ nzB (l.drop i) i),fun i=>[.imm (.int .u8) l,.fn 97 [] [],.int .i64 l.length,.int .i64 i],fun _=>[],fun i=>l.length - i,⟨0,⟨Nat.zero_le _,rfl⟩,rfl,rfl⟩,?_⟩;clear h2)
  rintro i ⟨hi,he⟩
  repeat'(intro t ht;first|(cases t<;>first|(cases ht;done)|(try simp only[zg_]at ht;try(exfalso;first|contradiction|omega)))|((first|refine za_ ht ?_|refine ht ?_ ?_|refine ht.1 ?_ ?_|refine ht ?_)<;>clear ht))
  all_goals first
   | exact True.intro
   | ((try simp only [zy_,zz_,zm_] at*);omega)
   | (refine ⟨?_,rfl⟩;rw [he,Qv_ (by omega)];done)
   | (refine ⟨?_,rfl⟩;rw [he,kL_ (d:=0) (by omega) (by assumption)];done)
   | exact ⟨i+1,⟨by omega,he.trans (kK_ (d:=0) (by omega) (by assumption))⟩,by dsimp only;omega,rfl,rfl⟩
 ·cases e
def Qu_:IR:=
(sq (kr [0,1] [oD 4 (.mov cF)])
(sq (kr [0,1] [oM 5 0,
oM 6 1,
oC 7 109 [5,6],
oB 8 .geq 7 (cI 0),
oM 4 8])
.ret))
def Qn_:List RD:=[.tmp 4 true none]
theorem Qq_:zn_ Tryz.prog Tryz.f96 Qu_ Qn_=true:=by kernel_rfl
def zZ_:List AV->List Obj->Option (Prop × AV)
 | [.imm (.int .u8) l,.fn 97 [] []],[]=>some ((True,.bool (l.any nzB)))
 | _,_=>none
theorem Qc_:zf_ Tryz.prog 96 (RoF zZ_).sum:=by
 refine zi_ Tryz.func96 Qq_ (zb_ (s:=RoF qi_) QW_ (zb_ (s:=RoF Zb_) QV_ (ze_ _))) fun args objs p v e=>?_
 unfold zZ_ at e
 split at e
 ·rename_i l
  cases e
  refine ⟨rfl,fun hw ho hp=>?_⟩
  change List Int at l
  have h:=qP_ (p:=nzB) l 0 (Int.le_refl _)
  repeat'(intro t ht;first|(cases t<;>first|(cases ht;done)|(try simp only[zg_]at ht;try(exfalso;first|contradiction|omega)))|((first|refine za_ ht ?_|refine ht ?_ ?_|refine ht.1 ?_ ?_|refine ht ?_)<;>clear ht))
  all_goals first
   | exact True.intro
   | exact ⟨congrArg AV.bool h,rfl⟩
 ·cases e
def kn_:IR:=
(sq (kr [0,1] [oD 4 (.mov (cI 0))])
(sq (sq (.reg [oM 6 0,
oE 7 6,
oD 8 (.mov (cI 0))])
(.block 0
(.loop
(sq (kr [0,1,7,8] [oB 9 .lss 8 7])
(sq (.cond 9
.skip
(.exit 0))
(sq (.block 1
(sq (.reg [oM 10 8,
oM 5 10])
(sq (kr [0,1,5,7,8] [oM 11 1,
oM 12 0,
oM 13 5,
oI 14 1 12 13,
oL 15 14,
oB 16 .eql 11 15])
(.cond 16
(sq (kr [5] [oM 17 5,
oM 4 17])
.ret)
.skip))))
(kr [0,1,7,8] [oB 18 .add 8 (cI 1),
oM 8 18])))))))
(sq (kr [] [oD 4 (.mov (cI (-1)))])
.ret)))
def kj_:List RD:=[.tmp 4 true none]
theorem kl_:zn_ Tryz.prog Tryz.f110 kn_ kj_=true:=by kernel_rfl
def Za_:List AV->List Obj->Option (Prop × AV)
 | [.imm (.int .u64) l,.int .u64 x],[]=>some ((True,.int .i64 (qz_ (fun y=>decide (x=y)) l 0)))
 | _,_=>none
theorem QU_:zf_ Tryz.prog 110 (RoF Za_).sum:=by
 refine zi_ Tryz.func110 kl_ (ze_ _) fun args objs p v e=>?_
 unfold Za_ at e
 split at e
 ·rename_i l x
  cases e
  refine ⟨rfl,fun hw ho hp=>?_⟩
  change List Int at l
  have hl:l.length<=maxLen:=(hw (.imm (.int .u64) l) (by simp)).2
  unfold maxLen at hl
  clear hw ho
  repeat'(intro t ht;first|(cases t<;>first|(cases ht;done)|(try simp only[zg_]at ht))|((first|refine za_ ht ?_|refine ht ?_ ?_|refine ht.1 ?_ ?_|refine ht ?_)<;>clear ht))
  all_goals first
   | (intro r h1 h2;clear h1;refine h2 ⟨[0,1,7,8],Nat,(fun i=>i<=l.length/\qz_ (fun y=>decide (x=y)) l 0=qz_ (fun y=>decide (x=y)) (l.drop i) i),fun i=>[.imm (.int .u64) l,.int .u64 x,.int .i64 l.length,.int .i64 i],fun _=>[],fun i=>l.length - i,⟨0,⟨Nat.zero_le _,rfl⟩,rfl,rfl⟩,?_⟩;clear h2)
  rintro i ⟨hi,he⟩
  repeat'(intro t ht;first|(cases t<;>first|(cases ht;done)|(try simp only[zg_]at ht;try(exfalso;first|contradiction|omega)))|((first|refine za_ ht ?_|refine ht ?_ ?_|refine ht.1 ?_ ?_|refine ht ?_)<;>clear ht))
  all_goals first
   | exact True.intro
   | ((try simp only [zy_,zz_,zm_] at*);omega)
   | (refine ⟨?_,rfl⟩;rw [he,Qv_ (by omega)];done)
   | (refine ⟨?_,rfl⟩;rw [he,kL_ (d:=0) (by omega) (show decide (x=l.getD i 0)=true from decide_eq_true (by assumption))];done)
   | exact ⟨i+1,⟨by omega,he.trans (kK_ (d:=0) (by omega) (show decide (x=l.getD i 0)=false from decide_eq_false (by assumption)))⟩,by dsimp only;omega,rfl,rfl⟩
 ·cases e
def Qt_:IR:=
(sq (kr [0,1] [oD 4 (.mov cF)])
(sq (kr [0,1] [oM 5 0,
oM 6 1,
oC 7 110 [5,6],
oB 8 .geq 7 (cI 0),
oM 4 8])
.ret))
def Qm_:List RD:=[.tmp 4 true none]
theorem Qp_:zn_ Tryz.prog Tryz.f99 Qt_ Qm_=true:=by kernel_rfl
def zY_:List AV->List Obj->Option (Prop × AV)
 | [.imm (.int .u64) l,.int .u64 x],[]=>some ((True,.bool (l.any fun y=>decide (x=y))))
 | _,_=>none
theorem Qb_:zf_ Tryz.prog 99 (RoF zY_).sum:=by
 refine zi_ Tryz.func99 Qp_ (zb_ (s:=RoF Za_) QU_ (ze_ _)) fun args objs p v e=>?_
 unfold zY_ at e
 split at e
 ·rename_i l x
  cases e
  refine ⟨rfl,fun hw ho hp=>?_⟩
  change List Int at l
  have h:=qP_ (p:=fun y=>decide (x=y)) l 0 (Int.le_refl _)
  repeat'(intro t ht;first|(cases t<;>first|(cases ht;done)|(try simp only[zg_]at ht;try(exfalso;first|contradiction|omega)))|((first|refine za_ ht ?_|refine ht ?_ ?_|refine ht.1 ?_ ?_|refine ht ?_)<;>clear ht))
  all_goals first
   | exact True.intro
   | exact ⟨congrArg AV.bool h,rfl⟩
 ·cases e
def gC_ (n:Int) (vals:List Int) (c f:Int) (h:Bool) (v:List Int):Bool:=decide (c=32768) && decide (f=n) && (if vals.length=0 then v.any nzB else decide ((v.length:Int)=Kj_ n) && !h && vals.any fun y=>decide (gv_ v=y))
def YO_:IR:=
(sq (kr [0,1] [oD 2 (.boxv 0),
oD 3 (.boxv 1),
oD 4 (.mov cF)])
(sq (sq (kr [2,3] [oA 9 0 2,
oL 10 9,
oB 11 .neq 10 (cI 32768),
oM 12 11,
oF 12 13 (.fieldAddr 1 2),
oF 12 14 (.load none 13),
oF 12 15 (.fieldAddr 3 3),
oF 12 16 (.load none 15),
oF 12 17 (.bin .neq 14 16),
oP 18 12 cT 17])
(.cond 18
(sq (kr [] [oD 4 (.mov cF)])
.ret)
.skip))
(sq (sq (kr [2,3] [oA 19 4 3,
oL 20 19,
oE 21 20,
oB 22 .eql 21 (cI 0)])
(.cond 22
(sq (.reg [oA 23 4 2,
oL 24 23,
oC 25 96 [24,.f 97],
oM 4 25])
.ret)
.skip))
(sq (kr [2,3] [oA 27 3 3,
oL 28 27,
oC 29 69 [28],
oM 26 29,
oX 30 26 0,
oX 31 26 1,
oD 5 (.box [.int .i64 0,.int .i64 0,.kb false,.int .i64 0,.imm (.int .u64) []]),
oS 5 5 30,
oM 6 31])
(sq (kr [2,3,5] [oA 33 4 2,
oL 34 33,
oA 35 1 5,
oL 36 35,
oC 37 98 [34,36],
oM 32 37,
oX 38 32 0,
oX 39 32 1,
oM 7 38,
oM 8 39])
(sq (kr [2,3,7,8] [oM 40 8,
oM 41 40,
oT 41 42 (.fieldAddr 2 2),
oT 41 43 (.load none 42),
oT 41 44 (.un .not 43),
oP 45 41 44 cF,
oM 46 45,
oT 46 47 (.fieldAddr 4 3),
oT 46 48 (.load none 47),
oT 46 49 (.mov 7),
oT 46 50 (.call false (.f 99) [48,49]),
oP 51 46 50 cF,
oM 4 51])
.ret))))))
def Yg_:List RD:=[.tmp 4 true none]
theorem Yw_:zn_ Tryz.prog Tryz.f82 YO_ Yg_=true:=by kernel_rfl
def je_:List AV->List Obj->Option (Prop × AV)
 | [.agg [.int .i64 c,.int .i64 f,.bool h,.int .u64 x,.imm (.int .u8) v,.imm (.int .u8) m],.agg [.int .i64 bits,.int .i64 size,.bool mk,.int .i64 nd,.imm (.int .u64) vals]],[]=>some ((True,.bool (gC_ nd vals c f h v)))
 | _,_=>none
theorem Xi_:zf_ Tryz.prog 82 (RoF je_).sum:=by
 refine zi_ Tryz.func82 Yw_ (zb_ (s:=RoF zZ_) Qc_ (zb_ (s:=RoF qi_) QW_ (zb_ (s:=RoF Q6_) kE_ (zb_ (s:=RoF Kv_) xr_ (zb_ (s:=RoF zY_) Qb_ (ze_ _)))))) fun args objs p v e=>?_
 unfold je_ at e
 split at e
 ·rename_i c f h x v m bits size mk nd vals
  cases e
  refine ⟨rfl,fun hw ho hp=>?_⟩
  change List Int at v
  change List Int at m
  change List Int at vals
  clear hw ho
  by_cases h1:c=32768/\f=nd
  ·obtain ⟨rfl,rfl⟩:=h1
   have e:gC_ f vals 32768 f h v=if vals.length=0 then v.any nzB else decide ((v.length:Int)=Kj_ f) && !h && vals.any fun y=>decide (gv_ v=y):=by unfold gC_;simp
   rw [e]
   cases h<;>by_cases h2:vals.length=0<;>by_cases h3:(v.length:Int)=Kj_ f
   all_goals repeat'(intro t ht;first|(cases t<;>first|(cases ht;done)|(try simp only[zg_]at ht;try(exfalso;first|contradiction|omega)))|((first|refine za_ ht ?_|refine ht ?_ ?_|refine ht.1 ?_ ?_|refine ht ?_)<;>clear ht))
   all_goals first
    | exact True.intro
    | (refine ⟨congrArg AV.bool ?_,rfl⟩;simp_all;done)
    | (exfalso;simp_all;done)
  ·have e:gC_ nd vals c f h v=false:=by unfold gC_;by_cases h2:c=32768<;>by_cases h3:f=nd<;>simp_all
   rw [e]
   cases h<;>by_cases h2:c=32768<;>by_cases h3:f=nd
   all_goals repeat'(intro t ht;first|(cases t<;>first|(cases ht;done)|(try simp only[zg_]at ht;try(exfalso;first|contradiction|omega)))|((first|refine za_ ht ?_|refine ht ?_ ?_|refine ht.1 ?_ ?_|refine ht ?_)<;>clear ht))
   all_goals first
    | exact True.intro
    | exact ⟨rfl,rfl⟩
    | (exfalso;omega)
    | (exfalso;simp_all;done)
 ·cases e
def YP_:IR:=
(sq (kr [0,1] [oD 2 (.boxv 0),
oD 3 (.mov cF)])
(sq (.reg [oK 4 6 2,
oK 5 5 1,
oC 6 82 [4,5],
oM 3 6])
.ret))
def Yh_:List RD:=[.tmp 3 true none]
theorem Yx_:zn_ Tryz.prog Tryz.f81 YP_ Yh_=true:=by kernel_rfl
def qA_:List AV->List Obj->Option (Prop × AV)
 | [.agg [.int .i64 c,.int .i64 f,.bool h,.int .u64 x,.imm (.int .u8) v,.imm (.int .u8) m],.ptr 0 0],[.box [.int .i64 bits,.int .i64 size,.bool mk,.int .i64 nd,.imm (.int .u64) vals]]=>some ((True,.bool (gC_ nd vals c f h v)))
 | _,_=>none
theorem Qk_:zf_ Tryz.prog 81 (RoF qA_).sum:=by
 refine zi_ Tryz.func81 Yx_ (zb_ (s:=RoF je_) Xi_ (ze_ _)) fun args objs p v e=>?_
 unfold qA_ at e
 split at e
 ·rename_i c f h x v m bits size mk nd vals
  cases e
  refine ⟨rfl,fun hw ho hp=>?_⟩
  change List Int at v
  change List Int at m
  change List Int at vals
  clear hw ho
  repeat'(intro t ht;first|(cases t<;>first|(cases ht;done)|(try simp only[zg_]at ht;try(exfalso;first|contradiction|omega)))|((first|refine za_ ht ?_|refine ht ?_ ?_|refine ht.1 ?_ ?_|refine ht ?_)<;>clear ht))
  all_goals first
   | exact True.intro
   | exact ⟨rfl,rfl⟩
 ·cases e
def xI_:IR:=
(sq (kr [0,1] [oD 2 (.boxv 0),
oD 3 (.mov cF)])
(sq (.reg [oK 4 6 2,
oK 5 6 1,
oC 6 60 [4,5],
oM 3 6])
.ret))
def xw_:List RD:=[.tmp 3 true none]
theorem xC_:zn_ Tryz.prog Tryz.f59 xI_ xw_=true:=by kernel_rfl
def ZE_:List AV->List Obj->Option (Prop × AV)
 | [.agg [.int .i64 c,.int .i64 f,.bool h,.int .u64 x,.imm (.int .u8) v,.imm (.int .u8) m],.ptr 0 0],[.box [.int .i64 c',.int .i64 f',.bool h',.int .u64 x',.imm (.int .u8) v',.imm (.int .u8) m']]=>some ((True,.bool (decide (c=c') && decide (f=f') && decide (x=x'))))
 | _,_=>none
theorem qn_:zf_ Tryz.prog 59 (RoF ZE_).sum:=by
 refine zi_ Tryz.func59 xC_ (zb_ (s:=RoF qh_) qI_ (ze_ _)) fun args objs p v e=>?_
 unfold ZE_ at e
 split at e
 ·rename_i c f h x v m c' f' h' x' v' m'
  cases e
  refine ⟨rfl,fun hw ho hp=>?_⟩
  change List Int at v
  change List Int at m
  change List Int at v'
  change List Int at m'
  clear hw ho
  repeat'(intro t ht;first|(cases t<;>first|(cases ht;done)|(try simp only[zg_]at ht;try(exfalso;first|contradiction|omega)))|((first|refine za_ ht ?_|refine ht ?_ ?_|refine ht.1 ?_ ?_|refine ht ?_)<;>clear ht))
  all_goals first
   | exact True.intro
   | exact ⟨rfl,rfl⟩
 ·cases e
def rgO (o:OV):Bool:=ZD_ o.1 o.2.1 o.2.2.1 o.2.2.2.1 o.2.2.2.2.1 o.2.2.2.2.2.1
def szO (o:OV):Int:=Xt_ o.1 o.2.1 o.2.2.1 o.2.2.2.1 o.2.2.2.2.1 o.2.2.2.2.2.1
def alO (x o:OV):Bool:=decide (x.1=o.1) && decide (x.2.1=o.2.1) && decide (x.2.2.2.1=o.2.2.2.1)
theorem B6_ {x o:OV} (h:(¬ x.1=o.1\/¬ x.2.1=o.2.1)\/¬ x.2.2.2.1=o.2.2.2.1):alO x o=false:=by
 unfold alO
 rcases h with (h | h) | h<;>simp [h]
theorem UX_ {x o:OV} (h:(x.1=o.1/\x.2.1=o.2.1)/\x.2.2.2.1=o.2.2.2.1):alO x o=true:=by
 unfold alO;rw [h.1.1,h.1.2,h.2];simp
def mtO (n:Int) (vals:List Int) (o:OV):Bool:=gC_ n vals o.1 o.2.1 o.2.2.1 o.2.2.2.2.1
def lenO (o:OV):Prop:=o.2.2.2.2.1.length<=100000/\o.2.2.2.2.2.1.length<=100000
theorem gG_ {o:OV} (h:lenO o):o.2.2.2.2.1.length<=1000000/\o.2.2.2.2.2.1.length<=1000000:=⟨Nat.le_trans h.1 (by decide),Nat.le_trans h.2 (by decide)⟩
structure allLen (l:List OV):Prop where
 h:∀ o ∈ l,lenO o
def WA_:IR:=
(sq (kr [0] [oD 1 (.boxv 0),
oD 2 (.mov cF)])
(sq (.reg [oK 3 6 1,
oC 4 29 [3],
oD 5 (.un .not 4),
oM 2 5])
.ret))
def Wi_:List RD:=[.tmp 2 true none]
theorem Wr_:zn_ Tryz.prog Tryz.f28 WA_ Wi_=true:=by kernel_rfl
def Zs_:List AV->List Obj->Option (Prop × AV)
 | [.agg [.int .i64 c,.int .i64 f,.bool h,.int .u64 x,.imm (.int .u8) v,.imm (.int .u8) m]],[]=>some ((v.length<=1000000/\m.length<=1000000,.bool (!ZD_ c f h x v m)))
 | _,_=>none
theorem Z2_:zf_ Tryz.prog 28 (RoF Zs_).sum:=by
 refine zi_ Tryz.func28 Wr_ (zb_ (s:=RoF Ko_) JC_ (ze_ _)) fun args objs p v e=>?_
 unfold Zs_ at e
 split at e
 ·rename_i c f h x v m
  cases e
  refine ⟨rfl,fun hw ho hp=>?_⟩
  change List Int at v
  change List Int at m
  clear hw ho
  repeat'(intro t ht;first|(cases t<;>first|(cases ht;done)|(try simp only[zg_]at ht;try(exfalso;first|contradiction|omega)))|((first|refine za_ ht ?_|refine ht ?_ ?_|refine ht.1 ?_ ?_|refine ht ?_)<;>clear ht))
  all_goals first
   | exact True.intro
   | exact hp
   | exact ⟨rfl,rfl⟩
 ·cases e
def qO_:IR:=
(sq (kr [0,1] [oD 4 (.mov (cI 0))])
(sq (sq (.reg [oM 6 0,
oE 7 6,
oD 8 (.mov (cI 0))])
(.block 0
(.loop
(sq (kr [0,1,7,8] [oB 9 .lss 8 7])
(sq (.cond 9
.skip
(.exit 0))
(sq (.block 1
(sq (.reg [oM 10 8,
oM 5 10])
(sq (kr [0,1,5,7,8] [oM 11 1,
oM 12 0,
oM 13 5,
oI 14 6 12 13,
oK 15 6 14,
oD 16 (.call false 11 [15])])
(.cond 16
(sq (kr [5] [oM 17 5,
oM 4 17])
.ret)
.skip))))
(kr [0,1,7,8] [oB 18 .add 8 (cI 1),
oM 8 18])))))))
(sq (kr [] [oD 4 (.mov (cI (-1)))])
.ret)))
def qK_:List RD:=[.tmp 4 true none]
theorem qL_:zn_ Tryz.prog Tryz.f56 qO_ qK_=true:=by kernel_rfl
def zP_:List AV->List Obj->Option (Prop × AV)
 | [.imm (.cons (.int .i64) (.cons (.int .i64) (.cons .bool (.cons (.int .u64) (.cons (.sl (.int .u8)) (.cons (.sl (.int .u8)) .nil)))))) l,.fn 81 [] [.ptr 0 0]],[.box [.int .i64 bits,.int .i64 size,.bool mk,.int .i64 nd,.imm (.int .u64) vals]]=>some ((True,.int .i64 (qz_ (α:=OV) (mtO nd vals) l 0)))
 | [.imm (.cons (.int .i64) (.cons (.int .i64) (.cons .bool (.cons (.int .u64) (.cons (.sl (.int .u8)) (.cons (.sl (.int .u8)) .nil)))))) l,.fn 59 [] [.ptr 0 0]],[.box [.int .i64 c',.int .i64 f',.bool h',.int .u64 x',.imm (.int .u8) v',.imm (.int .u8) m']]=>some ((True,.int .i64 (qz_ (α:=OV) (fun x=>alO x (c',f',h',x',v',m',())) l 0)))
 | [.imm (.cons (.int .i64) (.cons (.int .i64) (.cons .bool (.cons (.int .u64) (.cons (.sl (.int .u8)) (.cons (.sl (.int .u8)) .nil)))))) l,.fn 28 [] []],[]=>some ((allLen l,.int .i64 (qz_ (α:=OV) (fun o=>!rgO o) l 0)))
 | _,_=>none
theorem qF_:zf_ Tryz.prog 56 (RoF zP_).sum:=by
 refine zi_ Tryz.func56 qL_ (zb_ (s:=RoF Zs_) Z2_ (zb_ (s:=RoF ZE_) qn_ (zb_ (s:=RoF qA_) Qk_ (ze_ _)))) fun args objs p v e=>?_
 unfold zP_ at e
 split at e
 ·rename_i l bits size mk nd vals
  cases e
  refine ⟨rfl,fun hw ho hp=>?_⟩
  change List Int at vals
  change List OV at l
  have hl:l.length<=maxLen:=(hw (.imm Y1 l) (by simp)).2
  unfold maxLen at hl
  clear hw ho
  repeat'(intro t ht;first|(cases t<;>first|(cases ht;done)|(try simp only[zg_]at ht))|((first|refine za_ ht ?_|refine ht ?_ ?_|refine ht.1 ?_ ?_|refine ht ?_)<;>clear ht))
  all_goals first
   | (intro r h1 h2;clear h1;refine h2 ⟨[0,1,7,8],Nat,(fun i=>i<=l.length/\qz_ (mtO nd vals) l 0=qz_ (mtO nd vals) (l.drop i) i),fun i=>[.imm Y1 l,.fn 81 [] [.ptr 0 0],.int .i64 l.length,.int .i64 i],fun _=>[.box [.int .i64 bits,.int .i64 size,.bool mk,.int .i64 nd,.imm (.int .u64) vals]],fun i=>l.length - i,⟨0,⟨Nat.zero_le _,rfl⟩,rfl,rfl⟩,?_⟩;clear h2)
  rintro i ⟨hi,he⟩
  repeat'(intro t ht;first|(cases t<;>first|(cases ht;done)|(try simp only[zg_]at ht;try(exfalso;first|contradiction|omega)))|((first|refine za_ ht ?_|refine ht ?_ ?_|refine ht.1 ?_ ?_|refine ht ?_)<;>clear ht))
  all_goals (try generalize (Ty.dflt Y1)=od at*)
  all_goals first
   | exact True.intro
   | ((try simp only [zy_,zz_,zm_] at*);omega)
   | (refine ⟨?_,rfl⟩;rw [he,Qv_ (by omega)];done)
   | (refine ⟨?_,rfl⟩;rw [he,kL_ (d:=od) (by omega) (by assumption)];done)
   | exact ⟨i+1,⟨by omega,he.trans (kK_ (d:=od) (by omega) (by assumption))⟩,by dsimp only;omega,rfl,rfl⟩
 ·rename_i l c' f' h' x' v' m'
  cases e
  refine ⟨rfl,fun hw ho hp=>?_⟩
  change List Int at v'
  change List Int at m'
  change List OV at l
  have hl:l.length<=maxLen:=(hw (.imm Y1 l) (by simp)).2
  unfold maxLen at hl
  clear hw ho
  repeat'(intro t ht;first|(cases t<;>first|(cases ht;done)|(try simp only[zg_]at ht))|((first|refine za_ ht ?_|refine ht ?_ ?_|refine ht.1 ?_ ?_|refine ht ?_)<;>clear ht))
  all_goals first
   | (intro r h1 h2;clear h1;refine h2 ⟨[0,1,7,8],Nat,(fun i=>i<=l.length/\qz_ (fun x=>alO x (c',f',h',x',v',m',())) l 0=qz_ (fun x=>alO x (c',f',h',x',v',m',())) (l.drop i) i),fun i=>[.imm Y1 l,.fn 59 [] [.ptr 0 0],.int .i64 l.length,.int .i64 i],fun _=>[.box [.int .i64 c',.int .i64 f',.bool h',.int .u64 x',.imm (.int .u8) v',.imm (.int .u8) m']],fun i=>l.length - i,⟨0,⟨Nat.zero_le _,rfl⟩,rfl,rfl⟩,?_⟩;clear h2)
  rintro i ⟨hi,he⟩
  repeat'(intro t ht;first|(cases t<;>first|(cases ht;done)|(try simp only[zg_]at ht;try(exfalso;first|contradiction|omega)))|((first|refine za_ ht ?_|refine ht ?_ ?_|refine ht.1 ?_ ?_|refine ht ?_)<;>clear ht))
  all_goals (try generalize (Ty.dflt Y1)=od at*)
  all_goals first
   | exact True.intro
   | ((try simp only [zy_,zz_,zm_] at*);omega)
   | (refine ⟨?_,rfl⟩;rw [he,Qv_ (by omega)];done)
   | (refine ⟨?_,rfl⟩;rw [he,kL_ (p:=fun x=>alO x (c',f',h',x',v',m',())) (d:=od) (by omega) (UX_ ht)];done)
   | exact ⟨i+1,⟨by omega,he.trans (kK_ (p:=fun x=>alO x (c',f',h',x',v',m',())) (d:=od) (by omega) (B6_ ht))⟩,by dsimp only;omega,rfl,rfl⟩
 ·rename_i l
  cases e
  refine ⟨rfl,fun hw ho hp=>?_⟩
  change List OV at l
  have hl:l.length<=maxLen:=(hw (.imm Y1 l) (by simp)).2
  unfold maxLen at hl
  clear hw ho
  repeat'(intro t ht;first|(cases t<;>first|(cases ht;done)|(try simp only[zg_]at ht))|((first|refine za_ ht ?_|refine ht ?_ ?_|refine ht.1 ?_ ?_|refine ht ?_)<;>clear ht))
  all_goals first
   | (intro r h1 h2;clear h1;refine h2 ⟨[0,1,7,8],Nat,(fun i=>i<=l.length/\qz_ (fun o=>!rgO o) l 0=qz_ (fun o=>!rgO o) (l.drop i) i),fun i=>[.imm Y1 l,.fn 28 [] [],.int .i64 l.length,.int .i64 i],fun _=>[],fun i=>l.length - i,⟨0,⟨Nat.zero_le _,rfl⟩,rfl,rfl⟩,?_⟩;clear h2)
  rintro i ⟨hi,he⟩
  repeat'(intro t ht;first|(cases t<;>first|(cases ht;done)|(try simp only[zg_]at ht;try(exfalso;first|contradiction|omega)))|((first|refine za_ ht ?_|refine ht ?_ ?_|refine ht.1 ?_ ?_|refine ht ?_)<;>clear ht))
  all_goals (try generalize (Ty.dflt Y1)=od at*)
  all_goals first
   | exact True.intro
   | ((try simp only [zy_,zz_,zm_] at*);omega)
   | exact gG_ (hp.h _ (Zj_ (by omega) od))
   | (refine ⟨?_,rfl⟩;rw [he,Qv_ (by omega)];done)
   | (refine ⟨?_,rfl⟩;rw [he,kL_ (p:=fun o=>!rgO o) (d:=od) (by omega) (by (try dsimp only);unfold rgO;rw [ht];rfl)];done)
   | exact ⟨i+1,⟨by omega,he.trans (kK_ (p:=fun o=>!rgO o) (d:=od) (by omega) (by (try dsimp only);unfold rgO;rw [ht];rfl))⟩,by dsimp only;omega,rfl,rfl⟩
 ·cases e
def qg_:IR:=
(sq (kr [0,1] [oD 4 (.mov cF)])
(sq (kr [0,1] [oM 5 0,
oM 6 1,
oC 7 56 [5,6],
oB 8 .geq 7 (cI 0),
oM 4 8])
.ret))
def qb_:List RD:=[.tmp 4 true none]
theorem qe_:zn_ Tryz.prog Tryz.f27 qg_ qb_=true:=by kernel_rfl
def zo_:List AV->List Obj->Option (Prop × AV)
 | [.imm (.cons (.int .i64) (.cons (.int .i64) (.cons .bool (.cons (.int .u64) (.cons (.sl (.int .u8)) (.cons (.sl (.int .u8)) .nil)))))) l,.fn 81 [] [.ptr 0 0]],[.box [.int .i64 bits,.int .i64 size,.bool mk,.int .i64 nd,.imm (.int .u64) vals]]=>some ((True,.bool ((l:List OV).any (mtO nd vals))))
 | [.imm (.cons (.int .i64) (.cons (.int .i64) (.cons .bool (.cons (.int .u64) (.cons (.sl (.int .u8)) (.cons (.sl (.int .u8)) .nil)))))) l,.fn 59 [] [.ptr 0 0]],[.box [.int .i64 c',.int .i64 f',.bool h',.int .u64 x',.imm (.int .u8) v',.imm (.int .u8) m']]=>some ((True,.bool ((l:List OV).any (fun x=>alO x (c',f',h',x',v',m',())))))
 | [.imm (.cons (.int .i64) (.cons (.int .i64) (.cons .bool (.cons (.int .u64) (.cons (.sl (.int .u8)) (.cons (.sl (.int .u8)) .nil)))))) l,.fn 28 [] []],[]=>some ((allLen l,.bool ((l:List OV).any (fun o=>!rgO o))))
 | _,_=>none
theorem zB_:zf_ Tryz.prog 27 (RoF zo_).sum:=by
 refine zi_ Tryz.func27 qe_ (zb_ (s:=RoF zP_) qF_ (ze_ _)) fun args objs p v e=>?_
 unfold zo_ at e
 split at e
 ·rename_i l bits size mk nd vals
  cases e
  refine ⟨rfl,fun hw ho hp=>?_⟩
  change List Int at vals
  have h:=qP_ (p:=mtO nd vals) l 0 (Int.le_refl _)
  repeat'(intro t ht;first|(cases t<;>first|(cases ht;done)|(try simp only[zg_]at ht;try(exfalso;first|contradiction|omega)))|((first|refine za_ ht ?_|refine ht ?_ ?_|refine ht.1 ?_ ?_|refine ht ?_)<;>clear ht))
  all_goals first
   | exact True.intro
   | exact ⟨congrArg AV.bool h,rfl⟩
 ·rename_i l c' f' h' x' v' m'
  cases e
  refine ⟨rfl,fun hw ho hp=>?_⟩
  change List Int at v'
  change List Int at m'
  have h:=qP_ (p:=fun x=>alO x (c',f',h',x',v',m',())) l 0 (Int.le_refl _)
  repeat'(intro t ht;first|(cases t<;>first|(cases ht;done)|(try simp only[zg_]at ht;try(exfalso;first|contradiction|omega)))|((first|refine za_ ht ?_|refine ht ?_ ?_|refine ht.1 ?_ ?_|refine ht ?_)<;>clear ht))
  all_goals first
   | exact True.intro
   | exact ⟨congrArg AV.bool h,rfl⟩
 ·rename_i l
  cases e
  refine ⟨rfl,fun hw ho hp=>?_⟩
  have h:=qP_ (p:=fun o=>!rgO o) l 0 (Int.le_refl _)
  repeat'(intro t ht;first|(cases t<;>first|(cases ht;done)|(try simp only[zg_]at ht;try(exfalso;first|contradiction|omega)))|((first|refine za_ ht ?_|refine ht ?_ ?_|refine ht.1 ?_ ?_|refine ht ?_)<;>clear ht))
  all_goals first
   | exact True.intro
   | exact hp
   | exact ⟨congrArg AV.bool h,rfl⟩
 ·cases e
def hI (h:Bool):Int:=if h=true then 1 else 0
theorem mid {p v r:List Int} {A S:Int} (hA:A=p.length) (hS:S=v.length):((p++(v++r)).take (A+S).toNat).drop A.toNat=v:=by
 subst hA hS
 rw [show ((p.length:Int)+v.length).toNat=p.length+v.length by omega,Int.toNat_natCast,<- List.append_assoc,<- List.length_append,List.take_left,List.drop_left]
theorem WT_ {α:Type} {f:α->Bool} {l:List α} {i:Nat} {d:α} (h:i < l.length) (ht:(l.take i).all f=true) (hd:f (l.getD i d)=true):(l.take (i+1)).all f=true:=by
 rw [List.take_succ_eq_append_getElem h,List.all_append,ht,Bool.true_and,List.all_cons,List.all_nil,Bool.and_true]
 rwa [List.getD_eq_getElem?_getD,List.getElem?_eq_getElem h] at hd
theorem yX_ {α:Type} {f:α->Bool} {l:List α} {i:Nat} (h:l.length<=i) (ht:(l.take i).all f=true):l.all f=true:=by
 rwa [List.take_of_length_le h] at ht
theorem yW_ {α:Type} {f:α->Bool} {l:List α} {i:Nat} {d:α} (h:i < l.length) (hd:f (l.getD i d)=false):l.all f=false:=by
 rw [List.all_eq_false]
 exact ⟨l.getD i d,Zj_ h d,by rw [hd];decide⟩
def hr_ (c f:Int):Bool:=decide (c ≠ 32768) || !fIs f || decide (vw_ f < 0)
def wL_ (l:List OV) (c f:Int):Bool:=if hr_ c f=true then true else l.any (mtO (vw_ f) (UH_ f))
def Ur_:IR:=
(sq (kr [0,1] [oD 3 (.boxv 1),
oD 4 (.mov cF)])
(sq (kr [0,3] [oA 8 1 3,
oL 9 8,
oC 10 69 [9],
oM 7 10,
oX 11 7 0,
oX 12 7 1,
oD 5 (.box [.int .i64 0,.int .i64 0,.kb false,.int .i64 0,.imm (.int .u64) []]),
oS 5 5 11,
oM 6 12])
(sq (sq (kr [0,3,5,6] [oA 13 0 3,
oL 14 13,
oB 15 .neq 14 (cI 32768),
oM 16 15,
oF 16 17 (.mov 6),
oF 16 18 (.un .not 17),
oP 19 16 cT 18,
oM 20 19,
oF 20 21 (.fieldAddr 3 5),
oF 20 22 (.load none 21),
oF 20 23 (.bin .lss 22 (cI 0)),
oP 24 20 cT 23])
(.cond 24
(sq (kr [] [oD 4 (.mov cT)])
.ret)
.skip))
(sq (kr [0,5] [oM 25 0,
oD 26 (.mkfn 81 [] [5]),
oC 27 27 [25,26],
oM 4 27])
.ret))))
def uI_:List RD:=[.tmp 4 true none]
theorem uY_:zn_ Tryz.prog Tryz.f61 Ur_ uI_=true:=by kernel_rfl
def wc_:List AV->List Obj->Option (Prop × AV)
 | [.imm (.cons (.int .i64) (.cons (.int .i64) (.cons .bool (.cons (.int .u64) (.cons (.sl (.int .u8)) (.cons (.sl (.int .u8)) .nil)))))) l,.agg [.int .i64 c,.int .i64 f,.bool h,.int .u64 x,.imm (.int .u8) v,.imm (.int .u8) m]],[]=>some ((True,.bool (wL_ l c f)))
 | _,_=>none
theorem v8_:zf_ Tryz.prog 61 (RoF wc_).sum:=by
 refine zi_ Tryz.func61 uY_ (zb_ (s:=RoF Q6_) kE_ (zb_ (s:=RoF qA_) Qk_ (zb_ (s:=RoF zo_) zB_ (ze_ _)))) fun args objs p v e=>?_
 unfold wc_ at e
 split at e
 ·rename_i l c f h x v m
  cases e
  refine ⟨rfl,fun hw ho hp=>?_⟩
  change List Int at v
  change List Int at m
  change List OV at l
  clear hw ho
  cases hn:hr_ c f with
  | true=>
    have e:wL_ l c f=true:=by unfold wL_;rw [if_pos hn]
    rw [e]
    repeat'(intro t ht;first|(cases t<;>first|(cases ht;done)|(try simp only[zg_]at ht;try(exfalso;first|contradiction|omega)))|((first|refine za_ ht ?_|refine ht ?_ ?_|refine ht.1 ?_ ?_|refine ht ?_)<;>clear ht))
    all_goals first
     | exact True.intro
     | exact ⟨rfl,rfl⟩
     | (exfalso;unfold hr_ at hn;simp_all;done)
     | (exfalso;unfold hr_ at hn;simp_all;omega)
  | false=>
    have e:wL_ l c f=l.any (mtO (vw_ f) (UH_ f)):=by unfold wL_;rw [hn];rfl
    rw [e]
    repeat'(intro t ht;first|(cases t<;>first|(cases ht;done)|(try simp only[zg_]at ht;try(exfalso;first|contradiction|omega)))|((first|refine za_ ht ?_|refine ht ?_ ?_|refine ht.1 ?_ ?_|refine ht ?_)<;>clear ht))
    all_goals first
     | exact True.intro
     | exact ⟨rfl,rfl⟩
     | (exfalso;unfold hr_ at hn;simp_all;done)
     | (exfalso;unfold hr_ at hn;simp_all;omega)
 ·cases e
def ckS:List OV->List OV->Int × Int
 | _,[]=>(0,0)
 | pre,o :: r=>if pre.any (fun x=>alO x o)=true then (((pre.length:Nat):Int),1035) else if wL_ pre o.1 o.2.1=true then ckS (pre++[o]) r else (((pre.length:Nat):Int),1034)
theorem BD_ {l:List OV} {i:Nat} (h:l.length<=i):ckS (l.take i) (l.drop i)=(0,0):=by
 rw [List.drop_of_length_le h];unfold ckS;rfl
theorem Xa_ {α:Type} {l:List α} {i:Nat} (h:i<=l.length):(l.take i).length=i:=by rw [List.length_take];omega
theorem BC_ {l:List OV} {i:Nat} {d:OV} (h:i < l.length) (hk:(l.take i).any (fun x=>alO x (l.getD i d))=true):ckS (l.take i) (l.drop i)=(((i:Nat):Int),1035):=by
 rw [z8_ h d];unfold ckS;rw [if_pos hk,Xa_ (by omega)]
theorem bh_ {l:List OV} {i:Nat} {d:OV} (h:i < l.length) (hk:(l.take i).any (fun x=>alO x (l.getD i d))=false) (hm:wL_ (l.take i) (l.getD i d).1 (l.getD i d).2.1=false):ckS (l.take i) (l.drop i)=(((i:Nat):Int),1034):=by
 rw [z8_ h d];unfold ckS;rw [if_neg (by rw [hk];decide),if_neg (by rw [hm];decide),Xa_ (by omega)]
theorem zaL_ {l:List OV} {i:Nat} {d:OV} (h:i < l.length) (hk:(l.take i).any (fun x=>alO x (l.getD i d))=false) (hm:wL_ (l.take i) (l.getD i d).1 (l.getD i d).2.1=true):ckS (l.take i) (l.drop i)=ckS (l.take (i+1)) (l.drop (i+1)):=by
 have e:l.take (i+1)=l.take i++[l.getD i d]:=by
  rw [List.take_succ_eq_append_getElem h,List.getD_eq_getElem?_getD,List.getElem?_eq_getElem h];rfl
 rw [e,z8_ h d]
 conv=>lhs;unfold ckS
 rw [if_neg (by rw [hk];decide),if_pos hm]
def YQ_:IR:=
(sq (kr [0] [oD 2 (.mov (cI 0)),
oD 3 (.mov (cI 0))])
(.scope
(sq (.reg [oD 4 (.mov (cI 0)),
oD 5 (.mov (cI 0))])
(sq .skip
(sq (sq (.reg [oM 8 0,
oE 9 8,
oD 10 (.mov (cI 0))])
(.block 0
(.loop
(sq (kr [0,4,5,8,9,10] [oB 11 .lss 10 9])
(sq (.cond 11
.skip
(.exit 0))
(sq (.block 1
(sq (kr [0,4,5,8,9,10] [oM 12 10,
oI 13 6 8 10,
oK 14 6 13,
oD 7 (.box [.int .i64 0,.int .i64 0,.kb false,.int .u64 0,.imm (.int .u8) [],.imm (.int .u8) []]),
oM 6 12,
oS 6 7 14])
(.block 2
(sq (kr [0,4,5,6,7,8,9,10] [oM 16 0,
oM 17 6,
oD 18 (.slice 6 16 none (some 17) none),
oD 19 (.mkfn 59 [] [7]),
oC 20 27 [18,19],
oM 15 20])
(.cond 15
(sq (kr [6] [oM 21 6,
oM 4 21,
oD 5 (.mov (cI 1035))])
(.exit 0))
(sq (kd [0,4,5,6,7,8,9,10] [(oM 23 0,[]),
(oM 24 6,[0]),
(oD 25 (.slice 6 23 none (some 24) none),[]),
(oK 26 6 7,[0,0,0]),
(oC 27 61 [25,26],[]),
(oD 28 (.un .not 27),[]),
(oM 22 28,[])])
(.cond 22
(sq (kr [6] [oM 29 6,
oM 4 29,
oD 5 (.mov (cI 1034))])
(.exit 0))
.skip)))))))
(kr [0,4,5,8,9,10] [oB 30 .add 10 (cI 1),
oM 10 30])))))))
(sq (kr [4,5] [oM 31 4,
oM 32 5,
oM 2 31,
oM 3 32])
.ret))))))
def Yi_:List RD:=[.tmp 2 true none,.tmp 3 true none]
theorem Yy_:zn_ Tryz.prog Tryz.f30 YQ_ Yi_=true:=by kernel_rfl
def jf_:List AV->List Obj->Option (Prop × AV)
 | [.imm (.cons (.int .i64) (.cons (.int .i64) (.cons .bool (.cons (.int .u64) (.cons (.sl (.int .u8)) (.cons (.sl (.int .u8)) .nil)))))) l],[]=>some ((True,.tup [.int .i64 (ckS [] l).1,.int .i64 (ckS [] l).2]))
 | _,_=>none
theorem Xj_:zf_ Tryz.prog 30 (RoF jf_).sum:=by
 refine zi_ Tryz.func30 Yy_ (zb_ (s:=RoF ZE_) qn_ (zb_ (s:=RoF zo_) zB_ (zb_ (s:=RoF wc_) v8_ (ze_ _)))) fun args objs p v e=>?_
 unfold jf_ at e
 split at e
 ·rename_i l
  cases e
  refine ⟨rfl,fun hw ho hp=>?_⟩
  change List OV at l
  have hl:l.length<=maxLen:=(hw (.imm Y1 l) (by simp)).2
  unfold maxLen at hl
  clear hw ho
  repeat'(intro t ht;first|(cases t<;>first|(cases ht;done)|(try simp only[zg_]at ht))|((first|refine za_ ht ?_|refine ht ?_ ?_|refine ht.1 ?_ ?_|refine ht ?_)<;>clear ht))
  all_goals first
   | (intro r h1 h2;clear h1;refine h2 ⟨[0,4,5,8,9,10],Nat,(fun i=>i<=l.length/\ckS [] l=ckS (l.take i) (l.drop i)),fun i=>[.imm Y1 l,.int .i64 0,.int .i64 0,.imm Y1 l,.int .i64 l.length,.int .i64 i],fun _=>[],fun i=>l.length - i,⟨0,⟨Nat.zero_le _,rfl⟩,rfl,rfl⟩,?_⟩;clear h2)
  rintro i ⟨hi,he⟩
  repeat'(intro t ht;first|(cases t<;>first|(cases ht;done)|(try simp only[zg_]at ht;try(exfalso;first|contradiction|omega)))|((first|refine za_ ht ?_|refine ht ?_ ?_|refine ht.1 ?_ ?_|refine ht ?_)<;>clear ht))
  all_goals (try generalize (Ty.dflt Y1)=od at*)
  all_goals first
   | exact True.intro
   | ((try simp only [zy_,zz_,zm_] at*);omega)
   | (rw [he,BD_ (by omega)];exact ⟨rfl,rfl⟩)
   | (have hk:(l.take i).any (fun x=>alO x (l.getD i od))=true:=by assumption
      rw [he,BC_ (by omega) hk];exact ⟨rfl,rfl⟩)
   | (have hk:(l.take i).any (fun x=>alO x (l.getD i od))=false:=by assumption
      first
       | (have hm:wL_ (l.take i) (l.getD i od).1 (l.getD i od).2.1=false:=by assumption
          rw [he,bh_ (by omega) hk hm];exact ⟨rfl,rfl⟩)
       | (have hm:wL_ (l.take i) (l.getD i od).1 (l.getD i od).2.1=true:=by assumption
          exact ⟨i+1,⟨by omega,he.trans (zaL_ (by omega) hk hm)⟩,by dsimp only;omega,rfl,rfl⟩))
 ·cases e
def zT_ (o:OV):Prop:=0<=o.2.2.2.1/\(∀ x ∈ o.2.2.2.2.1,0<=x/\x<=255)/\(∀ x ∈ o.2.2.2.2.2.1,0<=x/\x<=255)
theorem gp_ {l:List OV} (h:Ty.wf (.sl Y1) l):∀ o ∈ l,zT_ o:=fun o ho=>by
 obtain ⟨h1,h2,h3,h4,h5,h6,_⟩:=h.1 o ho
 refine ⟨?_,fun x hx=>?_,fun x hx=>?_⟩
 ·unfold Ty.wf inK at h4;rw [Bj_] at h4;exact h4.1
 ·have:=h5.1 x hx;unfold Ty.wf inK at this;rw [HI_,HL_] at this;exact this
 ·have:=h6.1 x hx;unfold Ty.wf inK at this;rw [HI_,HL_] at this;exact this
structure Rear (l:List Int) (a b:Nat) (r:List Int):Prop where
 perm:r.Perm l
 lo:r.take a=l.take a
 hi:r.drop b=l.drop b
theorem Rear.refl (l:List Int) (a b:Nat):Rear l a b l:=⟨.refl _,rfl,rfl⟩
theorem Rear.len {l r:List Int} {a b:Nat} (h:Rear l a b r):r.length=l.length:=h.perm.length_eq
theorem Rear.trans {l r s:List Int} {a b:Nat} (h:Rear l a b r) (k:Rear r a b s):Rear l a b s:=⟨k.perm.trans h.perm,k.lo.trans h.lo,k.hi.trans h.hi⟩
theorem Rear.wide {l r:List Int} {a b a' b':Nat} (h:Rear l a b r) (ha:a'<=a) (hb:b<=b'):Rear l a' b' r:=by
 refine ⟨h.perm,?_,?_⟩
 ·have:=congrArg (List.take a') h.lo
  rwa [List.take_take,List.take_take,Nat.min_eq_left ha] at this
 ·have:=congrArg (List.drop (b' - b)) h.hi
  rwa [List.drop_drop,List.drop_drop,show b+(b' - b)=b' by omega] at this
theorem vq_ {l:List Int} {k a:Nat} (h:k < a):(l.take a).getD k 0=l.getD k 0:=by
 simp only [List.getD_eq_getElem?_getD,List.getElem?_take,if_pos h]
theorem vr_ (l:List Int) (k b:Nat):(l.drop b).getD k 0=l.getD (b+k) 0:=by
 simp only [List.getD_eq_getElem?_getD,List.getElem?_drop]
theorem Rear.get {l r:List Int} {a b k:Nat} (h:Rear l a b r) (hk:k < a\/b<=k):r.getD k 0=l.getD k 0:=by
 rcases hk with hk | hk
 ·rw [<- vq_ hk,h.lo,vq_ hk]
 ·have:=vr_ r (k - b) b
  rw [h.hi,vr_,show b+(k - b)=k by omega] at this
  exact this.symm
def midR (l:List Int) (a b:Nat):List Int:=(l.take b).drop a
theorem cut3 (l:List Int) {a b:Nat} (h:a<=b):l=l.take a++midR l a b++l.drop b:=by
 unfold midR
 have h1:l.take a=(l.take b).take a:=by rw [List.take_take,Nat.min_eq_left h]
 rw [h1,List.take_append_drop,List.take_append_drop]
theorem Rear.midR {l r:List Int} {a b:Nat} (h:Rear l a b r) (hab:a<=b):(midR r a b).Perm (midR l a b):=by
 have h1:=h.perm
 rw [cut3 l hab,cut3 r hab,h.lo,h.hi] at h1
 exact (List.perm_append_left_iff _).1 ((List.perm_append_right_iff _).1 h1)
theorem wJ_ (l:List Int) {a b k:Nat} (hb:b<=l.length) (hk:a+k < b):(midR l a b)[k]?=some (l.getD (a+k) 0):=by
 unfold midR
 rw [List.getElem?_drop,List.getElem?_take,if_pos hk,List.getElem?_eq_getElem (by omega),List.getD_eq_getElem?_getD,List.getElem?_eq_getElem (by omega)];rfl
theorem wI_ (l:List Int) {a b:Nat} (hb:b<=l.length):(midR l a b).length=b - a:=by
 unfold midR;rw [List.length_drop,List.length_take,Nat.min_eq_left hb]
def yY_ (l:List Int) (a b:Nat):Prop:=∀ i j,a<=i->i < j->j < b->l.getD i 0<=l.getD j 0
theorem yY_.pw {l:List Int} {a b:Nat} (h:yY_ l a b) (hb:b<=l.length):(midR l a b).Pairwise (· <=·):=by
 rw [List.pairwise_iff_getElem]
 intro i j hi hj hij
 rw [wI_ l hb] at hi hj
 have e1:=wJ_ l (a:=a) (k:=i) hb (by omega)
 have e2:=wJ_ l (a:=a) (k:=j) hb (by omega)
 rw [List.getElem?_eq_getElem (by rw [wI_ l hb];omega)] at e1 e2
 rw [Option.some.inj e1,Option.some.inj e2]
 exact h _ _ (by omega) (by omega) (by omega)
def leI (x y:Int):Bool:=decide (x<=y)
def srt (l:List Int) (a b:Nat):List Int:=l.take a++(midR l a b).mergeSort leI++l.drop b
theorem Rear.at {l r:List Int} {a b i:Nat} (h:Rear l a b r) (hab:a<=b) (hb:b<=l.length) (hi:a<=i/\i < b):∃ j,a<=j/\j < b/\r.getD i 0=l.getD j 0:=by
 have hm:=h.midR hab
 have hbr:b<=r.length:=by rw [h.len];exact hb
 have e1:=wJ_ r (a:=a) (k:=i - a) hbr (by omega)
 have hin:r.getD i 0 ∈ Go.Eng.midR r a b:=by
  rw [show a+(i - a)=i by omega] at e1
  exact List.mem_of_getElem? e1
 have:=(hm.mem_iff).1 hin
 obtain ⟨k,hk,e⟩:=List.mem_iff_getElem.1 this
 rw [wI_ l hb] at hk
 have e2:=wJ_ l (a:=a) (k:=k) hb (by omega)
 rw [List.getElem?_eq_getElem (by rw [wI_ l hb];exact hk)] at e2
 exact ⟨a+k,by omega,by omega,by rw [<- e];exact Option.some.inj e2⟩
structure InsJ (l r:List Int) (a b i j:Nat):Prop where
 R:Rear l a b r
 aj:a<=j
 ji:j<=i
 ib:i < b
 s:∀ p q,a<=p->p < q->q<=i->q ≠ j->r.getD p 0<=r.getD q 0
def Hp (r:List Int) (f lo hi:Nat):Prop:=∀ i c,lo<=i->(c=2*i+1\/c=2*i+2)->c < hi->r.getD (f+c) 0<=r.getD (f+i) 0
structure SiftJ (l r:List Int) (f lo hi x:Nat):Prop where
 R:Rear l (f+lo) (f+hi) r
 lx:lo<=x
 h:∀ i c,lo<=i->i ≠ x->(c=2*i+1\/c=2*i+2)->c < hi->r.getD (f+c) 0<=r.getD (f+i) 0
 g:∀ p c,lo<=p->(x=2*p+1\/x=2*p+2)->(c=2*x+1\/c=2*x+2)->c < hi->r.getD (f+c) 0<=r.getD (f+p) 0
structure PopJ (l r:List Int) (a b i:Nat):Prop where
 R:Rear l a b r
 h:Hp r a 0 i
 s:∀ p q,i<=q->p < q->a+q < b->r.getD (a+p) 0<=r.getD (a+q) 0
structure PartJ (l r:List Int) (a b i j:Nat):Prop where
 R:Rear l a b r
 ai:a < i
 jb:j < b
 ij:i<=j+1
 lt:∀ k,a < k->k < i->r.getD k 0<=r.getD a 0
 ge:∀ k,j < k->k < b->r.getD a 0<=r.getD k 0
structure PartR (l r:List Int) (a b m:Nat):Prop where
 R:Rear l a b r
 am:a<=m
 mb:m < b
 lo:∀ k,a<=k->k < m->r.getD k 0<=r.getD m 0
 hi:∀ k,m < k->k < b->r.getD m 0<=r.getD k 0
def w7_ (l:List Int) (a b:Nat):Prop:=0 < a->∀ k,a<=k->k < b->l.getD (a - 1) 0<=l.getD k 0
theorem w7_.rear {l r:List Int} {a b:Nat} (h:w7_ l a b) (hR:Rear l a b r) (hab:a<=b) (hb:b<=l.length):w7_ r a b:=fun h0 k h1 h2=>by
 rw [hR.get (.inl (by omega))]
 obtain ⟨j,j1,j2,j3⟩:=hR.at hab hb ⟨h1,h2⟩
 rw [j3];exact h h0 j j1 j2
theorem w7_.sub {l:List Int} {a b m:Nat} (h:w7_ l a b) (hm:m<=b):w7_ l a m:=fun h0 k h1 h2=>h h0 k h1 (by omega)
structure EqlJ (l r:List Int) (a b i j:Nat) (x:Int):Prop where
 R:Rear l a b r
 pv:r.getD a 0=x
 ai:a < i
 jb:j < b
 ij:i<=j+1
 le:∀ k,a < k->k < i->r.getD k 0<=r.getD a 0
 gt:∀ k,j < k->k < b->r.getD a 0 < r.getD k 0
structure EqlR (l r:List Int) (a b m:Nat) (x:Int):Prop where
 R:Rear l a b r
 pv:r.getD a 0=x
 am:a < m
 mb:m<=b
 lo:∀ k,a<=k->k < m->r.getD k 0<=r.getD a 0
 hi:∀ k,m<=k->k < b->r.getD a 0 < r.getD k 0
structure SrX where
 r:List Int
structure SrM where
 r:List Int
 m:Nat
structure SrF where
 r:List Int
 m:Nat
 f:Bool
structure SrI where
 s:Int
structure SrP where
 j:Int
 h:Int
 s:Int
theorem yY_.mono {l:List Int} {a b c:Nat} (h:yY_ l a b) (hc:c<=b):yY_ l a c:=fun i j h1 h2 h3=>h i j h1 h2 (by omega)
def WF_:IR:=
(sq (kr [0] [oD 2 (.mov cF)])
(sq (.reg [oM 3 0,
oM 4 0,
oB 5 .neq 3 4,
oM 2 5])
.ret))
def Wn_:List RD:=[.tmp 2 true none]
theorem Ww_:zn_ Tryz.prog Tryz.f71 WF_ Wn_=true:=by kernel_rfl
def kz_:List AV->List Obj->Option (Prop × AV)
 | [.int .i64 x],[]=>some ((True,.bool false))
 | _,_=>none
theorem wq_:zf_ Tryz.prog 71 (RoF kz_).sum:=by
 refine zi_ Tryz.func71 Ww_ (ze_ _) fun args objs p v e=>?_
 unfold kz_ at e
 split at e
 ·rename_i x
  cases e
  refine ⟨rfl,fun hw ho hp=>?_⟩
  repeat'(intro t ht;first|(cases t<;>first|(cases ht;done)|(try simp only[zg_]at ht;try(exfalso;first|contradiction|omega)))|((first|refine za_ ht ?_|refine ht ?_ ?_|refine ht.1 ?_ ?_|refine ht ?_)<;>clear ht))
  all_goals first
   | exact True.intro
   | exact ⟨rfl,rfl⟩
   | (refine ⟨congrArg AV.bool ?_,rfl⟩;simp;done)
 ·cases e
end Go.Eng
