/- Parts of the proof: R7, N1, M2. No condition. -/
import Derived.Test.YteihcoggfaenaaaGreatDoorProg
import Derived.Test.YteihcoggfaenaaaGreatDoorWG10
import Derived.KernelRfl
import Derived.Test.YteihcoggfaenaaaGreatDoorWG11
import Derived.Test.YteihcoggfaenaaaGreatDoorWG15
namespace Go.Eng
open Go.Proofs
set_option linter.unusedVariables false
set_option linter.unusedSimpArgs false
set_option maxRecDepth 100000
set_option maxHeartbeats 1000000
def BO_:IR:=
(sq (kr [0] [oD 2 (.mov cF)])
(sq (sq (.reg [oD 3 (.mov (cI 0))])
(.block 0
(.loop
(sq (sq (kr [0,3] [oM 4 3,
oM 5 0,
oE 6 5,
oB 7 .lss 4 6])
(.cond 7
.skip
(.exit 0)))
(sq (.block 1
(sq (kr [0,3] [oM 10 0,
oM 11 3,
oI 12 1 10 11,
oL 13 12,
oB 14 .eql 13 (cI 0),
oM 15 14,
oF 15 16 (.mov 0),
oF 15 17 (.mov 3),
oF 15 18 (.indexSl 1 16 17),
oF 15 19 (.load none 18),
oF 15 20 (.bin .gtr 19 (cI 8)),
oP 21 15 cT 20,
oM 22 21,
oF 22 23 (.mov 0),
oF 22 24 (.mov 3),
oF 22 25 (.indexSl 1 23 24),
oF 22 26 (.load none 25),
oF 22 27 (.bin .lss 26 (cI (-64))),
oP 28 22 cT 27])
(.cond 28
(sq (kr [] [oD 2 (.mov cF)])
.ret)
.skip)))
(kr [0,3] [oM 8 3,
oB 9 .add 8 (cI 1),
oM 3 9]))))))
(sq (kr [0] [oM 29 0,
oE 30 29,
oB 31 .leq 30 (cI 64),
oM 2 31])
.ret)))
def bw_:List RD:=[.tmp 2 true none]
theorem b7_:zm_ Tryz.prog Tryz.f85 BO_ bw_=true:=by kernel_rfl
def jS_:List AV->List Obj->Option (Prop × AV)
 | [.imm (.int .i64) w],[]=>some ((True,.bool (Zb_ w)))
 | _,_=>none
theorem XY_:zd_ Tryz.prog 85 (RoF jS_).sum:=by
 refine zi_ Tryz.func85 b7_ (zc_ _) fun args objs p v e=>?_
 unfold jS_ at e
 split at e
 ·rename_i w
  cases e
  refine ⟨rfl,fun hw ho hp=>?_⟩
  change List Int at w
  have hl:w.length<=maxLen:=(hw (.imm (.int .i64) w) (by simp)).2
  unfold maxLen at hl
  repeat'(intro t ht;first|(cases t<;>first|(cases ht;done)|(try simp only[zg_]at ht))|((first|refine zb_ ht ?_|refine ht ?_ ?_|refine ht.1 ?_ ?_|refine ht ?_)<;>clear ht))
  all_goals (intro r h1 h2;clear h1;refine h2 ⟨[0,3],Nat,(fun i=>i<=w.length/\w.all okW=(w.drop i).all okW),fun i=>[.imm (.int .i64) w,.int .i64 i],fun _=>[],fun i=>w.length - i,⟨0,⟨Nat.zero_le _,rfl⟩,rfl,rfl⟩,?_⟩;clear h2)
  rintro i ⟨hi,he⟩
  repeat'(intro t ht;first|(cases t<;>first|(cases ht;done)|(try simp only[zg_]at ht))|((first|refine zb_ ht ?_|refine ht ?_ ?_|refine ht.1 ?_ ?_|refine ht ?_)<;>clear ht))
  all_goals first
   | ((try simp only [zk_,zl_,zj_] at*);omega)
   | (have hge:w.length<=i:=by omega
      rw [List.drop_of_length_le hge] at he
      refine ⟨?_,rfl⟩;unfold Zb_;rw [he,List.all_nil,Bool.and_true]
      congr 2;exact propext (by omega))
   | (have hlt:i < w.length:=by omega
      rw [zw_ hlt 0,List.all_cons] at he
      first
       | (have hk:okW (w.getD i 0)=false:=zkR_.2 (by omega)
          refine ⟨?_,rfl⟩;unfold Zb_;rw [he,hk];simp;done)
       | (have hk:okW (w.getD i 0)=true:=zfw_.2 (by omega)
          rw [hk,Bool.true_and] at he
          exact ⟨i+1,⟨hlt,he⟩,by (try simp only [zk_,zl_,zj_] at*);omega,rfl,rfl⟩))
 ·cases e
def zcF_:IR:=
(sq (kr [0] [oD 2 (.mov (cI 0))])
(sq (.reg [oD 3 (.mov (cI 0))])
(sq (sq (.reg [oD 4 (.mov (cI 0))])
(.block 0
(.loop
(sq (sq (kr [0,3,4] [oM 5 4,
oM 6 0,
oE 7 6,
oB 8 .lss 5 7,
oM 9 8,
oT 9 10 (.mov 0),
oT 9 11 (.call false (.f 85) [10]),
oP 12 9 11 cF])
(.cond 12
.skip
(.exit 0)))
(sq (.block 1
(sq (kr [0,3,4] [oM 15 0,
oM 16 4,
oI 17 1 15 16,
oL 18 17,
oB 19 .gtr 18 (cI 0)])
(.cond 19
(kr [0,3,4] [oM 20 3,
oM 21 0,
oM 22 4,
oI 23 1 21 22,
oL 24 23,
oB 25 .add 20 24,
oM 3 25])
(kr [0,3,4] [oM 26 3,
oM 27 0,
oM 28 4,
oI 29 1 27 28,
oL 30 29,
oB 31 .sub 26 30,
oM 3 31]))))
(kr [0,3,4] [oM 13 4,
oB 14 .add 13 (cI 1),
oM 4 14]))))))
(sq (kr [3] [oM 32 3,
oM 2 32])
.ret))))
def zbe_:List RD:=[.tmp 2 true none]
theorem zbR_:zm_ Tryz.prog Tryz.f49 zcF_ zbe_=true:=by kernel_rfl
def jl_:List AV->List Obj->Option (Prop × AV)
 | [.imm (.int .i64) w],[]=>some ((True,.int .i64 (zD_ w)))
 | _,_=>none
theorem JY_:zd_ Tryz.prog 49 (RoF jl_).sum:=by
 refine zi_ Tryz.func49 zbR_ (za_ (s:=RoF jS_) XY_ (zc_ _)) fun args objs p v e=>?_
 unfold jl_ at e
 split at e
 ·rename_i w
  cases e
  refine ⟨rfl,fun hw ho hp=>?_⟩
  change List Int at w
  repeat'(intro t ht;first|(cases t<;>first|(cases ht;done)|(try simp only[zg_]at ht))|((first|refine zb_ ht ?_|refine ht ?_ ?_|refine ht.1 ?_ ?_|refine ht ?_)<;>clear ht))
  all_goals first
   | (intro r h1 h2;clear h1;refine h2 ⟨[0,3,4],Nat,(fun i=>i<=w.length/\(Zb_ w=false->i=0)),fun i=>[.imm (.int .i64) w,.int .i64 (jW_ zr_ w i),.int .i64 i],fun _=>[],fun i=>w.length - i,⟨0,⟨Nat.zero_le _,fun _=>rfl⟩,rfl,rfl⟩,?_⟩;clear h2)
  rintro i ⟨hi,hz⟩
  repeat'(intro t ht;first|(cases t<;>first|(cases ht;done)|(try simp only[zg_]at ht))|((first|refine zb_ ht ?_|refine ht ?_ ?_|refine ht.1 ?_ ?_|refine ht ?_)<;>clear ht))
  all_goals first
   | exact True.intro
   | ((try simp only [zk_,zl_,zj_] at*);omega)
   | (have hge:w.length<=i:=by omega
      refine ⟨?_,rfl⟩;unfold zD_;rw [K2_ zr_ hge]
      cases hr:Zb_ w with
      | true=>rfl
      | false=>have h0:=hz hr;have:w=[]:=List.length_eq_zero_iff.1 (by omega);subst this;rfl)
   | (have hr:Zb_ w=false:=by assumption
      have h0:=hz hr;subst h0
      refine ⟨?_,rfl⟩;unfold zD_;rw [hr];rfl)
   | (have hr:Zb_ w=true:=by assumption
      have hl:=(Zj_.1 hr).1
      have hlt:i < w.length:=by omega
      have hs:=yU_ hr i
      have hk:=(Zj_.1 hr).2 _ (zL_ hlt 0)
      have ha:=KI_ (n:=w.getD i 0)
      first
       | ((try simp only [zk_,zl_,zj_] at*);omega)
       | (refine ⟨i+1,⟨hlt,fun h=>by rw [hr] at h;cases h⟩,by (try simp only [zk_,zl_,zj_] at*);omega,?_,rfl⟩
          dsimp only
          rw [q6_ zr_ hlt]
          first
           | (rw [jQ_ (by omega)];done)
           | (rw [jQ_ (by omega)];rfl)
           | (rw [ka_ (by omega)];rfl)
           | (rw [ka_ (by omega),<- Int.sub_eq_add_neg])))
 ·cases e
theorem zdg_ (w:Int):List.replicate w.toNat 0=ze_ 0 w:=by
 have:∀ j:Nat,kG_ 0 w j=0:=fun j=>by unfold kG_;rw [Int.zero_fdiv];rfl
 unfold ze_ kF_
 simp only [this,List.map_const',List.length_range]
theorem zhu_ {α:Type} (b:List α) (p:Nat) {n:Int} (h:0<=n):(b.take ((p:Int)+n).toNat).drop p=(b.drop p).take n.toNat:=by
 have e:((p:Int)+n).toNat=p+n.toNat:=by omega
 rw [e,List.drop_take];congr 1;omega
theorem zdx_ {b:List Int} {p k:Nat} (h:k < b.length) (hz:zT_ ((b.drop p).take (k - p))=true) (hp:p<=k) (e:b.getD k 0=0):zT_ ((b.drop p).take (k+1 - p))=true:=by
 have hk:k - p < (b.drop p).length:=by rw [List.length_drop];omega
 rw [show k+1 - p=(k - p)+1 by omega,List.take_succ_eq_append_getElem hk]
 unfold zT_ at hz ⊢
 rw [List.all_append,hz,Bool.true_and,List.getElem_drop]
 have:b[p+(k - p)]'(by omega)=b.getD k 0:=by
  rw [List.getD_eq_getElem?_getD,List.getElem?_eq_getElem h,Option.getD_some];congr 1;omega
 rw [List.all_cons,List.all_nil,this,e];rfl
theorem zgb_ {b:List Int} {p k n:Nat} (h:k < b.length) (hp:p<=k) (hk:k < p+n) (e:¬ b.getD k 0=0):zT_ ((b.drop p).take n)=false:=by
 unfold zT_
 rw [List.all_eq_false]
 refine ⟨b.getD k 0,?_,by simpa using e⟩
 rw [List.mem_take_iff_getElem]
 refine ⟨k - p,by rw [List.length_drop];omega,?_⟩
 rw [List.getElem_drop,List.getD_eq_getElem?_getD,List.getElem?_eq_getElem h,Option.getD_some]
 congr 1;omega
def zeN_:IR:=
(sq (kr [0,1] [oD 4 (.nilrow (.int .u64)),
oD 5 (.mov (cI 0))])
(sq (sq (.reg [oM 11 0,
oC 12 85 [11],
oD 13 (.un .not 12)])
(.cond 13
(sq (.reg [oD 4 (.nilrow (.int .u64)),
oD 5 (.mov (cI 2))])
.ret)
.skip))
(sq (kr [0,1] [oD 6 (.nilrow (.int .u64))])
(sq (.reg [oD 7 (.mov (cI 0))])
(sq (sq (.reg [oD 8 (.mov (cI 0))])
(.block 0
(.loop
(sq (sq (kr [0,1,6,7,8] [oM 14 8,
oM 15 0,
oE 16 15,
oB 17 .lss 14 16])
(.cond 17
.skip
(.exit 0)))
(sq (.block 1
(sq (kr [0,1,6,7,8] [oM 20 0,
oM 21 8,
oI 22 1 20 21,
oL 23 22,
oM 9 23])
(sq (sq (.reg [oM 24 9,
oB 25 .lss 24 (cI 0)])
(.cond 25
(kr [0,1,6,7,8,9] [oM 26 9,
oD 27 (.un .neg 26),
oM 9 27])
.skip))
(sq (sq (kr [0,1,6,7,8,9] [oM 28 1,
oE 29 28,
oM 30 7,
oB 31 .sub 29 30,
oM 32 9,
oB 33 .lss 31 32])
(.cond 33
(sq (kr [] [oD 4 (.nilrow (.int .u64)),
oD 5 (.mov (cI 1))])
.ret)
.skip))
(sq (sq (kr [0,1,6,7,8,9] [oM 34 0,
oM 35 8,
oI 36 1 34 35,
oL 37 36,
oB 38 .gtr 37 (cI 0)])
(.cond 38
(kr [0,1,6,7,8,9] [oM 39 6,
oM 40 1,
oM 41 7,
oM 42 7,
oM 43 9,
oB 44 .add 42 43,
oD 45 (.slice 1 40 (some 41) (some 44) none),
oC 46 101 [45],
oD 47 (.sliceAll (.int .u64) 1 [(0,1,46)]),
oD 48 (.append (.int .u64) 8 39 47),
oM 6 48])
.skip))
(sq (sq (kr [0,1,6,7,8,9] [oM 49 7,
oM 10 49])
(.block 2
(.loop
(sq (sq (kr [0,1,6,7,8,9,10] [oM 50 10,
oM 51 7,
oM 52 9,
oB 53 .add 51 52,
oB 54 .lss 50 53,
oM 55 54,
oT 55 56 (.mov 0),
oT 55 57 (.mov 8),
oT 55 58 (.indexSl 1 56 57),
oT 55 59 (.load none 58),
oT 55 60 (.bin .lss 59 (cI 0)),
oP 61 55 60 cF])
(.cond 61
.skip
(.exit 2)))
(sq (.block 3
(sq (kr [0,1,6,7,8,9,10] [oM 64 1,
oM 65 10,
oI 66 1 64 65,
oL 67 66,
oB 68 .neq 67 (.c (.int .u8 0))])
(.cond 68
(sq (.reg [oD 4 (.nilrow (.int .u64)),
oD 5 (.mov (cI 2))])
.ret)
.skip)))
(kr [0,1,6,7,8,9,10] [oM 62 10,
oB 63 .add 62 (cI 1),
oM 10 63]))))))
(kr [0,1,6,7,8,9] [oM 69 7,
oM 70 9,
oB 71 .add 69 70,
oM 7 71])))))))
(kr [0,1,6,7,8] [oM 18 8,
oB 19 .add 18 (cI 1),
oM 8 19]))))))
(sq (kr [6] [oM 72 6,
oM 4 72,
oD 5 (.mov (cI 0))])
.ret))))))
def zd2_:List RD:=[.tmp 4 true (some (.int .u64)),.tmp 5 true none]
theorem zem_:zm_ Tryz.prog Tryz.f48 zeN_ zd2_=true:=by kernel_rfl
def JN_:List AV->List Obj->Option (Prop × AV)
 | [.imm (.int .i64) w,.imm (.int .u8) b],[]=>some ((True,.tup [.imm (.int .u64) (zG_ w b),.int .i64 (zQ_ w b)]))
 | _,_=>none
theorem W8_:zd_ Tryz.prog 48 (RoF JN_).sum:=by
 refine zi_ Tryz.func48 zem_ (za_ (s:=RoF jS_) XY_ (za_ (s:=RoF QJ_) kQ_ (zc_ _))) fun args objs p v e=>?_
 unfold JN_ at e
 split at e
 ·rename_i w b
  cases e
  refine ⟨rfl,fun hw ho hp=>?_⟩
  change List Int at w
  change List Int at b
  have hb:b.length<=maxLen:=(hw (.imm (.int .u8) b) (by simp)).2
  unfold maxLen at hb
  repeat'(intro t ht;first|(cases t<;>first|(cases ht;done)|(try simp only[zg_]at ht))|((first|refine zb_ ht ?_|refine ht ?_ ?_|refine ht.1 ?_ ?_|refine ht ?_)<;>clear ht))
  all_goals first
   | exact True.intro
   | (intro r h1 h2;clear h1;refine h2 ⟨[0,1,6,7,8],Nat × Nat × List Int,(fun a=>a.1<=w.length/\a.2.1<=b.length/\a.2.2.length<=a.1/\ZE_ w b []=ZE_ (w.drop a.1) (b.drop a.2.1) a.2.2),fun a=>[.imm (.int .i64) w,.imm (.int .u8) b,.own 0,.int .i64 a.2.1,.int .i64 a.1],fun a=>[.row false (.int .u64) a.2.2],fun a=>w.length - a.1,⟨(0,0,[]),⟨Nat.zero_le _,Nat.zero_le _,Nat.zero_le _,rfl⟩,rfl,rfl⟩,?_⟩;clear h2)
   | (have hr:Zb_ w=false:=by assumption
      have hf:Zy_ w b=([],2):=by unfold Zy_;rw [hr];rfl
      refine ⟨?_,rfl⟩;unfold zG_ zQ_;rw [hf])
  rintro ⟨i,p,o⟩ ⟨hi,hp,ho,he⟩
  dsimp only at hi hp ho he
  have hr:Zb_ w=true:=by assumption
  have hl:=(Zj_.1 hr).1
  have hdl:(b.drop p).length=b.length - p:=List.length_drop
  repeat'(intro t ht;first|(cases t<;>first|(cases ht;done)|(try simp only[zg_]at ht;try(exfalso;first|contradiction|omega)))|((first|refine zb_ ht ?_|refine ht ?_ ?_|refine ht.1 ?_ ?_|refine ht ?_)<;>clear ht))
  all_goals first
   | ((try simp only [zk_,zl_,zj_] at*);omega)
   | (have hge:w.length<=i:=by omega
      rw [List.drop_of_length_le hge] at he
      have hf:Zy_ w b=(o,0):=by unfold Zy_;rw [if_pos hr,he];rfl
      refine ⟨?_,rfl⟩;unfold zG_ zQ_;rw [hf];done)
   | skip
  all_goals have hlt:i < w.length:=by omega
  all_goals have hkk:=(Zj_.1 hr).2 _ (zL_ (α:=Int) hlt 0)
  all_goals have ha:=KI_ (n:=w.getD i 0)
  all_goals dsimp only
  all_goals first
   | exact True.intro
   | ((try simp only [zk_,zl_,zj_] at*);omega)
   | (simp only [List.length_drop,List.length_take];(try simp only [zk_,zl_,zj_] at*);omega)
   | (simp only [zX_,List.length_append,List.length_cons,List.length_nil];omega)
   | (have h1:((b.drop p).length:Int) < zr_ (w.getD i 0):=by rw [hdl];omega
      have hf:Zy_ w b=([],1):=by unfold Zy_;rw [if_pos hr,he];exact yq_ hlt h1
      refine ⟨?_,rfl⟩;unfold zG_ zQ_;rw [hf];done)
   | (have h2:0 < w.getD i 0:=by assumption
      (intro r h1 h2;refine h1 ⟨1,?_⟩;clear h1 h2))
   | (have h2:w.getD i 0 < 0:=by assumption
      (intro r h1 h2;clear h1;refine h2 ⟨[0,1,6,7,8,9,10],Nat,(fun k=>p<=k/\(k:Int)<=p - w.getD i 0/\zT_ ((b.drop p).take (k - p))=true),fun k=>[.imm (.int .i64) w,.imm (.int .u8) b,.own 0,.int .i64 p,.int .i64 i,.int .i64 (0 - w.getD i 0),.int .i64 k],fun _=>[.row false (.int .u64) o],fun k=>b.length - k,⟨p,⟨Nat.le_refl _,by omega,by rw [Nat.sub_self];rfl⟩,rfl,rfl⟩,?_⟩;clear h2);rintro k ⟨hk1,hk2,hk3⟩)
  all_goals repeat'(intro t ht;first|(cases t<;>first|(cases ht;done)|(try simp only[zg_]at ht;try(exfalso;first|contradiction|omega)))|((first|refine zb_ ht ?_|refine ht ?_ ?_|refine ht.1 ?_ ?_|refine ht ?_)<;>clear ht))
  all_goals (try dsimp only)
  all_goals first
   | exact True.intro
   | ((try simp only [zk_,zl_,zj_] at*);omega)
   | (have h2:0 < w.getD i 0:=by assumption
      have h1:¬ ((b.drop p).length:Int) < zr_ (w.getD i 0):=by rw [hdl];omega
      have hab:zr_ (w.getD i 0)=w.getD i 0:=jQ_ (by omega)
      have hsl:=zhu_ b p (n:=w.getD i 0) (by omega)
      refine ⟨(i+1,p+(zr_ (w.getD i 0)).toNat,o++[Zd_ ((b.drop p).take (zr_ (w.getD i 0)).toNat)]),⟨hlt,?_,?_,?_⟩,?_,?_,?_⟩
      ·dsimp only;omega
      ·simp only [List.length_append,List.length_cons,List.length_nil];omega
      ·dsimp only;rw [he,gv_ hlt h1 h2,List.drop_drop]
      ·dsimp only;omega
      ·have:((p+(zr_ (w.getD i 0)).toNat:Nat):Int)=p+w.getD i 0:=by rw [hab];omega
       simp only [this];rfl
      ·simp only [hab,<- hsl];rfl)
   | (have hz:b.getD k 0=0:=by assumption
      exact ⟨k+1,⟨by omega,by omega,zdx_ (by omega) hk3 hk1 hz⟩,by omega,rfl,rfl⟩)
   | (have hz:¬ b.getD k 0=0:=by assumption
      have h2:¬ 0 < w.getD i 0:=by assumption
      have hab:zr_ (w.getD i 0)=-w.getD i 0:=ka_ (by omega)
      have h1:¬ ((b.drop p).length:Int) < zr_ (w.getD i 0):=by rw [hdl];omega
      have h3:zT_ ((b.drop p).take (zr_ (w.getD i 0)).toNat)=false:=zgb_ (by omega) hk1 (by omega) hz
      have hf:Zy_ w b=([],2):=by unfold Zy_;rw [if_pos hr,he];exact gu_ hlt h1 h2 h3
      refine ⟨?_,rfl⟩;unfold zG_ zQ_;rw [hf];done)
   | (have h2:¬ 0 < w.getD i 0:=by assumption
      have hab:zr_ (w.getD i 0)=-w.getD i 0:=ka_ (by omega)
      have h1:¬ ((b.drop p).length:Int) < zr_ (w.getD i 0):=by rw [hdl];omega
      have hke:k - p=(zr_ (w.getD i 0)).toNat:=by omega
      rw [hke] at hk3
      refine ⟨(i+1,p+(zr_ (w.getD i 0)).toNat,o),⟨hlt,?_,?_,?_⟩,?_,?_,rfl⟩
      ·dsimp only;omega
      ·dsimp only;omega
      ·dsimp only;rw [he,vA_ hlt h1 h2 hk3,List.drop_drop]
      ·dsimp only;omega
      ·have:((p+(zr_ (w.getD i 0)).toNat:Nat):Int)=p+(0 - w.getD i 0):=by rw [hab];omega
       simp only [this];rfl)
 ·cases e
theorem zdk_ {n:Int} {k j:Nat} (h:j < k) (hk:k<=7):kG_ n ((k+1:Nat):Int) j=kG_ (n / 256) k j:=by
 unfold kG_
 have e:min (8*(((k+1:Nat):Int) - 1 - j)).toNat 64=8+8*(k - 1 - j):=by omega
 have e':min (8*((k:Int) - 1 - j)).toNat 64=8*(k - 1 - j):=by omega
 have hp:∀ m:Nat,(0:Int)<=2 ^ m:=fun m=>Int.le_of_lt (Int.pow_pos (by decide))
 rw [e,e',Int.fdiv_eq_ediv_of_nonneg _ (hp _),Int.fdiv_eq_ediv_of_nonneg _ (hp _),Int.pow_add,<- Int.ediv_ediv_of_nonneg (hp 8)]
 rfl
theorem Vw_ {n:Int} {k:Nat} (hk:k<=7):ze_ n ((k+1:Nat):Int)=ze_ (n / 256) k++[n % 256]:=by
 unfold ze_ kF_
 rw [Int.toNat_natCast,Int.toNat_natCast,List.range_succ,List.map_append]
 congr 1
 ·apply List.map_congr_left
  intro j hj
  exact zdk_ (List.mem_range.1 hj) hk
 ·show [kG_ n ((k+1:Nat):Int) k]=_
  unfold kG_
  have e:min (8*(((k+1:Nat):Int) - 1 - k)).toNat 64=0:=by omega
  rw [e,Int.pow_zero,Int.fdiv_one]
theorem Vg_:∀ (k:Nat) (n:Int),k<=8->0<=n->n < 256 ^ k->Zd_ (ze_ n k)=n
 | 0,n,_,h0,h1=>by
   have:n=0:=by rw [Int.pow_zero] at h1;omega
   subst this;rfl
 | k+1,n,hk,h0,h1=>by
   rw [Vw_ (by omega),vn_,Vg_ k (n / 256) (by omega) (by omega) (by rw [Int.pow_succ] at h1;exact Int.ediv_lt_of_lt_mul (by decide) h1)]
   omega
theorem x0_:∀ (k:Nat) (b:List Int),k<=8->b.length=k->(∀ x ∈ b,0<=x/\x<=255)->ze_ (Zd_ b) k=b
 | 0,b,_,hl,_=>by
   have:b=[]:=List.eq_nil_of_length_eq_zero hl
   subst this;rfl
 | k+1,b,hk,hl,hb=>by
   rcases List.eq_nil_or_concat b with rfl | ⟨l,c,rfl⟩
   ·cases hl
   ·rw [List.concat_eq_append] at hl hb ⊢
    have hc:=hb c (by simp)
    have hl':l.length=k:=by simpa using hl
    rw [vn_,Vw_ (by omega)]
    rw [show (Zd_ l*256+c) / 256=Zd_ l by omega,show (Zd_ l*256+c) % 256=c by omega,x0_ k l (by omega) hl' fun x hx=>hb x (by simp [hx])]
theorem zdi_ (w:Int):ze_ 0 w=List.replicate w.toNat 0:=(zdg_ w).symm
theorem YT_ (k:Nat):zT_ (List.replicate k 0)=true:=by
 unfold zT_;rw [List.all_eq_true];intro x hx;rw [List.eq_of_mem_replicate hx];rfl
theorem zhc_ {b:List Int} (h:zT_ b=true):b=List.replicate b.length 0:=by
 unfold zT_ at h
 rw [List.all_eq_true] at h
 exact List.eq_replicate_iff.2 ⟨rfl,fun x hx=>by simpa using h x hx⟩
theorem Qr_:∀ (w xs b:List Int),Qh_ w xs b=(Qh_ w xs []).map (b++·)
 | [],xs,b=>by simp [Qh_]
 | n :: r,xs,b=>by
   simp only [Qh_]
   split
   ·rw [Qr_ r xs (b++ze_ 0 (0 - n)),Qr_ r xs ([]++ze_ 0 (0 - n)),Option.map_map]
    congr 1;funext z;simp
   ·cases xs with
    | nil=>rfl
    | cons x ys=>
      dsimp only
      split
      ·rfl
      ·rw [Qr_ r ys (b++ze_ x n),Qr_ r ys ([]++ze_ x n),Option.map_map]
       congr 1;funext z;simp
theorem xU_:∀ (w b o:List Int),(ZE_ w b o).2=(ZE_ w b []).2/\((ZE_ w b []).2=0->(ZE_ w b o).1=o++(ZE_ w b []).1)
 | [],b,o=>by simp [ZE_]
 | n :: r,b,o=>by
   simp only [ZE_]
   split
   ·exact ⟨rfl,fun h=>by cases h⟩
   ·split
    ·have h1:=xU_ r (b.drop (zr_ n).toNat) (o++[Zd_ (b.take (zr_ n).toNat)])
     have h2:=xU_ r (b.drop (zr_ n).toNat) ([]++[Zd_ (b.take (zr_ n).toNat)])
     refine ⟨h1.1.trans h2.1.symm,fun h=>?_⟩
     have h0:=h2.1.symm.trans h
     rw [h1.2 h0,h2.2 h0];simp
    ·split
     ·exact xU_ r (b.drop (zr_ n).toNat) o
     ·exact ⟨rfl,fun h=>by cases h⟩
theorem zl0_ {x n:Int} (h0:0<=x) (h1:x<=18446744073709551615) (hn:0 < n) (h8:n<=8) (hf:¬ (n < 8/\x.fdiv (2 ^ (min (8*n).toNat 64)) ≠ 0)):x < 256 ^ n.toNat:=by
 by_cases hlt:n < 8
 ·have hz:x.fdiv (2 ^ (min (8*n).toNat 64))=0:=Classical.byContradiction fun h=>hf ⟨hlt,h⟩
  have e:min (8*n).toNat 64=8*n.toNat:=by omega
  have hp:(0:Int) < 2 ^ (8*n.toNat):=Int.pow_pos (by decide)
  rw [e,Int.fdiv_eq_ediv_of_nonneg _ (Int.le_of_lt hp)] at hz
  have h2:=Int.lt_ediv_add_one_mul_self x hp
  rw [hz] at h2
  have e2:(2:Int) ^ (8*n.toNat)=256 ^ n.toNat:=by rw [Int.pow_mul];rfl
  rw [<- e2];omega
 ·have:n=8:=by omega
  subst this
  show x < 256 ^ 8
  omega
theorem zlM_ {x n:Int} (h0:0<=x) (hn:0 < n) (h8:n<=8) (hx:x < 256 ^ n.toNat):¬ (n < 8/\x.fdiv (2 ^ (min (8*n).toNat 64)) ≠ 0):=by
 rintro ⟨hlt,hz⟩
 apply hz
 have e:min (8*n).toNat 64=8*n.toNat:=by omega
 have hp:(0:Int) < 2 ^ (8*n.toNat):=Int.pow_pos (by decide)
 have e2:(2:Int) ^ (8*n.toNat)=256 ^ n.toNat:=by rw [Int.pow_mul];rfl
 rw [e,Int.fdiv_eq_ediv_of_nonneg _ (Int.le_of_lt hp),e2]
 exact Int.ediv_eq_zero_of_lt h0 hx
def okR (w:List Int):Prop:=∀ n ∈ w,n ≠ 0/\n<=8/\-64<=n
theorem bL_:∀ (w xs r rest:List Int),okR w->(∀ x ∈ xs,0<=x/\x<=18446744073709551615)->(w.map qR_).sum=xs.length->Qh_ w xs []=some r->ZE_ w (r++rest) []=(xs,0)
 | [],xs,r,rest,_,_,hc,h=>by
   simp at hc
   have:xs=[]:=List.eq_nil_of_length_eq_zero (by omega)
   subst this;rfl
 | n :: w,xs,r,rest,hw,hx,hc,h=>by
   have hn:=hw n (by simp)
   have hw':okR w:=fun m hm=>hw m (by simp [hm])
   simp only [Qh_] at h
   rw [List.map_cons,List.sum_cons] at hc
   by_cases hneg:n < 0
   ·rw [if_pos hneg,List.nil_append,Qr_] at h
    have h1:qR_ n=0:=if_neg (by omega)
    obtain ⟨r',hr',rfl⟩:=Option.map_eq_some_iff.1 h
    have ih:=bL_ w xs r' rest hw' hx (by omega) hr'
    have hl:=zn_ (n:=0) (w:=0 - n) (by omega)
    have ha:=ka_ hneg
    have hln:(ze_ 0 (0 - n)).length=(zr_ n).toNat:=by omega
    simp only [ZE_]
    rw [List.append_assoc,if_neg (by rw [List.length_append];omega),if_neg (by omega),<- hln,List.take_left,List.drop_left,zdi_,YT_,if_pos rfl,ih]
   ·rw [if_neg hneg] at h
    have h1:qR_ n=1:=if_pos (by omega)
    cases xs with
    | nil=>cases h
    | cons x ys=>
      dsimp only at h
      by_cases hf:n < 8/\x.fdiv (2 ^ (min (8*n).toNat 64)) ≠ 0
      ·rw [if_pos hf] at h;cases h
      ·rw [if_neg hf,List.nil_append,Qr_] at h
       obtain ⟨r',hr',rfl⟩:=Option.map_eq_some_iff.1 h
       have hx0:=hx x (by simp)
       have hlt:=zl0_ hx0.1 hx0.2 (by omega) hn.2.1 hf
       have ih:=bL_ w ys r' rest hw' (fun y hy=>hx y (by simp [hy])) (by rw [List.length_cons] at hc;omega) hr'
       have hl:=zn_ (n:=x) (w:=n) (by omega)
       have ha:=jQ_ hneg
       have hln:(ze_ x n).length=(zr_ n).toNat:=by omega
       have hnum:Zd_ (ze_ x n)=x:=by
        have:=Vg_ n.toNat x (by omega) hx0.1 hlt
        rwa [show ((n.toNat:Nat):Int)=n by omega] at this
       simp only [ZE_]
       have hacc:=xU_ w (r'++rest) ([]++[x])
       rw [List.append_assoc,if_neg (by rw [List.length_append];omega),if_pos (by omega),<- hln,List.take_left,List.drop_left,hnum]
       rw [ih] at hacc
       exact Prod.ext ((hacc.2 rfl).trans (by simp)) hacc.1
theorem B4_:∀ (w b xs:List Int),okR w->(∀ x ∈ b,0<=x/\x<=255)->ZE_ w b []=(xs,0)->(w.map qR_).sum=xs.length/\(w.map zr_).sum<=b.length/\Qh_ w xs []=some (b.take (w.map zr_).sum.toNat)
 | [],b,xs,_,_,h=>by
   simp only [ZE_,Prod.mk.injEq] at h
   obtain ⟨rfl,_⟩:=h
   exact ⟨rfl,Int.natCast_nonneg _,rfl⟩
 | n :: w,b,xs,hw,hb,h=>by
   have hn:=hw n (by simp)
   have hw':okR w:=fun m hm=>hw m (by simp [hm])
   have ha:=KI_ (n:=n)
   have hs:0<=(w.map zr_).sum:=by
    have:∀ l:List Int,0<=(l.map zr_).sum:=fun l=>by
     induction l with
     | nil=>simp
     | cons a l ih=>rw [List.map_cons,List.sum_cons];have:=KI_ (n:=a);omega
    exact this w
   have hd:(b.drop (zr_ n).toNat).length=b.length - (zr_ n).toNat:=List.length_drop
   have hbd:∀ x ∈ b.drop (zr_ n).toNat,0<=x/\x<=255:=fun x hx=>hb x (List.mem_of_mem_drop hx)
   have htk:∀ k:Nat,(b.take (zr_ n).toNat)++(b.drop (zr_ n).toNat).take k=b.take ((zr_ n).toNat+k):=fun k=>by rw [List.take_add]
   simp only [ZE_] at h
   rw [List.map_cons,List.sum_cons,List.map_cons,List.sum_cons]
   by_cases hsh:(b.length:Int) < zr_ n
   ·rw [if_pos hsh] at h;cases h
   ·rw [if_neg hsh] at h
    have htl:(b.take (zr_ n).toNat).length=(zr_ n).toNat:=by rw [List.length_take];omega
    by_cases hp:0 < n
    ·rw [if_pos hp] at h
     have hacc:=xU_ w (b.drop (zr_ n).toNat) ([]++[Zd_ (b.take (zr_ n).toNat)])
     rw [h] at hacc
     have h0:=hacc.1.symm
     obtain ⟨ys,hys⟩:∃ ys,ZE_ w (b.drop (zr_ n).toNat) []=(ys,0):=⟨_,Prod.ext rfl h0⟩
     rw [hys] at hacc
     have hxs:=hacc.2 rfl
     obtain ⟨i1,i2,i3⟩:=B4_ w _ ys hw' hbd hys
     have e1:qR_ n=1:=if_pos hp
     have ea:=jQ_ (n:=n) (by omega)
     dsimp only [List.nil_append] at hxs
     rw [List.singleton_append] at hxs
     subst hxs
     have hbt:∀ x ∈ b.take (zr_ n).toNat,0<=x/\x<=255:=fun x hx=>hb x (List.mem_of_mem_take hx)
     have hnl:=Yo_ (b.take (zr_ n).toNat) hbt
     have h2:=hnl.2
     rw [htl] at h2
     have e3:(zr_ n).toNat=n.toNat:=by rw [ea]
     have h4:Zd_ (b.take (zr_ n).toNat) < 256 ^ n.toNat:=by rw [<- e3];exact h2
     have hfit:¬ (n < 8/\(Zd_ (b.take (zr_ n).toNat)).fdiv (2 ^ (min (8*n).toNat 64)) ≠ 0):=zlM_ hnl.1 hp hn.2.1 h4
     have hbk:=x0_ (zr_ n).toNat (b.take (zr_ n).toNat) (by omega) htl hbt
     rw [show (((zr_ n).toNat:Nat):Int)=n by omega] at hbk
     refine ⟨by rw [List.length_cons];omega,by omega,?_⟩
     simp only [Qh_]
     rw [if_neg (by omega),if_neg hfit,List.nil_append,Qr_,i3,hbk]
     show some _=_
     dsimp only;rw [htk];congr 2;omega
    ·rw [if_neg hp] at h
     by_cases hz:zT_ (b.take (zr_ n).toNat)=true
     ·rw [if_pos hz] at h
      obtain ⟨i1,i2,i3⟩:=B4_ w _ xs hw' hbd h
      have e1:qR_ n=0:=if_neg hp
      have hze:=zhc_ hz
      rw [htl] at hze
      have ea:=ka_ (n:=n) (by omega)
      refine ⟨by omega,by omega,?_⟩
      simp only [Qh_]
      rw [if_pos (by omega),List.nil_append,Qr_,i3,zdi_,show (0 - n).toNat=(zr_ n).toNat by omega,<- hze]
      show some _=_
      dsimp only;rw [htk];congr 2;omega
     ·rw [if_neg hz] at h;cases h
theorem vc_ {w xs:List Int} (rest:List Int) (hx:∀ x ∈ xs,0<=x/\x<=18446744073709551615) (hk:qq_ w xs=true):Zy_ w (ZR_ w xs++rest)=(xs,0)/\(ZR_ w xs).length=(zD_ w).toNat:=by
 unfold qq_ at hk
 obtain ⟨r,hr⟩:=Option.isSome_iff_exists.1 hk
 have hb:ZR_ w xs=r:=by unfold ZR_;rw [hr];rfl
 rw [hb]
 unfold jz_ at hr
 split at hr
 ·rename_i h
  have hw:okR w:=(Zj_.1 h.1).2
  have hc:(w.map qR_).sum=xs.length:=by have:=h.2;unfold zH_ at this;rwa [if_pos h.1] at this
  unfold Zy_ zD_
  rw [if_pos h.1,if_pos h.1]
  refine ⟨bL_ w xs r rest hw hx hc hr,?_⟩
  have hl:∀ (w xs r:List Int),okR w->Qh_ w xs []=some r->(r.length:Int)=(w.map zr_).sum:=by
   intro w
   induction w with
   | nil=>intro xs r _ h;simp only [Qh_,Option.some.injEq] at h;subst h;rfl
   | cons n w ih=>
     intro xs r hw h
     have hn:=hw n (by simp)
     have hw':okR w:=fun m hm=>hw m (by simp [hm])
     simp only [Qh_] at h
     rw [List.map_cons,List.sum_cons]
     split at h
     ·rw [Qr_] at h
      obtain ⟨r',hr',rfl⟩:=Option.map_eq_some_iff.1 h
      have:=ih _ _ hw' hr'
      have hl:=zn_ (n:=0) (w:=0 - n) (by omega)
      have ha:=ka_ (n:=n) (by assumption)
      simp only [List.nil_append,List.length_append];omega
     ·cases xs with
      | nil=>cases h
      | cons x ys=>
        dsimp only at h
        split at h
        ·cases h
        ·rw [Qr_] at h
         obtain ⟨r',hr',rfl⟩:=Option.map_eq_some_iff.1 h
         have:=ih _ _ hw' hr'
         have hl:=zn_ (n:=x) (w:=n) (by omega)
         have ha:=jQ_ (n:=n) (by assumption)
         simp only [List.nil_append,List.length_append];omega
  have:=hl w xs r hw hr
  omega
 ·cases hr
theorem JC_ {w b xs:List Int} (hb:∀ x ∈ b,0<=x/\x<=255) (h:Zy_ w b=(xs,0)):qq_ w xs=true/\ZR_ w xs=b.take (zD_ w).toNat/\zD_ w<=b.length:=by
 unfold Zy_ at h
 split at h
 ·rename_i hr
  obtain ⟨h1,h2,h3⟩:=B4_ w b xs (Zj_.1 hr).2 hb h
  have hF:jz_ w xs=some (b.take (w.map zr_).sum.toNat):=by
   unfold jz_ zH_;rw [if_pos hr,if_pos ⟨hr,h1⟩,h3]
  unfold qq_ ZR_ zD_
  rw [hF,if_pos hr];exact ⟨rfl,rfl,h2⟩
 ·cases h
theorem kJ_ {α:Type} {p:α->Bool} {l:List α} {i:Nat} {d:α} (h:i < l.length) (ht:(l.take i).any p=false) (hd:p (l.getD i d)=false):(l.take (i+1)).any p=false:=by
 rw [List.take_succ_eq_append_getElem h,List.any_append,ht,Bool.false_or,List.any_cons,List.any_nil,Bool.or_false]
 rwa [List.getD_eq_getElem?_getD,List.getElem?_eq_getElem h] at hd
theorem YH_ {α:Type} {p:α->Bool} {l:List α} {i:Nat} (h:l.length<=i) (ht:(l.take i).any p=false):l.any p=false:=by
 rwa [List.take_of_length_le h] at ht
theorem YG_ {α:Type} {p:α->Bool} {l:List α} {i:Nat} {d:α} (h:i < l.length) (hd:p (l.getD i d)=true):l.any p=true:=
 List.any_eq_true.2 ⟨_,zL_ h d,hd⟩
theorem zg6_ {α:Type} {f:α->Bool} {l:List α} {i:Nat} {d:α} (h:i < l.length) (ht:(l.take i).all f=true) (hd:f (l.getD i d)=true):(l.take (i+1)).all f=true:=by
 rw [List.take_succ_eq_append_getElem h,List.all_append,ht,Bool.true_and,List.all_cons,List.all_nil,Bool.and_true]
 rwa [List.getD_eq_getElem?_getD,List.getElem?_eq_getElem h] at hd
theorem zi7_ {α:Type} {f:α->Bool} {l:List α} {i:Nat} (h:l.length<=i) (ht:(l.take i).all f=true):l.all f=true:=by
 rwa [List.take_of_length_le h] at ht
theorem zi6_ {α:Type} {f:α->Bool} {l:List α} {i:Nat} {d:α} (h:i < l.length) (hd:f (l.getD i d)=false):l.all f=false:=by
 rw [List.all_eq_false]
 exact ⟨l.getD i d,zL_ h d,by rw [hd];decide⟩
def ub_ (c f:Int):Bool:=decide (c ≠ 32768) || !fIs f || decide (qt_ f < 0)
def wv_ (l:List OV) (c f:Int):Bool:=if ub_ c f=true then true else l.any (mtO (qt_ f) (Ke_ f))
def zcM_:IR:=
(sq (kr [0,1] [oD 3 (.boxv 1),
oD 4 (.mov cF)])
(sq (kr [0,3] [oA 8 1 3,
oL 9 8,
oC 10 170 [9],
oM 7 10,
oX 11 7 0,
oX 12 7 1,
oD 5 (.box [.int .i64 0,.int .i64 0,.kb false,.int .i64 0,.imm (.int .u64) []]),
oS 5 5 11,
oM 6 12])
(sq (sq (kr [0,3,5,6] [oA 13 0 3,
oL 14 13,
oB 15 .neq 14 (cI 32768),
oM 16 15,
oF 16 17 (.mov 6),
oF 16 18 (.un .not 17),
oP 19 16 cT 18,
oM 20 19,
oF 20 21 (.fieldAddr 3 5),
oF 20 22 (.load none 21),
oF 20 23 (.bin .lss 22 (cI 0)),
oP 24 20 cT 23])
(.cond 24
(sq (kr [] [oD 4 (.mov cT)])
.ret)
.skip))
(sq (kr [0,5] [oM 25 0,
oD 26 (.mkfn 175 [] [5]),
oC 27 116 [25,26],
oM 4 27])
.ret))))
def zbl_:List RD:=[.tmp 4 true none]
theorem zbY_:zm_ Tryz.prog Tryz.f151 zcM_ zbl_=true:=by kernel_rfl
def yK_:List AV->List Obj->Option (Prop × AV)
 | [.imm (.cons (.int .i64) (.cons (.int .i64) (.cons .bool (.cons (.int .u64) (.cons (.sl (.int .u8)) (.cons (.sl (.int .u8)) .nil)))))) l,.agg [.int .i64 c,.int .i64 f,.bool h,.int .u64 x,.imm (.int .u8) v,.imm (.int .u8) m]],[]=>some ((True,.bool (wv_ l c f)))
 | _,_=>none
theorem H6_:zd_ Tryz.prog 151 (RoF yK_).sum:=by
 refine zi_ Tryz.func151 zbY_ (za_ (s:=RoF ju_) J4_ (za_ (s:=RoF KN_) xb_ (za_ (s:=RoF zC_) z3_ (zc_ _)))) fun args objs p v e=>?_
 unfold yK_ at e
 split at e
 ·rename_i l c f h x v m
  cases e
  refine ⟨rfl,fun hw ho hp=>?_⟩
  change List Int at v
  change List Int at m
  change List OV at l
  clear hw ho
  cases hn:ub_ c f with
  | true=>
    have e:wv_ l c f=true:=by unfold wv_;rw [if_pos hn]
    rw [e]
    repeat'(intro t ht;first|(cases t<;>first|(cases ht;done)|(try simp only[zg_]at ht;try(exfalso;first|contradiction|omega)))|((first|refine zb_ ht ?_|refine ht ?_ ?_|refine ht.1 ?_ ?_|refine ht ?_)<;>clear ht))
    all_goals first
     | exact True.intro
     | exact ⟨rfl,rfl⟩
     | (exfalso;unfold ub_ at hn;simp_all;done)
     | (exfalso;unfold ub_ at hn;simp_all;omega)
  | false=>
    have e:wv_ l c f=l.any (mtO (qt_ f) (Ke_ f)):=by unfold wv_;rw [hn];rfl
    rw [e]
    repeat'(intro t ht;first|(cases t<;>first|(cases ht;done)|(try simp only[zg_]at ht;try(exfalso;first|contradiction|omega)))|((first|refine zb_ ht ?_|refine ht ?_ ?_|refine ht.1 ?_ ?_|refine ht ?_)<;>clear ht))
    all_goals first
     | exact True.intro
     | exact ⟨rfl,rfl⟩
     | (exfalso;unfold ub_ at hn;simp_all;done)
     | (exfalso;unfold ub_ at hn;simp_all;omega)
 ·cases e
def ckS:List OV->List OV->Int × Int
 | _,[]=>(0,0)
 | pre,o :: r=>if pre.any (fun x=>alO x o)=true then (((pre.length:Nat):Int),1035) else if wv_ pre o.1 o.2.1=true then ckS (pre++[o]) r else (((pre.length:Nat):Int),1034)
theorem zfZ_ {l:List OV} {i:Nat} (h:l.length<=i):ckS (l.take i) (l.drop i)=(0,0):=by
 rw [List.drop_of_length_le h];unfold ckS;rfl
theorem zjv_ {α:Type} {b:List α} {k j:Nat} {d:α} (h:j < k):(b.take k).getD j d=b.getD j d:=by
 rw [List.getD_eq_getElem?_getD,List.getD_eq_getElem?_getD,List.getElem?_take,if_pos h]
theorem uN_ {α:Type} {l:List α} {i:Nat} (h:i<=l.length):(l.take i).length=i:=by rw [List.length_take];omega
theorem zfY_ {l:List OV} {i:Nat} {d:OV} (h:i < l.length) (hk:(l.take i).any (fun x=>alO x (l.getD i d))=true):ckS (l.take i) (l.drop i)=(((i:Nat):Int),1035):=by
 rw [zw_ h d];unfold ckS;rw [if_pos hk,uN_ (by omega)]
theorem zdc_ {l:List OV} {i:Nat} {d:OV} (h:i < l.length) (hk:(l.take i).any (fun x=>alO x (l.getD i d))=false) (hm:wv_ (l.take i) (l.getD i d).1 (l.getD i d).2.1=false):ckS (l.take i) (l.drop i)=(((i:Nat):Int),1034):=by
 rw [zw_ h d];unfold ckS;rw [if_neg (by rw [hk];decide),if_neg (by rw [hm];decide),uN_ (by omega)]
theorem ziM_ {l:List OV} {i:Nat} {d:OV} (h:i < l.length) (hk:(l.take i).any (fun x=>alO x (l.getD i d))=false) (hm:wv_ (l.take i) (l.getD i d).1 (l.getD i d).2.1=true):ckS (l.take i) (l.drop i)=ckS (l.take (i+1)) (l.drop (i+1)):=by
 have e:l.take (i+1)=l.take i++[l.getD i d]:=by
  rw [List.take_succ_eq_append_getElem h,List.getD_eq_getElem?_getD,List.getElem?_eq_getElem h];rfl
 rw [e,zw_ h d]
 conv=>lhs;unfold ckS
 rw [if_neg (by rw [hk];decide),if_pos hm]
def hD_:IR:=
(sq (kr [0] [oD 2 (.mov (cI 0)),
oD 3 (.mov (cI 0))])
(.scope
(sq (.reg [oD 4 (.mov (cI 0)),
oD 5 (.mov (cI 0))])
(sq .skip
(sq (sq (.reg [oM 8 0,
oE 9 8,
oD 10 (.mov (cI 0))])
(.block 0
(.loop
(sq (kr [0,4,5,8,9,10] [oB 11 .lss 10 9])
(sq (.cond 11
.skip
(.exit 0))
(sq (.block 1
(sq (kr [0,4,5,8,9,10] [oM 12 10,
oI 13 6 8 10,
oK 14 6 13,
oD 7 (.box [.int .i64 0,.int .i64 0,.kb false,.int .u64 0,.imm (.int .u8) [],.imm (.int .u8) []]),
oM 6 12,
oS 6 7 14])
(.block 2
(sq (kr [0,4,5,6,7,8,9,10] [oM 16 0,
oM 17 6,
oD 18 (.slice 6 16 none (some 17) none),
oD 19 (.mkfn 149 [] [7]),
oC 20 116 [18,19],
oM 15 20])
(.cond 15
(sq (kr [6] [oM 21 6,
oM 4 21,
oD 5 (.mov (cI 1035))])
(.exit 0))
(sq (kd [0,4,5,6,7,8,9,10] [(oM 23 0,[]),
(oM 24 6,[0]),
(oD 25 (.slice 6 23 none (some 24) none),[]),
(oK 26 6 7,[0,0,0]),
(oC 27 151 [25,26],[]),
(oD 28 (.un .not 27),[]),
(oM 22 28,[])])
(.cond 22
(sq (kr [6] [oM 29 6,
oM 4 29,
oD 5 (.mov (cI 1034))])
(.exit 0))
.skip)))))))
(kr [0,4,5,8,9,10] [oB 30 .add 10 (cI 1),
oM 10 30])))))))
(sq (kr [4,5] [oM 31 4,
oM 32 5,
oM 2 31,
oM 3 32])
.ret))))))
def Gy_:List RD:=[.tmp 2 true none,.tmp 3 true none]
theorem G4_:zm_ Tryz.prog Tryz.f119 hD_ Gy_=true:=by kernel_rfl
def KO_:List AV->List Obj->Option (Prop × AV)
 | [.imm (.cons (.int .i64) (.cons (.int .i64) (.cons .bool (.cons (.int .u64) (.cons (.sl (.int .u8)) (.cons (.sl (.int .u8)) .nil)))))) l],[]=>some ((True,.tup [.int .i64 (ckS [] l).1,.int .i64 (ckS [] l).2]))
 | _,_=>none
theorem xc_:zd_ Tryz.prog 119 (RoF KO_).sum:=by
 refine zi_ Tryz.func119 G4_ (za_ (s:=RoF kb_) Ji_ (za_ (s:=RoF zC_) z3_ (za_ (s:=RoF yK_) H6_ (zc_ _)))) fun args objs p v e=>?_
 unfold KO_ at e
 split at e
 ·rename_i l
  cases e
  refine ⟨rfl,fun hw ho hp=>?_⟩
  change List OV at l
  have hl:l.length<=maxLen:=(hw (.imm Y1 l) (by simp)).2
  unfold maxLen at hl
  clear hw ho
  repeat'(intro t ht;first|(cases t<;>first|(cases ht;done)|(try simp only[zg_]at ht))|((first|refine zb_ ht ?_|refine ht ?_ ?_|refine ht.1 ?_ ?_|refine ht ?_)<;>clear ht))
  all_goals first
   | (intro r h1 h2;clear h1;refine h2 ⟨[0,4,5,8,9,10],Nat,(fun i=>i<=l.length/\ckS [] l=ckS (l.take i) (l.drop i)),fun i=>[.imm Y1 l,.int .i64 0,.int .i64 0,.imm Y1 l,.int .i64 l.length,.int .i64 i],fun _=>[],fun i=>l.length - i,⟨0,⟨Nat.zero_le _,rfl⟩,rfl,rfl⟩,?_⟩;clear h2)
  rintro i ⟨hi,he⟩
  repeat'(intro t ht;first|(cases t<;>first|(cases ht;done)|(try simp only[zg_]at ht;try(exfalso;first|contradiction|omega)))|((first|refine zb_ ht ?_|refine ht ?_ ?_|refine ht.1 ?_ ?_|refine ht ?_)<;>clear ht))
  all_goals (try generalize (Ty.dflt Y1)=od at*)
  all_goals first
   | exact True.intro
   | ((try simp only [zk_,zl_,zj_] at*);omega)
   | (rw [he,zfZ_ (by omega)];exact ⟨rfl,rfl⟩)
   | (have hk:(l.take i).any (fun x=>alO x (l.getD i od))=true:=by assumption
      rw [he,zfY_ (by omega) hk];exact ⟨rfl,rfl⟩)
   | (have hk:(l.take i).any (fun x=>alO x (l.getD i od))=false:=by assumption
      first
       | (have hm:wv_ (l.take i) (l.getD i od).1 (l.getD i od).2.1=false:=by assumption
          rw [he,zdc_ (by omega) hk hm];exact ⟨rfl,rfl⟩)
       | (have hm:wv_ (l.take i) (l.getD i od).1 (l.getD i od).2.1=true:=by assumption
          exact ⟨i+1,⟨by omega,he.trans (ziM_ (by omega) hk hm)⟩,by dsimp only;omega,rfl,rfl⟩))
 ·cases e
def mrV (nd:Int) (vals:List Int) (c f:Int) (h:Bool) (v:List Int):Bool:=decide (c=32768) && decide (f=nd) && (if vals.length=0 then v.any nzB else vals.any fun y=>!h && decide (v=ze_ y (zU_ nd)))
def mrO (nd:Int) (vals:List Int) (o:OV):Bool:=mrV nd vals o.1 o.2.1 o.2.2.1 o.2.2.2.2.1
theorem zh0_ {nd:Int} {vals:List Int} {o:OV} (hv:vals.length=0) (h1:o.1=32768) (h2:o.2.1=nd):mrO nd vals o=o.2.2.2.2.1.any nzB:=by
 unfold mrO mrV;rw [if_pos hv,h1,h2];simp
theorem zjY_ {nd S:Int} {vals:List Int} {o:OV} (hv:¬ vals.length=0) (h1:o.1=32768) (h2:o.2.1=nd) (hS:zU_ nd=S):mrO nd vals o=vals.any fun y=>!o.2.2.1 && decide (o.2.2.2.2.1=ze_ y S):=by
 unfold mrO mrV;rw [if_neg hv,h1,h2,hS];simp
theorem nz_f {v:List Int} {k:Nat} (h:v.getD k 0=0):nzB (v.getD k 0)=false:=by unfold nzB;rw [h];rfl
theorem nz_t {v:List Int} {k:Nat} (h:¬ v.getD k 0=0):nzB (v.getD k 0)=true:=decide_eq_true h
theorem zfy_ {v:List Int} (hb:∀ x ∈ v,0<=x/\x<=255) (h:v.length<=8):ua_ v=Zd_ v:=by
 have key:∀ i,i<=v.length->ua_ (v.take i)=yj_ v i:=by
  intro i
  induction i with
  | zero=>intro _;rfl
  | succ i ih=>
    intro hi
    have hk:=hb _ (zL_ (α:=Int) (show i < v.length by omega) 0)
    have hn:=Bl_ hb i (by omega)
    have e8:(2:Int) ^ min (Int.toNat 8) IntKind.u64.bits=256:=by decide
    rw [Hk_ (by omega),vm_ (by omega),ih (by omega),e8,JQ_ ⟨by rw [uv_];omega,by rw [Bu_];omega⟩,JQ_ ⟨by rw [uv_];omega,by rw [Bu_];omega⟩]
    exact zfu_ hn.1 (by omega) hk.1 hk.2
 have:=key v.length (Nat.le_refl _)
 rwa [List.take_length,UW_ (Nat.le_refl _)] at this
def zkK_ (k:Nat):Bool:=decide ((Ke_ (k:Nat)).length=0) || ((Ke_ (k:Nat)).all fun y=>decide (0<=y) && decide (y<=65535) && (decide (zU_ (qt_ (k:Nat))=2) || (decide (zU_ (qt_ (k:Nat))=1) && decide (y<=255))))
theorem zmL_:∀ k < 40,qt_ (k:Nat)=ko_ (k:Nat)/\Ke_ (k:Nat)=km_ (k:Nat)/\zkK_ k=true:=by decide+kernel
theorem law9 (f:Int):qt_ f=ko_ f/\Ke_ f=km_ f/\∀ y ∈ Ke_ f,0<=y/\y<=65535/\(zU_ (qt_ f)=2\/(zU_ (qt_ f)=1/\y<=255)):=by
 cases h:fIs f with
 | true=>
   have hn:=qc_.1 h
   have:=zmL_ f.toNat (by omega)
   unfold zkK_ at this
   rw [Int.toNat_of_nonneg hn.1] at this
   refine ⟨this.1,this.2.1,fun y hy=>?_⟩
   have h3:=this.2.2
   rw [Bool.or_eq_true] at h3
   rcases h3 with h3 | h3
   ·have:Ke_ f=[]:=List.eq_nil_of_length_eq_zero (of_decide_eq_true h3)
    rw [this] at hy;cases hy
   ·have:=List.all_eq_true.1 h3 y hy
    simp only [Bool.and_eq_true,Bool.or_eq_true,decide_eq_true_eq] at this
    exact ⟨this.1.1,this.1.2,this.2⟩
 | false=>
   unfold qt_ Ke_ ko_ km_;rw [h];exact ⟨rfl,rfl,fun y hy=>by cases hy⟩
theorem zlf_ {v:List Int} {y z:Int} (hb:∀ x ∈ v,0<=x/\x<=255) (hy:0<=y/\y<=65535/\(z=2\/(z=1/\y<=255))):decide (v=ze_ y z)=(decide ((v.length:Int)=z) && decide (ua_ v=y)):=by
 rw [Bool.eq_iff_iff]
 simp only [Bool.and_eq_true,decide_eq_true_eq]
 obtain ⟨h1,h2,h3⟩:=hy
 have hn:Zd_ (ze_ y z)=y:=by
  rcases h3 with rfl | ⟨rfl,h3⟩
  ·exact num2 ⟨h1,h2⟩
  ·rw [ziT_ ⟨h1,h3⟩];show 0*256+y=y;omega
 have hz:(ze_ y z).length=z:=zn_ (by omega)
 constructor
 ·intro e
  have hl:(v.length:Int)=z:=by rw [e];exact hz
  exact ⟨hl,by rw [zfy_ hb (by omega),e];exact hn⟩
 ·rintro ⟨e1,e2⟩
  rw [zfy_ hb (by omega)] at e2
  have:=x0_ v.length v (by omega) rfl hb
  rw [e2,e1] at this;exact this.symm
theorem zj2_ {k:Int} {o:OV} (hb:∀ x ∈ o.2.2.2.2.1,0<=x/\x<=255):mrO (qt_ k) (Ke_ k) o=mtO (qt_ k) (Ke_ k) o:=by
 obtain ⟨_,_,h3⟩:=law9 k
 have hs:kr_ (qt_ k)=zU_ (qt_ k):=(law8 (qt_ k)).2.1
 unfold mrO mtO mrV metV
 congr 1
 by_cases hv:(Ke_ k).length=0
 ·rw [if_pos hv,if_pos hv]
 ·rw [if_neg hv,if_neg hv,hs]
  have:∀ l:List Int,(∀ y ∈ l,0<=y/\y<=65535/\(zU_ (qt_ k)=2\/(zU_ (qt_ k)=1/\y<=255)))->(l.any fun y=>!o.2.2.1 && decide (o.2.2.2.2.1=ze_ y (zU_ (qt_ k))))=(decide ((o.2.2.2.2.1.length:Int)=zU_ (qt_ k)) && !o.2.2.1 && l.any fun y=>decide (ua_ o.2.2.2.2.1=y)):=by
   intro l
   induction l with
   | nil=>intro _;simp
   | cons y l ih=>
     intro h
     rw [List.any_cons,List.any_cons,ih fun y hy=>h y (List.mem_cons_of_mem _ hy),zlf_ hb (h y (List.mem_cons_self ..))]
     cases o.2.2.1<;>cases decide ((o.2.2.2.2.1.length:Int)=zU_ (qt_ k))<;>cases decide (ua_ o.2.2.2.2.1=y)<;>simp
  exact this _ h3
def bysO (o:OV):Prop:=0<=o.2.2.2.1/\(∀ x ∈ o.2.2.2.2.1,0<=x/\x<=255)/\(∀ x ∈ o.2.2.2.2.2.1,0<=x/\x<=255)
theorem zlx_ {l:List OV} (h:Ty.wf (.sl Y1) l):∀ o ∈ l,bysO o:=fun o ho=>by
 obtain ⟨h1,h2,h3,h4,h5,h6,_⟩:=h.1 o ho
 refine ⟨?_,fun x hx=>?_,fun x hx=>?_⟩
 ·unfold Ty.wf inK at h4;rw [uv_] at h4;exact h4.1
 ·have:=h5.1 x hx;unfold Ty.wf inK at this;rw [zh8_,zib_] at this;exact this
 ·have:=h6.1 x hx;unfold Ty.wf inK at this;rw [zh8_,zib_] at this;exact this
def zeI_:IR:=
(sq (kr [0,1] [oD 3 (.boxv 1),
oD 4 (.mov cF)])
(sq (kr [0,3] [oA 14 1 3,
oL 15 14,
oC 16 138 [15],
oM 13 16,
oX 17 13 0,
oX 18 13 1,
oD 5 (.box [.str [],.int .i64 0,.int .i64 0,.kb false,.int .i64 0,.imm (.int .u64) []]),
oS 6 5 17,
oM 6 18])
(sq (sq (kr [0,3,5,6] [oA 19 0 3,
oL 20 19,
oB 21 .neq 20 (cI 32768),
oM 22 21,
oF 22 23 (.mov 6),
oF 22 24 (.un .not 23),
oP 25 22 cT 24,
oM 26 25,
oF 26 27 (.fieldAddr 4 5),
oF 26 28 (.load none 27),
oF 26 29 (.bin .lss 28 (cI 0)),
oP 30 26 cT 29])
(.cond 30
(sq (kr [] [oD 4 (.mov cT)])
.ret)
.skip))
(sq (kr [0,5] [oA 32 4 5,
oL 33 32,
oC 34 138 [33],
oM 31 34,
oX 35 31 0,
oX 36 31 1,
oD 7 (.box [.str [],.int .i64 0,.int .i64 0,.kb false,.int .i64 0,.imm (.int .u64) []]),
oS 6 7 35,
oM 8 36])
(sq (sq (kr [0,5,7] [oD 9 (.mov (cI 0))])
(.block 0
(.loop
(sq (sq (kr [0,5,7,9] [oM 37 9,
oM 38 0,
oE 39 38,
oB 40 .lss 37 39])
(.cond 40
.skip
(.exit 0)))
(sq (.block 1
(sq (kr [0,5,7,9] [oM 43 0,
oM 44 9,
oI 45 6 43 44,
oK 46 6 45,
oD 10 (.box [.int .i64 0,.int .i64 0,.kb false,.int .u64 0,.imm (.int .u8) [],.imm (.int .u8) []]),
oS 6 10 46])
(sq (sq (kr [0,5,7,9,10] [oA 47 0 10,
oL 48 47,
oB 49 .neq 48 (cI 32768),
oM 50 49,
oF 50 51 (.fieldAddr 1 10),
oF 50 52 (.load none 51),
oF 50 53 (.fieldAddr 4 5),
oF 50 54 (.load none 53),
oF 50 55 (.bin .neq 52 54),
oP 56 50 cT 55])
(.cond 56
(.exit 1)
.skip))
(sq (sq (kr [0,5,7,9,10] [oA 57 5 5,
oL 58 57,
oE 59 58,
oB 60 .eql 59 (cI 0)])
(.cond 60
(sq (sq (.reg [oD 11 (.mov (cI 0))])
(.block 2
(.loop
(sq (sq (kr [0,5,7,9,10,11] [oM 61 11,
oA 62 4 10,
oL 63 62,
oE 64 63,
oB 65 .lss 61 64])
(.cond 65
.skip
(.exit 2)))
(sq (.block 3
(sq (kr [0,5,7,9,10,11] [oA 68 4 10,
oL 69 68,
oM 70 11,
oI 71 1 69 70,
oL 72 71,
oB 73 .neq 72 (.c (.int .u8 0))])
(.cond 73
(sq (kr [] [oD 4 (.mov cT)])
.ret)
.skip)))
(kr [0,5,7,9,10,11] [oM 66 11,
oB 67 .add 66 (cI 1),
oM 11 67]))))))
(.exit 1))
.skip))
(sq (kr [0,5,7,9,10] [oD 12 (.mov (cI 0))])
(.block 4
(.loop
(sq (sq (kr [0,5,7,9,10,12] [oM 74 12,
oA 75 5 5,
oL 76 75,
oE 77 76,
oB 78 .lss 74 77])
(.cond 78
.skip
(.exit 4)))
(sq (.block 5
(sq (kd [0,5,7,9,10,12] [(oA 81 2 10,[]),
(oL 82 81,[]),
(oD 83 (.un .not 82),[]),
(oM 84 83,[]),
(oT 84 85 (.fieldAddr 4 10),[]),
(oT 84 86 (.load none 85),[]),
(oT 84 87 (.fieldAddr 5 5),[0,0]),
(oT 84 88 (.load none 87),[1,0]),
(oT 84 89 (.mov 12),[0,0,0,0]),
(oT 84 90 (.indexSl 1 88 89),[3,0]),
(oT 84 91 (.load none 90),[4,0]),
(oT 84 92 (.fieldAddr 2 7),[0,0,0,0,0,0,0]),
(oT 84 93 (.load none 92),[1,0,0,0,0,0,0]),
(oT 84 94 (.call false (.f 88) [91,93]),[7,0]),
(oT 84 95 (.call false (.f 13) [86,94]),[]),
(oP 96 84 95 cF,[])])
(.cond 96
(sq (kr [] [oD 4 (.mov cT)])
.ret)
.skip)))
(kr [0,5,7,9,10,12] [oM 79 12,
oB 80 .add 79 (cI 1),
oM 12 80]))))))))))
(kr [0,5,7,9] [oM 41 9,
oB 42 .add 41 (cI 1),
oM 9 42]))))))
(sq (kr [] [oD 4 (.mov cF)])
.ret))))))
def zdX_:List RD:=[.tmp 4 true none]
theorem zeh_:zm_ Tryz.prog Tryz.f141 zeI_ zdX_=true:=by kernel_rfl
def vW_:List AV->List Obj->Option (Prop × AV)
 | [.imm (.cons (.int .i64) (.cons (.int .i64) (.cons .bool (.cons (.int .u64) (.cons (.sl (.int .u8)) (.cons (.sl (.int .u8)) .nil)))))) l,.agg [.int .i64 c,.int .i64 f,.bool h,.int .u64 x,.imm (.int .u8) v,.imm (.int .u8) m]],[]=>some ((True,.bool (wv_ l c f)))
 | _,_=>none
theorem zaI_:zd_ Tryz.prog 141 (RoF vW_).sum:=by
 refine zi_ Tryz.func141 zeh_ (za_ (s:=RoF jk_) K4_ (za_ (s:=RwF vZ_) zaL_ (za_ (s:=RoF Zx_) Zr_ (zc_ _)))) fun args objs p v e=>?_
 unfold vW_ at e
 split at e
 ·rename_i l c f h x v m
  cases e
  refine ⟨rfl,fun hw ho hp=>?_⟩
  change List Int at v
  change List Int at m
  change List OV at l
  have hl:l.length<=maxLen:=(hw (.imm Y1 l) (by simp)).2
  have hby:=zlx_ (l:=l) (hw (.imm Y1 l) (by simp))
  unfold maxLen at hl
  have hvl:∀ o ∈ l,o.2.2.2.2.1.length<=9223372036854775807:=fun o ho=>by
   have:=((hw (.imm Y1 l) (by simp)).1 o ho).2.2.2.2.1.2
   unfold maxLen at this;exact this
  have hvs:(km_ f).length<=10:=by
   cases h:fIs f with
   | true=>
     have hn:=qc_.1 h
     have:∀ k < 40,(km_ (k:Nat)).length<=10:=by decide+kernel
     have:=this f.toNat (by omega)
     rwa [Int.toNat_of_nonneg hn.1] at this
   | false=>unfold km_;rw [h];exact Nat.zero_le _
  clear hw ho
  obtain ⟨w1,w2,w3⟩:=law9 f
  have hsz:=zaN_ (ko_ f)
  have hlaw:∀ o ∈ l,mrO (ko_ f) (km_ f) o=mtO (qt_ f) (Ke_ f) o:=fun o ho=>by
   rw [<- w1,<- w2];exact zj2_ (hby o ho).2.1
  have hany:l.any (mtO (qt_ f) (Ke_ f))=l.any (mrO (ko_ f) (km_ f)):=by
   rw [Bool.eq_iff_iff,List.any_eq_true,List.any_eq_true]
   constructor
   ·rintro ⟨o,ho,hk⟩;exact ⟨o,ho,(hlaw o ho).trans hk⟩
   ·rintro ⟨o,ho,hk⟩;exact ⟨o,ho,(hlaw o ho).symm.trans hk⟩
  cases hn:ub_ c f with
  | true=>
    have e:wv_ l c f=true:=by unfold wv_;rw [if_pos hn]
    rw [e]
    repeat'(intro t ht;first|(cases t<;>first|(cases ht;done)|(try simp only[zg_]at ht;try(exfalso;first|contradiction|omega)))|((first|refine zb_ ht ?_|refine ht ?_ ?_|refine ht.1 ?_ ?_|refine ht ?_)<;>clear ht))
    all_goals first
     | exact True.intro
     | exact ⟨rfl,rfl⟩
     | (exfalso;unfold ub_ at hn;simp_all;done)
     | (exfalso;unfold ub_ at hn;simp_all;omega)
  | false=>
    have e:wv_ l c f=l.any (mrO (ko_ f) (km_ f)):=by rw [<- hany];unfold wv_;rw [hn];rfl
    rw [e]
    clear e hany
    have hn1:c=32768:=Classical.byContradiction fun h=>by unfold ub_ at hn;simp [h] at hn
    have hn2:fIs f=true:=by cases hf:fIs f with | true=>rfl | false=>unfold ub_ at hn;simp [hf] at hn
    have hn3:¬ ko_ f < 0:=fun h=>by rw [<- w1] at h;unfold ub_ at hn;simp [h] at hn
    clear hn hlaw
    generalize hS:zU_ (ko_ f)=S at*
    generalize hN:ko_ f=nd at*
    generalize hV:km_ f=vals at*
    repeat'(intro t ht;first|(cases t<;>first|(cases ht;done)|(try simp only[zg_]at ht;try(exfalso;first|contradiction|omega)))|((first|refine zb_ ht ?_|refine ht ?_ ?_|refine ht.1 ?_ ?_|refine ht ?_)<;>clear ht))
    all_goals first
     | exact True.intro
     | (intro r h1 h2;clear h1;refine h2 ⟨[0,5,7,9],Nat,(fun i=>i<=l.length/\(l.take i).any (mrO nd vals)=false),fun i=>[.imm Y1 l,.ptr 0 0,.ptr 1 0,.int .i64 i],fun _=>[.box [.str (xG_ f),.int .i64 (Z7_ f),.int .i64 (zU_ f),.bool (kp_ f),.int .i64 nd,.imm (.int .u64) vals],.box [.str (xG_ nd),.int .i64 (Z7_ nd),.int .i64 S,.bool (kp_ nd),.int .i64 (ko_ nd),.imm (.int .u64) (km_ nd)]],fun i=>l.length - i,⟨0,⟨Nat.zero_le _,rfl⟩,rfl,(by rw [hN,hV,hS])⟩,?_⟩;clear h2)
     | (exfalso;rw [hn2] at ht;cases ht)
    rintro i ⟨hi,he⟩
    repeat'(intro t ht;first|(cases t<;>first|(cases ht;done)|(try simp only[zg_]at ht;try(exfalso;first|contradiction|omega)))|((first|refine zb_ ht ?_|refine ht ?_ ?_|refine ht.1 ?_ ?_|refine ht ?_)<;>clear ht))
    all_goals (try generalize (Ty.dflt Y1)=od at*)
    all_goals first
     | exact True.intro
     | ((try simp only [zk_,zl_,zj_] at*);omega)
     | (rw [YH_ (by omega) he];exact ⟨rfl,rfl⟩)
     | (have hm:mrO nd vals (l.getD i od)=false:=by
         unfold mrO mrV
         first
          | (rw [decide_eq_false (show ¬ (l.getD i od).1=32768 by assumption)];rfl)
          | (rw [decide_eq_false (show ¬ (l.getD i od).2.1=nd by assumption)];simp;done)
        exact ⟨i+1,⟨by omega,kJ_ (d:=od) (by omega) he hm⟩,by dsimp only;omega,rfl,rfl⟩)
     | (intro r h1 h2;clear h1;refine h2 ⟨[0,5,7,9,10,11],Nat,(fun k=>k<=(l.getD i od).2.2.2.2.1.length/\((l.getD i od).2.2.2.2.1.take k).any nzB=false),fun k=>[.imm Y1 l,.ptr 0 0,.ptr 1 0,.int .i64 i,.ptr 2 0,.int .i64 k],fun _=>[.box [.str (xG_ f),.int .i64 (Z7_ f),.int .i64 (zU_ f),.bool (kp_ f),.int .i64 nd,.imm (.int .u64) vals],.box [.str (xG_ nd),.int .i64 (Z7_ nd),.int .i64 S,.bool (kp_ nd),.int .i64 (ko_ nd),.imm (.int .u64) (km_ nd)],.box [.int .i64 ((l.getD i od).1),.int .i64 ((l.getD i od).2.1),.bool ((l.getD i od).2.2.1),.int .u64 ((l.getD i od).2.2.2.1),.imm (.int .u8) ((l.getD i od).2.2.2.2.1),.imm (.int .u8) ((l.getD i od).2.2.2.2.2.1)]],fun k=>(l.getD i od).2.2.2.2.1.length - k,⟨0,⟨Nat.zero_le _,rfl⟩,rfl,rfl⟩,?_⟩;clear h2)
     | (intro r h1 h2;clear h1;refine h2 ⟨[0,5,7,9,10,12],Nat,(fun k=>k<=vals.length/\((vals.take k).any fun y=>!(l.getD i od).2.2.1 && decide ((l.getD i od).2.2.2.2.1=ze_ y S))=false),fun k=>[.imm Y1 l,.ptr 0 0,.ptr 1 0,.int .i64 i,.ptr 2 0,.int .i64 k],fun _=>[.box [.str (xG_ f),.int .i64 (Z7_ f),.int .i64 (zU_ f),.bool (kp_ f),.int .i64 nd,.imm (.int .u64) vals],.box [.str (xG_ nd),.int .i64 (Z7_ nd),.int .i64 S,.bool (kp_ nd),.int .i64 (ko_ nd),.imm (.int .u64) (km_ nd)],.box [.int .i64 ((l.getD i od).1),.int .i64 ((l.getD i od).2.1),.bool ((l.getD i od).2.2.1),.int .u64 ((l.getD i od).2.2.2.1),.imm (.int .u8) ((l.getD i od).2.2.2.2.1),.imm (.int .u8) ((l.getD i od).2.2.2.2.2.1)]],fun k=>vals.length - k,⟨0,⟨Nat.zero_le _,rfl⟩,rfl,rfl⟩,?_⟩;clear h2)
    all_goals rintro k ⟨hk,hke⟩
    all_goals (have hvli:=hvl _ (zL_ (show i < l.length by omega) od))
    all_goals repeat'(intro t ht;first|(cases t<;>first|(cases ht;done)|(try simp only[zg_]at ht;try(exfalso;first|contradiction|omega)))|((first|refine zb_ ht ?_|refine ht ?_ ?_|refine ht.1 ?_ ?_|refine ht ?_)<;>clear ht))
    all_goals first
     | exact True.intro
     | ((try simp only [zk_,zl_,zj_] at*);omega)
     | (have hm:=zh0_ (nd:=nd) (vals:=vals) (o:=l.getD i od) (by omega) (by assumption) (by assumption)
        first
         | (rw [YH_ (by omega) hke] at hm
            exact ⟨i+1,⟨by omega,kJ_ (d:=od) (by omega) he hm⟩,by dsimp only;omega,rfl,rfl⟩)
         | (have hz:=nz_t (v:=(l.getD i od).2.2.2.2.1) (k:=k) (by assumption)
            rw [YG_ (show k < (l.getD i od).2.2.2.2.1.length by omega) hz] at hm
            rw [YG_ (show i < l.length by omega) hm];exact ⟨rfl,rfl⟩)
         | exact ⟨k+1,⟨by omega,kJ_ (d:=0) (by omega) hke (nz_f (by assumption))⟩,by dsimp only;omega,rfl,rfl⟩)
     | (have hm:=zjY_ (nd:=nd) (vals:=vals) (o:=l.getD i od) (show ¬ vals.length=0 by omega) (by assumption) (by assumption) hS
        first
         | (rw [YH_ (by omega) hke] at hm
            exact ⟨i+1,⟨by omega,kJ_ (d:=od) (by omega) he hm⟩,by dsimp only;omega,rfl,rfl⟩)
         | (have hh:(l.getD i od).2.2.1=true:=by assumption
            exact ⟨k+1,⟨by omega,kJ_ (p:=fun y=>!(l.getD i od).2.2.1 && decide ((l.getD i od).2.2.2.2.1=ze_ y S)) (d:=0) (by omega) hke (by (try dsimp only);rw [hh];rfl)⟩,by dsimp only;omega,rfl,rfl⟩)
         | (have hh:(l.getD i od).2.2.1=false:=by assumption
            have hq:(l.getD i od).2.2.2.2.1=ze_ (vals.getD k 0) S:=by assumption
            rw [YG_ (p:=fun y=>!(l.getD i od).2.2.1 && decide ((l.getD i od).2.2.2.2.1=ze_ y S)) (d:=0) (show k < vals.length by omega) (by (try dsimp only);rw [hh,decide_eq_true hq];rfl)] at hm
            rw [YG_ (show i < l.length by omega) hm];exact ⟨rfl,rfl⟩)
         | (have hq:¬ (l.getD i od).2.2.2.2.1=ze_ (vals.getD k 0) S:=by assumption
            exact ⟨k+1,⟨by omega,kJ_ (p:=fun y=>!(l.getD i od).2.2.1 && decide ((l.getD i od).2.2.2.2.1=ze_ y S)) (d:=0) (by omega) hke (by (try dsimp only);rw [decide_eq_false hq,Bool.and_false])⟩,by dsimp only;omega,rfl,rfl⟩))
 ·cases e
def BJ_:IR:=
(sq (kr [0] [oD 2 (.mov (cI 0)),
oD 3 (.mov (cI 0))])
(sq (sq (.reg [oD 4 (.mov (cI 0))])
(.block 0
(.loop
(sq (sq (kr [0,4] [oM 6 4,
oM 7 0,
oE 8 7,
oB 9 .lss 6 8])
(.cond 9
.skip
(.exit 0)))
(sq (.block 1
(sq (sq (.reg [oD 5 (.mov (cI 0))])
(.block 2
(.loop
(sq (sq (kr [0,4,5] [oM 12 5,
oM 13 4,
oB 14 .lss 12 13])
(.cond 14
.skip
(.exit 2)))
(sq (.block 3
(sq (kd [0,4,5] [(oM 17 0,[]),
(oM 18 5,[0]),
(oI 19 6 17 18,[]),
(oK 20 6 19,[]),
(oM 21 0,[0,0,0,0]),
(oM 22 4,[0,0,0,0,0]),
(oI 23 6 21 22,[2,0,0,0]),
(oK 24 6 23,[3,0,0,0]),
(oC 25 140 [20,24],[])])
(.cond 25
(sq (kr [4] [oM 26 4,
oM 2 26,
oD 3 (.mov (cI 1035))])
.ret)
.skip)))
(kr [0,4,5] [oM 15 5,
oB 16 .add 15 (cI 1),
oM 5 16]))))))
(sq (kd [0,4] [(oM 27 0,[]),
(oM 28 4,[0]),
(oD 29 (.slice 6 27 none (some 28) none),[]),
(oM 30 0,[0,0,0]),
(oM 31 4,[0,0,0,0]),
(oI 32 6 30 31,[2,0,0]),
(oK 33 6 32,[3,0,0]),
(oC 34 141 [29,33],[]),
(oD 35 (.un .not 34),[])])
(.cond 35
(sq (kr [4] [oM 36 4,
oM 2 36,
oD 3 (.mov (cI 1034))])
.ret)
.skip))))
(kr [0,4] [oM 10 4,
oB 11 .add 10 (cI 1),
oM 4 11]))))))
(sq (kr [] [oD 2 (.mov (cI 0)),
oD 3 (.mov (cI 0))])
.ret)))
def br_:List RD:=[.tmp 2 true none,.tmp 3 true none]
theorem b2_:zm_ Tryz.prog Tryz.f104 BJ_ br_=true:=by kernel_rfl
def Xg_:List AV->List Obj->Option (Prop × AV)
 | [.imm (.cons (.int .i64) (.cons (.int .i64) (.cons .bool (.cons (.int .u64) (.cons (.sl (.int .u8)) (.cons (.sl (.int .u8)) .nil)))))) l],[]=>some ((True,.tup [.int .i64 (ckS [] l).1,.int .i64 (ckS [] l).2]))
 | _,_=>none
theorem Gb_:zd_ Tryz.prog 104 (RoF Xg_).sum:=by
 refine zi_ Tryz.func104 b2_ (za_ (s:=RoF jR_) XX_ (za_ (s:=RoF vW_) zaI_ (zc_ _))) fun args objs p v e=>?_
 unfold Xg_ at e
 split at e
 ·rename_i l
  cases e
  refine ⟨rfl,fun hw ho hp=>?_⟩
  change List OV at l
  have hl:l.length<=maxLen:=(hw (.imm Y1 l) (by simp)).2
  unfold maxLen at hl
  clear hw ho
  repeat'(intro t ht;first|(cases t<;>first|(cases ht;done)|(try simp only[zg_]at ht))|((first|refine zb_ ht ?_|refine ht ?_ ?_|refine ht.1 ?_ ?_|refine ht ?_)<;>clear ht))
  all_goals first
   | (intro r h1 h2;clear h1;refine h2 ⟨[0,4],Nat,(fun i=>i<=l.length/\ckS [] l=ckS (l.take i) (l.drop i)),fun i=>[.imm Y1 l,.int .i64 i],fun _=>[],fun i=>l.length - i,⟨0,⟨Nat.zero_le _,rfl⟩,rfl,rfl⟩,?_⟩;clear h2)
  rintro i ⟨hi,he⟩
  repeat'(intro t ht;first|(cases t<;>first|(cases ht;done)|(try simp only[zg_]at ht))|((first|refine zb_ ht ?_|refine ht ?_ ?_|refine ht.1 ?_ ?_|refine ht ?_)<;>clear ht))
  all_goals first
   | exact True.intro
   | ((try simp only [zk_,zl_,zj_] at*);omega)
   | (rw [he,zfZ_ (by omega)];exact ⟨rfl,rfl⟩)
   | (intro r h1 h2;clear h1;refine h2 ⟨[0,4,5],Nat,(fun k=>k<=i/\(((l.take i).take k).any (fun x=>alO x (l.getD i (Ty.dflt Y1))))=false),fun k=>[.imm Y1 l,.int .i64 i,.int .i64 k],fun _=>[],fun k=>i - k,⟨0,⟨Nat.zero_le _,rfl⟩,rfl,rfl⟩,?_⟩;clear h2)
  all_goals rintro k ⟨hk,hke⟩
  all_goals have hlt:i < l.length:=by omega
  all_goals have htk:(l.take i).length=i:=uN_ (by omega)
  all_goals repeat'(intro t ht;first|(cases t<;>first|(cases ht;done)|(try simp only[zg_]at ht;try(exfalso;first|contradiction|omega)))|((first|refine zb_ ht ?_|refine ht ?_ ?_|refine ht.1 ?_ ?_|refine ht ?_)<;>clear ht))
  all_goals (try generalize (Ty.dflt Y1)=od at*)
  all_goals first
   | exact True.intro
   | ((try simp only [zk_,zl_,zj_] at*);omega)
   | (have hka:=YH_ (by omega) hke
      first
       | (have hm:wv_ (l.take i) (l.getD i od).1 (l.getD i od).2.1=false:=by assumption
          rw [he,zdc_ hlt hka hm];exact ⟨rfl,rfl⟩)
       | (have hm:wv_ (l.take i) (l.getD i od).1 (l.getD i od).2.1=true:=by assumption
          exact ⟨i+1,⟨by omega,he.trans (ziM_ (by omega) hka hm)⟩,by dsimp only;omega,rfl,rfl⟩))
   | (have hg:(l.take i).getD k od=l.getD k od:=zjv_ (by omega)
      first
       | (have hm:=zk4_ ht
          rw [<- hg] at hm
          have hka:=YG_ (p:=fun x=>alO x (l.getD i od)) (d:=od) (show k < (l.take i).length by omega) hm
          rw [he,zfY_ hlt hka];exact ⟨rfl,rfl⟩)
       | (have hm:=zk5_ ht
          rw [<- hg] at hm
          exact ⟨k+1,⟨by omega,kJ_ (p:=fun x=>alO x (l.getD i od)) (d:=od) (by omega) hke hm⟩,by dsimp only;omega,rfl,rfl⟩))
 ·cases e
end Go.Eng
