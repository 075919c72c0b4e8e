/- Parts of the proof: R7, N1, M2. No condition. -/
import Derived.Test.YtiejmanmofemeaaGreatDoorProg
import Derived.Test.YtiejmanmofemeaaGreatDoorWR10
import Derived.KernelRfl
import Derived.Test.YtiejmanmofemeaaGreatDoorWR11
import Derived.Test.YtiejmanmofemeaaGreatDoorWR15
namespace Go.Eng
open Go.Proofs
set_option linter.unusedVariables false
set_option linter.unusedSimpArgs false
set_option maxRecDepth 100000
set_option maxHeartbeats 1000000
def HC_:IR:=
(sq (kr [0] [oD 2 (.mov cF)])
(sq (sq (.reg [oD 3 (.mov (cI 0))])
(.block 0
(.loop
(sq (sq (kr [0,3] [oM 4 3,
oM 5 0,
oE 6 5,
oB 7 .lss 4 6])
(.cond 7
.skip
(.exit 0)))
(sq (.block 1
(sq (kr [0,3] [oM 10 0,
oM 11 3,
oI 12 1 10 11,
oL 13 12,
oB 14 .eql 13 (cI 0),
oM 15 14,
oF 15 16 (.mov 0),
oF 15 17 (.mov 3),
oF 15 18 (.indexSl 1 16 17),
oF 15 19 (.load none 18),
oF 15 20 (.bin .gtr 19 (cI 8)),
oP 21 15 cT 20,
oM 22 21,
oF 22 23 (.mov 0),
oF 22 24 (.mov 3),
oF 22 25 (.indexSl 1 23 24),
oF 22 26 (.load none 25),
oF 22 27 (.bin .lss 26 (cI (-64))),
oP 28 22 cT 27])
(.cond 28
(sq (kr [] [oD 2 (.mov cF)])
.ret)
.skip)))
(kr [0,3] [oM 8 3,
oB 9 .add 8 (cI 1),
oM 3 9]))))))
(sq (kr [0] [oM 29 0,
oE 30 29,
oB 31 .leq 30 (cI 64),
oM 2 31])
.ret)))
def hw_:List RD:=[.tmp 2 true none]
theorem h0_:zm_ Tryz.prog Tryz.f125 HC_ hw_=true:=by kernel_rfl
def jb_:List AV->List Obj->Option (Prop × AV)
 | [.imm (.int .i64) w],[]=>some ((True,.bool (zR_ w)))
 | _,_=>none
theorem Xb_:zd_ Tryz.prog 125 (RoF jb_).sum:=by
 refine zl_ Tryz.func125 h0_ (zc_ _) fun args objs p v e=>?_
 unfold jb_ at e
 split at e
 ·rename_i w
  cases e
  refine ⟨rfl,fun hw ho hp=>?_⟩
  change List Int at w
  have hl:w.length<=maxLen:=(hw (.imm (.int .i64) w) (by simp)).2
  unfold maxLen at hl
  repeat'(intro t ht;first|(cases t<;>first|(cases ht;done)|(try simp only[zg_]at ht))|((first|refine zb_ ht ?_|refine ht ?_ ?_|refine ht.1 ?_ ?_|refine ht ?_)<;>clear ht))
  all_goals (intro r h1 h2;clear h1;refine h2 ⟨[0,3],Nat,(fun i=>i<=w.length/\w.all okW=(w.drop i).all okW),fun i=>[.imm (.int .i64) w,.int .i64 i],fun _=>[],fun i=>w.length - i,⟨0,⟨Nat.zero_le _,rfl⟩,rfl,rfl⟩,?_⟩;clear h2)
  rintro i ⟨hi,he⟩
  repeat'(intro t ht;first|(cases t<;>first|(cases ht;done)|(try simp only[zg_]at ht))|((first|refine zb_ ht ?_|refine ht ?_ ?_|refine ht.1 ?_ ?_|refine ht ?_)<;>clear ht))
  all_goals first
   | ((try simp only [zj_,zk_,zi_] at*);omega)
   | (have hge:w.length<=i:=by omega
      rw [List.drop_of_length_le hge] at he
      refine ⟨?_,rfl⟩;unfold zR_;rw [he,List.all_nil,Bool.and_true]
      congr 2;exact propext (by omega))
   | (have hlt:i < w.length:=by omega
      rw [zy_ hlt 0,List.all_cons] at he
      first
       | (have hk:okW (w.getD i 0)=false:=zhM_.2 (by omega)
          refine ⟨?_,rfl⟩;unfold zR_;rw [he,hk];simp;done)
       | (have hk:okW (w.getD i 0)=true:=zcN_.2 (by omega)
          rw [hk,Bool.true_and] at he
          exact ⟨i+1,⟨hlt,he⟩,by (try simp only [zj_,zk_,zi_] at*);omega,rfl,rfl⟩))
 ·cases e
def zac_:IR:=
(sq (kr [0] [oD 2 (.mov (cI 0))])
(sq (.reg [oD 3 (.mov (cI 0))])
(sq (sq (.reg [oD 4 (.mov (cI 0))])
(.block 0
(.loop
(sq (sq (kr [0,3,4] [oM 5 4,
oM 6 0,
oE 7 6,
oB 8 .lss 5 7,
oM 9 8,
oT 9 10 (.mov 0),
oT 9 11 (.call false (.f 125) [10]),
oP 12 9 11 cF])
(.cond 12
.skip
(.exit 0)))
(sq (.block 1
(sq (kr [0,3,4] [oM 15 0,
oM 16 4,
oI 17 1 15 16,
oL 18 17,
oB 19 .gtr 18 (cI 0)])
(.cond 19
(kr [0,3,4] [oM 20 3,
oM 21 0,
oM 22 4,
oI 23 1 21 22,
oL 24 23,
oB 25 .add 20 24,
oM 3 25])
(kr [0,3,4] [oM 26 3,
oM 27 0,
oM 28 4,
oI 29 1 27 28,
oL 30 29,
oB 31 .sub 26 30,
oM 3 31]))))
(kr [0,3,4] [oM 13 4,
oB 14 .add 13 (cI 1),
oM 4 14]))))))
(sq (kr [3] [oM 32 3,
oM 2 32])
.ret))))
def bW_:List RD:=[.tmp 2 true none]
theorem Bu_:zm_ Tryz.prog Tryz.f55 zac_ bW_=true:=by kernel_rfl
def XZ_:List AV->List Obj->Option (Prop × AV)
 | [.imm (.int .i64) w],[]=>some ((True,.int .i64 (zD_ w)))
 | _,_=>none
theorem G4_:zd_ Tryz.prog 55 (RoF XZ_).sum:=by
 refine zl_ Tryz.func55 Bu_ (za_ (s:=RoF jb_) Xb_ (zc_ _)) fun args objs p v e=>?_
 unfold XZ_ at e
 split at e
 ·rename_i w
  cases e
  refine ⟨rfl,fun hw ho hp=>?_⟩
  change List Int at w
  repeat'(intro t ht;first|(cases t<;>first|(cases ht;done)|(try simp only[zg_]at ht))|((first|refine zb_ ht ?_|refine ht ?_ ?_|refine ht.1 ?_ ?_|refine ht ?_)<;>clear ht))
  all_goals first
   | (intro r h1 h2;clear h1;refine h2 ⟨[0,3,4],Nat,(fun i=>i<=w.length/\(zR_ w=false->i=0)),fun i=>[.imm (.int .i64) w,.int .i64 (jg_ zp_ w i),.int .i64 i],fun _=>[],fun i=>w.length - i,⟨0,⟨Nat.zero_le _,fun _=>rfl⟩,rfl,rfl⟩,?_⟩;clear h2)
  rintro i ⟨hi,hz⟩
  repeat'(intro t ht;first|(cases t<;>first|(cases ht;done)|(try simp only[zg_]at ht))|((first|refine zb_ ht ?_|refine ht ?_ ?_|refine ht.1 ?_ ?_|refine ht ?_)<;>clear ht))
  all_goals first
   | exact True.intro
   | ((try simp only [zj_,zk_,zi_] at*);omega)
   | (have hge:w.length<=i:=by omega
      refine ⟨?_,rfl⟩;unfold zD_;rw [Kv_ zp_ hge]
      cases hr:zR_ w with
      | true=>rfl
      | false=>have h0:=hz hr;have:w=[]:=List.length_eq_zero_iff.1 (by omega);subst this;rfl)
   | (have hr:zR_ w=false:=by assumption
      have h0:=hz hr;subst h0
      refine ⟨?_,rfl⟩;unfold zD_;rw [hr];rfl)
   | (have hr:zR_ w=true:=by assumption
      have hl:=(Zb_.1 hr).1
      have hlt:i < w.length:=by omega
      have hs:=ya_ hr i
      have hk:=(Zb_.1 hr).2 _ (zX_ hlt 0)
      have ha:=Kh_ (n:=w.getD i 0)
      first
       | ((try simp only [zj_,zk_,zi_] at*);omega)
       | (refine ⟨i+1,⟨hlt,fun h=>by rw [hr] at h;cases h⟩,by (try simp only [zj_,zk_,zi_] at*);omega,?_,rfl⟩
          dsimp only
          rw [qV_ zp_ hlt]
          first
           | (rw [K9_ (by omega)];done)
           | (rw [K9_ (by omega)];rfl)
           | (rw [QZ_ (by omega)];rfl)
           | (rw [QZ_ (by omega),<- Int.sub_eq_add_neg])))
 ·cases e
theorem zaI_ (w:Int):List.replicate w.toNat 0=zf_ 0 w:=by
 have:∀ j:Nat,ku_ 0 w j=0:=fun j=>by unfold ku_;rw [Int.zero_fdiv];rfl
 unfold zf_ kt_
 simp only [this,List.map_const',List.length_range]
theorem zeF_ {α:Type} (b:List α) (p:Nat) {n:Int} (h:0<=n):(b.take ((p:Int)+n).toNat).drop p=(b.drop p).take n.toNat:=by
 have e:((p:Int)+n).toNat=p+n.toNat:=by omega
 rw [e,List.drop_take];congr 1;omega
theorem za0_ {b:List Int} {p k:Nat} (h:k < b.length) (hz:zF_ ((b.drop p).take (k - p))=true) (hp:p<=k) (e:b.getD k 0=0):zF_ ((b.drop p).take (k+1 - p))=true:=by
 have hk:k - p < (b.drop p).length:=by rw [List.length_drop];omega
 rw [show k+1 - p=(k - p)+1 by omega,List.take_succ_eq_append_getElem hk]
 unfold zF_ at hz ⊢
 rw [List.all_append,hz,Bool.true_and,List.getElem_drop]
 have:b[p+(k - p)]'(by omega)=b.getD k 0:=by
  rw [List.getD_eq_getElem?_getD,List.getElem?_eq_getElem h,Option.getD_some];congr 1;omega
 rw [List.all_cons,List.all_nil,this,e];rfl
theorem zdp_ {b:List Int} {p k n:Nat} (h:k < b.length) (hp:p<=k) (hk:k < p+n) (e:¬ b.getD k 0=0):zF_ ((b.drop p).take n)=false:=by
 unfold zF_
 rw [List.all_eq_false]
 refine ⟨b.getD k 0,?_,by simpa using e⟩
 rw [List.mem_take_iff_getElem]
 refine ⟨k - p,by rw [List.length_drop];omega,?_⟩
 rw [List.getElem_drop,List.getD_eq_getElem?_getD,List.getElem?_eq_getElem h,Option.getD_some]
 congr 1;omega
def zb5_:IR:=
(sq (kr [0,1] [oD 4 (.nilrow (.int .u64)),
oD 5 (.mov (cI 0))])
(sq (sq (.reg [oM 11 0,
oC 12 125 [11],
oD 13 (.un .not 12)])
(.cond 13
(sq (.reg [oD 4 (.nilrow (.int .u64)),
oD 5 (.mov (cI 2))])
.ret)
.skip))
(sq (kr [0,1] [oD 6 (.nilrow (.int .u64))])
(sq (.reg [oD 7 (.mov (cI 0))])
(sq (sq (.reg [oD 8 (.mov (cI 0))])
(.block 0
(.loop
(sq (sq (kr [0,1,6,7,8] [oM 14 8,
oM 15 0,
oE 16 15,
oB 17 .lss 14 16])
(.cond 17
.skip
(.exit 0)))
(sq (.block 1
(sq (kr [0,1,6,7,8] [oM 20 0,
oM 21 8,
oI 22 1 20 21,
oL 23 22,
oM 9 23])
(sq (sq (.reg [oM 24 9,
oB 25 .lss 24 (cI 0)])
(.cond 25
(kr [0,1,6,7,8,9] [oM 26 9,
oD 27 (.un .neg 26),
oM 9 27])
.skip))
(sq (sq (kr [0,1,6,7,8,9] [oM 28 1,
oE 29 28,
oM 30 7,
oB 31 .sub 29 30,
oM 32 9,
oB 33 .lss 31 32])
(.cond 33
(sq (kr [] [oD 4 (.nilrow (.int .u64)),
oD 5 (.mov (cI 1))])
.ret)
.skip))
(sq (sq (kr [0,1,6,7,8,9] [oM 34 0,
oM 35 8,
oI 36 1 34 35,
oL 37 36,
oB 38 .gtr 37 (cI 0)])
(.cond 38
(kr [0,1,6,7,8,9] [oM 39 6,
oM 40 1,
oM 41 7,
oM 42 7,
oM 43 9,
oB 44 .add 42 43,
oD 45 (.slice 1 40 (some 41) (some 44) none),
oC 46 123 [45],
oD 47 (.sliceAll (.int .u64) 1 [(0,1,46)]),
oD 48 (.append (.int .u64) 8 39 47),
oM 6 48])
.skip))
(sq (sq (kr [0,1,6,7,8,9] [oM 49 7,
oM 10 49])
(.block 2
(.loop
(sq (sq (kr [0,1,6,7,8,9,10] [oM 50 10,
oM 51 7,
oM 52 9,
oB 53 .add 51 52,
oB 54 .lss 50 53,
oM 55 54,
oT 55 56 (.mov 0),
oT 55 57 (.mov 8),
oT 55 58 (.indexSl 1 56 57),
oT 55 59 (.load none 58),
oT 55 60 (.bin .lss 59 (cI 0)),
oP 61 55 60 cF])
(.cond 61
.skip
(.exit 2)))
(sq (.block 3
(sq (kr [0,1,6,7,8,9,10] [oM 64 1,
oM 65 10,
oI 66 1 64 65,
oL 67 66,
oB 68 .neq 67 (.c (.int .u8 0))])
(.cond 68
(sq (.reg [oD 4 (.nilrow (.int .u64)),
oD 5 (.mov (cI 2))])
.ret)
.skip)))
(kr [0,1,6,7,8,9,10] [oM 62 10,
oB 63 .add 62 (cI 1),
oM 10 63]))))))
(kr [0,1,6,7,8,9] [oM 69 7,
oM 70 9,
oB 71 .add 69 70,
oM 7 71])))))))
(kr [0,1,6,7,8] [oM 18 8,
oB 19 .add 18 (cI 1),
oM 8 19]))))))
(sq (kr [6] [oM 72 6,
oM 4 72,
oD 5 (.mov (cI 0))])
.ret))))))
def zbs_:List RD:=[.tmp 4 true (some (.int .u64)),.tmp 5 true none]
theorem zbJ_:zm_ Tryz.prog Tryz.f56 zb5_ zbs_=true:=by kernel_rfl
def j2_:List AV->List Obj->Option (Prop × AV)
 | [.imm (.int .i64) w,.imm (.int .u8) b],[]=>some ((True,.tup [.imm (.int .u64) (zA_ w b),.int .i64 (zx_ w b)]))
 | _,_=>none
theorem Wq_:zd_ Tryz.prog 56 (RoF j2_).sum:=by
 refine zl_ Tryz.func56 zbJ_ (za_ (s:=RoF jb_) Xb_ (za_ (s:=RoF Qz_) kB_ (zc_ _))) fun args objs p v e=>?_
 unfold j2_ at e
 split at e
 ·rename_i w b
  cases e
  refine ⟨rfl,fun hw ho hp=>?_⟩
  change List Int at w
  change List Int at b
  have hb:b.length<=maxLen:=(hw (.imm (.int .u8) b) (by simp)).2
  unfold maxLen at hb
  repeat'(intro t ht;first|(cases t<;>first|(cases ht;done)|(try simp only[zg_]at ht))|((first|refine zb_ ht ?_|refine ht ?_ ?_|refine ht.1 ?_ ?_|refine ht ?_)<;>clear ht))
  all_goals first
   | exact True.intro
   | (intro r h1 h2;clear h1;refine h2 ⟨[0,1,6,7,8],Nat × Nat × List Int,(fun a=>a.1<=w.length/\a.2.1<=b.length/\a.2.2.length<=a.1/\Ze_ w b []=Ze_ (w.drop a.1) (b.drop a.2.1) a.2.2),fun a=>[.imm (.int .i64) w,.imm (.int .u8) b,.own 0,.int .i64 a.2.1,.int .i64 a.1],fun a=>[.row false (.int .u64) a.2.2],fun a=>w.length - a.1,⟨(0,0,[]),⟨Nat.zero_le _,Nat.zero_le _,Nat.zero_le _,rfl⟩,rfl,rfl⟩,?_⟩;clear h2)
   | (have hr:zR_ w=false:=by assumption
      have hf:z7_ w b=([],2):=by unfold z7_;rw [hr];rfl
      refine ⟨?_,rfl⟩;unfold zA_ zx_;rw [hf])
  rintro ⟨i,p,o⟩ ⟨hi,hp,ho,he⟩
  dsimp only at hi hp ho he
  have hr:zR_ w=true:=by assumption
  have hl:=(Zb_.1 hr).1
  have hdl:(b.drop p).length=b.length - p:=List.length_drop
  repeat'(intro t ht;first|(cases t<;>first|(cases ht;done)|(try simp only[zg_]at ht;try(exfalso;first|contradiction|omega)))|((first|refine zb_ ht ?_|refine ht ?_ ?_|refine ht.1 ?_ ?_|refine ht ?_)<;>clear ht))
  all_goals first
   | ((try simp only [zj_,zk_,zi_] at*);omega)
   | (have hge:w.length<=i:=by omega
      rw [List.drop_of_length_le hge] at he
      have hf:z7_ w b=(o,0):=by unfold z7_;rw [if_pos hr,he];rfl
      refine ⟨?_,rfl⟩;unfold zA_ zx_;rw [hf];done)
   | skip
  all_goals have hlt:i < w.length:=by omega
  all_goals have hkk:=(Zb_.1 hr).2 _ (zX_ (α:=Int) hlt 0)
  all_goals have ha:=Kh_ (n:=w.getD i 0)
  all_goals dsimp only
  all_goals first
   | exact True.intro
   | ((try simp only [zj_,zk_,zi_] at*);omega)
   | (simp only [List.length_drop,List.length_take];(try simp only [zj_,zk_,zi_] at*);omega)
   | (simp only [z0_,List.length_append,List.length_cons,List.length_nil];omega)
   | (have h1:((b.drop p).length:Int) < zp_ (w.getD i 0):=by rw [hdl];omega
      have hf:z7_ w b=([],1):=by unfold z7_;rw [if_pos hr,he];exact XI_ hlt h1
      refine ⟨?_,rfl⟩;unfold zA_ zx_;rw [hf];done)
   | (have h2:0 < w.getD i 0:=by assumption
      (intro r h1 h2;refine h1 ⟨1,?_⟩;clear h1 h2))
   | (have h2:w.getD i 0 < 0:=by assumption
      (intro r h1 h2;clear h1;refine h2 ⟨[0,1,6,7,8,9,10],Nat,(fun k=>p<=k/\(k:Int)<=p - w.getD i 0/\zF_ ((b.drop p).take (k - p))=true),fun k=>[.imm (.int .i64) w,.imm (.int .u8) b,.own 0,.int .i64 p,.int .i64 i,.int .i64 (0 - w.getD i 0),.int .i64 k],fun _=>[.row false (.int .u64) o],fun k=>b.length - k,⟨p,⟨Nat.le_refl _,by omega,by rw [Nat.sub_self];rfl⟩,rfl,rfl⟩,?_⟩;clear h2);rintro k ⟨hk1,hk2,hk3⟩)
  all_goals repeat'(intro t ht;first|(cases t<;>first|(cases ht;done)|(try simp only[zg_]at ht;try(exfalso;first|contradiction|omega)))|((first|refine zb_ ht ?_|refine ht ?_ ?_|refine ht.1 ?_ ?_|refine ht ?_)<;>clear ht))
  all_goals (try dsimp only)
  all_goals first
   | exact True.intro
   | ((try simp only [zj_,zk_,zi_] at*);omega)
   | (have h2:0 < w.getD i 0:=by assumption
      have h1:¬ ((b.drop p).length:Int) < zp_ (w.getD i 0):=by rw [hdl];omega
      have hab:zp_ (w.getD i 0)=w.getD i 0:=K9_ (by omega)
      have hsl:=zeF_ b p (n:=w.getD i 0) (by omega)
      refine ⟨(i+1,p+(zp_ (w.getD i 0)).toNat,o++[zS_ ((b.drop p).take (zp_ (w.getD i 0)).toNat)]),⟨hlt,?_,?_,?_⟩,?_,?_,?_⟩
      ·dsimp only;omega
      ·simp only [List.length_append,List.length_cons,List.length_nil];omega
      ·dsimp only;rw [he,uM_ hlt h1 h2,List.drop_drop]
      ·dsimp only;omega
      ·have:((p+(zp_ (w.getD i 0)).toNat:Nat):Int)=p+w.getD i 0:=by rw [hab];omega
       simp only [this];rfl
      ·simp only [hab,<- hsl];rfl)
   | (have hz:b.getD k 0=0:=by assumption
      exact ⟨k+1,⟨by omega,by omega,za0_ (by omega) hk3 hk1 hz⟩,by omega,rfl,rfl⟩)
   | (have hz:¬ b.getD k 0=0:=by assumption
      have h2:¬ 0 < w.getD i 0:=by assumption
      have hab:zp_ (w.getD i 0)=-w.getD i 0:=QZ_ (by omega)
      have h1:¬ ((b.drop p).length:Int) < zp_ (w.getD i 0):=by rw [hdl];omega
      have h3:zF_ ((b.drop p).take (zp_ (w.getD i 0)).toNat)=false:=zdp_ (by omega) hk1 (by omega) hz
      have hf:z7_ w b=([],2):=by unfold z7_;rw [if_pos hr,he];exact uL_ hlt h1 h2 h3
      refine ⟨?_,rfl⟩;unfold zA_ zx_;rw [hf];done)
   | (have h2:¬ 0 < w.getD i 0:=by assumption
      have hab:zp_ (w.getD i 0)=-w.getD i 0:=QZ_ (by omega)
      have h1:¬ ((b.drop p).length:Int) < zp_ (w.getD i 0):=by rw [hdl];omega
      have hke:k - p=(zp_ (w.getD i 0)).toNat:=by omega
      rw [hke] at hk3
      refine ⟨(i+1,p+(zp_ (w.getD i 0)).toNat,o),⟨hlt,?_,?_,?_⟩,?_,?_,rfl⟩
      ·dsimp only;omega
      ·dsimp only;omega
      ·dsimp only;rw [he,Yv_ hlt h1 h2 hk3,List.drop_drop]
      ·dsimp only;omega
      ·have:((p+(zp_ (w.getD i 0)).toNat:Nat):Int)=p+(0 - w.getD i 0):=by rw [hab];omega
       simp only [this];rfl)
 ·cases e
theorem zaM_ {n:Int} {k j:Nat} (h:j < k) (hk:k<=7):ku_ n ((k+1:Nat):Int) j=ku_ (n / 256) k j:=by
 unfold ku_
 have e:min (8*(((k+1:Nat):Int) - 1 - j)).toNat 64=8+8*(k - 1 - j):=by omega
 have e':min (8*((k:Int) - 1 - j)).toNat 64=8*(k - 1 - j):=by omega
 have hp:∀ m:Nat,(0:Int)<=2 ^ m:=fun m=>Int.le_of_lt (Int.pow_pos (by decide))
 rw [e,e',Int.fdiv_eq_ediv_of_nonneg _ (hp _),Int.fdiv_eq_ediv_of_nonneg _ (hp _),Int.pow_add,<- Int.ediv_ediv_of_nonneg (hp 8)]
 rfl
theorem vr_ {n:Int} {k:Nat} (hk:k<=7):zf_ n ((k+1:Nat):Int)=zf_ (n / 256) k++[n % 256]:=by
 unfold zf_ kt_
 rw [Int.toNat_natCast,Int.toNat_natCast,List.range_succ,List.map_append]
 congr 1
 ·apply List.map_congr_left
  intro j hj
  exact zaM_ (List.mem_range.1 hj) hk
 ·show [ku_ n ((k+1:Nat):Int) k]=_
  unfold ku_
  have e:min (8*(((k+1:Nat):Int) - 1 - k)).toNat 64=0:=by omega
  rw [e,Int.pow_zero,Int.fdiv_one]
theorem vc_:∀ (k:Nat) (n:Int),k<=8->0<=n->n < 256 ^ k->zS_ (zf_ n k)=n
 | 0,n,_,h0,h1=>by
   have:n=0:=by rw [Int.pow_zero] at h1;omega
   subst this;rfl
 | k+1,n,hk,h0,h1=>by
   rw [vr_ (by omega),Yl_,vc_ k (n / 256) (by omega) (by omega) (by rw [Int.pow_succ] at h1;exact Int.ediv_lt_of_lt_mul (by decide) h1)]
   omega
theorem xb_:∀ (k:Nat) (b:List Int),k<=8->b.length=k->(∀ x ∈ b,0<=x/\x<=255)->zf_ (zS_ b) k=b
 | 0,b,_,hl,_=>by
   have:b=[]:=List.eq_nil_of_length_eq_zero hl
   subst this;rfl
 | k+1,b,hk,hl,hb=>by
   rcases List.eq_nil_or_concat b with rfl | ⟨l,c,rfl⟩
   ·cases hl
   ·rw [List.concat_eq_append] at hl hb ⊢
    have hc:=hb c (by simp)
    have hl':l.length=k:=by simpa using hl
    rw [Yl_,vr_ (by omega)]
    rw [show (zS_ l*256+c) / 256=zS_ l by omega,show (zS_ l*256+c) % 256=c by omega,xb_ k l (by omega) hl' fun x hx=>hb x (by simp [hx])]
theorem zaK_ (w:Int):zf_ 0 w=List.replicate w.toNat 0:=(zaI_ w).symm
theorem y1_ (k:Nat):zF_ (List.replicate k 0)=true:=by
 unfold zF_;rw [List.all_eq_true];intro x hx;rw [List.eq_of_mem_replicate hx];rfl
theorem zeo_ {b:List Int} (h:zF_ b=true):b=List.replicate b.length 0:=by
 unfold zF_ at h
 rw [List.all_eq_true] at h
 exact List.eq_replicate_iff.2 ⟨rfl,fun x hx=>by simpa using h x hx⟩
theorem Qh_:∀ (w xs b:List Int),q4_ w xs b=(q4_ w xs []).map (b++·)
 | [],xs,b=>by simp [q4_]
 | n :: r,xs,b=>by
   simp only [q4_]
   split
   ·rw [Qh_ r xs (b++zf_ 0 (0 - n)),Qh_ r xs ([]++zf_ 0 (0 - n)),Option.map_map]
    congr 1;funext z;simp
   ·cases xs with
    | nil=>rfl
    | cons x ys=>
      dsimp only
      split
      ·rfl
      ·rw [Qh_ r ys (b++zf_ x n),Qh_ r ys ([]++zf_ x n),Option.map_map]
       congr 1;funext z;simp
theorem W5_:∀ (w b o:List Int),(Ze_ w b o).2=(Ze_ w b []).2/\((Ze_ w b []).2=0->(Ze_ w b o).1=o++(Ze_ w b []).1)
 | [],b,o=>by simp [Ze_]
 | n :: r,b,o=>by
   simp only [Ze_]
   split
   ·exact ⟨rfl,fun h=>by cases h⟩
   ·split
    ·have h1:=W5_ r (b.drop (zp_ n).toNat) (o++[zS_ (b.take (zp_ n).toNat)])
     have h2:=W5_ r (b.drop (zp_ n).toNat) ([]++[zS_ (b.take (zp_ n).toNat)])
     refine ⟨h1.1.trans h2.1.symm,fun h=>?_⟩
     have h0:=h2.1.symm.trans h
     rw [h1.2 h0,h2.2 h0];simp
    ·split
     ·exact W5_ r (b.drop (zp_ n).toNat) o
     ·exact ⟨rfl,fun h=>by cases h⟩
theorem ziD_ {x n:Int} (h0:0<=x) (h1:x<=18446744073709551615) (hn:0 < n) (h8:n<=8) (hf:¬ (n < 8/\x.fdiv (2 ^ (min (8*n).toNat 64)) ≠ 0)):x < 256 ^ n.toNat:=by
 by_cases hlt:n < 8
 ·have hz:x.fdiv (2 ^ (min (8*n).toNat 64))=0:=Classical.byContradiction fun h=>hf ⟨hlt,h⟩
  have e:min (8*n).toNat 64=8*n.toNat:=by omega
  have hp:(0:Int) < 2 ^ (8*n.toNat):=Int.pow_pos (by decide)
  rw [e,Int.fdiv_eq_ediv_of_nonneg _ (Int.le_of_lt hp)] at hz
  have h2:=Int.lt_ediv_add_one_mul_self x hp
  rw [hz] at h2
  have e2:(2:Int) ^ (8*n.toNat)=256 ^ n.toNat:=by rw [Int.pow_mul];rfl
  rw [<- e2];omega
 ·have:n=8:=by omega
  subst this
  show x < 256 ^ 8
  omega
theorem zis_ {x n:Int} (h0:0<=x) (hn:0 < n) (h8:n<=8) (hx:x < 256 ^ n.toNat):¬ (n < 8/\x.fdiv (2 ^ (min (8*n).toNat 64)) ≠ 0):=by
 rintro ⟨hlt,hz⟩
 apply hz
 have e:min (8*n).toNat 64=8*n.toNat:=by omega
 have hp:(0:Int) < 2 ^ (8*n.toNat):=Int.pow_pos (by decide)
 have e2:(2:Int) ^ (8*n.toNat)=256 ^ n.toNat:=by rw [Int.pow_mul];rfl
 rw [e,Int.fdiv_eq_ediv_of_nonneg _ (Int.le_of_lt hp),e2]
 exact Int.ediv_eq_zero_of_lt h0 hx
def okR (w:List Int):Prop:=∀ n ∈ w,n ≠ 0/\n<=8/\-64<=n
theorem hI_:∀ (w xs r rest:List Int),okR w->(∀ x ∈ xs,0<=x/\x<=18446744073709551615)->(w.map qG_).sum=xs.length->q4_ w xs []=some r->Ze_ w (r++rest) []=(xs,0)
 | [],xs,r,rest,_,_,hc,h=>by
   simp at hc
   have:xs=[]:=List.eq_nil_of_length_eq_zero (by omega)
   subst this;rfl
 | n :: w,xs,r,rest,hw,hx,hc,h=>by
   have hn:=hw n (by simp)
   have hw':okR w:=fun m hm=>hw m (by simp [hm])
   simp only [q4_] at h
   rw [List.map_cons,List.sum_cons] at hc
   by_cases hneg:n < 0
   ·rw [if_pos hneg,List.nil_append,Qh_] at h
    have h1:qG_ n=0:=if_neg (by omega)
    obtain ⟨r',hr',rfl⟩:=Option.map_eq_some_iff.1 h
    have ih:=hI_ w xs r' rest hw' hx (by omega) hr'
    have hl:=zn_ (n:=0) (w:=0 - n) (by omega)
    have ha:=QZ_ hneg
    have hln:(zf_ 0 (0 - n)).length=(zp_ n).toNat:=by omega
    simp only [Ze_]
    rw [List.append_assoc,if_neg (by rw [List.length_append];omega),if_neg (by omega),<- hln,List.take_left,List.drop_left,zaK_,y1_,if_pos rfl,ih]
   ·rw [if_neg hneg] at h
    have h1:qG_ n=1:=if_pos (by omega)
    cases xs with
    | nil=>cases h
    | cons x ys=>
      dsimp only at h
      by_cases hf:n < 8/\x.fdiv (2 ^ (min (8*n).toNat 64)) ≠ 0
      ·rw [if_pos hf] at h;cases h
      ·rw [if_neg hf,List.nil_append,Qh_] at h
       obtain ⟨r',hr',rfl⟩:=Option.map_eq_some_iff.1 h
       have hx0:=hx x (by simp)
       have hlt:=ziD_ hx0.1 hx0.2 (by omega) hn.2.1 hf
       have ih:=hI_ w ys r' rest hw' (fun y hy=>hx y (by simp [hy])) (by rw [List.length_cons] at hc;omega) hr'
       have hl:=zn_ (n:=x) (w:=n) (by omega)
       have ha:=K9_ hneg
       have hln:(zf_ x n).length=(zp_ n).toNat:=by omega
       have hnum:zS_ (zf_ x n)=x:=by
        have:=vc_ n.toNat x (by omega) hx0.1 hlt
        rwa [show ((n.toNat:Nat):Int)=n by omega] at this
       simp only [Ze_]
       have hacc:=W5_ w (r'++rest) ([]++[x])
       rw [List.append_assoc,if_neg (by rw [List.length_append];omega),if_pos (by omega),<- hln,List.take_left,List.drop_left,hnum]
       rw [ih] at hacc
       exact Prod.ext ((hacc.2 rfl).trans (by simp)) hacc.1
theorem HO_:∀ (w b xs:List Int),okR w->(∀ x ∈ b,0<=x/\x<=255)->Ze_ w b []=(xs,0)->(w.map qG_).sum=xs.length/\(w.map zp_).sum<=b.length/\q4_ w xs []=some (b.take (w.map zp_).sum.toNat)
 | [],b,xs,_,_,h=>by
   simp only [Ze_,Prod.mk.injEq] at h
   obtain ⟨rfl,_⟩:=h
   exact ⟨rfl,Int.natCast_nonneg _,rfl⟩
 | n :: w,b,xs,hw,hb,h=>by
   have hn:=hw n (by simp)
   have hw':okR w:=fun m hm=>hw m (by simp [hm])
   have ha:=Kh_ (n:=n)
   have hs:0<=(w.map zp_).sum:=by
    have:∀ l:List Int,0<=(l.map zp_).sum:=fun l=>by
     induction l with
     | nil=>simp
     | cons a l ih=>rw [List.map_cons,List.sum_cons];have:=Kh_ (n:=a);omega
    exact this w
   have hd:(b.drop (zp_ n).toNat).length=b.length - (zp_ n).toNat:=List.length_drop
   have hbd:∀ x ∈ b.drop (zp_ n).toNat,0<=x/\x<=255:=fun x hx=>hb x (List.mem_of_mem_drop hx)
   have htk:∀ k:Nat,(b.take (zp_ n).toNat)++(b.drop (zp_ n).toNat).take k=b.take ((zp_ n).toNat+k):=fun k=>by rw [List.take_add]
   simp only [Ze_] at h
   rw [List.map_cons,List.sum_cons,List.map_cons,List.sum_cons]
   by_cases hsh:(b.length:Int) < zp_ n
   ·rw [if_pos hsh] at h;cases h
   ·rw [if_neg hsh] at h
    have htl:(b.take (zp_ n).toNat).length=(zp_ n).toNat:=by rw [List.length_take];omega
    by_cases hp:0 < n
    ·rw [if_pos hp] at h
     have hacc:=W5_ w (b.drop (zp_ n).toNat) ([]++[zS_ (b.take (zp_ n).toNat)])
     rw [h] at hacc
     have h0:=hacc.1.symm
     obtain ⟨ys,hys⟩:∃ ys,Ze_ w (b.drop (zp_ n).toNat) []=(ys,0):=⟨_,Prod.ext rfl h0⟩
     rw [hys] at hacc
     have hxs:=hacc.2 rfl
     obtain ⟨i1,i2,i3⟩:=HO_ w _ ys hw' hbd hys
     have e1:qG_ n=1:=if_pos hp
     have ea:=K9_ (n:=n) (by omega)
     dsimp only [List.nil_append] at hxs
     rw [List.singleton_append] at hxs
     subst hxs
     have hbt:∀ x ∈ b.take (zp_ n).toNat,0<=x/\x<=255:=fun x hx=>hb x (List.mem_of_mem_take hx)
     have hnl:=xK_ (b.take (zp_ n).toNat) hbt
     have h2:=hnl.2
     rw [htl] at h2
     have e3:(zp_ n).toNat=n.toNat:=by rw [ea]
     have h4:zS_ (b.take (zp_ n).toNat) < 256 ^ n.toNat:=by rw [<- e3];exact h2
     have hfit:¬ (n < 8/\(zS_ (b.take (zp_ n).toNat)).fdiv (2 ^ (min (8*n).toNat 64)) ≠ 0):=zis_ hnl.1 hp hn.2.1 h4
     have hbk:=xb_ (zp_ n).toNat (b.take (zp_ n).toNat) (by omega) htl hbt
     rw [show (((zp_ n).toNat:Nat):Int)=n by omega] at hbk
     refine ⟨by rw [List.length_cons];omega,by omega,?_⟩
     simp only [q4_]
     rw [if_neg (by omega),if_neg hfit,List.nil_append,Qh_,i3,hbk]
     show some _=_
     dsimp only;rw [htk];congr 2;omega
    ·rw [if_neg hp] at h
     by_cases hz:zF_ (b.take (zp_ n).toNat)=true
     ·rw [if_pos hz] at h
      obtain ⟨i1,i2,i3⟩:=HO_ w _ xs hw' hbd h
      have e1:qG_ n=0:=if_neg hp
      have hze:=zeo_ hz
      rw [htl] at hze
      have ea:=QZ_ (n:=n) (by omega)
      refine ⟨by omega,by omega,?_⟩
      simp only [q4_]
      rw [if_pos (by omega),List.nil_append,Qh_,i3,zaK_,show (0 - n).toNat=(zp_ n).toNat by omega,<- hze]
      show some _=_
      dsimp only;rw [htk];congr 2;omega
     ·rw [if_neg hz] at h;cases h
theorem xI_ {w xs:List Int} (rest:List Int) (hx:∀ x ∈ xs,0<=x/\x<=18446744073709551615) (hk:Qg_ w xs=true):z7_ w (ZT_ w xs++rest)=(xs,0)/\(ZT_ w xs).length=(zD_ w).toNat:=by
 unfold Qg_ at hk
 obtain ⟨r,hr⟩:=Option.isSome_iff_exists.1 hk
 have hb:ZT_ w xs=r:=by unfold ZT_;rw [hr];rfl
 rw [hb]
 unfold jn_ at hr
 split at hr
 ·rename_i h
  have hw:okR w:=(Zb_.1 h.1).2
  have hc:(w.map qG_).sum=xs.length:=by have:=h.2;unfold z4_ at this;rwa [if_pos h.1] at this
  unfold z7_ zD_
  rw [if_pos h.1,if_pos h.1]
  refine ⟨hI_ w xs r rest hw hx hc hr,?_⟩
  have hl:∀ (w xs r:List Int),okR w->q4_ w xs []=some r->(r.length:Int)=(w.map zp_).sum:=by
   intro w
   induction w with
   | nil=>intro xs r _ h;simp only [q4_,Option.some.injEq] at h;subst h;rfl
   | cons n w ih=>
     intro xs r hw h
     have hn:=hw n (by simp)
     have hw':okR w:=fun m hm=>hw m (by simp [hm])
     simp only [q4_] at h
     rw [List.map_cons,List.sum_cons]
     split at h
     ·rw [Qh_] at h
      obtain ⟨r',hr',rfl⟩:=Option.map_eq_some_iff.1 h
      have:=ih _ _ hw' hr'
      have hl:=zn_ (n:=0) (w:=0 - n) (by omega)
      have ha:=QZ_ (n:=n) (by assumption)
      simp only [List.nil_append,List.length_append];omega
     ·cases xs with
      | nil=>cases h
      | cons x ys=>
        dsimp only at h
        split at h
        ·cases h
        ·rw [Qh_] at h
         obtain ⟨r',hr',rfl⟩:=Option.map_eq_some_iff.1 h
         have:=ih _ _ hw' hr'
         have hl:=zn_ (n:=x) (w:=n) (by omega)
         have ha:=K9_ (n:=n) (by assumption)
         simp only [List.nil_append,List.length_append];omega
  have:=hl w xs r hw hr
  omega
 ·cases hr
theorem Yu_ {w b xs:List Int} (hb:∀ x ∈ b,0<=x/\x<=255) (h:z7_ w b=(xs,0)):Qg_ w xs=true/\ZT_ w xs=b.take (zD_ w).toNat/\zD_ w<=b.length:=by
 unfold z7_ at h
 split at h
 ·rename_i hr
  obtain ⟨h1,h2,h3⟩:=HO_ w b xs (Zb_.1 hr).2 hb h
  have hF:jn_ w xs=some (b.take (w.map zp_).sum.toNat):=by
   unfold jn_ z4_;rw [if_pos hr,if_pos ⟨hr,h1⟩,h3]
  unfold Qg_ ZT_ zD_
  rw [hF,if_pos hr];exact ⟨rfl,rfl,h2⟩
 ·cases h
theorem kw_ {α:Type} {p:α->Bool} {l:List α} {i:Nat} {d:α} (h:i < l.length) (ht:(l.take i).any p=false) (hd:p (l.getD i d)=false):(l.take (i+1)).any p=false:=by
 rw [List.take_succ_eq_append_getElem h,List.any_append,ht,Bool.false_or,List.any_cons,List.any_nil,Bool.or_false]
 rwa [List.getD_eq_getElem?_getD,List.getElem?_eq_getElem h] at hd
theorem yS_ {α:Type} {p:α->Bool} {l:List α} {i:Nat} (h:l.length<=i) (ht:(l.take i).any p=false):l.any p=false:=by
 rwa [List.take_of_length_le h] at ht
theorem yR_ {α:Type} {p:α->Bool} {l:List α} {i:Nat} {d:α} (h:i < l.length) (hd:p (l.getD i d)=true):l.any p=true:=
 List.any_eq_true.2 ⟨_,zX_ h d,hd⟩
theorem zel_ {α:Type} {f:α->Bool} {l:List α} {i:Nat} {d:α} (h:i < l.length) (ht:(l.take i).all f=true) (hd:f (l.getD i d)=true):(l.take (i+1)).all f=true:=by
 rw [List.take_succ_eq_append_getElem h,List.all_append,ht,Bool.true_and,List.all_cons,List.all_nil,Bool.and_true]
 rwa [List.getD_eq_getElem?_getD,List.getElem?_eq_getElem h] at hd
theorem zf9_ {α:Type} {f:α->Bool} {l:List α} {i:Nat} (h:l.length<=i) (ht:(l.take i).all f=true):l.all f=true:=by
 rwa [List.take_of_length_le h] at ht
theorem zf8_ {α:Type} {f:α->Bool} {l:List α} {i:Nat} {d:α} (h:i < l.length) (hd:f (l.getD i d)=false):l.all f=false:=by
 rw [List.all_eq_false]
 exact ⟨l.getD i d,zX_ h d,by rw [hd];decide⟩
def vV_ (c f:Int):Bool:=decide (c ≠ 32768) || !fIs f || decide (qk_ f < 0)
def JJ_ (l:List OV) (c f:Int):Bool:=if vV_ c f=true then true else l.any (mtO (qk_ f) (kS_ f))
def zaj_:IR:=
(sq (kr [0,1] [oD 3 (.boxv 1),
oD 4 (.mov cF)])
(sq (kr [0,3] [oA 8 1 3,
oL 9 8,
oC 10 225 [9],
oM 7 10,
oX 11 7 0,
oX 12 7 1,
oD 5 (.box [.int .i64 0,.int .i64 0,.kb false,.int .i64 0,.imm (.int .u64) []]),
oS 5 5 11,
oM 6 12])
(sq (sq (kr [0,3,5,6] [oA 13 0 3,
oL 14 13,
oB 15 .neq 14 (cI 32768),
oM 16 15,
oF 16 17 (.mov 6),
oF 16 18 (.un .not 17),
oP 19 16 cT 18,
oM 20 19,
oF 20 21 (.fieldAddr 3 5),
oF 20 22 (.load none 21),
oF 20 23 (.bin .lss 22 (cI 0)),
oP 24 20 cT 23])
(.cond 24
(sq (kr [] [oD 4 (.mov cT)])
.ret)
.skip))
(sq (kr [0,5] [oM 25 0,
oD 26 (.mkfn 230 [] [5]),
oC 27 186 [25,26],
oM 4 27])
.ret))))
def b3_:List RD:=[.tmp 4 true none]
theorem BB_:zm_ Tryz.prog Tryz.f211 zaj_ b3_=true:=by kernel_rfl
def X3_:List AV->List Obj->Option (Prop × AV)
 | [.imm (.cons (.int .i64) (.cons (.int .i64) (.cons .bool (.cons (.int .u64) (.cons (.sl (.int .u8)) (.cons (.sl (.int .u8)) .nil)))))) l,.agg [.int .i64 c,.int .i64 f,.bool h,.int .u64 x,.imm (.int .u8) v,.imm (.int .u8) m]],[]=>some ((True,.bool (JJ_ l c f)))
 | _,_=>none
theorem G8_:zd_ Tryz.prog 211 (RoF X3_).sum:=by
 refine zl_ Tryz.func211 BB_ (za_ (s:=RoF KS_) Jj_ (za_ (s:=RoF Km_) Wt_ (za_ (s:=RoF zB_) zU_ (zc_ _)))) fun args objs p v e=>?_
 unfold X3_ at e
 split at e
 ·rename_i l c f h x v m
  cases e
  refine ⟨rfl,fun hw ho hp=>?_⟩
  change List Int at v
  change List Int at m
  change List OV at l
  clear hw ho
  cases hn:vV_ c f with
  | true=>
    have e:JJ_ l c f=true:=by unfold JJ_;rw [if_pos hn]
    rw [e]
    repeat'(intro t ht;first|(cases t<;>first|(cases ht;done)|(try simp only[zg_]at ht;try(exfalso;first|contradiction|omega)))|((first|refine zb_ ht ?_|refine ht ?_ ?_|refine ht.1 ?_ ?_|refine ht ?_)<;>clear ht))
    all_goals first
     | exact True.intro
     | exact ⟨rfl,rfl⟩
     | (exfalso;unfold vV_ at hn;simp_all;done)
     | (exfalso;unfold vV_ at hn;simp_all;omega)
  | false=>
    have e:JJ_ l c f=l.any (mtO (qk_ f) (kS_ f)):=by unfold JJ_;rw [hn];rfl
    rw [e]
    repeat'(intro t ht;first|(cases t<;>first|(cases ht;done)|(try simp only[zg_]at ht;try(exfalso;first|contradiction|omega)))|((first|refine zb_ ht ?_|refine ht ?_ ?_|refine ht.1 ?_ ?_|refine ht ?_)<;>clear ht))
    all_goals first
     | exact True.intro
     | exact ⟨rfl,rfl⟩
     | (exfalso;unfold vV_ at hn;simp_all;done)
     | (exfalso;unfold vV_ at hn;simp_all;omega)
 ·cases e
def ckS:List OV->List OV->Int × Int
 | _,[]=>(0,0)
 | pre,o :: r=>if pre.any (fun x=>alO x o)=true then (((pre.length:Nat):Int),1035) else if JJ_ pre o.1 o.2.1=true then ckS (pre++[o]) r else (((pre.length:Nat):Int),1034)
theorem zdd_ {l:List OV} {i:Nat} (h:l.length<=i):ckS (l.take i) (l.drop i)=(0,0):=by
 rw [List.drop_of_length_le h];unfold ckS;rfl
theorem zgs_ {α:Type} {b:List α} {k j:Nat} {d:α} (h:j < k):(b.take k).getD j d=b.getD j d:=by
 rw [List.getD_eq_getElem?_getD,List.getD_eq_getElem?_getD,List.getElem?_take,if_pos h]
theorem Vo_ {α:Type} {l:List α} {i:Nat} (h:i<=l.length):(l.take i).length=i:=by rw [List.length_take];omega
theorem zdc_ {l:List OV} {i:Nat} {d:OV} (h:i < l.length) (hk:(l.take i).any (fun x=>alO x (l.getD i d))=true):ckS (l.take i) (l.drop i)=(((i:Nat):Int),1035):=by
 rw [zy_ h d];unfold ckS;rw [if_pos hk,Vo_ (by omega)]
theorem zaE_ {l:List OV} {i:Nat} {d:OV} (h:i < l.length) (hk:(l.take i).any (fun x=>alO x (l.getD i d))=false) (hm:JJ_ (l.take i) (l.getD i d).1 (l.getD i d).2.1=false):ckS (l.take i) (l.drop i)=(((i:Nat):Int),1034):=by
 rw [zy_ h d];unfold ckS;rw [if_neg (by rw [hk];decide),if_neg (by rw [hm];decide),Vo_ (by omega)]
theorem zfP_ {l:List OV} {i:Nat} {d:OV} (h:i < l.length) (hk:(l.take i).any (fun x=>alO x (l.getD i d))=false) (hm:JJ_ (l.take i) (l.getD i d).1 (l.getD i d).2.1=true):ckS (l.take i) (l.drop i)=ckS (l.take (i+1)) (l.drop (i+1)):=by
 have e:l.take (i+1)=l.take i++[l.getD i d]:=by
  rw [List.take_succ_eq_append_getElem h,List.getD_eq_getElem?_getD,List.getElem?_eq_getElem h];rfl
 rw [e,zy_ h d]
 conv=>lhs;unfold ckS
 rw [if_neg (by rw [hk];decide),if_pos hm]
def gJ_:IR:=
(sq (kr [0] [oD 2 (.mov (cI 0)),
oD 3 (.mov (cI 0))])
(.scope
(sq (.reg [oD 4 (.mov (cI 0)),
oD 5 (.mov (cI 0))])
(sq .skip
(sq (sq (.reg [oM 8 0,
oE 9 8,
oD 10 (.mov (cI 0))])
(.block 0
(.loop
(sq (kr [0,4,5,8,9,10] [oB 11 .lss 10 9])
(sq (.cond 11
.skip
(.exit 0))
(sq (.block 1
(sq (kr [0,4,5,8,9,10] [oM 12 10,
oI 13 6 8 10,
oK 14 6 13,
oD 7 (.box [.int .i64 0,.int .i64 0,.kb false,.int .u64 0,.imm (.int .u8) [],.imm (.int .u8) []]),
oM 6 12,
oS 6 7 14])
(.block 2
(sq (kr [0,4,5,6,7,8,9,10] [oM 16 0,
oM 17 6,
oD 18 (.slice 6 16 none (some 17) none),
oD 19 (.mkfn 210 [] [7]),
oC 20 186 [18,19],
oM 15 20])
(.cond 15
(sq (kr [6] [oM 21 6,
oM 4 21,
oD 5 (.mov (cI 1035))])
(.exit 0))
(sq (kd [0,4,5,6,7,8,9,10] [(oM 23 0,[]),
(oM 24 6,[0]),
(oD 25 (.slice 6 23 none (some 24) none),[]),
(oK 26 6 7,[0,0,0]),
(oC 27 211 [25,26],[]),
(oD 28 (.un .not 27),[]),
(oM 22 28,[])])
(.cond 22
(sq (kr [6] [oM 29 6,
oM 4 29,
oD 5 (.mov (cI 1034))])
(.exit 0))
.skip)))))))
(kr [0,4,5,8,9,10] [oB 30 .add 10 (cI 1),
oM 10 30])))))))
(sq (kr [4,5] [oM 31 4,
oM 32 5,
oM 2 31,
oM 3 32])
.ret))))))
def UM_:List RD:=[.tmp 2 true none,.tmp 3 true none]
theorem gf_:zm_ Tryz.prog Tryz.f189 gJ_ UM_=true:=by kernel_rfl
def Kn_:List AV->List Obj->Option (Prop × AV)
 | [.imm (.cons (.int .i64) (.cons (.int .i64) (.cons .bool (.cons (.int .u64) (.cons (.sl (.int .u8)) (.cons (.sl (.int .u8)) .nil)))))) l],[]=>some ((True,.tup [.int .i64 (ckS [] l).1,.int .i64 (ckS [] l).2]))
 | _,_=>none
theorem Wu_:zd_ Tryz.prog 189 (RoF Kn_).sum:=by
 refine zl_ Tryz.func189 gf_ (za_ (s:=RoF Q1_) jG_ (za_ (s:=RoF zB_) zU_ (za_ (s:=RoF X3_) G8_ (zc_ _)))) fun args objs p v e=>?_
 unfold Kn_ at e
 split at e
 ·rename_i l
  cases e
  refine ⟨rfl,fun hw ho hp=>?_⟩
  change List OV at l
  have hl:l.length<=maxLen:=(hw (.imm Y1 l) (by simp)).2
  unfold maxLen at hl
  clear hw ho
  repeat'(intro t ht;first|(cases t<;>first|(cases ht;done)|(try simp only[zg_]at ht))|((first|refine zb_ ht ?_|refine ht ?_ ?_|refine ht.1 ?_ ?_|refine ht ?_)<;>clear ht))
  all_goals first
   | (intro r h1 h2;clear h1;refine h2 ⟨[0,4,5,8,9,10],Nat,(fun i=>i<=l.length/\ckS [] l=ckS (l.take i) (l.drop i)),fun i=>[.imm Y1 l,.int .i64 0,.int .i64 0,.imm Y1 l,.int .i64 l.length,.int .i64 i],fun _=>[],fun i=>l.length - i,⟨0,⟨Nat.zero_le _,rfl⟩,rfl,rfl⟩,?_⟩;clear h2)
  rintro i ⟨hi,he⟩
  repeat'(intro t ht;first|(cases t<;>first|(cases ht;done)|(try simp only[zg_]at ht;try(exfalso;first|contradiction|omega)))|((first|refine zb_ ht ?_|refine ht ?_ ?_|refine ht.1 ?_ ?_|refine ht ?_)<;>clear ht))
  all_goals (try generalize (Ty.dflt Y1)=od at*)
  all_goals first
   | exact True.intro
   | ((try simp only [zj_,zk_,zi_] at*);omega)
   | (rw [he,zdd_ (by omega)];exact ⟨rfl,rfl⟩)
   | (have hk:(l.take i).any (fun x=>alO x (l.getD i od))=true:=by assumption
      rw [he,zdc_ (by omega) hk];exact ⟨rfl,rfl⟩)
   | (have hk:(l.take i).any (fun x=>alO x (l.getD i od))=false:=by assumption
      first
       | (have hm:JJ_ (l.take i) (l.getD i od).1 (l.getD i od).2.1=false:=by assumption
          rw [he,zaE_ (by omega) hk hm];exact ⟨rfl,rfl⟩)
       | (have hm:JJ_ (l.take i) (l.getD i od).1 (l.getD i od).2.1=true:=by assumption
          exact ⟨i+1,⟨by omega,he.trans (zfP_ (by omega) hk hm)⟩,by dsimp only;omega,rfl,rfl⟩))
 ·cases e
def mrV (nd:Int) (vals:List Int) (c f:Int) (h:Bool) (v:List Int):Bool:=decide (c=32768) && decide (f=nd) && (if vals.length=0 then v.any nzB else vals.any fun y=>!h && decide (v=zf_ y (zO_ nd)))
def mrO (nd:Int) (vals:List Int) (o:OV):Bool:=mrV nd vals o.1 o.2.1 o.2.2.1 o.2.2.2.2.1
theorem ze5_ {nd:Int} {vals:List Int} {o:OV} (hv:vals.length=0) (h1:o.1=32768) (h2:o.2.1=nd):mrO nd vals o=o.2.2.2.2.1.any nzB:=by
 unfold mrO mrV;rw [if_pos hv,h1,h2];simp
theorem zgV_ {nd S:Int} {vals:List Int} {o:OV} (hv:¬ vals.length=0) (h1:o.1=32768) (h2:o.2.1=nd) (hS:zO_ nd=S):mrO nd vals o=vals.any fun y=>!o.2.2.1 && decide (o.2.2.2.2.1=zf_ y S):=by
 unfold mrO mrV;rw [if_neg hv,h1,h2,hS];simp
theorem nz_f {v:List Int} {k:Nat} (h:v.getD k 0=0):nzB (v.getD k 0)=false:=by unfold nzB;rw [h];rfl
theorem nz_t {v:List Int} {k:Nat} (h:¬ v.getD k 0=0):nzB (v.getD k 0)=true:=decide_eq_true h
theorem zcP_ {v:List Int} (hb:∀ x ∈ v,0<=x/\x<=255) (h:v.length<=8):vU_ v=zS_ v:=by
 have key:∀ i,i<=v.length->vU_ (v.take i)=XB_ v i:=by
  intro i
  induction i with
  | zero=>intro _;rfl
  | succ i ih=>
    intro hi
    have hk:=hb _ (zX_ (α:=Int) (show i < v.length by omega) 0)
    have hn:=Hb_ hb i (by omega)
    have e8:(2:Int) ^ min (Int.toNat 8) IntKind.u64.bits=256:=by decide
    rw [Gl_ (by omega),Yk_ (by omega),ih (by omega),e8,j6_ ⟨by rw [Va_];omega,by rw [Hk_];omega⟩,j6_ ⟨by rw [Va_];omega,by rw [Hk_];omega⟩]
    exact zcL_ hn.1 (by omega) hk.1 hk.2
 have:=key v.length (Nat.le_refl _)
 rwa [List.take_length,uk_ (Nat.le_refl _)] at this
def zhD_ (k:Nat):Bool:=decide ((kS_ (k:Nat)).length=0) || ((kS_ (k:Nat)).all fun y=>decide (0<=y) && decide (y<=65535) && (decide (zO_ (qk_ (k:Nat))=2) || (decide (zO_ (qk_ (k:Nat))=1) && decide (y<=255))))
theorem zjh_:∀ k < 40,qk_ (k:Nat)=ke_ (k:Nat)/\kS_ (k:Nat)=kc_ (k:Nat)/\zhD_ k=true:=by decide+kernel
theorem law9 (f:Int):qk_ f=ke_ f/\kS_ f=kc_ f/\∀ y ∈ kS_ f,0<=y/\y<=65535/\(zO_ (qk_ f)=2\/(zO_ (qk_ f)=1/\y<=255)):=by
 cases h:fIs f with
 | true=>
   have hn:=Z3_.1 h
   have:=zjh_ f.toNat (by omega)
   unfold zhD_ at this
   rw [Int.toNat_of_nonneg hn.1] at this
   refine ⟨this.1,this.2.1,fun y hy=>?_⟩
   have h3:=this.2.2
   rw [Bool.or_eq_true] at h3
   rcases h3 with h3 | h3
   ·have:kS_ f=[]:=List.eq_nil_of_length_eq_zero (of_decide_eq_true h3)
    rw [this] at hy;cases hy
   ·have:=List.all_eq_true.1 h3 y hy
    simp only [Bool.and_eq_true,Bool.or_eq_true,decide_eq_true_eq] at this
    exact ⟨this.1.1,this.1.2,this.2⟩
 | false=>
   unfold qk_ kS_ ke_ kc_;rw [h];exact ⟨rfl,rfl,fun y hy=>by cases hy⟩
theorem zhW_ {v:List Int} {y z:Int} (hb:∀ x ∈ v,0<=x/\x<=255) (hy:0<=y/\y<=65535/\(z=2\/(z=1/\y<=255))):decide (v=zf_ y z)=(decide ((v.length:Int)=z) && decide (vU_ v=y)):=by
 rw [Bool.eq_iff_iff]
 simp only [Bool.and_eq_true,decide_eq_true_eq]
 obtain ⟨h1,h2,h3⟩:=hy
 have hn:zS_ (zf_ y z)=y:=by
  rcases h3 with rfl | ⟨rfl,h3⟩
  ·exact num2 ⟨h1,h2⟩
  ·rw [zfW_ ⟨h1,h3⟩];show 0*256+y=y;omega
 have hz:(zf_ y z).length=z:=zn_ (by omega)
 constructor
 ·intro e
  have hl:(v.length:Int)=z:=by rw [e];exact hz
  exact ⟨hl,by rw [zcP_ hb (by omega),e];exact hn⟩
 ·rintro ⟨e1,e2⟩
  rw [zcP_ hb (by omega)] at e2
  have:=xb_ v.length v (by omega) rfl hb
  rw [e2,e1] at this;exact this.symm
theorem zgY_ {k:Int} {o:OV} (hb:∀ x ∈ o.2.2.2.2.1,0<=x/\x<=255):mrO (qk_ k) (kS_ k) o=mtO (qk_ k) (kS_ k) o:=by
 obtain ⟨_,_,h3⟩:=law9 k
 have hs:kh_ (qk_ k)=zO_ (qk_ k):=(law8 (qk_ k)).2.1
 unfold mrO mtO mrV BL_
 congr 1
 by_cases hv:(kS_ k).length=0
 ·rw [if_pos hv,if_pos hv]
 ·rw [if_neg hv,if_neg hv,hs]
  have:∀ l:List Int,(∀ y ∈ l,0<=y/\y<=65535/\(zO_ (qk_ k)=2\/(zO_ (qk_ k)=1/\y<=255)))->(l.any fun y=>!o.2.2.1 && decide (o.2.2.2.2.1=zf_ y (zO_ (qk_ k))))=(decide ((o.2.2.2.2.1.length:Int)=zO_ (qk_ k)) && !o.2.2.1 && l.any fun y=>decide (vU_ o.2.2.2.2.1=y)):=by
   intro l
   induction l with
   | nil=>intro _;simp
   | cons y l ih=>
     intro h
     rw [List.any_cons,List.any_cons,ih fun y hy=>h y (List.mem_cons_of_mem _ hy),zhW_ hb (h y (List.mem_cons_self ..))]
     cases o.2.2.1<;>cases decide ((o.2.2.2.2.1.length:Int)=zO_ (qk_ k))<;>cases decide (vU_ o.2.2.2.2.1=y)<;>simp
  exact this _ h3
def bysO (o:OV):Prop:=0<=o.2.2.2.1/\(∀ x ∈ o.2.2.2.2.1,0<=x/\x<=255)/\(∀ x ∈ o.2.2.2.2.2.1,0<=x/\x<=255)
theorem zie_ {l:List OV} (h:Ty.wf (.sl Y1) l):∀ o ∈ l,bysO o:=fun o ho=>by
 obtain ⟨h1,h2,h3,h4,h5,h6,_⟩:=h.1 o ho
 refine ⟨?_,fun x hx=>?_,fun x hx=>?_⟩
 ·unfold Ty.wf inK at h4;rw [Va_] at h4;exact h4.1
 ·have:=h5.1 x hx;unfold Ty.wf inK at this;rw [zfb_,zfd_] at this;exact this
 ·have:=h6.1 x hx;unfold Ty.wf inK at this;rw [zfb_,zfd_] at this;exact this
def zb0_:IR:=
(sq (kr [0,1] [oD 3 (.boxv 1),
oD 4 (.mov cF)])
(sq (kr [0,3] [oA 14 1 3,
oL 15 14,
oC 16 197 [15],
oM 13 16,
oX 17 13 0,
oX 18 13 1,
oD 5 (.box [.str [],.int .i64 0,.int .i64 0,.kb false,.int .i64 0,.imm (.int .u64) []]),
oS 6 5 17,
oM 6 18])
(sq (sq (kr [0,3,5,6] [oA 19 0 3,
oL 20 19,
oB 21 .neq 20 (cI 32768),
oM 22 21,
oF 22 23 (.mov 6),
oF 22 24 (.un .not 23),
oP 25 22 cT 24,
oM 26 25,
oF 26 27 (.fieldAddr 4 5),
oF 26 28 (.load none 27),
oF 26 29 (.bin .lss 28 (cI 0)),
oP 30 26 cT 29])
(.cond 30
(sq (kr [] [oD 4 (.mov cT)])
.ret)
.skip))
(sq (kr [0,5] [oA 32 4 5,
oL 33 32,
oC 34 197 [33],
oM 31 34,
oX 35 31 0,
oX 36 31 1,
oD 7 (.box [.str [],.int .i64 0,.int .i64 0,.kb false,.int .i64 0,.imm (.int .u64) []]),
oS 6 7 35,
oM 8 36])
(sq (sq (kr [0,5,7] [oD 9 (.mov (cI 0))])
(.block 0
(.loop
(sq (sq (kr [0,5,7,9] [oM 37 9,
oM 38 0,
oE 39 38,
oB 40 .lss 37 39])
(.cond 40
.skip
(.exit 0)))
(sq (.block 1
(sq (kr [0,5,7,9] [oM 43 0,
oM 44 9,
oI 45 6 43 44,
oK 46 6 45,
oD 10 (.box [.int .i64 0,.int .i64 0,.kb false,.int .u64 0,.imm (.int .u8) [],.imm (.int .u8) []]),
oS 6 10 46])
(sq (sq (kr [0,5,7,9,10] [oA 47 0 10,
oL 48 47,
oB 49 .neq 48 (cI 32768),
oM 50 49,
oF 50 51 (.fieldAddr 1 10),
oF 50 52 (.load none 51),
oF 50 53 (.fieldAddr 4 5),
oF 50 54 (.load none 53),
oF 50 55 (.bin .neq 52 54),
oP 56 50 cT 55])
(.cond 56
(.exit 1)
.skip))
(sq (sq (kr [0,5,7,9,10] [oA 57 5 5,
oL 58 57,
oE 59 58,
oB 60 .eql 59 (cI 0)])
(.cond 60
(sq (sq (.reg [oD 11 (.mov (cI 0))])
(.block 2
(.loop
(sq (sq (kr [0,5,7,9,10,11] [oM 61 11,
oA 62 4 10,
oL 63 62,
oE 64 63,
oB 65 .lss 61 64])
(.cond 65
.skip
(.exit 2)))
(sq (.block 3
(sq (kr [0,5,7,9,10,11] [oA 68 4 10,
oL 69 68,
oM 70 11,
oI 71 1 69 70,
oL 72 71,
oB 73 .neq 72 (.c (.int .u8 0))])
(.cond 73
(sq (kr [] [oD 4 (.mov cT)])
.ret)
.skip)))
(kr [0,5,7,9,10,11] [oM 66 11,
oB 67 .add 66 (cI 1),
oM 11 67]))))))
(.exit 1))
.skip))
(sq (kr [0,5,7,9,10] [oD 12 (.mov (cI 0))])
(.block 4
(.loop
(sq (sq (kr [0,5,7,9,10,12] [oM 74 12,
oA 75 5 5,
oL 76 75,
oE 77 76,
oB 78 .lss 74 77])
(.cond 78
.skip
(.exit 4)))
(sq (.block 5
(sq (kd [0,5,7,9,10,12] [(oA 81 2 10,[]),
(oL 82 81,[]),
(oD 83 (.un .not 82),[]),
(oM 84 83,[]),
(oT 84 85 (.fieldAddr 4 10),[]),
(oT 84 86 (.load none 85),[]),
(oT 84 87 (.fieldAddr 5 5),[0,0]),
(oT 84 88 (.load none 87),[1,0]),
(oT 84 89 (.mov 12),[0,0,0,0]),
(oT 84 90 (.indexSl 1 88 89),[3,0]),
(oT 84 91 (.load none 90),[4,0]),
(oT 84 92 (.fieldAddr 2 7),[0,0,0,0,0,0,0]),
(oT 84 93 (.load none 92),[1,0,0,0,0,0,0]),
(oT 84 94 (.call false (.f 84) [91,93]),[7,0]),
(oT 84 95 (.call false (.f 27) [86,94]),[]),
(oP 96 84 95 cF,[])])
(.cond 96
(sq (kr [] [oD 4 (.mov cT)])
.ret)
.skip)))
(kr [0,5,7,9,10,12] [oM 79 12,
oB 80 .add 79 (cI 1),
oM 12 80]))))))))))
(kr [0,5,7,9] [oM 41 9,
oB 42 .add 41 (cI 1),
oM 9 42]))))))
(sq (kr [] [oD 4 (.mov cF)])
.ret))))))
def zbn_:List RD:=[.tmp 4 true none]
theorem zbE_:zm_ Tryz.prog Tryz.f199 zb0_ zbn_=true:=by kernel_rfl
def YP_:List AV->List Obj->Option (Prop × AV)
 | [.imm (.cons (.int .i64) (.cons (.int .i64) (.cons .bool (.cons (.int .u64) (.cons (.sl (.int .u8)) (.cons (.sl (.int .u8)) .nil)))))) l,.agg [.int .i64 c,.int .i64 f,.bool h,.int .u64 x,.imm (.int .u8) v,.imm (.int .u8) m]],[]=>some ((True,.bool (JJ_ l c f)))
 | _,_=>none
theorem bp_:zd_ Tryz.prog 199 (RoF YP_).sum:=by
 refine zl_ Tryz.func199 zbE_ (za_ (s:=RoF KM_) Kw_ (za_ (s:=RwF YT_) bt_ (za_ (s:=RoF Zf_) z8_ (zc_ _)))) fun args objs p v e=>?_
 unfold YP_ at e
 split at e
 ·rename_i l c f h x v m
  cases e
  refine ⟨rfl,fun hw ho hp=>?_⟩
  change List Int at v
  change List Int at m
  change List OV at l
  have hl:l.length<=maxLen:=(hw (.imm Y1 l) (by simp)).2
  have hby:=zie_ (l:=l) (hw (.imm Y1 l) (by simp))
  unfold maxLen at hl
  have hvl:∀ o ∈ l,o.2.2.2.2.1.length<=9223372036854775807:=fun o ho=>by
   have:=((hw (.imm Y1 l) (by simp)).1 o ho).2.2.2.2.1.2
   unfold maxLen at this;exact this
  have hvs:(kc_ f).length<=10:=by
   cases h:fIs f with
   | true=>
     have hn:=Z3_.1 h
     have:∀ k < 40,(kc_ (k:Nat)).length<=10:=by decide+kernel
     have:=this f.toNat (by omega)
     rwa [Int.toNat_of_nonneg hn.1] at this
   | false=>unfold kc_;rw [h];exact Nat.zero_le _
  clear hw ho
  obtain ⟨w1,w2,w3⟩:=law9 f
  have hsz:=bv_ (ke_ f)
  have hlaw:∀ o ∈ l,mrO (ke_ f) (kc_ f) o=mtO (qk_ f) (kS_ f) o:=fun o ho=>by
   rw [<- w1,<- w2];exact zgY_ (hby o ho).2.1
  have hany:l.any (mtO (qk_ f) (kS_ f))=l.any (mrO (ke_ f) (kc_ f)):=by
   rw [Bool.eq_iff_iff,List.any_eq_true,List.any_eq_true]
   constructor
   ·rintro ⟨o,ho,hk⟩;exact ⟨o,ho,(hlaw o ho).trans hk⟩
   ·rintro ⟨o,ho,hk⟩;exact ⟨o,ho,(hlaw o ho).symm.trans hk⟩
  cases hn:vV_ c f with
  | true=>
    have e:JJ_ l c f=true:=by unfold JJ_;rw [if_pos hn]
    rw [e]
    repeat'(intro t ht;first|(cases t<;>first|(cases ht;done)|(try simp only[zg_]at ht;try(exfalso;first|contradiction|omega)))|((first|refine zb_ ht ?_|refine ht ?_ ?_|refine ht.1 ?_ ?_|refine ht ?_)<;>clear ht))
    all_goals first
     | exact True.intro
     | exact ⟨rfl,rfl⟩
     | (exfalso;unfold vV_ at hn;simp_all;done)
     | (exfalso;unfold vV_ at hn;simp_all;omega)
  | false=>
    have e:JJ_ l c f=l.any (mrO (ke_ f) (kc_ f)):=by rw [<- hany];unfold JJ_;rw [hn];rfl
    rw [e]
    clear e hany
    have hn1:c=32768:=Classical.byContradiction fun h=>by unfold vV_ at hn;simp [h] at hn
    have hn2:fIs f=true:=by cases hf:fIs f with | true=>rfl | false=>unfold vV_ at hn;simp [hf] at hn
    have hn3:¬ ke_ f < 0:=fun h=>by rw [<- w1] at h;unfold vV_ at hn;simp [h] at hn
    clear hn hlaw
    generalize hS:zO_ (ke_ f)=S at*
    generalize hN:ke_ f=nd at*
    generalize hV:kc_ f=vals at*
    repeat'(intro t ht;first|(cases t<;>first|(cases ht;done)|(try simp only[zg_]at ht;try(exfalso;first|contradiction|omega)))|((first|refine zb_ ht ?_|refine ht ?_ ?_|refine ht.1 ?_ ?_|refine ht ?_)<;>clear ht))
    all_goals first
     | exact True.intro
     | (intro r h1 h2;clear h1;refine h2 ⟨[0,5,7,9],Nat,(fun i=>i<=l.length/\(l.take i).any (mrO nd vals)=false),fun i=>[.imm Y1 l,.ptr 0 0,.ptr 1 0,.int .i64 i],fun _=>[.box [.str (WS_ f),.int .i64 (ZY_ f),.int .i64 (zO_ f),.bool (kf_ f),.int .i64 nd,.imm (.int .u64) vals],.box [.str (WS_ nd),.int .i64 (ZY_ nd),.int .i64 S,.bool (kf_ nd),.int .i64 (ke_ nd),.imm (.int .u64) (kc_ nd)]],fun i=>l.length - i,⟨0,⟨Nat.zero_le _,rfl⟩,rfl,(by rw [hN,hV,hS])⟩,?_⟩;clear h2)
     | (exfalso;rw [hn2] at ht;cases ht)
    rintro i ⟨hi,he⟩
    repeat'(intro t ht;first|(cases t<;>first|(cases ht;done)|(try simp only[zg_]at ht;try(exfalso;first|contradiction|omega)))|((first|refine zb_ ht ?_|refine ht ?_ ?_|refine ht.1 ?_ ?_|refine ht ?_)<;>clear ht))
    all_goals (try generalize (Ty.dflt Y1)=od at*)
    all_goals first
     | exact True.intro
     | ((try simp only [zj_,zk_,zi_] at*);omega)
     | (rw [yS_ (by omega) he];exact ⟨rfl,rfl⟩)
     | (have hm:mrO nd vals (l.getD i od)=false:=by
         unfold mrO mrV
         first
          | (rw [decide_eq_false (show ¬ (l.getD i od).1=32768 by assumption)];rfl)
          | (rw [decide_eq_false (show ¬ (l.getD i od).2.1=nd by assumption)];simp;done)
        exact ⟨i+1,⟨by omega,kw_ (d:=od) (by omega) he hm⟩,by dsimp only;omega,rfl,rfl⟩)
     | (intro r h1 h2;clear h1;refine h2 ⟨[0,5,7,9,10,11],Nat,(fun k=>k<=(l.getD i od).2.2.2.2.1.length/\((l.getD i od).2.2.2.2.1.take k).any nzB=false),fun k=>[.imm Y1 l,.ptr 0 0,.ptr 1 0,.int .i64 i,.ptr 2 0,.int .i64 k],fun _=>[.box [.str (WS_ f),.int .i64 (ZY_ f),.int .i64 (zO_ f),.bool (kf_ f),.int .i64 nd,.imm (.int .u64) vals],.box [.str (WS_ nd),.int .i64 (ZY_ nd),.int .i64 S,.bool (kf_ nd),.int .i64 (ke_ nd),.imm (.int .u64) (kc_ nd)],.box [.int .i64 ((l.getD i od).1),.int .i64 ((l.getD i od).2.1),.bool ((l.getD i od).2.2.1),.int .u64 ((l.getD i od).2.2.2.1),.imm (.int .u8) ((l.getD i od).2.2.2.2.1),.imm (.int .u8) ((l.getD i od).2.2.2.2.2.1)]],fun k=>(l.getD i od).2.2.2.2.1.length - k,⟨0,⟨Nat.zero_le _,rfl⟩,rfl,rfl⟩,?_⟩;clear h2)
     | (intro r h1 h2;clear h1;refine h2 ⟨[0,5,7,9,10,12],Nat,(fun k=>k<=vals.length/\((vals.take k).any fun y=>!(l.getD i od).2.2.1 && decide ((l.getD i od).2.2.2.2.1=zf_ y S))=false),fun k=>[.imm Y1 l,.ptr 0 0,.ptr 1 0,.int .i64 i,.ptr 2 0,.int .i64 k],fun _=>[.box [.str (WS_ f),.int .i64 (ZY_ f),.int .i64 (zO_ f),.bool (kf_ f),.int .i64 nd,.imm (.int .u64) vals],.box [.str (WS_ nd),.int .i64 (ZY_ nd),.int .i64 S,.bool (kf_ nd),.int .i64 (ke_ nd),.imm (.int .u64) (kc_ nd)],.box [.int .i64 ((l.getD i od).1),.int .i64 ((l.getD i od).2.1),.bool ((l.getD i od).2.2.1),.int .u64 ((l.getD i od).2.2.2.1),.imm (.int .u8) ((l.getD i od).2.2.2.2.1),.imm (.int .u8) ((l.getD i od).2.2.2.2.2.1)]],fun k=>vals.length - k,⟨0,⟨Nat.zero_le _,rfl⟩,rfl,rfl⟩,?_⟩;clear h2)
    all_goals rintro k ⟨hk,hke⟩
    all_goals (have hvli:=hvl _ (zX_ (show i < l.length by omega) od))
    all_goals repeat'(intro t ht;first|(cases t<;>first|(cases ht;done)|(try simp only[zg_]at ht;try(exfalso;first|contradiction|omega)))|((first|refine zb_ ht ?_|refine ht ?_ ?_|refine ht.1 ?_ ?_|refine ht ?_)<;>clear ht))
    all_goals first
     | exact True.intro
     | ((try simp only [zj_,zk_,zi_] at*);omega)
     | (have hm:=ze5_ (nd:=nd) (vals:=vals) (o:=l.getD i od) (by omega) (by assumption) (by assumption)
        first
         | (rw [yS_ (by omega) hke] at hm
            exact ⟨i+1,⟨by omega,kw_ (d:=od) (by omega) he hm⟩,by dsimp only;omega,rfl,rfl⟩)
         | (have hz:=nz_t (v:=(l.getD i od).2.2.2.2.1) (k:=k) (by assumption)
            rw [yR_ (show k < (l.getD i od).2.2.2.2.1.length by omega) hz] at hm
            rw [yR_ (show i < l.length by omega) hm];exact ⟨rfl,rfl⟩)
         | exact ⟨k+1,⟨by omega,kw_ (d:=0) (by omega) hke (nz_f (by assumption))⟩,by dsimp only;omega,rfl,rfl⟩)
     | (have hm:=zgV_ (nd:=nd) (vals:=vals) (o:=l.getD i od) (show ¬ vals.length=0 by omega) (by assumption) (by assumption) hS
        first
         | (rw [yS_ (by omega) hke] at hm
            exact ⟨i+1,⟨by omega,kw_ (d:=od) (by omega) he hm⟩,by dsimp only;omega,rfl,rfl⟩)
         | (have hh:(l.getD i od).2.2.1=true:=by assumption
            exact ⟨k+1,⟨by omega,kw_ (p:=fun y=>!(l.getD i od).2.2.1 && decide ((l.getD i od).2.2.2.2.1=zf_ y S)) (d:=0) (by omega) hke (by (try dsimp only);rw [hh];rfl)⟩,by dsimp only;omega,rfl,rfl⟩)
         | (have hh:(l.getD i od).2.2.1=false:=by assumption
            have hq:(l.getD i od).2.2.2.2.1=zf_ (vals.getD k 0) S:=by assumption
            rw [yR_ (p:=fun y=>!(l.getD i od).2.2.1 && decide ((l.getD i od).2.2.2.2.1=zf_ y S)) (d:=0) (show k < vals.length by omega) (by (try dsimp only);rw [hh,decide_eq_true hq];rfl)] at hm
            rw [yR_ (show i < l.length by omega) hm];exact ⟨rfl,rfl⟩)
         | (have hq:¬ (l.getD i od).2.2.2.2.1=zf_ (vals.getD k 0) S:=by assumption
            exact ⟨k+1,⟨by omega,kw_ (p:=fun y=>!(l.getD i od).2.2.1 && decide ((l.getD i od).2.2.2.2.1=zf_ y S)) (d:=0) (by omega) hke (by (try dsimp only);rw [decide_eq_false hq,Bool.and_false])⟩,by dsimp only;omega,rfl,rfl⟩))
 ·cases e
def Hx_:IR:=
(sq (kr [0] [oD 2 (.mov (cI 0)),
oD 3 (.mov (cI 0))])
(sq (sq (.reg [oD 4 (.mov (cI 0))])
(.block 0
(.loop
(sq (sq (kr [0,4] [oM 6 4,
oM 7 0,
oE 8 7,
oB 9 .lss 6 8])
(.cond 9
.skip
(.exit 0)))
(sq (.block 1
(sq (sq (.reg [oD 5 (.mov (cI 0))])
(.block 2
(.loop
(sq (sq (kr [0,4,5] [oM 12 5,
oM 13 4,
oB 14 .lss 12 13])
(.cond 14
.skip
(.exit 2)))
(sq (.block 3
(sq (kd [0,4,5] [(oM 17 0,[]),
(oM 18 5,[0]),
(oI 19 6 17 18,[]),
(oK 20 6 19,[]),
(oM 21 0,[0,0,0,0]),
(oM 22 4,[0,0,0,0,0]),
(oI 23 6 21 22,[2,0,0,0]),
(oK 24 6 23,[3,0,0,0]),
(oC 25 183 [20,24],[])])
(.cond 25
(sq (kr [4] [oM 26 4,
oM 2 26,
oD 3 (.mov (cI 1035))])
.ret)
.skip)))
(kr [0,4,5] [oM 15 5,
oB 16 .add 15 (cI 1),
oM 5 16]))))))
(sq (kd [0,4] [(oM 27 0,[]),
(oM 28 4,[0]),
(oD 29 (.slice 6 27 none (some 28) none),[]),
(oM 30 0,[0,0,0]),
(oM 31 4,[0,0,0,0]),
(oI 32 6 30 31,[2,0,0]),
(oK 33 6 32,[3,0,0]),
(oC 34 199 [29,33],[]),
(oD 35 (.un .not 34),[])])
(.cond 35
(sq (kr [4] [oM 36 4,
oM 2 36,
oD 3 (.mov (cI 1034))])
.ret)
.skip))))
(kr [0,4] [oM 10 4,
oB 11 .add 10 (cI 1),
oM 4 11]))))))
(sq (kr [] [oD 2 (.mov (cI 0)),
oD 3 (.mov (cI 0))])
.ret)))
def hr_:List RD:=[.tmp 2 true none,.tmp 3 true none]
theorem hV_:zm_ Tryz.prog Tryz.f168 Hx_ hr_=true:=by kernel_rfl
def xp_:List AV->List Obj->Option (Prop × AV)
 | [.imm (.cons (.int .i64) (.cons (.int .i64) (.cons .bool (.cons (.int .u64) (.cons (.sl (.int .u8)) (.cons (.sl (.int .u8)) .nil)))))) l],[]=>some ((True,.tup [.int .i64 (ckS [] l).1,.int .i64 (ckS [] l).2]))
 | _,_=>none
theorem Up_:zd_ Tryz.prog 168 (RoF xp_).sum:=by
 refine zl_ Tryz.func168 hV_ (za_ (s:=RoF ja_) Xa_ (za_ (s:=RoF YP_) bp_ (zc_ _))) fun args objs p v e=>?_
 unfold xp_ at e
 split at e
 ·rename_i l
  cases e
  refine ⟨rfl,fun hw ho hp=>?_⟩
  change List OV at l
  have hl:l.length<=maxLen:=(hw (.imm Y1 l) (by simp)).2
  unfold maxLen at hl
  clear hw ho
  repeat'(intro t ht;first|(cases t<;>first|(cases ht;done)|(try simp only[zg_]at ht))|((first|refine zb_ ht ?_|refine ht ?_ ?_|refine ht.1 ?_ ?_|refine ht ?_)<;>clear ht))
  all_goals first
   | (intro r h1 h2;clear h1;refine h2 ⟨[0,4],Nat,(fun i=>i<=l.length/\ckS [] l=ckS (l.take i) (l.drop i)),fun i=>[.imm Y1 l,.int .i64 i],fun _=>[],fun i=>l.length - i,⟨0,⟨Nat.zero_le _,rfl⟩,rfl,rfl⟩,?_⟩;clear h2)
  rintro i ⟨hi,he⟩
  repeat'(intro t ht;first|(cases t<;>first|(cases ht;done)|(try simp only[zg_]at ht))|((first|refine zb_ ht ?_|refine ht ?_ ?_|refine ht.1 ?_ ?_|refine ht ?_)<;>clear ht))
  all_goals first
   | exact True.intro
   | ((try simp only [zj_,zk_,zi_] at*);omega)
   | (rw [he,zdd_ (by omega)];exact ⟨rfl,rfl⟩)
   | (intro r h1 h2;clear h1;refine h2 ⟨[0,4,5],Nat,(fun k=>k<=i/\(((l.take i).take k).any (fun x=>alO x (l.getD i (Ty.dflt Y1))))=false),fun k=>[.imm Y1 l,.int .i64 i,.int .i64 k],fun _=>[],fun k=>i - k,⟨0,⟨Nat.zero_le _,rfl⟩,rfl,rfl⟩,?_⟩;clear h2)
  all_goals rintro k ⟨hk,hke⟩
  all_goals have hlt:i < l.length:=by omega
  all_goals have htk:(l.take i).length=i:=Vo_ (by omega)
  all_goals repeat'(intro t ht;first|(cases t<;>first|(cases ht;done)|(try simp only[zg_]at ht;try(exfalso;first|contradiction|omega)))|((first|refine zb_ ht ?_|refine ht ?_ ?_|refine ht.1 ?_ ?_|refine ht ?_)<;>clear ht))
  all_goals (try generalize (Ty.dflt Y1)=od at*)
  all_goals first
   | exact True.intro
   | ((try simp only [zj_,zk_,zi_] at*);omega)
   | (have hka:=yS_ (by omega) hke
      first
       | (have hm:JJ_ (l.take i) (l.getD i od).1 (l.getD i od).2.1=false:=by assumption
          rw [he,zaE_ hlt hka hm];exact ⟨rfl,rfl⟩)
       | (have hm:JJ_ (l.take i) (l.getD i od).1 (l.getD i od).2.1=true:=by assumption
          exact ⟨i+1,⟨by omega,he.trans (zfP_ (by omega) hka hm)⟩,by dsimp only;omega,rfl,rfl⟩))
   | (have hg:(l.take i).getD k od=l.getD k od:=zgs_ (by omega)
      first
       | (have hm:=zhT_ ht
          rw [<- hg] at hm
          have hka:=yR_ (p:=fun x=>alO x (l.getD i od)) (d:=od) (show k < (l.take i).length by omega) hm
          rw [he,zdc_ hlt hka];exact ⟨rfl,rfl⟩)
       | (have hm:=zhU_ ht
          rw [<- hg] at hm
          exact ⟨k+1,⟨by omega,kw_ (p:=fun x=>alO x (l.getD i od)) (d:=od) (by omega) hke hm⟩,by dsimp only;omega,rfl,rfl⟩))
 ·cases e
end Go.Eng
