/- Parts of the proof: O2, O9, O5. No condition. -/
import Derived.Test.YtodnkagabgglfaaGreatDoorProg
import Derived.Test.YtodnkagabgglfaaGreatDoorWA10
import Derived.KernelRfl
import Derived.Test.YtodnkagabgglfaaGreatDoorWA11
import Derived.Test.YtodnkagabgglfaaGreatDoorWA12
namespace Go.Eng
open Go.Proofs
set_option linter.unusedVariables false
set_option linter.unusedSimpArgs false
set_option maxRecDepth 100000
set_option maxHeartbeats 1000000
structure Ox where
 c:Int
 f:Int
 has:Bool
 x:Int
 v:List Int
 m:List Int
def UZ_:IR:=
(sq (kr [0] [oD 2 (.mov cF)])
(sq (kr [0] [oM 3 0,
oC 4 129 [3,(.c (.str [0]))],
oE 5 4,
oB 6 .eql 5 (cI 0),
oM 2 6])
.ret))
def Ub_:List RD:=[.tmp 2 true none]
theorem UA_:zn_ Tryz.prog Tryz.f139 UZ_ Ub_=true:=by kernel_rfl
def wf_:List AV->List Obj->Option (Prop × AV)
 | [.imm (.int .u8) b],[]=>some ((b.length<=140737488355328,.bool (zU_ b)))
 | _,_=>none
theorem vA_:ze_ Tryz.prog 139 (RoF wf_).sum:=by
 refine zm_ Tryz.func139 UA_ (zb_ (s:=RoF kD_) Jq_ (zd_ _)) fun args objs p v e=>?_
 unfold wf_ at e
 split at e
 ·rename_i b
  cases e
  refine ⟨rfl,fun hw ho hp=>?_⟩
  change List Int at b
  have h:=VM_ b
  repeat'(intro t ht;first|(cases t<;>first|(cases ht;done)|(try simp only[zh_]at ht))|((first|refine za_ ht ?_|refine ht ?_ ?_|refine ht.1 ?_ ?_|refine ht ?_)<;>clear ht))
  all_goals first
   | exact hp
   | (refine ⟨?_,rfl⟩;rw [<- h];congr 1;rw [Bool.eq_iff_iff];simp only [decide_eq_true_eq];omega)
 ·cases e
def Um_ (s:Int):Int:=if 0 < s then (255:Int).fdiv (2 ^ (min (if 8 < s then 8 else s).toNat 8)) else 255
def ko_:List Int->Int->Bool
 | [],_=>true
 | x :: r,s=>if x=Um_ s then ko_ r (s - 8) else false
def XL_ (b:List Int) (bits:Int):Bool:=ko_ b (b.length*8 - bits)
def GY_:IR:=
(sq (kr [0,1] [oD 4 (.mov cF)])
(sq (.reg [oM 10 0,
oE 11 10,
oB 12 .mul 11 (cI 8),
oM 5 12])
(sq (sq (.reg [oM 13 0,
oE 14 13,
oD 15 (.mov (cI 0))])
(.block 0
(.loop
(sq (kr [1,5,13,14,15] [oB 16 .lss 15 14])
(sq (.cond 16
.skip
(.exit 0))
(sq (.block 1
(sq (kr [1,5,13,14,15] [oM 17 15,
oI 18 1 13 15,
oL 19 18,
oM 6 17,
oM 7 19])
(sq (.reg [oD 8 (.mov (.c (.int .u8 255)))])
(sq (sq (kr [1,5,6,7,8,13,14,15] [oM 20 5,
oM 21 6,
oB 22 .mul 21 (cI 8),
oB 23 .sub 20 22,
oM 24 1,
oB 25 .sub 23 24,
oM 9 25])
(sq (kr [1,5,7,8,9,13,14,15] [oM 26 9,
oB 27 .gtr 26 (cI 0)])
(.cond 27
(kr [1,5,7,8,9,13,14,15] [oM 28 8,
oM 29 9,
oD 30 (.minmax false 29 (cI 8)),
oB 31 .shr 28 30,
oM 8 31])
.skip)))
(sq (.reg [oM 32 7,
oM 33 8,
oB 34 .neq 32 33])
(.cond 34
(sq (kr [] [oD 4 (.mov cF)])
.ret)
.skip))))))
(kr [1,5,13,14,15] [oB 35 .add 15 (cI 1),
oM 15 35])))))))
(sq (kr [] [oD 4 (.mov cT)])
.ret))))
def g5_:List RD:=[.tmp 4 true none]
theorem Gr_:zn_ Tryz.prog Tryz.f140 GY_ g5_=true:=by kernel_rfl
def WD_:List AV->List Obj->Option (Prop × AV)
 | [.imm (.int .u8) b,.int .i64 n],[]=>some ((0<=n/\n<=1000000/\b.length<=1000000,.bool (XL_ b n)))
 | _,_=>none
theorem uR_:ze_ Tryz.prog 140 (RoF WD_).sum:=by
 refine zm_ Tryz.func140 Gr_ (zd_ _) fun args objs p v e=>?_
 unfold WD_ at e
 split at e
 ·rename_i b n
  cases e
  refine ⟨rfl,fun hw ho hp=>?_⟩
  change List Int at b
  repeat'(intro t ht;first|(cases t<;>first|(cases ht;done)|(try simp only[zh_]at ht))|((first|refine za_ ht ?_|refine ht ?_ ?_|refine ht.1 ?_ ?_|refine ht ?_)<;>clear ht))
  all_goals first
   | ((try simp only [zk_,zl_,zi_] at*);omega)
   | (intro r h1 h2;clear h1;refine h2 ⟨[1,5,13,14,15],Nat,(fun i=>i<=b.length/\XL_ b n=ko_ (b.drop i) (b.length*8 - i*8 - n)),fun i=>[.int .i64 n,.int .i64 (b.length*8),.imm (.int .u8) b,.int .i64 b.length,.int .i64 i],fun _=>[],fun i=>b.length - i,⟨0,⟨Nat.zero_le _,by unfold XL_;simp⟩,rfl,rfl⟩,?_⟩;clear h2)
  rintro i ⟨hi,he⟩
  repeat'(intro t ht;first|(cases t<;>first|(cases ht;done)|(try simp only[zh_]at ht))|((first|refine za_ ht ?_|refine ht ?_ ?_|refine ht.1 ?_ ?_|refine ht ?_)<;>clear ht))
  all_goals first
   | ((try simp only [zk_,zl_,zi_] at*);omega)
   | (have h0:b.drop i=[]:=List.drop_of_length_le (by omega)
      refine ⟨?_,rfl⟩;rw [he,h0];rfl)
   | ((try simp only [zk_,zl_,zi_] at*);split<;>omega)
   | (have hlt:i < b.length:=by omega
      rw [zD_ hlt 0] at he
      first
       | (have hn:¬ 0 < (b.length:Int)*8 - i*8 - n:=by assumption
          have ho:Um_ ((b.length:Int)*8 - i*8 - n)=255:=if_neg hn
          first
           | (have hx:b.getD i 0=255:=by assumption
              have h1:ko_ (b.getD i 0 :: b.drop (i+1)) ((b.length:Int)*8 - i*8 - n)=ko_ (b.drop (i+1)) ((b.length:Int)*8 - i*8 - n - 8):=if_pos (hx.trans ho.symm)
              refine ⟨i+1,⟨hlt,?_⟩,by dsimp only;omega,rfl,rfl⟩
              rw [he,h1];congr 1;omega)
           | (have hx:¬ b.getD i 0=255:=by assumption
              have h1:ko_ (b.getD i 0 :: b.drop (i+1)) ((b.length:Int)*8 - i*8 - n)=false:=if_neg (fun e=>hx (e.trans ho))
              refine ⟨?_,rfl⟩;rw [he,h1]))
       | (have hn:0 < (b.length:Int)*8 - i*8 - n:=by assumption
          have ho:Um_ ((b.length:Int)*8 - i*8 - n)=(255:Int).fdiv (2 ^ (min (if 8 < (b.length:Int)*8 - i*8 - n then 8 else (b.length:Int)*8 - i*8 - n).toNat 8)):=if_pos hn
          first
           | (have hx:b.getD i 0=(255:Int).fdiv (2 ^ (min (if 8 < (b.length:Int)*8 - i*8 - n then 8 else (b.length:Int)*8 - i*8 - n).toNat 8)):=by assumption
              have h1:ko_ (b.getD i 0 :: b.drop (i+1)) ((b.length:Int)*8 - i*8 - n)=ko_ (b.drop (i+1)) ((b.length:Int)*8 - i*8 - n - 8):=if_pos (hx.trans ho.symm)
              refine ⟨i+1,⟨hlt,?_⟩,by dsimp only;omega,rfl,rfl⟩
              rw [he,h1];congr 1;omega)
           | (have hx:¬ b.getD i 0=(255:Int).fdiv (2 ^ (min (if 8 < (b.length:Int)*8 - i*8 - n then 8 else (b.length:Int)*8 - i*8 - n).toNat 8)):=by assumption
              have h1:ko_ (b.getD i 0 :: b.drop (i+1)) ((b.length:Int)*8 - i*8 - n)=false:=if_neg (fun e=>hx (e.trans ho))
              refine ⟨?_,rfl⟩;rw [he,h1])))
 ·cases e
def xN_:List Int->List Int->Bool
 | x :: r,y :: l=>if Zu_ .andNot .u8 x y=0 then xN_ r l else true
 | _,_=>false
def YH_:IR:=
(sq (kr [0,1] [oD 4 (.mov cF)])
(sq (sq (.reg [oM 7 0,
oE 8 7,
oD 9 (.mov (cI 0))])
(.block 0
(.loop
(sq (kr [1,7,8,9] [oB 10 .lss 9 8])
(sq (.cond 10
.skip
(.exit 0))
(sq (.block 1
(sq (kr [1,7,8,9] [oM 11 9,
oI 12 1 7 9,
oL 13 12,
oM 5 11,
oM 6 13])
(sq (kr [1,5,6,7,8,9] [oM 14 6,
oM 15 1,
oM 16 5,
oI 17 1 15 16,
oL 18 17,
oB 19 .andNot 14 18,
oB 20 .neq 19 (.c (.int .u8 0))])
(.cond 20
(sq (kr [] [oD 4 (.mov cT)])
.ret)
.skip))))
(kr [1,7,8,9] [oB 21 .add 9 (cI 1),
oM 9 21])))))))
(sq (kr [] [oD 4 (.mov cF)])
.ret)))
def y5_:List RD:=[.tmp 4 true none]
theorem Yo_:zn_ Tryz.prog Tryz.f141 YH_ y5_=true:=by kernel_rfl
def Kq_:List AV->List Obj->Option (Prop × AV)
 | [.imm (.int .u8) v,.imm (.int .u8) m],[]=>some ((v.length<=m.length,.bool (xN_ v m)))
 | _,_=>none
theorem X3_:ze_ Tryz.prog 141 (RoF Kq_).sum:=by
 refine zm_ Tryz.func141 Yo_ (zd_ _) fun args objs p v e=>?_
 unfold Kq_ at e
 split at e
 ·rename_i v m
  cases e
  refine ⟨rfl,fun hw ho hp=>?_⟩
  change List Int at v
  change List Int at m
  have hl:m.length<=maxLen:=(hw (.imm (.int .u8) m) (by simp)).2
  unfold maxLen at hl
  repeat'(intro t ht;first|(cases t<;>first|(cases ht;done)|(try simp only[zh_]at ht))|((first|refine za_ ht ?_|refine ht ?_ ?_|refine ht.1 ?_ ?_|refine ht ?_)<;>clear ht))
  all_goals first
   | (intro r h1 h2;clear h1;refine h2 ⟨[1,7,8,9],Nat,(fun i=>i<=v.length/\xN_ v m=xN_ (v.drop i) (m.drop i)),fun i=>[.imm (.int .u8) m,.imm (.int .u8) v,.int .i64 v.length,.int .i64 i],fun _=>[],fun i=>v.length - i,⟨0,⟨Nat.zero_le _,rfl⟩,rfl,rfl⟩,?_⟩;clear h2)
  rintro i ⟨hi,he⟩
  repeat'(intro t ht;first|(cases t<;>first|(cases ht;done)|(try simp only[zh_]at ht))|((first|refine za_ ht ?_|refine ht ?_ ?_|refine ht.1 ?_ ?_|refine ht ?_)<;>clear ht))
  all_goals first
   | ((try simp only [zk_,zl_,zi_] at*);omega)
   | (have h0:v.drop i=[]:=List.drop_of_length_le (by omega)
      refine ⟨?_,rfl⟩;rw [he,h0];rfl)
   | (have hlt:i < v.length:=by omega
      have hlm:i < m.length:=by omega
      rw [zD_ hlt 0,zD_ hlm 0] at he
      first
       | (have hx:Zu_ .andNot .u8 (v.getD i 0) (m.getD i 0)=0:=by assumption
          have h1:xN_ (v.getD i 0 :: v.drop (i+1)) (m.getD i 0 :: m.drop (i+1))=xN_ (v.drop (i+1)) (m.drop (i+1)):=if_pos hx
          exact ⟨i+1,⟨hlt,by rw [he,h1]⟩,by dsimp only;omega,rfl,rfl⟩)
       | (have hx:¬ Zu_ .andNot .u8 (v.getD i 0) (m.getD i 0)=0:=by assumption
          have h1:xN_ (v.getD i 0 :: v.drop (i+1)) (m.getD i 0 :: m.drop (i+1))=true:=if_neg hx
          refine ⟨?_,rfl⟩;rw [he,h1]))
 ·cases e
def US_:IR:=
(sq (kr [0] [oD 2 (.mov cF)])
(sq (sq (.reg [oD 3 (.mov (cI 0))])
(.block 0
(.loop
(sq (sq (kr [0,3] [oM 4 3,
oM 5 0,
oE 6 5,
oB 7 .lss 4 6])
(.cond 7
.skip
(.exit 0)))
(sq (.block 1
(sq (kr [0,3] [oM 10 0,
oM 11 3,
oI 12 1 10 11,
oL 13 12,
oB 14 .neq 13 (.c (.int .u8 0))])
(.cond 14
(sq (.reg [oD 2 (.mov cF)])
.ret)
.skip)))
(kr [0,3] [oM 8 3,
oB 9 .add 8 (cI 1),
oM 3 9]))))))
(sq (kr [] [oD 2 (.mov cT)])
.ret)))
def u4_:List RD:=[.tmp 2 true none]
theorem Ut_:zn_ Tryz.prog Tryz.f133 US_ u4_=true:=by kernel_rfl
def wc_:List AV->List Obj->Option (Prop × AV)
 | [.imm (.int .u8) b],[]=>some ((True,.bool (zU_ b)))
 | _,_=>none
theorem vx_:ze_ Tryz.prog 133 (RoF wc_).sum:=by
 refine zm_ Tryz.func133 Ut_ (zd_ _) fun args objs p v e=>?_
 unfold wc_ at e
 split at e
 ·rename_i b
  cases e
  refine ⟨rfl,fun hw ho hp=>?_⟩
  change List Int at b
  have hl:b.length<=maxLen:=(hw (.imm (.int .u8) b) (by simp)).2
  unfold maxLen at hl
  repeat'(intro t ht;first|(cases t<;>first|(cases ht;done)|(try simp only[zh_]at ht))|((first|refine za_ ht ?_|refine ht ?_ ?_|refine ht.1 ?_ ?_|refine ht ?_)<;>clear ht))
  all_goals first
   | (intro r h1 h2;clear h1;refine h2 ⟨[0,3],Nat,(fun i=>i<=b.length/\zU_ b=zU_ (b.drop i)),fun i=>[.imm (.int .u8) b,.int .i64 i],fun _=>[],fun i=>b.length - i,⟨0,⟨Nat.zero_le _,rfl⟩,rfl,rfl⟩,?_⟩;clear h2)
  rintro i ⟨hi,he⟩
  repeat'(intro t ht;first|(cases t<;>first|(cases ht;done)|(try simp only[zh_]at ht))|((first|refine za_ ht ?_|refine ht ?_ ?_|refine ht.1 ?_ ?_|refine ht ?_)<;>clear ht))
  all_goals first
   | ((try simp only [zk_,zl_,zi_] at*);omega)
   | (have hge:b.length<=i:=by omega
      refine ⟨?_,rfl⟩;rw [he,List.drop_of_length_le hge];rfl)
   | (have hlt:i < b.length:=by omega
      rw [zD_ hlt 0] at he
      unfold zU_ at he
      rw [List.all_cons] at he
      first
       | (have hk:decide (b.getD i 0=0)=false:=decide_eq_false (by assumption)
          refine ⟨?_,rfl⟩;unfold zU_;rw [he,hk];rfl)
       | (have hk:decide (b.getD i 0=0)=true:=decide_eq_true (by assumption)
          rw [hk,Bool.true_and] at he
          exact ⟨i+1,⟨hlt,he⟩,by (try simp only [zk_,zl_,zi_] at*);omega,rfl,rfl⟩))
 ·cases e
def inA:List Int->List Int->Bool
 | x :: r,y :: l=>if Zu_ .and .u8 x y=x then inA r l else false
 | _,_=>true
def Vo_:IR:=
(sq (kr [0,1] [oD 4 (.mov cF)])
(sq (sq (.reg [oD 5 (.mov (cI 0))])
(.block 0
(.loop
(sq (sq (kr [0,1,5] [oM 6 5,
oM 7 0,
oE 8 7,
oB 9 .lss 6 8])
(.cond 9
.skip
(.exit 0)))
(sq (.block 1
(sq (kd [0,1,5] [(oM 12 0,[]),
(oM 13 5,[0]),
(oI 14 1 12 13,[]),
(oL 15 14,[]),
(oM 16 1,[0,0,0,0]),
(oM 17 5,[0,0,0,0,0]),
(oI 18 1 16 17,[2,0,0,0]),
(oL 19 18,[3,0,0,0]),
(oB 20 .and 15 19,[]),
(oM 21 0,[0,0,0,0,0,0,0,0,0]),
(oM 22 5,[0,0,0,0,0,0,0,0,0,0]),
(oI 23 1 21 22,[2,0,0,0,0,0,0,0,0]),
(oL 24 23,[3,0,0,0,0,0,0,0,0]),
(oB 25 .neq 20 24,[])])
(.cond 25
(sq (kr [] [oD 4 (.mov cF)])
.ret)
.skip)))
(kr [0,1,5] [oM 10 5,
oB 11 .add 10 (cI 1),
oM 5 11]))))))
(sq (kr [] [oD 4 (.mov cT)])
.ret)))
def vM_:List RD:=[.tmp 4 true none]
theorem v5_:zn_ Tryz.prog Tryz.f135 Vo_ vM_=true:=by kernel_rfl
def jo_:List AV->List Obj->Option (Prop × AV)
 | [.imm (.int .u8) v,.imm (.int .u8) m],[]=>some ((v.length<=m.length,.bool (inA v m)))
 | _,_=>none
theorem yP_:ze_ Tryz.prog 135 (RoF jo_).sum:=by
 refine zm_ Tryz.func135 v5_ (zd_ _) fun args objs p v e=>?_
 unfold jo_ at e
 split at e
 ·rename_i v m
  cases e
  refine ⟨rfl,fun hw ho hp=>?_⟩
  change List Int at v
  change List Int at m
  have hl:m.length<=maxLen:=(hw (.imm (.int .u8) m) (by simp)).2
  unfold maxLen at hl
  repeat'(intro t ht;first|(cases t<;>first|(cases ht;done)|(try simp only[zh_]at ht))|((first|refine za_ ht ?_|refine ht ?_ ?_|refine ht.1 ?_ ?_|refine ht ?_)<;>clear ht))
  all_goals first
   | (intro r h1 h2;clear h1;refine h2 ⟨[0,1,5],Nat,(fun i=>i<=v.length/\inA v m=inA (v.drop i) (m.drop i)),fun i=>[.imm (.int .u8) v,.imm (.int .u8) m,.int .i64 i],fun _=>[],fun i=>v.length - i,⟨0,⟨Nat.zero_le _,rfl⟩,rfl,rfl⟩,?_⟩;clear h2)
  rintro i ⟨hi,he⟩
  repeat'(intro t ht;first|(cases t<;>first|(cases ht;done)|(try simp only[zh_]at ht))|((first|refine za_ ht ?_|refine ht ?_ ?_|refine ht.1 ?_ ?_|refine ht ?_)<;>clear ht))
  all_goals first
   | ((try simp only [zk_,zl_,zi_] at*);omega)
   | (have h0:v.drop i=[]:=List.drop_of_length_le (by omega)
      refine ⟨?_,rfl⟩;rw [he,h0];rfl)
   | (have hlt:i < v.length:=by omega
      have hlm:i < m.length:=by omega
      rw [zD_ hlt 0,zD_ hlm 0] at he
      first
       | (have hx:Zu_ .and .u8 (v.getD i 0) (m.getD i 0)=v.getD i 0:=by assumption
          have h1:inA (v.getD i 0 :: v.drop (i+1)) (m.getD i 0 :: m.drop (i+1))=inA (v.drop (i+1)) (m.drop (i+1)):=if_pos hx
          exact ⟨i+1,⟨hlt,by rw [he,h1]⟩,by dsimp only;omega,rfl,rfl⟩)
       | (have hx:¬ Zu_ .and .u8 (v.getD i 0) (m.getD i 0)=v.getD i 0:=by assumption
          have h1:inA (v.getD i 0 :: v.drop (i+1)) (m.getD i 0 :: m.drop (i+1))=false:=if_neg hx
          refine ⟨?_,rfl⟩;rw [he,h1]))
 ·cases e
def k0_ (b:List Int):Nat->Int->Bool
 | 0,_=>true
 | f+1,i=>if Zu_ .and .u8 ((b.getD (b.length - 1 - i.tdiv 8:Int).toNat 0).fdiv (2 ^ (min (i.tmod 8).toNat 8))) 1=0 then false else k0_ b f (i+1)
theorem w5_ {b:List Int} {f:Nat} {i:Int} (h:Zu_ .and .u8 ((b.getD (b.length - 1 - i.tdiv 8:Int).toNat 0).fdiv (2 ^ (min (i.tmod 8).toNat 8))) 1=0):k0_ b (f+1) i=false:=if_pos h
theorem w4_ {b:List Int} {f:Nat} {i:Int} (h:¬ Zu_ .and .u8 ((b.getD (b.length - 1 - i.tdiv 8:Int).toNat 0).fdiv (2 ^ (min (i.tmod 8).toNat 8))) 1=0):k0_ b (f+1) i=k0_ b f (i+1):=if_neg h
def GS_:IR:=
(sq (kr [0,1] [oD 4 (.mov cF)])
(sq (sq (.reg [oD 5 (.mov (cI 0))])
(.block 0
(.loop
(sq (sq (kr [0,1,5] [oM 6 5,
oM 7 1,
oB 8 .lss 6 7])
(.cond 8
.skip
(.exit 0)))
(sq (.block 1
(sq (kr [0,1,5] [oM 11 0,
oM 12 0,
oE 13 12,
oB 14 .sub 13 (cI 1),
oM 15 5,
oB 16 .quo 15 (cI 8),
oB 17 .sub 14 16,
oI 18 1 11 17,
oL 19 18,
oM 20 5,
oB 21 .rem 20 (cI 8),
oB 22 .shr 19 21,
oB 23 .and 22 (.c (.int .u8 1)),
oB 24 .eql 23 (.c (.int .u8 0))])
(.cond 24
(sq (kr [] [oD 4 (.mov cF)])
.ret)
.skip)))
(kr [0,1,5] [oM 9 5,
oB 10 .add 9 (cI 1),
oM 5 10]))))))
(sq (kr [] [oD 4 (.mov cT)])
.ret)))
def gZ_:List RD:=[.tmp 4 true none]
theorem Gl_:zn_ Tryz.prog Tryz.f134 GS_ gZ_=true:=by kernel_rfl
def Wy_:List AV->List Obj->Option (Prop × AV)
 | [.imm (.int .u8) b,.int .i64 n],[]=>some ((0<=n/\n<=8*b.length/\b.length<=1000000,.bool (k0_ b n.toNat 0)))
 | _,_=>none
theorem uM_:ze_ Tryz.prog 134 (RoF Wy_).sum:=by
 refine zm_ Tryz.func134 Gl_ (zd_ _) fun args objs p v e=>?_
 unfold Wy_ at e
 split at e
 ·rename_i b n
  cases e
  refine ⟨rfl,fun hw ho hp=>?_⟩
  change List Int at b
  repeat'(intro t ht;first|(cases t<;>first|(cases ht;done)|(try simp only[zh_]at ht))|((first|refine za_ ht ?_|refine ht ?_ ?_|refine ht.1 ?_ ?_|refine ht ?_)<;>clear ht))
  all_goals first
   | (intro r h1 h2;clear h1;refine h2 ⟨[0,1,5],Nat,(fun i=>(i:Int)<=n/\k0_ b n.toNat 0=k0_ b (n.toNat - i) i),fun i=>[.imm (.int .u8) b,.int .i64 n,.int .i64 i],fun _=>[],fun i=>n.toNat - i,⟨0,⟨hp.1,rfl⟩,rfl,rfl⟩,?_⟩;clear h2)
  rintro i ⟨hi,he⟩
  have htd:(i:Int).tdiv 8=i / 8:=Zw_ (by omega)
  have htm:(i:Int).tmod 8=i % 8:=Qa_ (by omega)
  repeat'(intro t ht;first|(cases t<;>first|(cases ht;done)|(try simp only[zh_]at ht))|((first|refine za_ ht ?_|refine ht ?_ ?_|refine ht.1 ?_ ?_|refine ht ?_)<;>clear ht))
  all_goals first
   | exact (by decide)
   | ((try simp only [zk_,zl_,zi_] at*);omega)
   | ((try simp only [zk_,zl_,zi_] at*);simp only [htd,htm];omega)
   | (have h0:n.toNat - i=0:=by omega
      refine ⟨?_,rfl⟩;rw [he,h0];rfl)
   | (have h1:n.toNat - i=(n.toNat - (i+1))+1:=by omega
      rw [h1] at he
      first
       | (have hf:=w5_ (f:=n.toNat - (i+1)) (b:=b) (i:=i) (by assumption)
          refine ⟨?_,rfl⟩;rw [he,hf])
       | (have hf:=w4_ (f:=n.toNat - (i+1)) (b:=b) (i:=i) (by assumption)
          exact ⟨i+1,⟨by omega,by rw [he,hf];rfl⟩,by dsimp only;omega,rfl,rfl⟩))
 ·cases e
def q0_ (c f:Int):Bool:=if c=65535 then decide (0<=f) && decide (f<=127) else fIs f && decide (c=32768)
def ZX_ (c f:Int):Int:=if c=65535 then 100 else k7_ f
def qM_ (c f:Int):Int:=if c=65535 then 0 else Q0_ f
def ZE_ (c f:Int):Bool:=if c=65535 then true else uf_ f
def zP_ (c:Int):Bool:=decide (c=65535)
theorem fK:∀ k < 40,0<=k7_ (k:Nat)/\k7_ (k:Nat)<=16/\0<=Q0_ (k:Nat)/\Q0_ (k:Nat)<=128:=by decide+kernel
theorem f_le (f:Int):0<=k7_ f/\k7_ f<=16/\0<=Q0_ f/\Q0_ f<=128:=by
 cases h:fIs f with
 | true=>
   have hn:=Z7_.1 h
   have:=fK f.toNat (by omega)
   rwa [Int.toNat_of_nonneg hn.1] at this
 | false=>unfold k7_ Q0_;rw [h];simp
theorem V3_ (c f:Int):0<=ZX_ c f/\ZX_ c f<=100/\0<=qM_ c f/\qM_ c f<=128:=by
 have:=f_le f
 unfold ZX_ qM_;split<;>omega
def Bx_:IR:=
(sq (kr [0] [oD 1 (.boxv 0),
oD 2 (.box [.int .i64 0,.int .i64 0,.kb false,.kb false]),
oD 3 (.mov cF)])
(sq (sq (.reg [oA 6 0 1,
oL 7 6,
oB 8 .eql 7 (cI 65535)])
(.cond 8
(sq (kd [1,2] [(oD 9 (.build [.int .i64 0,.int .i64 0,.kb false,.kb false] [(0,1,(cI 100)),(2,1,cT),(3,1,cT)]),[]),
(oA 10 1 1,[0]),
(oL 11 10,[1]),
(oB 12 .geq 11 (cI 0),[2]),
(oM 13 12,[3]),
(oT 13 14 (.fieldAddr 1 1),[4]),
(oT 13 15 (.load none 14),[5]),
(oT 13 16 (.bin .leq 15 (cI 127)),[6]),
(oP 17 13 16 cF,[7]),
(oS 4 2 9,[0,0,0,0]),
(oM 3 17,[])])
.ret)
.skip))
(sq (kr [1,2] [oA 19 1 1,
oL 20 19,
oC 21 137 [20],
oM 18 21,
oX 22 18 0,
oX 23 18 1,
oD 4 (.box [.int .i64 0,.int .i64 0,.kb false,.int .i64 0,.imm (.int .u64) []]),
oS 5 4 22,
oM 5 23])
(sq (kd [1,2,4,5] [(oA 24 1 4,[]),
(oL 25 24,[]),
(oA 26 0 4,[0,0]),
(oL 27 26,[1,0]),
(oA 28 2 4,[0,0,0,0]),
(oL 29 28,[1,0,0,0]),
(oD 30 (.build [.int .i64 0,.int .i64 0,.kb false,.kb false] [(0,1,25),(1,1,27),(2,1,29)]),[]),
(oM 31 5,[0,0,0,0,0,0,0]),
(oM 32 31,[1,0,0,0,0,0,0]),
(oT 32 33 (.fieldAddr 0 1),[2,0,0,0,0,0,0]),
(oT 32 34 (.load none 33),[3,0,0,0,0,0,0]),
(oT 32 35 (.bin .eql 34 (cI 32768)),[4,0,0,0,0,0,0]),
(oP 36 32 35 cF,[5,0,0,0,0,0,0]),
(oS 4 2 30,[0,0,0,0]),
(oM 3 36,[])])
.ret))))
def Be_:List RD:=[.cell 2 (some 4) true [],.tmp 3 true none]
theorem Bl_:zn_ Tryz.prog Tryz.f115 Bx_ Be_=true:=by kernel_rfl
def xr_:List AV->List Obj->Option (Prop × AV)
 | [.agg [.int .i64 c,.int .i64 f,.bool h,.int .u64 x,.imm (.int .u8) v,.imm (.int .u8) m]],[]=>some ((True,.tup [.agg [.int .i64 (ZX_ c f),.int .i64 (qM_ c f),.bool (ZE_ c f),.bool (zP_ c)],.bool (q0_ c f)]))
 | _,_=>none
theorem yR_:ze_ Tryz.prog 115 (RoF xr_).sum:=by
 refine zm_ Tryz.func115 Bl_ (zb_ (s:=RoF WG_) uU_ (zd_ _)) fun args objs p v e=>?_
 unfold xr_ at e
 split at e
 ·rename_i c f h x v m
  cases e
  refine ⟨rfl,fun hw ho hp=>?_⟩
  change List Int at v
  change List Int at m
  repeat'(intro t ht;first|(cases t<;>first|(cases ht;done)|(try simp only[zh_]at ht))|((first|refine za_ ht ?_|refine ht ?_ ?_|refine ht.1 ?_ ?_|refine ht ?_)<;>clear ht))
  all_goals first
   | exact True.intro
   | (simp_all [q0_,ZX_,qM_,ZE_,zP_];done)
   | (simp_all [q0_,ZX_,qM_,ZE_,zP_];omega)
 ·cases e
def q9_ (f:Int) (h:Bool) (v m:List Int) (bits:Int) (ex:Bool):Int:=
 if ex=false/\kS_ f v=false then 1032 else if h=true/\ex=false/\kS_ f m=false then 1033
 else if h=true/\(zU_ m=true\/XL_ m (if ex=true then m.length*8 else bits)=true) then 1033 else if h=true/\xN_ v m=true then 1030 else 0
def UY_:IR:=
(sq (kr [0,1] [oD 2 (.boxv 0),
oD 3 (.boxv 1),
oD 4 (.mov (cI 0))])
(sq (sq (.reg [oA 5 3 3,
oL 6 5])
(.cond 6
(kr [2,3] [oA 7 5 2,
oL 8 7,
oE 9 8,
oB 10 .mul 9 (cI 8),
oA 11 1 3,
oS 1 11 10])
.skip))
(sq (.block 0
(sq (.block 3
(.block 2
(sq (.block 1
(sq (sq (sq (kr [2,3] [oA 13 3 3,
oL 14 13,
oD 15 (.un .not 14),
oM 16 15,
oT 16 17 (.fieldAddr 1 2),
oT 16 18 (.load none 17),
oT 16 19 (.fieldAddr 4 2),
oT 16 20 (.load none 19),
oT 16 21 (.call false (.f 138) [18,20]),
oT 16 22 (.un .not 21),
oP 23 16 22 cF,
oM 12 23])
(.cond 12
(.exit 1)
.skip))
(sq (sq (kr [2,3] [oA 25 2 2,
oL 26 25,
oM 27 26,
oT 27 28 (.fieldAddr 3 3),
oT 27 29 (.load none 28),
oT 27 30 (.un .not 29),
oP 31 27 30 cF,
oM 32 31,
oT 32 33 (.fieldAddr 1 2),
oT 32 34 (.load none 33),
oT 32 35 (.fieldAddr 5 2),
oT 32 36 (.load none 35),
oT 32 37 (.call false (.f 138) [34,36]),
oT 32 38 (.un .not 37),
oP 39 32 38 cF,
oM 24 39])
(.cond 24
(.exit 2)
.skip))
(sq (kr [2,3] [oA 41 2 2,
oL 42 41,
oM 43 42,
oT 43 44 (.fieldAddr 5 2),
oT 43 45 (.load none 44),
oT 43 46 (.call false (.f 139) [45]),
oT 43 47 (.mov 46),
oF 47 48 (.fieldAddr 5 2),
oF 47 49 (.load none 48),
oF 47 50 (.fieldAddr 1 3),
oF 47 51 (.load none 50),
oF 47 52 (.call false (.f 140) [49,51]),
oT 43 53 (.pick 47 cT 52),
oP 54 43 53 cF,
oM 40 54])
(.cond 40
(.exit 3)
.skip))))
(.exit 0)))
(sq (sq (kr [] [oD 4 (.mov (cI 1032))])
.ret)
(.exit 0)))))
(sq (sq (kr [] [oD 4 (.mov (cI 1033))])
.ret)
(.exit 0))))
(sq (sq (kr [2] [oA 55 2 2,
oL 56 55,
oM 57 56,
oT 57 58 (.fieldAddr 4 2),
oT 57 59 (.load none 58),
oT 57 60 (.fieldAddr 5 2),
oT 57 61 (.load none 60),
oT 57 62 (.call false (.f 141) [59,61]),
oP 63 57 62 cF])
(.cond 63
(sq (kr [] [oD 4 (.mov (cI 1030))])
.ret)
.skip))
(sq (kr [] [oD 4 (.mov (cI 0))])
.ret)))))
def Ua_:List RD:=[.tmp 4 true none]
theorem Uz_:zn_ Tryz.prog Tryz.f116 UY_ Ua_=true:=by kernel_rfl
def Kd_:List AV->List Obj->Option (Prop × AV)
 | [.agg [.int .i64 c,.int .i64 f,.bool h,.int .u64 x,.imm (.int .u8) v,.imm (.int .u8) m],.agg [.int .i64 sz,.int .i64 bits,.bool mk,.bool ex]],[]=>some (((h=true->v.length<=m.length)/\m.length<=100000/\0<=bits/\bits<=1000000,.int .i64 (q9_ f h v m bits ex)))
 | _,_=>none
theorem wV_:ze_ Tryz.prog 116 (RoF Kd_).sum:=by
 refine zm_ Tryz.func116 Uz_ (zb_ (s:=RoF jy_) yW_ (zb_ (s:=RoF wf_) vA_ (zb_ (s:=RoF WD_) uR_ (zb_ (s:=RoF Kq_) X3_ (zd_ _))))) fun args objs p v e=>?_
 unfold Kd_ at e
 split at e
 ·rename_i c f h x v m sz bits mk ex
  cases e
  refine ⟨rfl,fun hw ho hp=>?_⟩
  change List Int at v
  change List Int at m
  cases h<;>cases ex
  all_goals repeat'(intro t ht;first|(cases t<;>first|(cases ht;done)|(try simp only[zh_]at ht))|((first|refine za_ ht ?_|refine ht ?_ ?_|refine ht.1 ?_ ?_|refine ht ?_)<;>clear ht))
  all_goals first
   | exact True.intro
   | exact hp.1 rfl
   | ((try simp only [zk_,zl_,zi_] at*);omega)
   | (unfold q9_;simp_all;done)
 ·cases e
def z1_ (c:Int) (v m:List Int):Int:=if c=65535 then (v.length:Int)+m.length+4 else (v.length:Int)+m.length
def zG_ (c f:Int) (h:Bool) (x:Int) (v m:List Int):Bool:=
 q0_ c f && (!h || ZE_ c f) && (zP_ c || decide (x=0)) && decide (x.fdiv (2 ^ (min (Int.toNat 32) IntKind.u64.bits))=0) &&
  (match h with | true=>decide ((m.length:Int)=v.length) | false=>decide (m.length=0)) && decide ((v.length:Int)<=ZX_ c f) && decide (q9_ f h v m (qM_ c f) (zP_ c)=0)
def U0_:IR:=
(sq (kr [0] [oD 1 (.boxv 0),
oD 2 (.mov cF)])
(sq (kr [1] [oK 6 6 1,
oC 7 115 [6],
oM 5 7,
oX 8 5 0,
oX 9 5 1,
oD 3 (.box [.int .i64 0,.int .i64 0,.kb false,.kb false]),
oS 4 3 8,
oM 4 9])
(sq (.block 0
(sq (.block 4
(sq (.block 3
(.block 2
(sq (.block 1
(sq (sq (sq (kr [1,3,4] [oM 11 4,
oD 12 (.un .not 11),
oM 13 12,
oF 13 14 (.fieldAddr 2 1),
oF 13 15 (.load none 14),
oF 13 16 (.mov 15),
oT 16 17 (.fieldAddr 2 3),
oT 16 18 (.load none 17),
oT 16 19 (.un .not 18),
oF 13 20 (.pick 16 19 cF),
oP 21 13 cT 20,
oM 10 21])
(.cond 10
(.exit 1)
.skip))
(sq (sq (kr [1,3] [oA 23 3 3,
oL 24 23,
oD 25 (.un .not 24),
oM 26 25,
oT 26 27 (.fieldAddr 3 1),
oT 26 28 (.load none 27),
oT 26 29 (.bin .neq 28 (.c (.int .u64 0))),
oP 30 26 29 cF,
oM 22 30])
(.cond 22
(.exit 2)
.skip))
(sq (sq (kr [1,3] [oA 32 3 1,
oL 33 32,
oB 34 .shr 33 (.c (.int .u64 32)),
oB 35 .neq 34 (.c (.int .u64 0)),
oM 31 35])
(.cond 31
(.exit 3)
.skip))
(sq (kr [1,3] [oA 37 2 1,
oL 38 37,
oM 39 38,
oT 39 40 (.fieldAddr 5 1),
oT 39 41 (.load none 40),
oT 39 42 (.len 41),
oT 39 43 (.fieldAddr 4 1),
oT 39 44 (.load none 43),
oT 39 45 (.len 44),
oT 39 46 (.bin .neq 42 45),
oP 47 39 46 cF,
oM 48 47,
oF 48 49 (.fieldAddr 2 1),
oF 48 50 (.load none 49),
oF 48 51 (.un .not 50),
oF 48 52 (.mov 51),
oT 52 53 (.fieldAddr 5 1),
oT 52 54 (.load none 53),
oT 52 55 (.len 54),
oT 52 56 (.bin .gtr 55 (cI 0)),
oF 48 57 (.pick 52 56 cF),
oP 58 48 cT 57,
oM 59 58,
oF 59 60 (.fieldAddr 4 1),
oF 59 61 (.load none 60),
oF 59 62 (.len 61),
oF 59 63 (.fieldAddr 0 3),
oF 59 64 (.load none 63),
oF 59 65 (.bin .gtr 62 64),
oP 66 59 cT 65,
oM 36 66])
(.cond 36
(.exit 4)
.skip)))))
(.exit 0)))
(sq (sq (kr [] [oD 2 (.mov cF)])
.ret)
(.exit 0)))))
(sq (sq (kr [] [oD 2 (.mov cF)])
.ret)
(.exit 0))))
(sq (sq (kr [] [oD 2 (.mov cF)])
.ret)
(.exit 0))))
(sq (kr [1,3] [oK 67 6 1,
oK 68 4 3,
oC 69 116 [67,68],
oB 70 .eql 69 (cI 0),
oM 2 70])
.ret))))
def Uc_:List RD:=[.tmp 2 true none]
theorem UB_:zn_ Tryz.prog Tryz.f83 U0_ Uc_=true:=by kernel_rfl
def Q7_:List AV->List Obj->Option (Prop × AV)
 | [.agg [.int .i64 c,.int .i64 f,.bool h,.int .u64 x,.imm (.int .u8) v,.imm (.int .u8) m]],[]=>some ((v.length<=1000000/\m.length<=1000000,.bool (zG_ c f h x v m)))
 | _,_=>none
theorem Kj_:ze_ Tryz.prog 83 (RoF Q7_).sum:=by
 refine zm_ Tryz.func83 UB_ (zb_ (s:=RoF xr_) yR_ (zb_ (s:=RoF Kd_) wV_ (zd_ _))) fun args objs p v e=>?_
 unfold Q7_ at e
 split at e
 ·rename_i c f h x v m
  cases e
  refine ⟨rfl,fun hw ho hp=>?_⟩
  change List Int at v
  change List Int at m
  have hof:=V3_ c f
  cases h
  all_goals repeat'(intro t ht;first|(cases t<;>first|(cases ht;done)|(try simp only[zh_]at ht))|((first|refine za_ ht ?_|refine ht ?_ ?_|refine ht.1 ?_ ?_|refine ht ?_)<;>clear ht))
  all_goals first
   | exact True.intro
   | exact (by decide)
   | (refine ⟨fun h=>?_,?_,?_,?_⟩<;>first | omega | (cases h;done))
   | (unfold zG_;simp_all;done)
   | (have h0:¬ m.length=0:=by omega
      unfold zG_;simp_all;done)
   | (unfold zG_;simp_all;omega)
 ·cases e
def GX_:IR:=
(sq (kr [0] [oD 1 (.boxv 0),
oD 2 (.mov (cI 0))])
(sq (kr [1] [oA 4 4 1,
oL 5 4,
oE 6 5,
oA 7 5 1,
oL 8 7,
oE 9 8,
oB 10 .add 6 9,
oM 3 10])
(sq (sq (kr [1,3] [oA 11 0 1,
oL 12 11,
oB 13 .eql 12 (cI 65535)])
(.cond 13
(.reg [oM 14 3,
oB 15 .add 14 (cI 4),
oM 3 15])
.skip))
(sq (kr [3] [oM 16 3,
oM 2 16])
.ret))))
def g4_:List RD:=[.tmp 2 true none]
theorem Gq_:zn_ Tryz.prog Tryz.f84 GX_ g4_=true:=by kernel_rfl
def jq_:List AV->List Obj->Option (Prop × AV)
 | [.agg [.int .i64 c,.int .i64 f,.bool h,.int .u64 x,.imm (.int .u8) v,.imm (.int .u8) m]],[]=>some ((v.length<=1000000/\m.length<=1000000,.int .i64 (z1_ c v m)))
 | _,_=>none
theorem WR_:ze_ Tryz.prog 84 (RoF jq_).sum:=by
 refine zm_ Tryz.func84 Gq_ (zd_ _) fun args objs p v e=>?_
 unfold jq_ at e
 split at e
 ·rename_i c f h x v m
  cases e
  refine ⟨rfl,fun hw ho hp=>?_⟩
  change List Int at v
  change List Int at m
  repeat'(intro t ht;first|(cases t<;>first|(cases ht;done)|(try simp only[zh_]at ht))|((first|refine za_ ht ?_|refine ht ?_ ?_|refine ht.1 ?_ ?_|refine ht ?_)<;>clear ht))
  all_goals first
   | ((try simp only [zk_,zl_,zi_] at*);omega)
   | (unfold z1_;simp_all;done)
 ·cases e
theorem Kz_ {c f:Int} {h:Bool} {x:Int} {v m:List Int} (hr:zG_ c f h x v m=true):(v.length:Int)<=ZX_ c f/\(h=true->(m.length:Int)=v.length)/\(h=false->m.length=0)/\q0_ c f=true/\(h=true->ZE_ c f=true)/\(zP_ c=true\/x=0)/\x.fdiv (2 ^ (min (Int.toNat 32) IntKind.u64.bits))=0/\q9_ f h v m (qM_ c f) (zP_ c)=0:=by
 unfold zG_ at hr
 simp only [Bool.and_eq_true,Bool.or_eq_true,decide_eq_true_eq] at hr
 obtain ⟨⟨⟨⟨⟨⟨a1,a2⟩,a3⟩,a4⟩,a5⟩,a6⟩,a7⟩:=hr
 cases h with
 | true=>exact ⟨a6,fun _=>of_decide_eq_true a5,fun h=>(by cases h),a1,fun _=>a2.resolve_left (by simp),a3,a4,a7⟩
 | false=>exact ⟨a6,fun h=>(by cases h),fun _=>of_decide_eq_true a5,a1,fun h=>(by cases h),a3,a4,a7⟩
theorem bu_ {f:Int} {v:List Int} (h:Z5_ f v=true):(v.length:Int)=Zb_ f/\0<=qJ_ f/\qJ_ f<=8*Zb_ f/\Zb_ f<=16:=by
 unfold Z5_ at h
 split at h
 ·rename_i hh
  have hn:=Z7_.1 hh.1
  have:=hN_ f.toNat (by omega)
  rw [Int.toNat_of_nonneg hn.1] at this
  omega
 ·cases h
def hZ_ (c f:Int) (h:Bool) (v m:List Int):Int:=
 if c=32768/\Z5_ f v=false then 1032 else if h=true/\c=32768/\Z5_ f m=false then 1033
 else if h=true/\(zU_ m=true\/k0_ m (if c=32768 then qJ_ f else 8*m.length).toNat 0=true) then 1033 else if h=true/\inA v m=false then 1030 else 0
def UT_:IR:=
(sq (kr [0] [oD 1 (.boxv 0),
oD 2 (.mov (cI 0))])
(sq (kr [1] [oA 7 1 1,
oL 8 7,
oC 9 109 [8],
oM 6 9,
oX 10 6 0,
oX 11 6 1,
oD 3 (.box [.str [],.int .i64 0,.int .i64 0,.kb false,.int .i64 0,.imm (.int .u64) []]),
oS 6 3 10,
oM 4 11])
(sq (kr [1,3] [oA 12 5 1,
oL 13 12,
oE 14 13,
oB 15 .mul (cI 8) 14,
oM 5 15])
(sq (sq (.reg [oA 16 0 1,
oL 17 16,
oB 18 .eql 17 (cI 32768)])
(.cond 18
(sq (kr [1,3] [oA 19 1 3,
oL 20 19,
oM 5 20])
(sq (sq (kr [1,5] [oA 21 1 1,
oL 22 21,
oA 23 4 1,
oL 24 23,
oC 25 132 [22,24],
oD 26 (.un .not 25)])
(.cond 26
(sq (kr [] [oD 2 (.mov (cI 1032))])
.ret)
.skip))
(sq (kr [1,5] [oA 27 2 1,
oL 28 27,
oM 29 28,
oT 29 30 (.fieldAddr 1 1),
oT 29 31 (.load none 30),
oT 29 32 (.fieldAddr 5 1),
oT 29 33 (.load none 32),
oT 29 34 (.call false (.f 132) [31,33]),
oT 29 35 (.un .not 34),
oP 36 29 35 cF])
(.cond 36
(sq (kr [] [oD 2 (.mov (cI 1033))])
.ret)
.skip))))
.skip))
(sq (sq (kr [1,5] [oA 37 2 1,
oL 38 37,
oM 39 38,
oT 39 40 (.fieldAddr 5 1),
oT 39 41 (.load none 40),
oT 39 42 (.call false (.f 133) [41]),
oT 39 43 (.mov 42),
oF 43 44 (.fieldAddr 5 1),
oF 43 45 (.load none 44),
oF 43 46 (.mov 5),
oF 43 47 (.call false (.f 134) [45,46]),
oT 39 48 (.pick 43 cT 47),
oP 49 39 48 cF])
(.cond 49
(sq (kr [] [oD 2 (.mov (cI 1033))])
.ret)
.skip))
(sq (sq (kr [1] [oA 50 2 1,
oL 51 50,
oM 52 51,
oT 52 53 (.fieldAddr 4 1),
oT 52 54 (.load none 53),
oT 52 55 (.fieldAddr 5 1),
oT 52 56 (.load none 55),
oT 52 57 (.call false (.f 135) [54,56]),
oT 52 58 (.un .not 57),
oP 59 52 58 cF])
(.cond 59
(sq (kr [] [oD 2 (.mov (cI 1030))])
.ret)
.skip))
(sq (kr [] [oD 2 (.mov (cI 0))])
.ret)))))))
def u5_:List RD:=[.tmp 2 true none]
theorem Uu_:zn_ Tryz.prog Tryz.f110 UT_ u5_=true:=by kernel_rfl
def wd_:List AV->List Obj->Option (Prop × AV)
 | [.agg [.int .i64 c,.int .i64 f,.bool h,.int .u64 x,.imm (.int .u8) v,.imm (.int .u8) m]],[]=>some (((h=true->c ≠ 32768->v.length<=m.length)/\m.length<=100000,.int .i64 (hZ_ c f h v m)))
 | _,_=>none
theorem vy_:ze_ Tryz.prog 110 (RoF wd_).sum:=by
 refine zm_ Tryz.func110 Uu_ (zb_ (s:=RoF KI_) KQ_ (zb_ (s:=RoF WA_) uO_ (zb_ (s:=RoF wc_) vx_ (zb_ (s:=RoF Wy_) uM_ (zb_ (s:=RoF jo_) yP_ (zd_ _)))))) fun args objs p v e=>?_
 unfold wd_ at e
 split at e
 ·rename_i c f h x v m
  cases e
  refine ⟨rfl,fun hw ho hp=>?_⟩
  change List Int at v
  change List Int at m
  have hfv:=bu_ (f:=f) (v:=v)
  have hfm:=bu_ (f:=f) (v:=m)
  cases h<;>by_cases hc:c=32768
  all_goals repeat'(intro t ht;first|(cases t<;>first|(cases ht;done)|(try simp only[zh_]at ht))|((first|refine za_ ht ?_|refine ht ?_ ?_|refine ht.1 ?_ ?_|refine ht ?_)<;>clear ht))
  all_goals first
   | exact True.intro
   | contradiction
   | ((try simp only [zk_,zl_,zi_] at*);omega)
   | (have h1:=hfm (by assumption);(try simp only [zk_,zl_,zi_] at*);omega)
   | (have h1:=hfm (by assumption);have h2:=hfv (by assumption);(try simp only [zk_,zl_,zi_] at*);omega)
   | (have h1:=hp.1 rfl (by assumption);exact h1)
   | (unfold hZ_;simp_all;done)
 ·cases e
def J5_ (c x:Int) (v m:List Int):List Int:=(if c=65535 then zf_ x 4 else [])++v++m
def Qe_ (c f:Int) (h:Bool) (x:Int) (v m:List Int):List Int:=zf_ c 2++[2*f+if h=true then 1 else 0,((J5_ c x v m).length:Int)]++J5_ c x v m
def qR_ (c f:Int) (h:Bool) (x:Int) (v m:List Int):Int:=if zG_ c f h x v m=true then 4+z1_ c v m else 0
def G0_:IR:=
(sq (kr [0] [oD 1 (.boxv 0),
oD 2 (.mov (cI 0))])
(sq (sq (.reg [oK 3 6 1,
oC 4 83 [3],
oD 5 (.un .not 4)])
(.cond 5
(sq (.reg [oD 2 (.mov (cI 0))])
.ret)
.skip))
(sq (kr [1] [oK 6 6 1,
oC 7 84 [6],
oB 8 .add (cI 4) 7,
oM 2 8])
.ret)))
def g7_:List RD:=[.tmp 2 true none]
theorem Gt_:zn_ Tryz.prog Tryz.f57 G0_ g7_=true:=by kernel_rfl
def jr_:List AV->List Obj->Option (Prop × AV)
 | [.agg [.int .i64 c,.int .i64 f,.bool h,.int .u64 x,.imm (.int .u8) v,.imm (.int .u8) m]],[]=>some ((v.length<=1000000/\m.length<=1000000,.int .i64 (qR_ c f h x v m)))
 | _,_=>none
theorem WS_:ze_ Tryz.prog 57 (RoF jr_).sum:=by
 refine zm_ Tryz.func57 Gt_ (zb_ (s:=RoF Q7_) Kj_ (zb_ (s:=RoF jq_) WR_ (zd_ _))) fun args objs p v e=>?_
 unfold jr_ at e
 split at e
 ·rename_i c f h x v m
  cases e
  refine ⟨rfl,fun hw ho hp=>?_⟩
  change List Int at v
  change List Int at m
  repeat'(intro t ht;first|(cases t<;>first|(cases ht;done)|(try simp only[zh_]at ht))|((first|refine za_ ht ?_|refine ht ?_ ?_|refine ht.1 ?_ ?_|refine ht ?_)<;>clear ht))
  all_goals first
   | exact hp
   | (have hr:zG_ c f h x v m=true:=by assumption
      have hl:=Kz_ hr
      have hof:=V3_ c f
      have hm:(m.length:Int)<=100:=by cases h;have:=hl.2.2.1 rfl;omega;have:=hl.2.1 rfl;omega
      have hrest:0<=z1_ c v m/\z1_ c v m<=204:=by unfold z1_;split<;>omega
      first
       | ((try simp only [zk_,zl_,zi_] at*);omega)
       | (unfold qR_;rw [if_pos hr];exact ⟨rfl,rfl⟩))
   | (have hr:zG_ c f h x v m=false:=by assumption
      unfold qR_;rw [hr];exact ⟨rfl,rfl⟩)
 ·cases e
theorem br_ {n:Int} (h:0<=n) (h1:n<=1000000):XI_ n=n:=by unfold XI_;rw [if_neg (by omega)];split<;>omega
def bK_ (c f:Int) (h:Bool) (v m:List Int):List Int:=zf_ c 2++zf_ (2*f+if h=true then 1 else 0) 1++zf_ (z1_ c v m) 1
def Zf_ (c f:Int) (h:Bool) (x:Int) (v m:List Int):List Int:=bK_ c f h v m++(if c=65535 then zf_ x 4 else [])++v++m
theorem zdh_ {a b c:Int} (ha:0<=a/\a<=65535) (hb:0<=b/\b<=255) (hc:0<=c/\c<=255):qK_ [2,1,1] [a,b,c]=zf_ a 2++zf_ b 1++zf_ c 1/\kb_ [2,1,1] [a,b,c]=true:=by
 have e1:a.fdiv (2 ^ 16)=0:=by rw [Int.fdiv_eq_ediv_of_nonneg _ (by decide)];omega
 have e2:b.fdiv (2 ^ 8)=0:=by rw [Int.fdiv_eq_ediv_of_nonneg _ (by decide)];omega
 have e3:c.fdiv (2 ^ 8)=0:=by rw [Int.fdiv_eq_ediv_of_nonneg _ (by decide)];omega
 have h:KA_ [2,1,1] [a,b,c]=some (zf_ a 2++zf_ b 1++zf_ c 1):=by
  unfold KA_
  rw [if_pos ⟨by decide,show zY_ [2,1,1]=3 by decide⟩]
  show (if (2:Int) < 8/\a.fdiv (2 ^ 16) ≠ 0 then none else qL_ [1,1] [b,c] ([]++zf_ a 2))=_
  rw [if_neg (fun h=>h.2 e1)]
  show (if (1:Int) < 8/\b.fdiv (2 ^ 8) ≠ 0 then none else qL_ [1] [c] ([]++zf_ a 2++zf_ b 1))=_
  rw [if_neg (fun h=>h.2 e2)]
  show (if (1:Int) < 8/\c.fdiv (2 ^ 8) ≠ 0 then none else qL_ [] [] ([]++zf_ a 2++zf_ b 1++zf_ c 1))=_
  rw [if_neg (fun h=>h.2 e3)]
  simp [qL_]
 unfold qK_ kb_;rw [h];exact ⟨rfl,rfl⟩
theorem put4 {a:Int} (ha:0<=a/\a<=4294967295):qK_ [4] [a]=zf_ a 4/\kb_ [4] [a]=true:=by
 have e1:a.fdiv (2 ^ 32)=0:=by rw [Int.fdiv_eq_ediv_of_nonneg _ (by decide)];omega
 have h:KA_ [4] [a]=some (zf_ a 4):=by
  unfold KA_
  rw [if_pos ⟨by decide,show zY_ [4]=1 by decide⟩]
  show (if (4:Int) < 8/\a.fdiv (2 ^ 32) ≠ 0 then none else qL_ [] [] ([]++zf_ a 4))=_
  rw [if_neg (fun h=>h.2 e1)]
  simp [qL_]
 unfold qK_ kb_;rw [h];exact ⟨rfl,rfl⟩
theorem wA_ {x l:List Int} {room:Int} (h:(x.length:Int)<=room - l.length):ji_ x l room 0=l++x/\wS_ x l room 0=0:=by
 unfold ji_ wS_ KH_;rw [decide_eq_true h];simp;omega
theorem zb0_ {a b c room:Int} (ha:0<=a/\a<=65535) (hb:0<=b/\b<=255) (hc:0<=c/\c<=255) (hr:4<=room):vI_ [2,1,1] [a,b,c] [] room 0=zf_ a 2++zf_ b 1++zf_ c 1/\vH_ [2,1,1] [a,b,c] [] room 0=0:=by
 obtain ⟨h1,h2⟩:=zdh_ ha hb hc
 have l1:=zo_ (n:=a) (w:=2) (by decide)
 have l2:=zo_ (n:=b) (w:=1) (by decide)
 have l3:=zo_ (n:=c) (w:=1) (by decide)
 have:=wA_ (x:=zf_ a 2++zf_ b 1++zf_ c 1) (l:=[]) (room:=room) (by simp only [List.length_append,List.length_nil];omega)
 unfold vI_ vH_;rw [h1,h2];exact this
theorem nm4 {x room:Int} {l:List Int} (hx:0<=x/\x<=4294967295) (hr:4<=room - l.length):nmB 4 x l room 0=l++zf_ x 4/\nmE 4 x l room 0=0:=by
 obtain ⟨h1,h2⟩:=put4 hx
 have l1:=zo_ (n:=x) (w:=4) (by decide)
 have:=wA_ (x:=zf_ x 4) (l:=l) (room:=room) (by omega)
 have hw:Ku_ 4=true:=by decide
 unfold nmB nmE vI_ vH_;rw [hw,h1,h2];exact this
def Vq_:IR:=
(sq (kr [0] [oD 1 (.boxv 0),
oD 2 (.mov (.c (.imm (.int .u8) []))),
oD 3 (.mov (cI 0))])
(sq (sq (.reg [oK 6 6 1,
oC 7 83 [6],
oD 8 (.un .not 7)])
(.cond 8
(sq (kr [] [oD 2 (.mov (.c (.imm (.int .u8) []))),
oD 3 (.mov (cI 10001))])
.ret)
.skip))
(sq (kr [1] [oK 9 6 1,
oC 10 57 [9],
oC 11 11 [10],
oM 4 11])
(sq (kr [1,4] [oA 12 1 1,
oL 13 12,
oB 14 .mul (cI 2) 13,
oD 15 (.conv .u64 14),
oM 5 15])
(sq (sq (.reg [oA 16 2 1,
oL 17 16])
(.cond 17
(kr [1,4,5] [oM 18 5,
oB 19 .add 18 (.c (.int .u64 1)),
oM 5 19])
.skip))
(sq (kd [1,4,5] [(oM 20 4,[]),
(oD 21 (.sliceAll (.int .i64) 3 [(0,1,(cI 2)),(1,1,(cI 1)),(2,1,(cI 1))]),[0]),
(oA 22 0 1,[0,0]),
(oL 23 22,[1,0]),
(oD 24 (.conv .u64 23),[2,0]),
(oM 25 5,[0,0,0,0,0]),
(oK 26 6 1,[0,0,0,0,0,0]),
(oC 27 84 [26],[1,0,0,0,0,0]),
(oD 28 (.conv .u64 27),[2,0,0,0,0,0]),
(oD 29 (.sliceAll (.int .u64) 3 [(0,1,24),(1,1,25),(2,1,28)]),[7,0]),
(oC 30 52 [20,21,29],[])])
(sq (sq (kr [1,4] [oA 31 0 1,
oL 32 31,
oB 33 .eql 32 (cI 65535)])
(.cond 33
(.reg [oM 34 4,
oA 35 3 1,
oL 36 35,
oC 37 85 [34,(cI 4),36]])
.skip))
(sq (kr [1,4] [oM 38 4,
oA 39 4 1,
oL 40 39,
oC 41 12 [38,40]])
(sq (.reg [oM 42 4,
oA 43 5 1,
oL 44 43,
oC 45 12 [42,44]])
(sq (kr [4] [oM 46 4,
oC 47 14 [46],
oX 48 47 0,
oX 49 47 1,
oM 2 48,
oM 3 49])
.ret))))))))))
def vO_:List RD:=[.tmp 2 true (some (.int .u8)),.tmp 3 true none]
theorem v7_:zn_ Tryz.prog Tryz.f53 Vq_ vO_=true:=by kernel_rfl
def jt_:List AV->List Obj->Option (Prop × AV)
 | [.agg [.int .i64 c,.int .i64 f,.bool h,.int .u64 x,.imm (.int .u8) v,.imm (.int .u8) m]],[]=>some ((v.length<=1000000/\m.length<=1000000,.tup [.imm (.int .u8) (if zG_ c f h x v m=true then Zf_ c f h x v m else []),.int .i64 (if zG_ c f h x v m=true then 0 else 10001)]))
 | _,_=>none
theorem yS_:ze_ Tryz.prog 53 (RoF jt_).sum:=by
 refine zm_ Tryz.func53 v7_ (zb_ (s:=RoF Q7_) Kj_ (zb_ (s:=RoF jr_) WS_ (zb_ (s:=RwF Qp_) kM_ (zb_ (s:=RoF jq_) WR_ (zb_ (s:=RwF Zv_) qd_ (zb_ (s:=RwF qP_) jL_ (zb_ (s:=RwF zK_) z0_ (zb_ (s:=RwF Zo_) Z0_ (zd_ _))))))))) fun args objs p v e=>?_
 unfold jt_ at e
 split at e
 ·rename_i c f h x v m
  cases e
  refine ⟨rfl,fun hw ho hp=>?_⟩
  change List Int at v
  change List Int at m
  cases hr:zG_ c f h x v m with
  | false=>
    repeat'(intro t ht;first|(cases t<;>first|(cases ht;done)|(try simp only[zh_]at ht))|((first|refine za_ ht ?_|refine ht ?_ ?_|refine ht.1 ?_ ?_|refine ht ?_)<;>clear ht))
    all_goals first
     | exact hp
     | (exfalso;simp_all;done)
     | exact ⟨rfl,rfl⟩
  | true=>
    have hl:=Kz_ hr
    have hof:=V3_ c f
    have hm:(m.length:Int)<=100:=by cases h;have:=hl.2.2.1 rfl;omega;have:=hl.2.1 rfl;omega
    have hrest:0<=z1_ c v m/\z1_ c v m<=204:=by unfold z1_;split<;>omega
    have hcf:0<=f/\f<=127/\(c=65535\/c=32768):=by
     have h4:=hl.2.2.2.1
     unfold q0_ at h4
     split at h4
     ·simp at h4;omega
     ·simp at h4;have:=Z7_.1 h4.1;omega
    have hs:qR_ c f h x v m=4+z1_ c v m:=by unfold qR_;rw [if_pos hr]
    have hroom:XI_ (qR_ c f h x v m)=4+z1_ c v m:=by rw [hs];exact br_ (by omega) (by omega)
    have hx0:0<=x:=((hw _ (List.mem_cons_self ..)) (.int .u64 x) (by simp)).1
    have hx1:x<=4294967295:=by
     have h7:x.fdiv (2 ^ 32)=0:=hl.2.2.2.2.2.2.1
     rw [Int.fdiv_eq_ediv_of_nonneg _ (by decide)] at h7;omega
    obtain ⟨N,hN⟩:∃ N,N=2*f+if h=true then 1 else 0:=⟨_,rfl⟩
    have hN1:0<=N/\N<=255:=by rw [hN];split<;>omega
    obtain ⟨R,hR⟩:∃ R,R=z1_ c v m:=⟨_,rfl⟩
    have hR1:0<=R/\R<=204:=by omega
    obtain ⟨H1,H2⟩:=zb0_ (a:=c) (b:=N) (c:=R) (room:=4+R) (by omega) (by omega) (by omega) (by omega)
    have l0:((zf_ c 2++zf_ N 1++zf_ R 1).length:Int)=4:=by
     have l1:=zo_ (n:=c) (w:=2) (by decide)
     have l2:=zo_ (n:=N) (w:=1) (by decide)
     have l3:=zo_ (n:=R) (w:=1) (by decide)
     simp only [List.length_append];omega
    have l4:=zo_ (n:=x) (w:=4) (by decide)
    have hd0:XT_=XT_:=rfl
    have e0:∀ l,XT_ l [] 0=l:=fun l=>rfl
    have e1:Y5_ [] 0=0:=rfl
    rw [<- hR] at hroom
    by_cases hc:c=65535
    ·have hRe:R=(v.length:Int)+m.length+4:=by rw [hR];unfold z1_;rw [if_pos hc]
     obtain ⟨H3,H4⟩:=nm4 (x:=x) (room:=4+R) (l:=zf_ c 2++zf_ N 1++zf_ R 1) ⟨hx0,hx1⟩ (by omega)
     obtain ⟨H5,H6⟩:=wA_ (x:=v) (room:=4+R) (l:=zf_ c 2++zf_ N 1++zf_ R 1++zf_ x 4) (by rw [List.length_append];omega)
     obtain ⟨H7,H8⟩:=wA_ (x:=m) (room:=4+R) (l:=zf_ c 2++zf_ N 1++zf_ R 1++zf_ x 4++v) (by rw [List.length_append,List.length_append];omega)
     have hfin:Zf_ c f h x v m=zf_ c 2++zf_ N 1++zf_ R 1++zf_ x 4++v++m:=by unfold Zf_ bK_;rw [<- hN,<- hR,if_pos hc]
     rw [hfin]
     cases h
     all_goals (simp only [if_true,if_false,Bool.false_eq_true,Int.add_zero] at hN)
     all_goals repeat'(intro t ht;first|(cases t<;>first|(cases ht;done)|(try simp only[zh_]at ht))|((first|refine za_ ht ?_|refine ht ?_ ?_|refine ht.1 ?_ ?_|refine ht ?_)<;>clear ht))
     all_goals (try simp only [<- hN,<- hR])
     all_goals first
      | exact True.intro
      | exact hp
      | (exfalso;simp_all;done)
      | ((try simp only [zk_,zl_,zi_] at*);omega)
      | (simp only [hroom,H1,H2,H3,H4,H5,H6,H7,H8];simp only [List.length_append,List.length_nil] at l0 ⊢;omega)
      | (refine ⟨?_,?_⟩<;>first | rfl | (simp only [hroom,H1,H2,H3,H4,H5,H6,H7,H8,e0,e1];done) | (simp only [hroom,H1,H2,H3,H4,H5,H6,H7,H8,e0,e1];rfl))
    ·have hRe:R=(v.length:Int)+m.length:=by rw [hR];unfold z1_;rw [if_neg hc]
     obtain ⟨H5,H6⟩:=wA_ (x:=v) (room:=4+R) (l:=zf_ c 2++zf_ N 1++zf_ R 1) (by omega)
     obtain ⟨H7,H8⟩:=wA_ (x:=m) (room:=4+R) (l:=zf_ c 2++zf_ N 1++zf_ R 1++v) (by rw [List.length_append];omega)
     have hfin:Zf_ c f h x v m=zf_ c 2++zf_ N 1++zf_ R 1++v++m:=by unfold Zf_ bK_;rw [<- hN,<- hR,if_neg hc,List.append_nil]
     rw [hfin]
     cases h
     all_goals (simp only [if_true,if_false,Bool.false_eq_true,Int.add_zero] at hN)
     all_goals repeat'(intro t ht;first|(cases t<;>first|(cases ht;done)|(try simp only[zh_]at ht))|((first|refine za_ ht ?_|refine ht ?_ ?_|refine ht.1 ?_ ?_|refine ht ?_)<;>clear ht))
     all_goals (try simp only [<- hN,<- hR])
     all_goals first
      | exact True.intro
      | exact hp
      | (exfalso;simp_all;done)
      | ((try simp only [zk_,zl_,zi_] at*);omega)
      | (simp only [hroom,H1,H2,H5,H6,H7,H8];simp only [List.length_append,List.length_nil] at l0 ⊢;omega)
      | (refine ⟨?_,?_⟩<;>first | rfl | (simp only [hroom,H1,H2,H5,H6,H7,H8,e0,e1];done) | (simp only [hroom,H1,H2,H5,H6,H7,H8,e0,e1];rfl))
 ·cases e
def xg_ (h ex:Bool) (sz n:Int):Int:=if ex=true then (n - 4).tdiv (if h=true then 2 else 1) else sz
def JL_ (h ex:Bool) (sz n:Int):Bool:=if ex=true then decide (0<=n - 4) && decide ((n - 4).tmod (if h=true then 2 else 1)=0) && decide ((n - 4).tdiv (if h=true then 2 else 1)<=sz) else decide (n=(if h=true then 2 else 1)*sz)
def GZ_:IR:=
(sq (kr [0,1,2] [oD 3 (.boxv 0),
oD 4 (.boxv 1),
oD 6 (.mov (cI 0)),
oD 7 (.mov cF)])
(sq (.reg [oD 8 (.mov (cI 1))])
(sq (sq (.reg [oA 9 2 3,
oL 10 9])
(.cond 10
(kr [2,4,8] [oM 11 8,
oB 12 .add 11 (cI 1),
oM 8 12])
.skip))
(sq (sq (kr [2,4,8] [oA 13 3 4,
oL 14 13,
oD 15 (.un .not 14)])
(.cond 15
(sq (kd [2,4,8] [(oA 16 0 4,[]),
(oL 17 16,[]),
(oM 18 2,[0,0]),
(oM 19 8,[0,0,0]),
(oA 20 0 4,[0,0,0,0]),
(oL 21 20,[1,0,0,0]),
(oB 22 .mul 19 21,[3,0,0]),
(oB 23 .eql 18 22,[5,0]),
(oM 6 17,[0,0,0,0,0,0]),
(oM 7 23,[])])
.ret)
.skip))
(sq (kr [2,4,8] [oM 24 2,
oB 25 .sub 24 (cI 4),
oM 2 25])
(sq (kd [2,4,8] [(oM 26 2,[]),
(oM 27 8,[0]),
(oB 28 .quo 26 27,[]),
(oM 29 2,[0,0,0]),
(oB 30 .geq 29 (cI 0),[1,0,0]),
(oM 31 30,[2,0,0]),
(oT 31 32 (.mov 2),[3,0,0]),
(oT 31 33 (.mov 8),[0,3,0,0]),
(oT 31 34 (.bin .rem 32 33),[5,0,0]),
(oT 31 35 (.bin .eql 34 (cI 0)),[6,0,0]),
(oP 36 31 35 cF,[7,0,0]),
(oM 37 36,[8,0,0]),
(oT 37 38 (.mov 2),[9,0,0]),
(oT 37 39 (.mov 8),[0,9,0,0]),
(oT 37 40 (.bin .quo 38 39),[11,0,0]),
(oT 37 41 (.fieldAddr 0 4),[0,0,0,9,0,0]),
(oT 37 42 (.load none 41),[1,0,0,9,0,0]),
(oT 37 43 (.bin .leq 40 42),[14,0,0]),
(oP 44 37 43 cF,[15,0,0]),
(oM 6 28,[0,0,0,0,0,0,0]),
(oM 7 44,[])])
.ret))))))
def g6_:List RD:=[.tmp 6 true none,.tmp 7 true none]
theorem Gs_:zn_ Tryz.prog Tryz.f144 GZ_ g6_=true:=by kernel_rfl
def WE_:List AV->List Obj->Option (Prop × AV)
 | [.agg [.int .i64 c,.int .i64 f,.bool h,.int .u64 x,.imm (.int .u8) v,.imm (.int .u8) m],.agg [.int .i64 sz,.int .i64 bits,.bool mk,.bool ex],.int .i64 n],[]=>some ((0<=n/\n<=255/\0<=sz/\sz<=100,.tup [.int .i64 (xg_ h ex sz n),.bool (JL_ h ex sz n)]))
 | _,_=>none
theorem uS_:ze_ Tryz.prog 144 (RoF WE_).sum:=by
 refine zm_ Tryz.func144 Gs_ (zd_ _) fun args objs p v e=>?_
 unfold WE_ at e
 split at e
 ·rename_i c f h x v m sz bits mk ex n
  cases e
  refine ⟨rfl,fun hw ho hp=>?_⟩
  change List Int at v
  change List Int at m
  have t1:(n - 4).tdiv 1=n - 4:=Int.tdiv_one _
  have t2:-4<=(n - 4).tdiv 2/\(n - 4).tdiv 2<=255:=by
   by_cases h:0<=n - 4
   ·rw [Zw_ h];omega
   ·have:n=0\/n=1\/n=2\/n=3:=by omega
    rcases this with h | h | h | h<;>subst h<;>decide
  have e2:(1+1:Int)=2:=rfl
  cases h<;>cases ex
  all_goals repeat'(intro t ht;first|(cases t<;>first|(cases ht;done)|(try simp only[zh_]at ht))|((first|refine za_ ht ?_|refine ht ?_ ?_|refine ht.1 ?_ ?_|refine ht ?_)<;>clear ht))
  all_goals (try simp only [e2] at*)
  all_goals first
   | exact True.intro
   | exact (by decide)
   | ((try simp only [zk_,zl_,zi_] at*);simp only [t1];omega)
   | ((try simp only [zk_,zl_,zi_] at*);omega)
   | (have hn:¬ 0<=n - 4:=by assumption
      refine ⟨?_,by first | rfl | exact True.intro⟩;unfold JL_;rw [decide_eq_false hn];rfl)
   | (unfold xg_ JL_;simp_all;done)
 ·cases e
end Go.Eng
