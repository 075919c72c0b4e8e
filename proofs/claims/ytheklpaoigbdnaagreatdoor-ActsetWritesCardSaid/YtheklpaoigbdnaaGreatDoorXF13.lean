/- Parts of the proof: O2, O9, O5, O7, OA, OE, OI, M1, OG. No condition. -/
import Derived.Test.YtheklpaoigbdnaaGreatDoorProg
import Derived.Test.YtheklpaoigbdnaaGreatDoorXF11
import Derived.KernelRfl
import Derived.Test.YtheklpaoigbdnaaGreatDoorXF12
namespace Go.Eng
open Go.Proofs
set_option linter.unusedVariables false
set_option linter.unusedSimpArgs false
set_option maxRecDepth 100000
set_option maxHeartbeats 1000000
structure Ox where
 c:Int
 f:Int
 has:Bool
 x:Int
 v:List Int
 m:List Int
def vL_:IR:=
(sq (kr [0] [oD 2 (.mov cF)])
(sq (kr [0] [oM 3 0,
oC 4 94 [3,(.c (.str [0]))],
oE 5 4,
oB 6 .eql 5 (cI 0),
oM 2 6])
.ret))
def YP_:List RD:=[.tmp 2 true none]
theorem vg_:zl_ Tryz.prog Tryz.f82 vL_ YP_=true:=by kernel_rfl
def KN_:List AV->List Obj->Option (Prop × AV)
 | [.imm (.int .u8) b],[]=>some ((b.length<=140737488355328,.bool (jl_ b)))
 | _,_=>none
theorem XB_:zf_ Tryz.prog 82 (RoF KN_).sum:=by
 refine zi_ Tryz.func82 vg_ (zc_ (s:=RoF k1_) W0_ (ze_ _)) fun args objs p v e=>?_
 unfold KN_ at e
 split at e
 ·rename_i b
  cases e
  refine ⟨rfl,fun hw ho hp=>?_⟩
  change List Int at b
  have h:=gX_ b
  repeat'(intro t ht;first|(cases t<;>first|(cases ht;done)|(try simp only[zh_]at ht))|((first|refine za_ ht ?_|refine ht ?_ ?_|refine ht.1 ?_ ?_|refine ht ?_)<;>clear ht))
  all_goals first
   | exact hp
   | (refine ⟨?_,rfl⟩;rw [<- h];congr 1;rw [Bool.eq_iff_iff];simp only [decide_eq_true_eq];omega)
 ·cases e
def YW_ (s:Int):Int:=if 0 < s then (255:Int).fdiv (2 ^ (min (if 8 < s then 8 else s).toNat 8)) else 255
def q4_:List Int->Int->Bool
 | [],_=>true
 | x :: r,s=>if x=YW_ s then q4_ r (s - 8) else false
def wS_ (b:List Int) (bits:Int):Bool:=q4_ b (b.length*8 - bits)
def uq_:IR:=
(sq (kr [0,1] [oD 4 (.mov cF)])
(sq (.reg [oM 10 0,
oE 11 10,
oB 12 .mul 11 (cI 8),
oM 5 12])
(sq (sq (.reg [oM 13 0,
oE 14 13,
oD 15 (.mov (cI 0))])
(.block 0
(.loop
(sq (kr [1,5,13,14,15] [oB 16 .lss 15 14])
(sq (.cond 16
.skip
(.exit 0))
(sq (.block 1
(sq (kr [1,5,13,14,15] [oM 17 15,
oI 18 1 13 15,
oL 19 18,
oM 6 17,
oM 7 19])
(sq (.reg [oD 8 (.mov (.c (.int .u8 255)))])
(sq (sq (kr [1,5,6,7,8,13,14,15] [oM 20 5,
oM 21 6,
oB 22 .mul 21 (cI 8),
oB 23 .sub 20 22,
oM 24 1,
oB 25 .sub 23 24,
oM 9 25])
(sq (kr [1,5,7,8,9,13,14,15] [oM 26 9,
oB 27 .gtr 26 (cI 0)])
(.cond 27
(kr [1,5,7,8,9,13,14,15] [oM 28 8,
oM 29 9,
oD 30 (.minmax false 29 (cI 8)),
oB 31 .shr 28 30,
oM 8 31])
.skip)))
(sq (.reg [oM 32 7,
oM 33 8,
oB 34 .neq 32 33])
(.cond 34
(sq (kr [] [oD 4 (.mov cF)])
.ret)
.skip))))))
(kr [1,5,13,14,15] [oB 35 .add 15 (cI 1),
oM 15 35])))))))
(sq (kr [] [oD 4 (.mov cT)])
.ret))))
def VD_:List RD:=[.tmp 4 true none]
theorem VW_:zl_ Tryz.prog Tryz.f83 uq_ VD_=true:=by kernel_rfl
def j0_:List AV->List Obj->Option (Prop × AV)
 | [.imm (.int .u8) b,.int .i64 n],[]=>some ((0<=n/\n<=1000000/\b.length<=1000000,.bool (wS_ b n)))
 | _,_=>none
theorem Yl_:zf_ Tryz.prog 83 (RoF j0_).sum:=by
 refine zi_ Tryz.func83 VW_ (ze_ _) fun args objs p v e=>?_
 unfold j0_ at e
 split at e
 ·rename_i b n
  cases e
  refine ⟨rfl,fun hw ho hp=>?_⟩
  change List Int at b
  repeat'(intro t ht;first|(cases t<;>first|(cases ht;done)|(try simp only[zh_]at ht))|((first|refine za_ ht ?_|refine ht ?_ ?_|refine ht.1 ?_ ?_|refine ht ?_)<;>clear ht))
  all_goals first
   | ((try simp only [zm_,zn_,zk_] at*);omega)
   | (intro r h1 h2;clear h1;refine h2 ⟨[1,5,13,14,15],Nat,(fun i=>i<=b.length/\wS_ b n=q4_ (b.drop i) (b.length*8 - i*8 - n)),fun i=>[.int .i64 n,.int .i64 (b.length*8),.imm (.int .u8) b,.int .i64 b.length,.int .i64 i],fun _=>[],fun i=>b.length - i,⟨0,⟨Nat.zero_le _,by unfold wS_;simp⟩,rfl,rfl⟩,?_⟩;clear h2)
  rintro i ⟨hi,he⟩
  repeat'(intro t ht;first|(cases t<;>first|(cases ht;done)|(try simp only[zh_]at ht))|((first|refine za_ ht ?_|refine ht ?_ ?_|refine ht.1 ?_ ?_|refine ht ?_)<;>clear ht))
  all_goals first
   | ((try simp only [zm_,zn_,zk_] at*);omega)
   | (have h0:b.drop i=[]:=List.drop_of_length_le (by omega)
      refine ⟨?_,rfl⟩;rw [he,h0];rfl)
   | ((try simp only [zm_,zn_,zk_] at*);split<;>omega)
   | (have hlt:i < b.length:=by omega
      rw [zw_ hlt 0] at he
      first
       | (have hn:¬ 0 < (b.length:Int)*8 - i*8 - n:=by assumption
          have ho:YW_ ((b.length:Int)*8 - i*8 - n)=255:=if_neg hn
          first
           | (have hx:b.getD i 0=255:=by assumption
              have h1:q4_ (b.getD i 0 :: b.drop (i+1)) ((b.length:Int)*8 - i*8 - n)=q4_ (b.drop (i+1)) ((b.length:Int)*8 - i*8 - n - 8):=if_pos (hx.trans ho.symm)
              refine ⟨i+1,⟨hlt,?_⟩,by dsimp only;omega,rfl,rfl⟩
              rw [he,h1];congr 1;omega)
           | (have hx:¬ b.getD i 0=255:=by assumption
              have h1:q4_ (b.getD i 0 :: b.drop (i+1)) ((b.length:Int)*8 - i*8 - n)=false:=if_neg (fun e=>hx (e.trans ho))
              refine ⟨?_,rfl⟩;rw [he,h1]))
       | (have hn:0 < (b.length:Int)*8 - i*8 - n:=by assumption
          have ho:YW_ ((b.length:Int)*8 - i*8 - n)=(255:Int).fdiv (2 ^ (min (if 8 < (b.length:Int)*8 - i*8 - n then 8 else (b.length:Int)*8 - i*8 - n).toNat 8)):=if_pos hn
          first
           | (have hx:b.getD i 0=(255:Int).fdiv (2 ^ (min (if 8 < (b.length:Int)*8 - i*8 - n then 8 else (b.length:Int)*8 - i*8 - n).toNat 8)):=by assumption
              have h1:q4_ (b.getD i 0 :: b.drop (i+1)) ((b.length:Int)*8 - i*8 - n)=q4_ (b.drop (i+1)) ((b.length:Int)*8 - i*8 - n - 8):=if_pos (hx.trans ho.symm)
              refine ⟨i+1,⟨hlt,?_⟩,by dsimp only;omega,rfl,rfl⟩
              rw [he,h1];congr 1;omega)
           | (have hx:¬ b.getD i 0=(255:Int).fdiv (2 ^ (min (if 8 < (b.length:Int)*8 - i*8 - n then 8 else (b.length:Int)*8 - i*8 - n).toNat 8)):=by assumption
              have h1:q4_ (b.getD i 0 :: b.drop (i+1)) ((b.length:Int)*8 - i*8 - n)=false:=if_neg (fun e=>hx (e.trans ho))
              refine ⟨?_,rfl⟩;rw [he,h1])))
 ·cases e
def wc_:List Int->List Int->Bool
 | x :: r,y :: l=>if Zc_ .andNot .u8 x y=0 then wc_ r l else true
 | _,_=>false
def xE_:IR:=
(sq (kr [0,1] [oD 4 (.mov cF)])
(sq (sq (.reg [oM 7 0,
oE 8 7,
oD 9 (.mov (cI 0))])
(.block 0
(.loop
(sq (kr [1,7,8,9] [oB 10 .lss 9 8])
(sq (.cond 10
.skip
(.exit 0))
(sq (.block 1
(sq (kr [1,7,8,9] [oM 11 9,
oI 12 1 7 9,
oL 13 12,
oM 5 11,
oM 6 13])
(sq (kr [1,5,6,7,8,9] [oM 14 6,
oM 15 1,
oM 16 5,
oI 17 1 15 16,
oL 18 17,
oB 19 .andNot 14 18,
oB 20 .neq 19 (.c (.int .u8 0))])
(.cond 20
(sq (kr [] [oD 4 (.mov cT)])
.ret)
.skip))))
(kr [1,7,8,9] [oB 21 .add 9 (cI 1),
oM 9 21])))))))
(sq (kr [] [oD 4 (.mov cF)])
.ret)))
def W6_:List RD:=[.tmp 4 true none]
theorem xn_:zl_ Tryz.prog Tryz.f84 xE_ W6_=true:=by kernel_rfl
def Q7_:List AV->List Obj->Option (Prop × AV)
 | [.imm (.int .u8) v,.imm (.int .u8) m],[]=>some ((v.length<=m.length,.bool (wc_ v m)))
 | _,_=>none
theorem w8_:zf_ Tryz.prog 84 (RoF Q7_).sum:=by
 refine zi_ Tryz.func84 xn_ (ze_ _) fun args objs p v e=>?_
 unfold Q7_ at e
 split at e
 ·rename_i v m
  cases e
  refine ⟨rfl,fun hw ho hp=>?_⟩
  change List Int at v
  change List Int at m
  have hl:m.length<=maxLen:=(hw (.imm (.int .u8) m) (by simp)).2
  unfold maxLen at hl
  repeat'(intro t ht;first|(cases t<;>first|(cases ht;done)|(try simp only[zh_]at ht))|((first|refine za_ ht ?_|refine ht ?_ ?_|refine ht.1 ?_ ?_|refine ht ?_)<;>clear ht))
  all_goals first
   | (intro r h1 h2;clear h1;refine h2 ⟨[1,7,8,9],Nat,(fun i=>i<=v.length/\wc_ v m=wc_ (v.drop i) (m.drop i)),fun i=>[.imm (.int .u8) m,.imm (.int .u8) v,.int .i64 v.length,.int .i64 i],fun _=>[],fun i=>v.length - i,⟨0,⟨Nat.zero_le _,rfl⟩,rfl,rfl⟩,?_⟩;clear h2)
  rintro i ⟨hi,he⟩
  repeat'(intro t ht;first|(cases t<;>first|(cases ht;done)|(try simp only[zh_]at ht))|((first|refine za_ ht ?_|refine ht ?_ ?_|refine ht.1 ?_ ?_|refine ht ?_)<;>clear ht))
  all_goals first
   | ((try simp only [zm_,zn_,zk_] at*);omega)
   | (have h0:v.drop i=[]:=List.drop_of_length_le (by omega)
      refine ⟨?_,rfl⟩;rw [he,h0];rfl)
   | (have hlt:i < v.length:=by omega
      have hlm:i < m.length:=by omega
      rw [zw_ hlt 0,zw_ hlm 0] at he
      first
       | (have hx:Zc_ .andNot .u8 (v.getD i 0) (m.getD i 0)=0:=by assumption
          have h1:wc_ (v.getD i 0 :: v.drop (i+1)) (m.getD i 0 :: m.drop (i+1))=wc_ (v.drop (i+1)) (m.drop (i+1)):=if_pos hx
          exact ⟨i+1,⟨hlt,by rw [he,h1]⟩,by dsimp only;omega,rfl,rfl⟩)
       | (have hx:¬ Zc_ .andNot .u8 (v.getD i 0) (m.getD i 0)=0:=by assumption
          have h1:wc_ (v.getD i 0 :: v.drop (i+1)) (m.getD i 0 :: m.drop (i+1))=true:=if_neg hx
          refine ⟨?_,rfl⟩;rw [he,h1]))
 ·cases e
def vC_:IR:=
(sq (kr [0] [oD 2 (.mov cF)])
(sq (sq (.reg [oD 3 (.mov (cI 0))])
(.block 0
(.loop
(sq (sq (kr [0,3] [oM 4 3,
oM 5 0,
oE 6 5,
oB 7 .lss 4 6])
(.cond 7
.skip
(.exit 0)))
(sq (.block 1
(sq (kr [0,3] [oM 10 0,
oM 11 3,
oI 12 1 10 11,
oL 13 12,
oB 14 .neq 13 (.c (.int .u8 0))])
(.cond 14
(sq (.reg [oD 2 (.mov cF)])
.ret)
.skip)))
(kr [0,3] [oM 8 3,
oB 9 .add 8 (cI 1),
oM 3 9]))))))
(sq (kr [] [oD 2 (.mov cT)])
.ret)))
def YG_:List RD:=[.tmp 2 true none]
theorem Y7_:zl_ Tryz.prog Tryz.f87 vC_ YG_=true:=by kernel_rfl
def KH_:List AV->List Obj->Option (Prop × AV)
 | [.imm (.int .u8) b],[]=>some ((True,.bool (jl_ b)))
 | _,_=>none
theorem Xv_:zf_ Tryz.prog 87 (RoF KH_).sum:=by
 refine zi_ Tryz.func87 Y7_ (ze_ _) fun args objs p v e=>?_
 unfold KH_ at e
 split at e
 ·rename_i b
  cases e
  refine ⟨rfl,fun hw ho hp=>?_⟩
  change List Int at b
  have hl:b.length<=maxLen:=(hw (.imm (.int .u8) b) (by simp)).2
  unfold maxLen at hl
  repeat'(intro t ht;first|(cases t<;>first|(cases ht;done)|(try simp only[zh_]at ht))|((first|refine za_ ht ?_|refine ht ?_ ?_|refine ht.1 ?_ ?_|refine ht ?_)<;>clear ht))
  all_goals first
   | (intro r h1 h2;clear h1;refine h2 ⟨[0,3],Nat,(fun i=>i<=b.length/\jl_ b=jl_ (b.drop i)),fun i=>[.imm (.int .u8) b,.int .i64 i],fun _=>[],fun i=>b.length - i,⟨0,⟨Nat.zero_le _,rfl⟩,rfl,rfl⟩,?_⟩;clear h2)
  rintro i ⟨hi,he⟩
  repeat'(intro t ht;first|(cases t<;>first|(cases ht;done)|(try simp only[zh_]at ht))|((first|refine za_ ht ?_|refine ht ?_ ?_|refine ht.1 ?_ ?_|refine ht ?_)<;>clear ht))
  all_goals first
   | ((try simp only [zm_,zn_,zk_] at*);omega)
   | (have hge:b.length<=i:=by omega
      refine ⟨?_,rfl⟩;rw [he,List.drop_of_length_le hge];rfl)
   | (have hlt:i < b.length:=by omega
      rw [zw_ hlt 0] at he
      unfold jl_ at he
      rw [List.all_cons] at he
      first
       | (have hk:decide (b.getD i 0=0)=false:=decide_eq_false (by assumption)
          refine ⟨?_,rfl⟩;unfold jl_;rw [he,hk];rfl)
       | (have hk:decide (b.getD i 0=0)=true:=decide_eq_true (by assumption)
          rw [hk,Bool.true_and] at he
          exact ⟨i+1,⟨hlt,he⟩,by (try simp only [zm_,zn_,zk_] at*);omega,rfl,rfl⟩))
 ·cases e
def inA:List Int->List Int->Bool
 | x :: r,y :: l=>if Zc_ .and .u8 x y=x then inA r l else false
 | _,_=>true
def X4_:IR:=
(sq (kr [0,1] [oD 4 (.mov cF)])
(sq (sq (.reg [oD 5 (.mov (cI 0))])
(.block 0
(.loop
(sq (sq (kr [0,1,5] [oM 6 5,
oM 7 0,
oE 8 7,
oB 9 .lss 6 8])
(.cond 9
.skip
(.exit 0)))
(sq (.block 1
(sq (kd [0,1,5] [(oM 12 0,[]),
(oM 13 5,[0]),
(oI 14 1 12 13,[]),
(oL 15 14,[]),
(oM 16 1,[0,0,0,0]),
(oM 17 5,[0,0,0,0,0]),
(oI 18 1 16 17,[2,0,0,0]),
(oL 19 18,[3,0,0,0]),
(oB 20 .and 15 19,[]),
(oM 21 0,[0,0,0,0,0,0,0,0,0]),
(oM 22 5,[0,0,0,0,0,0,0,0,0,0]),
(oI 23 1 21 22,[2,0,0,0,0,0,0,0,0]),
(oL 24 23,[3,0,0,0,0,0,0,0,0]),
(oB 25 .neq 20 24,[])])
(.cond 25
(sq (kr [] [oD 4 (.mov cF)])
.ret)
.skip)))
(kr [0,1,5] [oM 10 5,
oB 11 .add 10 (cI 1),
oM 5 11]))))))
(sq (kr [] [oD 4 (.mov cT)])
.ret)))
def XG_:List RD:=[.tmp 4 true none]
theorem XS_:zl_ Tryz.prog Tryz.f89 X4_ XG_=true:=by kernel_rfl
def kV_:List AV->List Obj->Option (Prop × AV)
 | [.imm (.int .u8) v,.imm (.int .u8) m],[]=>some ((v.length<=m.length,.bool (inA v m)))
 | _,_=>none
theorem WV_:zf_ Tryz.prog 89 (RoF kV_).sum:=by
 refine zi_ Tryz.func89 XS_ (ze_ _) fun args objs p v e=>?_
 unfold kV_ at e
 split at e
 ·rename_i v m
  cases e
  refine ⟨rfl,fun hw ho hp=>?_⟩
  change List Int at v
  change List Int at m
  have hl:m.length<=maxLen:=(hw (.imm (.int .u8) m) (by simp)).2
  unfold maxLen at hl
  repeat'(intro t ht;first|(cases t<;>first|(cases ht;done)|(try simp only[zh_]at ht))|((first|refine za_ ht ?_|refine ht ?_ ?_|refine ht.1 ?_ ?_|refine ht ?_)<;>clear ht))
  all_goals first
   | (intro r h1 h2;clear h1;refine h2 ⟨[0,1,5],Nat,(fun i=>i<=v.length/\inA v m=inA (v.drop i) (m.drop i)),fun i=>[.imm (.int .u8) v,.imm (.int .u8) m,.int .i64 i],fun _=>[],fun i=>v.length - i,⟨0,⟨Nat.zero_le _,rfl⟩,rfl,rfl⟩,?_⟩;clear h2)
  rintro i ⟨hi,he⟩
  repeat'(intro t ht;first|(cases t<;>first|(cases ht;done)|(try simp only[zh_]at ht))|((first|refine za_ ht ?_|refine ht ?_ ?_|refine ht.1 ?_ ?_|refine ht ?_)<;>clear ht))
  all_goals first
   | ((try simp only [zm_,zn_,zk_] at*);omega)
   | (have h0:v.drop i=[]:=List.drop_of_length_le (by omega)
      refine ⟨?_,rfl⟩;rw [he,h0];rfl)
   | (have hlt:i < v.length:=by omega
      have hlm:i < m.length:=by omega
      rw [zw_ hlt 0,zw_ hlm 0] at he
      first
       | (have hx:Zc_ .and .u8 (v.getD i 0) (m.getD i 0)=v.getD i 0:=by assumption
          have h1:inA (v.getD i 0 :: v.drop (i+1)) (m.getD i 0 :: m.drop (i+1))=inA (v.drop (i+1)) (m.drop (i+1)):=if_pos hx
          exact ⟨i+1,⟨hlt,by rw [he,h1]⟩,by dsimp only;omega,rfl,rfl⟩)
       | (have hx:¬ Zc_ .and .u8 (v.getD i 0) (m.getD i 0)=v.getD i 0:=by assumption
          have h1:inA (v.getD i 0 :: v.drop (i+1)) (m.getD i 0 :: m.drop (i+1))=false:=if_neg hx
          refine ⟨?_,rfl⟩;rw [he,h1]))
 ·cases e
def QJ_ (b:List Int):Nat->Int->Bool
 | 0,_=>true
 | f+1,i=>if Zc_ .and .u8 ((b.getD (b.length - 1 - i.tdiv 8:Int).toNat 0).fdiv (2 ^ (min (i.tmod 8).toNat 8))) 1=0 then false else QJ_ b f (i+1)
theorem jA_ {b:List Int} {f:Nat} {i:Int} (h:Zc_ .and .u8 ((b.getD (b.length - 1 - i.tdiv 8:Int).toNat 0).fdiv (2 ^ (min (i.tmod 8).toNat 8))) 1=0):QJ_ b (f+1) i=false:=if_pos h
theorem jz_ {b:List Int} {f:Nat} {i:Int} (h:¬ Zc_ .and .u8 ((b.getD (b.length - 1 - i.tdiv 8:Int).toNat 0).fdiv (2 ^ (min (i.tmod 8).toNat 8))) 1=0):QJ_ b (f+1) i=QJ_ b f (i+1):=if_neg h
def um_:IR:=
(sq (kr [0,1] [oD 4 (.mov cF)])
(sq (sq (.reg [oD 5 (.mov (cI 0))])
(.block 0
(.loop
(sq (sq (kr [0,1,5] [oM 6 5,
oM 7 1,
oB 8 .lss 6 7])
(.cond 8
.skip
(.exit 0)))
(sq (.block 1
(sq (kr [0,1,5] [oM 11 0,
oM 12 0,
oE 13 12,
oB 14 .sub 13 (cI 1),
oM 15 5,
oB 16 .quo 15 (cI 8),
oB 17 .sub 14 16,
oI 18 1 11 17,
oL 19 18,
oM 20 5,
oB 21 .rem 20 (cI 8),
oB 22 .shr 19 21,
oB 23 .and 22 (.c (.int .u8 1)),
oB 24 .eql 23 (.c (.int .u8 0))])
(.cond 24
(sq (kr [] [oD 4 (.mov cF)])
.ret)
.skip)))
(kr [0,1,5] [oM 9 5,
oB 10 .add 9 (cI 1),
oM 5 10]))))))
(sq (kr [] [oD 4 (.mov cT)])
.ret)))
def Vz_:List RD:=[.tmp 4 true none]
theorem VS_:zl_ Tryz.prog Tryz.f88 um_ Vz_=true:=by kernel_rfl
def jX_:List AV->List Obj->Option (Prop × AV)
 | [.imm (.int .u8) b,.int .i64 n],[]=>some ((0<=n/\n<=8*b.length/\b.length<=1000000,.bool (QJ_ b n.toNat 0)))
 | _,_=>none
theorem Yi_:zf_ Tryz.prog 88 (RoF jX_).sum:=by
 refine zi_ Tryz.func88 VS_ (ze_ _) fun args objs p v e=>?_
 unfold jX_ at e
 split at e
 ·rename_i b n
  cases e
  refine ⟨rfl,fun hw ho hp=>?_⟩
  change List Int at b
  repeat'(intro t ht;first|(cases t<;>first|(cases ht;done)|(try simp only[zh_]at ht))|((first|refine za_ ht ?_|refine ht ?_ ?_|refine ht.1 ?_ ?_|refine ht ?_)<;>clear ht))
  all_goals first
   | (intro r h1 h2;clear h1;refine h2 ⟨[0,1,5],Nat,(fun i=>(i:Int)<=n/\QJ_ b n.toNat 0=QJ_ b (n.toNat - i) i),fun i=>[.imm (.int .u8) b,.int .i64 n,.int .i64 i],fun _=>[],fun i=>n.toNat - i,⟨0,⟨hp.1,rfl⟩,rfl,rfl⟩,?_⟩;clear h2)
  rintro i ⟨hi,he⟩
  have htd:(i:Int).tdiv 8=i / 8:=kw_ (by omega)
  have htm:(i:Int).tmod 8=i % 8:=Ja_ (by omega)
  repeat'(intro t ht;first|(cases t<;>first|(cases ht;done)|(try simp only[zh_]at ht))|((first|refine za_ ht ?_|refine ht ?_ ?_|refine ht.1 ?_ ?_|refine ht ?_)<;>clear ht))
  all_goals first
   | exact (by decide)
   | ((try simp only [zm_,zn_,zk_] at*);omega)
   | ((try simp only [zm_,zn_,zk_] at*);simp only [htd,htm];omega)
   | (have h0:n.toNat - i=0:=by omega
      refine ⟨?_,rfl⟩;rw [he,h0];rfl)
   | (have h1:n.toNat - i=(n.toNat - (i+1))+1:=by omega
      rw [h1] at he
      first
       | (have hf:=jA_ (f:=n.toNat - (i+1)) (b:=b) (i:=i) (by assumption)
          refine ⟨?_,rfl⟩;rw [he,hf])
       | (have hf:=jz_ (f:=n.toNat - (i+1)) (b:=b) (i:=i) (by assumption)
          exact ⟨i+1,⟨by omega,by rw [he,hf];rfl⟩,by dsimp only;omega,rfl,rfl⟩))
 ·cases e
def Jz_ (c f:Int):Bool:=if c=65535 then decide (0<=f) && decide (f<=127) else fIs f && decide (c=32768)
def qb_ (c f:Int):Int:=if c=65535 then 100 else Kv_ f
def Qu_ (c f:Int):Int:=if c=65535 then 0 else qT_ f
def Qt_ (c f:Int):Bool:=if c=65535 then true else yN_ f
def Zm_ (c:Int):Bool:=decide (c=65535)
theorem fK:∀ k < 40,0<=Kv_ (k:Nat)/\Kv_ (k:Nat)<=16/\0<=qT_ (k:Nat)/\qT_ (k:Nat)<=128:=by decide+kernel
theorem BC_ (f:Int):0<=Kv_ f/\Kv_ f<=16/\0<=qT_ f/\qT_ f<=128:=by
 cases h:fIs f with
 | true=>
   have hn:=ZR_.1 h
   have:=fK f.toNat (by omega)
   rwa [Int.toNat_of_nonneg hn.1] at this
 | false=>unfold Kv_ qT_;rw [h];simp
theorem bf_ (c f:Int):0<=qb_ c f/\qb_ c f<=100/\0<=Qu_ c f/\Qu_ c f<=128:=by
 have:=BC_ f
 unfold qb_ Qu_;split<;>omega
def Gn_:IR:=
(sq (kr [0] [oD 1 (.boxv 0),
oD 2 (.box [.int .i64 0,.int .i64 0,.kb false,.kb false]),
oD 3 (.mov cF)])
(sq (sq (.reg [oA 6 0 1,
oL 7 6,
oB 8 .eql 7 (cI 65535)])
(.cond 8
(sq (kd [1,2] [(oD 9 (.build [.int .i64 0,.int .i64 0,.kb false,.kb false] [(0,1,(cI 100)),(2,1,cT),(3,1,cT)]),[]),
(oA 10 1 1,[0]),
(oL 11 10,[1]),
(oB 12 .geq 11 (cI 0),[2]),
(oM 13 12,[3]),
(oT 13 14 (.fieldAddr 1 1),[4]),
(oT 13 15 (.load none 14),[5]),
(oT 13 16 (.bin .leq 15 (cI 127)),[6]),
(oP 17 13 16 cF,[7]),
(oS 4 2 9,[0,0,0,0]),
(oM 3 17,[])])
.ret)
.skip))
(sq (kr [1,2] [oA 19 1 1,
oL 20 19,
oC 21 80 [20],
oM 18 21,
oX 22 18 0,
oX 23 18 1,
oD 4 (.box [.int .i64 0,.int .i64 0,.kb false,.int .i64 0,.imm (.int .u64) []]),
oS 5 4 22,
oM 5 23])
(sq (kd [1,2,4,5] [(oA 24 1 4,[]),
(oL 25 24,[]),
(oA 26 0 4,[0,0]),
(oL 27 26,[1,0]),
(oA 28 2 4,[0,0,0,0]),
(oL 29 28,[1,0,0,0]),
(oD 30 (.build [.int .i64 0,.int .i64 0,.kb false,.kb false] [(0,1,25),(1,1,27),(2,1,29)]),[]),
(oM 31 5,[0,0,0,0,0,0,0]),
(oM 32 31,[1,0,0,0,0,0,0]),
(oT 32 33 (.fieldAddr 0 1),[2,0,0,0,0,0,0]),
(oT 32 34 (.load none 33),[3,0,0,0,0,0,0]),
(oT 32 35 (.bin .eql 34 (cI 32768)),[4,0,0,0,0,0,0]),
(oP 36 32 35 cF,[5,0,0,0,0,0,0]),
(oS 4 2 30,[0,0,0,0]),
(oM 3 36,[])])
.ret))))
def g8_:List RD:=[.cell 2 (some 4) true [],.tmp 3 true none]
theorem Gb_:zl_ Tryz.prog Tryz.f71 Gn_ g8_=true:=by kernel_rfl
def Xh_:List AV->List Obj->Option (Prop × AV)
 | [.agg [.int .i64 c,.int .i64 f,.bool h,.int .u64 x,.imm (.int .u8) v,.imm (.int .u8) m]],[]=>some ((True,.tup [.agg [.int .i64 (qb_ c f),.int .i64 (Qu_ c f),.bool (Qt_ c f),.bool (Zm_ c)],.bool (Jz_ c f)]))
 | _,_=>none
theorem Ub_:zf_ Tryz.prog 71 (RoF Xh_).sum:=by
 refine zi_ Tryz.func71 Gb_ (zc_ (s:=RoF j4_) Yp_ (ze_ _)) fun args objs p v e=>?_
 unfold Xh_ at e
 split at e
 ·rename_i c f h x v m
  cases e
  refine ⟨rfl,fun hw ho hp=>?_⟩
  change List Int at v
  change List Int at m
  repeat'(intro t ht;first|(cases t<;>first|(cases ht;done)|(try simp only[zh_]at ht))|((first|refine za_ ht ?_|refine ht ?_ ?_|refine ht.1 ?_ ?_|refine ht ?_)<;>clear ht))
  all_goals first
   | exact True.intro
   | (simp_all [Jz_,qb_,Qu_,Qt_,Zm_];done)
   | (simp_all [Jz_,qb_,Qu_,Qt_,Zm_];omega)
 ·cases e
def Kg_ (f:Int) (h:Bool) (v m:List Int) (bits:Int) (ex:Bool):Int:=
 if ex=false/\k5_ f v=false then 1032 else if h=true/\ex=false/\k5_ f m=false then 1033
 else if h=true/\(jl_ m=true\/wS_ m (if ex=true then m.length*8 else bits)=true) then 1033 else if h=true/\wc_ v m=true then 1030 else 0
def vK_:IR:=
(sq (kr [0,1] [oD 2 (.boxv 0),
oD 3 (.boxv 1),
oD 4 (.mov (cI 0))])
(sq (sq (.reg [oA 5 3 3,
oL 6 5])
(.cond 6
(kr [2,3] [oA 7 5 2,
oL 8 7,
oE 9 8,
oB 10 .mul 9 (cI 8),
oA 11 1 3,
oS 1 11 10])
.skip))
(sq (.block 0
(sq (.block 3
(.block 2
(sq (.block 1
(sq (sq (sq (kr [2,3] [oA 13 3 3,
oL 14 13,
oD 15 (.un .not 14),
oM 16 15,
oT 16 17 (.fieldAddr 1 2),
oT 16 18 (.load none 17),
oT 16 19 (.fieldAddr 4 2),
oT 16 20 (.load none 19),
oT 16 21 (.call false (.f 81) [18,20]),
oT 16 22 (.un .not 21),
oP 23 16 22 cF,
oM 12 23])
(.cond 12
(.exit 1)
.skip))
(sq (sq (kr [2,3] [oA 25 2 2,
oL 26 25,
oM 27 26,
oT 27 28 (.fieldAddr 3 3),
oT 27 29 (.load none 28),
oT 27 30 (.un .not 29),
oP 31 27 30 cF,
oM 32 31,
oT 32 33 (.fieldAddr 1 2),
oT 32 34 (.load none 33),
oT 32 35 (.fieldAddr 5 2),
oT 32 36 (.load none 35),
oT 32 37 (.call false (.f 81) [34,36]),
oT 32 38 (.un .not 37),
oP 39 32 38 cF,
oM 24 39])
(.cond 24
(.exit 2)
.skip))
(sq (kr [2,3] [oA 41 2 2,
oL 42 41,
oM 43 42,
oT 43 44 (.fieldAddr 5 2),
oT 43 45 (.load none 44),
oT 43 46 (.call false (.f 82) [45]),
oT 43 47 (.mov 46),
oF 47 48 (.fieldAddr 5 2),
oF 47 49 (.load none 48),
oF 47 50 (.fieldAddr 1 3),
oF 47 51 (.load none 50),
oF 47 52 (.call false (.f 83) [49,51]),
oT 43 53 (.pick 47 cT 52),
oP 54 43 53 cF,
oM 40 54])
(.cond 40
(.exit 3)
.skip))))
(.exit 0)))
(sq (sq (kr [] [oD 4 (.mov (cI 1032))])
.ret)
(.exit 0)))))
(sq (sq (kr [] [oD 4 (.mov (cI 1033))])
.ret)
(.exit 0))))
(sq (sq (kr [2] [oA 55 2 2,
oL 56 55,
oM 57 56,
oT 57 58 (.fieldAddr 4 2),
oT 57 59 (.load none 58),
oT 57 60 (.fieldAddr 5 2),
oT 57 61 (.load none 60),
oT 57 62 (.call false (.f 84) [59,61]),
oP 63 57 62 cF])
(.cond 63
(sq (kr [] [oD 4 (.mov (cI 1030))])
.ret)
.skip))
(sq (kr [] [oD 4 (.mov (cI 0))])
.ret)))))
def YO_:List RD:=[.tmp 4 true none]
theorem vf_:zl_ Tryz.prog Tryz.f72 vK_ YO_=true:=by kernel_rfl
def KM_:List AV->List Obj->Option (Prop × AV)
 | [.agg [.int .i64 c,.int .i64 f,.bool h,.int .u64 x,.imm (.int .u8) v,.imm (.int .u8) m],.agg [.int .i64 sz,.int .i64 bits,.bool mk,.bool ex]],[]=>some (((h=true->v.length<=m.length)/\m.length<=100000/\0<=bits/\bits<=1000000,.int .i64 (Kg_ f h v m bits ex)))
 | _,_=>none
theorem XA_:zf_ Tryz.prog 72 (RoF KM_).sum:=by
 refine zi_ Tryz.func72 vf_ (zc_ (s:=RoF kZ_) WY_ (zc_ (s:=RoF KN_) XB_ (zc_ (s:=RoF j0_) Yl_ (zc_ (s:=RoF Q7_) w8_ (ze_ _))))) fun args objs p v e=>?_
 unfold KM_ at e
 split at e
 ·rename_i c f h x v m sz bits mk ex
  cases e
  refine ⟨rfl,fun hw ho hp=>?_⟩
  change List Int at v
  change List Int at m
  cases h<;>cases ex
  all_goals repeat'(intro t ht;first|(cases t<;>first|(cases ht;done)|(try simp only[zh_]at ht))|((first|refine za_ ht ?_|refine ht ?_ ?_|refine ht.1 ?_ ?_|refine ht ?_)<;>clear ht))
  all_goals first
   | exact True.intro
   | exact hp.1 rfl
   | ((try simp only [zm_,zn_,zk_] at*);omega)
   | (unfold Kg_;simp_all;done)
 ·cases e
def Qr_ (c:Int) (v m:List Int):Int:=if c=65535 then (v.length:Int)+m.length+4 else (v.length:Int)+m.length
def z4_ (c f:Int) (h:Bool) (x:Int) (v m:List Int):Bool:=
 Jz_ c f && (!h || Qt_ c f) && (Zm_ c || decide (x=0)) && decide (x.fdiv (2 ^ (min (Int.toNat 32) IntKind.u64.bits))=0) &&
  (match h with | true=>decide ((m.length:Int)=v.length) | false=>decide (m.length=0)) && decide ((v.length:Int)<=qb_ c f) && decide (Kg_ f h v m (Qu_ c f) (Zm_ c)=0)
def vM_:IR:=
(sq (kr [0] [oD 1 (.boxv 0),
oD 2 (.mov cF)])
(sq (kr [1] [oK 6 6 1,
oC 7 71 [6],
oM 5 7,
oX 8 5 0,
oX 9 5 1,
oD 3 (.box [.int .i64 0,.int .i64 0,.kb false,.kb false]),
oS 4 3 8,
oM 4 9])
(sq (.block 0
(sq (.block 4
(sq (.block 3
(.block 2
(sq (.block 1
(sq (sq (sq (kr [1,3,4] [oM 11 4,
oD 12 (.un .not 11),
oM 13 12,
oF 13 14 (.fieldAddr 2 1),
oF 13 15 (.load none 14),
oF 13 16 (.mov 15),
oT 16 17 (.fieldAddr 2 3),
oT 16 18 (.load none 17),
oT 16 19 (.un .not 18),
oF 13 20 (.pick 16 19 cF),
oP 21 13 cT 20,
oM 10 21])
(.cond 10
(.exit 1)
.skip))
(sq (sq (kr [1,3] [oA 23 3 3,
oL 24 23,
oD 25 (.un .not 24),
oM 26 25,
oT 26 27 (.fieldAddr 3 1),
oT 26 28 (.load none 27),
oT 26 29 (.bin .neq 28 (.c (.int .u64 0))),
oP 30 26 29 cF,
oM 22 30])
(.cond 22
(.exit 2)
.skip))
(sq (sq (kr [1,3] [oA 32 3 1,
oL 33 32,
oB 34 .shr 33 (.c (.int .u64 32)),
oB 35 .neq 34 (.c (.int .u64 0)),
oM 31 35])
(.cond 31
(.exit 3)
.skip))
(sq (kr [1,3] [oA 37 2 1,
oL 38 37,
oM 39 38,
oT 39 40 (.fieldAddr 5 1),
oT 39 41 (.load none 40),
oT 39 42 (.len 41),
oT 39 43 (.fieldAddr 4 1),
oT 39 44 (.load none 43),
oT 39 45 (.len 44),
oT 39 46 (.bin .neq 42 45),
oP 47 39 46 cF,
oM 48 47,
oF 48 49 (.fieldAddr 2 1),
oF 48 50 (.load none 49),
oF 48 51 (.un .not 50),
oF 48 52 (.mov 51),
oT 52 53 (.fieldAddr 5 1),
oT 52 54 (.load none 53),
oT 52 55 (.len 54),
oT 52 56 (.bin .gtr 55 (cI 0)),
oF 48 57 (.pick 52 56 cF),
oP 58 48 cT 57,
oM 59 58,
oF 59 60 (.fieldAddr 4 1),
oF 59 61 (.load none 60),
oF 59 62 (.len 61),
oF 59 63 (.fieldAddr 0 3),
oF 59 64 (.load none 63),
oF 59 65 (.bin .gtr 62 64),
oP 66 59 cT 65,
oM 36 66])
(.cond 36
(.exit 4)
.skip)))))
(.exit 0)))
(sq (sq (kr [] [oD 2 (.mov cF)])
.ret)
(.exit 0)))))
(sq (sq (kr [] [oD 2 (.mov cF)])
.ret)
(.exit 0))))
(sq (sq (kr [] [oD 2 (.mov cF)])
.ret)
(.exit 0))))
(sq (kr [1,3] [oK 67 6 1,
oK 68 4 3,
oC 69 72 [67,68],
oB 70 .eql 69 (cI 0),
oM 2 70])
.ret))))
def YQ_:List RD:=[.tmp 2 true none]
theorem vh_:zl_ Tryz.prog Tryz.f57 vM_ YQ_=true:=by kernel_rfl
def KO_:List AV->List Obj->Option (Prop × AV)
 | [.agg [.int .i64 c,.int .i64 f,.bool h,.int .u64 x,.imm (.int .u8) v,.imm (.int .u8) m]],[]=>some ((v.length<=1000000/\m.length<=1000000,.bool (z4_ c f h x v m)))
 | _,_=>none
theorem XC_:zf_ Tryz.prog 57 (RoF KO_).sum:=by
 refine zi_ Tryz.func57 vh_ (zc_ (s:=RoF Xh_) Ub_ (zc_ (s:=RoF KM_) XA_ (ze_ _))) fun args objs p v e=>?_
 unfold KO_ at e
 split at e
 ·rename_i c f h x v m
  cases e
  refine ⟨rfl,fun hw ho hp=>?_⟩
  change List Int at v
  change List Int at m
  have hof:=bf_ c f
  cases h
  all_goals repeat'(intro t ht;first|(cases t<;>first|(cases ht;done)|(try simp only[zh_]at ht))|((first|refine za_ ht ?_|refine ht ?_ ?_|refine ht.1 ?_ ?_|refine ht ?_)<;>clear ht))
  all_goals first
   | exact True.intro
   | exact (by decide)
   | (refine ⟨fun h=>?_,?_,?_,?_⟩<;>first | omega | (cases h;done))
   | (unfold z4_;simp_all;done)
   | (have h0:¬ m.length=0:=by omega
      unfold z4_;simp_all;done)
   | (unfold z4_;simp_all;omega)
 ·cases e
theorem J4_ {c f:Int} {h:Bool} {x:Int} {v m:List Int} (hr:z4_ c f h x v m=true):(v.length:Int)<=qb_ c f/\(h=true->(m.length:Int)=v.length)/\(h=false->m.length=0)/\Jz_ c f=true/\(h=true->Qt_ c f=true)/\(Zm_ c=true\/x=0)/\x.fdiv (2 ^ (min (Int.toNat 32) IntKind.u64.bits))=0/\Kg_ f h v m (Qu_ c f) (Zm_ c)=0:=by
 unfold z4_ at hr
 simp only [Bool.and_eq_true,Bool.or_eq_true,decide_eq_true_eq] at hr
 obtain ⟨⟨⟨⟨⟨⟨a1,a2⟩,a3⟩,a4⟩,a5⟩,a6⟩,a7⟩:=hr
 cases h with
 | true=>exact ⟨a6,fun _=>of_decide_eq_true a5,fun h=>(by cases h),a1,fun _=>a2.resolve_left (by simp),a3,a4,a7⟩
 | false=>exact ⟨a6,fun h=>(by cases h),fun _=>of_decide_eq_true a5,a1,fun h=>(by cases h),a3,a4,a7⟩
theorem Yw_ {f:Int} {v:List Int} (h:Zf_ f v=true):(v.length:Int)=Ze_ f/\0<=ZS_ f/\ZS_ f<=8*Ze_ f/\Ze_ f<=16:=by
 unfold Zf_ at h
 split at h
 ·rename_i hh
  have hn:=ZR_.1 hh.1
  have:=GU_ f.toNat (by omega)
  rw [Int.toNat_of_nonneg hn.1] at this
  omega
 ·cases h
def Yx_ (c f:Int) (h:Bool) (v m:List Int):Int:=
 if c=32768/\Zf_ f v=false then 1032 else if h=true/\c=32768/\Zf_ f m=false then 1033
 else if h=true/\(jl_ m=true\/QJ_ m (if c=32768 then ZS_ f else 8*m.length).toNat 0=true) then 1033 else if h=true/\inA v m=false then 1030 else 0
def vD_:IR:=
(sq (kr [0] [oD 1 (.boxv 0),
oD 2 (.mov (cI 0))])
(sq (kr [1] [oA 7 1 1,
oL 8 7,
oC 9 75 [8],
oM 6 9,
oX 10 6 0,
oX 11 6 1,
oD 3 (.box [.str [],.int .i64 0,.int .i64 0,.kb false,.int .i64 0,.imm (.int .u64) []]),
oS 6 3 10,
oM 4 11])
(sq (kr [1,3] [oA 12 5 1,
oL 13 12,
oE 14 13,
oB 15 .mul (cI 8) 14,
oM 5 15])
(sq (sq (.reg [oA 16 0 1,
oL 17 16,
oB 18 .eql 17 (cI 32768)])
(.cond 18
(sq (kr [1,3] [oA 19 1 3,
oL 20 19,
oM 5 20])
(sq (sq (kr [1,5] [oA 21 1 1,
oL 22 21,
oA 23 4 1,
oL 24 23,
oC 25 86 [22,24],
oD 26 (.un .not 25)])
(.cond 26
(sq (kr [] [oD 2 (.mov (cI 1032))])
.ret)
.skip))
(sq (kr [1,5] [oA 27 2 1,
oL 28 27,
oM 29 28,
oT 29 30 (.fieldAddr 1 1),
oT 29 31 (.load none 30),
oT 29 32 (.fieldAddr 5 1),
oT 29 33 (.load none 32),
oT 29 34 (.call false (.f 86) [31,33]),
oT 29 35 (.un .not 34),
oP 36 29 35 cF])
(.cond 36
(sq (kr [] [oD 2 (.mov (cI 1033))])
.ret)
.skip))))
.skip))
(sq (sq (kr [1,5] [oA 37 2 1,
oL 38 37,
oM 39 38,
oT 39 40 (.fieldAddr 5 1),
oT 39 41 (.load none 40),
oT 39 42 (.call false (.f 87) [41]),
oT 39 43 (.mov 42),
oF 43 44 (.fieldAddr 5 1),
oF 43 45 (.load none 44),
oF 43 46 (.mov 5),
oF 43 47 (.call false (.f 88) [45,46]),
oT 39 48 (.pick 43 cT 47),
oP 49 39 48 cF])
(.cond 49
(sq (kr [] [oD 2 (.mov (cI 1033))])
.ret)
.skip))
(sq (sq (kr [1] [oA 50 2 1,
oL 51 50,
oM 52 51,
oT 52 53 (.fieldAddr 4 1),
oT 52 54 (.load none 53),
oT 52 55 (.fieldAddr 5 1),
oT 52 56 (.load none 55),
oT 52 57 (.call false (.f 89) [54,56]),
oT 52 58 (.un .not 57),
oP 59 52 58 cF])
(.cond 59
(sq (kr [] [oD 2 (.mov (cI 1030))])
.ret)
.skip))
(sq (kr [] [oD 2 (.mov (cI 0))])
.ret)))))))
def YH_:List RD:=[.tmp 2 true none]
theorem Y8_:zl_ Tryz.prog Tryz.f76 vD_ YH_=true:=by kernel_rfl
def KI_:List AV->List Obj->Option (Prop × AV)
 | [.agg [.int .i64 c,.int .i64 f,.bool h,.int .u64 x,.imm (.int .u8) v,.imm (.int .u8) m]],[]=>some (((h=true->c ≠ 32768->v.length<=m.length)/\m.length<=100000,.int .i64 (Yx_ c f h v m)))
 | _,_=>none
theorem Xw_:zf_ Tryz.prog 76 (RoF KI_).sum:=by
 refine zi_ Tryz.func76 Y8_ (zc_ (s:=RoF kn_) kx_ (zc_ (s:=RoF jY_) Yj_ (zc_ (s:=RoF KH_) Xv_ (zc_ (s:=RoF jX_) Yi_ (zc_ (s:=RoF kV_) WV_ (ze_ _)))))) fun args objs p v e=>?_
 unfold KI_ at e
 split at e
 ·rename_i c f h x v m
  cases e
  refine ⟨rfl,fun hw ho hp=>?_⟩
  change List Int at v
  change List Int at m
  have hfv:=Yw_ (f:=f) (v:=v)
  have hfm:=Yw_ (f:=f) (v:=m)
  cases h<;>by_cases hc:c=32768
  all_goals repeat'(intro t ht;first|(cases t<;>first|(cases ht;done)|(try simp only[zh_]at ht))|((first|refine za_ ht ?_|refine ht ?_ ?_|refine ht.1 ?_ ?_|refine ht ?_)<;>clear ht))
  all_goals first
   | exact True.intro
   | contradiction
   | ((try simp only [zm_,zn_,zk_] at*);omega)
   | (have h1:=hfm (by assumption);(try simp only [zm_,zn_,zk_] at*);omega)
   | (have h1:=hfm (by assumption);have h2:=hfv (by assumption);(try simp only [zm_,zn_,zk_] at*);omega)
   | (have h1:=hp.1 rfl (by assumption);exact h1)
   | (unfold Yx_;simp_all;done)
 ·cases e
def Qs_ (c f:Int) (h:Bool) (x:Int) (v m:List Int):Bool:=
 if (h=false/\0 < m.length)\/(h=true/\¬ (m.length:Int)=v.length) then false
 else if c=32768 then fIs f && decide (x=0) && (!h || Kq_ f) && decide (Yx_ c f h v m=0)
 else decide (c=65535) && decide (0<=f) && decide (f<=127) && decide (x < 4294967296) && decide ((v.length:Int)<=100) && decide (Yx_ c f h v m=0)
def vE_:IR:=
(sq (kr [0] [oD 1 (.boxv 0),
oD 2 (.mov cF)])
(sq (sq (kr [1] [oA 5 2 1,
oL 6 5,
oD 7 (.un .not 6),
oM 8 7,
oT 8 9 (.fieldAddr 5 1),
oT 8 10 (.load none 9),
oT 8 11 (.len 10),
oT 8 12 (.bin .gtr 11 (cI 0)),
oP 13 8 12 cF,
oM 14 13,
oF 14 15 (.fieldAddr 2 1),
oF 14 16 (.load none 15),
oF 14 17 (.mov 16),
oT 17 18 (.fieldAddr 5 1),
oT 17 19 (.load none 18),
oT 17 20 (.len 19),
oT 17 21 (.fieldAddr 4 1),
oT 17 22 (.load none 21),
oT 17 23 (.len 22),
oT 17 24 (.bin .neq 20 23),
oF 14 25 (.pick 17 24 cF),
oP 26 14 cT 25])
(.cond 26
(sq (kr [] [oD 2 (.mov cF)])
.ret)
.skip))
(sq (sq (kr [1] [oA 27 0 1,
oL 28 27,
oB 29 .eql 28 (cI 32768)])
(.cond 29
(sq (kr [1] [oA 31 1 1,
oL 32 31,
oC 33 75 [32],
oM 30 33,
oX 34 30 0,
oX 35 30 1,
oD 3 (.box [.str [],.int .i64 0,.int .i64 0,.kb false,.int .i64 0,.imm (.int .u64) []]),
oS 6 3 34,
oM 4 35])
(sq (kr [1,3,4] [oM 36 4,
oM 37 36,
oT 37 38 (.fieldAddr 3 1),
oT 37 39 (.load none 38),
oT 37 40 (.bin .eql 39 (.c (.int .u64 0))),
oP 41 37 40 cF,
oM 42 41,
oT 42 43 (.fieldAddr 2 1),
oT 42 44 (.load none 43),
oT 42 45 (.un .not 44),
oT 42 46 (.mov 45),
oF 46 47 (.fieldAddr 3 3),
oF 46 48 (.load none 47),
oT 42 49 (.pick 46 cT 48),
oP 50 42 49 cF,
oM 51 50,
oT 51 52 (.load (some 6) 1),
oT 51 53 (.call false (.f 76) [52]),
oT 51 54 (.bin .eql 53 (cI 0)),
oP 55 51 54 cF,
oM 2 55])
.ret))
.skip))
(sq (kr [1] [oA 56 0 1,
oL 57 56,
oB 58 .eql 57 (cI 65535),
oM 59 58,
oT 59 60 (.fieldAddr 1 1),
oT 59 61 (.load none 60),
oT 59 62 (.bin .geq 61 (cI 0)),
oP 63 59 62 cF,
oM 64 63,
oT 64 65 (.fieldAddr 1 1),
oT 64 66 (.load none 65),
oT 64 67 (.bin .leq 66 (cI 127)),
oP 68 64 67 cF,
oM 69 68,
oT 69 70 (.fieldAddr 3 1),
oT 69 71 (.load none 70),
oT 69 72 (.bin .lss 71 (.c (.int .u64 4294967296))),
oP 73 69 72 cF,
oM 74 73,
oT 74 75 (.fieldAddr 4 1),
oT 74 76 (.load none 75),
oT 74 77 (.len 76),
oT 74 78 (.bin .leq 77 (cI 100)),
oP 79 74 78 cF,
oM 80 79,
oT 80 81 (.load (some 6) 1),
oT 80 82 (.call false (.f 76) [81]),
oT 80 83 (.bin .eql 82 (cI 0)),
oP 84 80 83 cF,
oM 2 84])
.ret))))
def YI_:List RD:=[.tmp 2 true none]
theorem Y9_:zl_ Tryz.prog Tryz.f64 vE_ YI_=true:=by kernel_rfl
def KJ_:List AV->List Obj->Option (Prop × AV)
 | [.agg [.int .i64 c,.int .i64 f,.bool h,.int .u64 x,.imm (.int .u8) v,.imm (.int .u8) m]],[]=>some ((m.length<=100000,.bool (Qs_ c f h x v m)))
 | _,_=>none
theorem Xx_:zf_ Tryz.prog 64 (RoF KJ_).sum:=by
 refine zi_ Tryz.func64 Y9_ (zc_ (s:=RoF kn_) kx_ (zc_ (s:=RoF KI_) Xw_ (ze_ _))) fun args objs p v e=>?_
 unfold KJ_ at e
 split at e
 ·rename_i c f h x v m
  cases e
  refine ⟨rfl,fun hw ho hp=>?_⟩
  change List Int at v
  change List Int at m
  have hm:m.length<=maxLen:=(hw _ (List.mem_cons_self ..) (.imm (.int .u8) m) (by simp)).2
  have hv:v.length<=maxLen:=(hw _ (List.mem_cons_self ..) (.imm (.int .u8) v) (by simp)).2
  unfold maxLen at hm hv
  cases h<;>by_cases hc:c=32768
  all_goals repeat'(intro t ht;first|(cases t<;>first|(cases ht;done)|(try simp only[zh_]at ht))|((first|refine za_ ht ?_|refine ht ?_ ?_|refine ht.1 ?_ ?_|refine ht ?_)<;>clear ht))
  all_goals first
   | exact True.intro
   | contradiction
   | (refine ⟨fun h1 h2=>?_,?_⟩<;>first | omega | (cases h1;done))
   | ((try simp only [zm_,zn_,zk_] at*);omega)
   | (unfold Qs_;simp_all;done)
   | (unfold Qs_;simp_all;omega)
 ·cases e
def x8_ (c x:Int) (v m:List Int):List Int:=(if c=65535 then zG_ x 4 else [])++v++m
def QK_ (c f:Int) (h:Bool) (x:Int) (v m:List Int):List Int:=zG_ c 2++[2*f+if h=true then 1 else 0,((x8_ c x v m).length:Int)]++x8_ c x v m
def W1_ (c f:Int) (h:Bool) (x:Int) (v m:List Int):Int:=if z4_ c f h x v m=true then 4+Qr_ c v m else 0
def bj_ (c f:Int) (h:Bool) (v m:List Int):List Int:=zG_ c 2++zG_ (2*f+if h=true then 1 else 0) 1++zG_ (Qr_ c v m) 1
def xX_ (c f:Int) (h:Bool) (x:Int) (v m:List Int):List Int:=bj_ c f h v m++(if c=65535 then zG_ x 4 else [])++v++m
def bg_ (h ex:Bool) (sz n:Int):Int:=if ex=true then (n - 4).tdiv (if h=true then 2 else 1) else sz
def bh_ (h ex:Bool) (sz n:Int):Bool:=if ex=true then decide (0<=n - 4) && decide ((n - 4).tmod (if h=true then 2 else 1)=0) && decide ((n - 4).tdiv (if h=true then 2 else 1)<=sz) else decide (n=(if h=true then 2 else 1)*sz)
def jk_ (b:List Int):Int:=b9_ (b.take 2)
def jj_ (b:List Int):Int:=(b.getD 2 0).tdiv 2
def uL_ (b:List Int):Bool:=decide ((b.getD 2 0).tmod 2=1)
def Bi_ (b:List Int):Int:=if jk_ b=65535 then b9_ ((b.drop 4).take 4) else 0
def Gw_ (b:List Int):Int:=if jk_ b=65535 then 8 else 4
def uK_ (b:List Int):Int:=bg_ (uL_ b) (Zm_ (jk_ b)) (qb_ (jk_ b) (jj_ b)) (b.getD 3 0)
def bQ_ (b:List Int):Bool:=bh_ (uL_ b) (Zm_ (jk_ b)) (qb_ (jk_ b) (jj_ b)) (b.getD 3 0)
def Bj_ (b:List Int):List Int:=(b.take (Gw_ b+uK_ b).toNat).drop (Gw_ b).toNat
def Bl_ (b:List Int):List Int:=if uL_ b=true then (b.take (Gw_ b+uK_ b+uK_ b).toNat).drop (Gw_ b+uK_ b).toNat else []
def BF_ (b:List Int):Int:=Gw_ b+uK_ b+if uL_ b=true then uK_ b else 0
def HT_ (b:List Int):Int:=if b.length < 4 then 1026 else if Jz_ (jk_ b) (jj_ b)=false then 1031 else if uL_ b=true/\Qt_ (jk_ b) (jj_ b)=false then 1033 else if bQ_ b=false\/(b.length:Int) - 4 < b.getD 3 0 then 1026 else Kg_ (jj_ b) (uL_ b) (Bj_ b) (Bl_ b) (Qu_ (jk_ b) (jj_ b)) (Zm_ (jk_ b))
def HS_ (b:List Int) (x:Int):Int:=if HT_ b=0 then x else 0
def Bk_ (b:List Int) (l:List Int):List Int:=if HT_ b=0 then l else []
def vF_:IR:=
(sq (kr [0,1] [oD 2 (.boxv 0),
oD 3 (.boxv 1),
oD 4 (.mov cF)])
(sq (kr [2,3] [oA 5 0 2,
oL 6 5,
oA 7 0 3,
oL 8 7,
oB 9 .eql 6 8,
oM 10 9,
oT 10 11 (.fieldAddr 1 2),
oT 10 12 (.load none 11),
oT 10 13 (.fieldAddr 1 3),
oT 10 14 (.load none 13),
oT 10 15 (.bin .eql 12 14),
oP 16 10 15 cF,
oM 17 16,
oT 17 18 (.fieldAddr 3 2),
oT 17 19 (.load none 18),
oT 17 20 (.fieldAddr 3 3),
oT 17 21 (.load none 20),
oT 17 22 (.bin .eql 19 21),
oP 23 17 22 cF,
oM 4 23])
.ret))
def YJ_:List RD:=[.tmp 4 true none]
theorem va_:zl_ Tryz.prog Tryz.f55 vF_ YJ_=true:=by kernel_rfl
def KK_:List AV->List Obj->Option (Prop × AV)
 | [.agg [.int .i64 c,.int .i64 f,.bool h,.int .u64 x,.imm (.int .u8) v,.imm (.int .u8) m],.agg [.int .i64 c',.int .i64 f',.bool h',.int .u64 x',.imm (.int .u8) v',.imm (.int .u8) m']],[]=>some ((True,.bool (decide (c=c') && decide (f=f') && decide (x=x'))))
 | _,_=>none
theorem Xy_:zf_ Tryz.prog 55 (RoF KK_).sum:=by
 refine zi_ Tryz.func55 va_ (ze_ _) fun args objs p v e=>?_
 unfold KK_ at e
 split at e
 ·rename_i c f h x v m c' f' h' x' v' m'
  cases e
  refine ⟨rfl,fun hw ho hp=>?_⟩
  change List Int at v
  change List Int at m
  change List Int at v'
  change List Int at m'
  repeat'(intro t ht;first|(cases t<;>first|(cases ht;done)|(try simp only[zh_]at ht))|((first|refine za_ ht ?_|refine ht ?_ ?_|refine ht.1 ?_ ?_|refine ht ?_)<;>clear ht))
  all_goals first
   | exact True.intro
   | (simp_all;done)
 ·cases e
def qy_ (c f:Int) (h:Bool) (x:Int) (v m:List Int) (c' f':Int) (h':Bool) (x':Int) (v' m':List Int):Bool:=decide (c=c') && decide (f=f') && decide (x=x') && (h == h') && decide (v=v') && decide (m=m')
theorem g4_ (c f:Int) (h:Bool) (x:Int) (v m:List Int):qy_ c f h x v m c f h x v m=true:=by unfold qy_;simp
def un_:IR:=
(sq (kr [0,1] [oD 2 (.boxv 0),
oD 3 (.boxv 1),
oD 4 (.mov cF)])
(sq (kr [2,3] [oK 5 6 2,
oK 6 6 3,
oC 7 55 [5,6],
oM 8 7,
oT 8 9 (.fieldAddr 2 2),
oT 8 10 (.load none 9),
oT 8 11 (.fieldAddr 2 3),
oT 8 12 (.load none 11),
oT 8 13 (.eqb false 10 12),
oP 14 8 13 cF,
oM 15 14,
oT 15 16 (.fieldAddr 4 2),
oT 15 17 (.load none 16),
oT 15 18 (.fieldAddr 4 3),
oT 15 19 (.load none 18),
oT 15 20 (.call false (.f 43) [17,19]),
oP 21 15 20 cF,
oM 22 21,
oT 22 23 (.fieldAddr 5 2),
oT 22 24 (.load none 23),
oT 22 25 (.fieldAddr 5 3),
oT 22 26 (.load none 25),
oT 22 27 (.call false (.f 43) [24,26]),
oP 28 22 27 cF,
oM 4 28])
.ret))
def VA_:List RD:=[.tmp 4 true none]
theorem VT_:zl_ Tryz.prog Tryz.f42 un_ VA_=true:=by kernel_rfl
def kW_:List AV->List Obj->Option (Prop × AV)
 | [.agg [.int .i64 c,.int .i64 f,.bool h,.int .u64 x,.imm (.int .u8) v,.imm (.int .u8) m],.agg [.int .i64 c',.int .i64 f',.bool h',.int .u64 x',.imm (.int .u8) v',.imm (.int .u8) m']],[]=>some ((True,.bool (qy_ c f h x v m c' f' h' x' v' m')))
 | _,_=>none
theorem Jh_:zf_ Tryz.prog 42 (RoF kW_).sum:=by
 refine zi_ Tryz.func42 VT_ (zc_ (s:=RoF KK_) Xy_ (zc_ (s:=RoF QY_) jr_ (ze_ _))) fun args objs p v e=>?_
 unfold kW_ at e
 split at e
 ·rename_i c f h x v m c' f' h' x' v' m'
  cases e
  refine ⟨rfl,fun hw ho hp=>?_⟩
  change List Int at v
  change List Int at m
  change List Int at v'
  change List Int at m'
  repeat'(intro t ht;first|(cases t<;>first|(cases ht;done)|(try simp only[zh_]at ht))|((first|refine za_ ht ?_|refine ht ?_ ?_|refine ht.1 ?_ ?_|refine ht ?_)<;>clear ht))
  all_goals first
   | exact True.intro
   | (refine ⟨?_,rfl⟩;unfold qy_;simp_all;done)
   | (refine ⟨?_,rfl⟩;unfold qy_;cases h<;>cases h'<;>simp_all;done)
   | (refine ⟨?_,rfl⟩;unfold qy_;rcases ‹(¬c=c'\/¬f=f')\/¬x=x'› with (h1 | h1) | h1<;>rw [decide_eq_false h1]<;>simp)
 ·cases e
def UU_:IR:=
(sq (kr [0] [oD 1 (.boxv 0),
oD 2 (.mov cF)])
(sq (kr [1] [oA 3 4 1,
oL 4 3,
oE 5 4,
oB 6 .leq 5 (cI 300),
oM 7 6,
oT 7 8 (.fieldAddr 5 1),
oT 7 9 (.load none 8),
oT 7 10 (.len 9),
oT 7 11 (.bin .leq 10 (cI 300)),
oP 12 7 11 cF,
oM 2 12])
.ret))
def Uq_:List RD:=[.tmp 2 true none]
theorem UC_:zl_ Tryz.prog Tryz.f28 UU_ Uq_=true:=by kernel_rfl
def wD_:List AV->List Obj->Option (Prop × AV)
 | [.agg [.int .i64 c,.int .i64 f,.bool h,.int .u64 x,.imm (.int .u8) v,.imm (.int .u8) m]],[]=>some ((True,.bool (decide (v.length<=300) && decide (m.length<=300))))
 | _,_=>none
theorem Vk_:zf_ Tryz.prog 28 (RoF wD_).sum:=by
 refine zi_ Tryz.func28 UC_ (ze_ _) fun args objs p v e=>?_
 unfold wD_ at e
 split at e
 ·rename_i c f h x v m
  cases e
  refine ⟨rfl,fun hw ho hp=>?_⟩
  change List Int at v
  change List Int at m
  repeat'(intro t ht;first|(cases t<;>first|(cases ht;done)|(try simp only[zh_]at ht))|((first|refine za_ ht ?_|refine ht ?_ ?_|refine ht.1 ?_ ?_|refine ht ?_)<;>clear ht))
  all_goals first
   | exact True.intro
   | (simp_all;done)
   | (have e:decide (v.length<=300)=false:=decide_eq_false (by omega)
      rw [e];exact ⟨rfl,rfl⟩)
   | (have e:decide (v.length<=300)=true:=decide_eq_true (by omega)
      rw [e];refine ⟨?_,rfl⟩;rw [Bool.true_and];congr 1;rw [Bool.eq_iff_iff];simp only [decide_eq_true_eq];omega)
 ·cases e
theorem Be_:∀ k < 40,qT_ (k:Nat)=ZS_ (k:Nat)/\Kv_ (k:Nat)=Ze_ (k:Nat)/\yN_ (k:Nat)=Kq_ (k:Nat):=by decide+kernel
theorem HF_ (f:Int):qT_ f=ZS_ f/\Kv_ f=Ze_ f/\yN_ f=Kq_ f:=by
 cases h:fIs f with
 | true=>
   have hn:=ZR_.1 h
   have:=Be_ f.toNat (by omega)
   rwa [Int.toNat_of_nonneg hn.1] at this
 | false=>
   unfold qT_ ZS_ Kv_ Ze_ yN_ Kq_;rw [h];exact ⟨rfl,rfl,rfl⟩
theorem kB {b:List Int} (hc:jk_ b=32768):Jz_ (jk_ b) (jj_ b)=fIs (jj_ b)/\Qt_ (jk_ b) (jj_ b)=Kq_ (jj_ b)/\Gw_ b=4/\Bi_ b=0/\uK_ b=Ze_ (jj_ b)/\bQ_ b=decide (b.getD 3 0=(if uL_ b=true then 2 else 1)*Ze_ (jj_ b)):=by
 have hl:=HF_ (jj_ b)
 have hz:qb_ (jk_ b) (jj_ b)=Ze_ (jj_ b):=by unfold qb_;rw [if_neg (by omega)];exact hl.2.1
 have he:Zm_ (jk_ b)=false:=decide_eq_false (by omega)
 refine ⟨?_,?_,if_neg (by omega),if_neg (by omega),?_,?_⟩
 ·unfold Jz_;rw [if_neg (by omega),decide_eq_true hc,Bool.and_true]
 ·unfold Qt_;rw [if_neg (by omega)];exact hl.2.2
 ·unfold uK_ bg_;rw [he,hz];rfl
 ·unfold bQ_ bh_;rw [he,hz];rfl
theorem bS_ {n:Nat} (x y:BitVec n):x &&& ~~~y=0#n ↔ x &&& y=x:=by
 constructor
 ·intro h
  refine BitVec.eq_of_getLsbD_eq fun i hi=>?_
  have h1:(x &&& ~~~y).getLsbD i=(0#n).getLsbD i:=by rw [h]
  rw [BitVec.getLsbD_and,BitVec.getLsbD_not,BitVec.getLsbD_zero,decide_eq_true hi,Bool.true_and] at h1
  rw [BitVec.getLsbD_and]
  cases hx:x.getLsbD i<;>cases hy:y.getLsbD i<;>simp_all
 ·intro h
  refine BitVec.eq_of_getLsbD_eq fun i hi=>?_
  have h1:(x &&& y).getLsbD i=x.getLsbD i:=by rw [h]
  rw [BitVec.getLsbD_and] at h1
  rw [BitVec.getLsbD_and,BitVec.getLsbD_not,BitVec.getLsbD_zero,decide_eq_true hi,Bool.true_and]
  cases hx:x.getLsbD i<;>cases hy:y.getLsbD i<;>simp_all
theorem HW_ {k:IntKind} (hk:k.signed=false) {a:Int} (b:Int) (ha:k.min<=a/\a<=k.max):Zc_ .andNot k a b=0 ↔ Zc_ .and k a b=a:=by
 have hw:∀ v:BitVec k.bits,k.wrap (v.toNat:Int)=v.toNat:=fun v=>by
  refine KU_ ⟨?_,?_⟩
  ·cases k<;>simp_all [IntKind.min,IntKind.signed,IntKind.bits]<;>omega
  ·have:=v.isLt
   cases k<;>simp_all [IntKind.max,IntKind.signed,IntKind.bits]<;>omega
 have hx:((BitVec.ofInt k.bits a).toNat:Int)=a:=by
  rw [BitVec.toNat_ofInt]
  cases k<;>simp_all [IntKind.min,IntKind.max,IntKind.signed,IntKind.bits]<;>omega
 have h:=bS_ (BitVec.ofInt k.bits a) (BitVec.ofInt k.bits b)
 show k.wrap (((BitVec.ofInt k.bits a) &&& ~~~(BitVec.ofInt k.bits b)).toNat:Int)=0 ↔ k.wrap (((BitVec.ofInt k.bits a) &&& (BitVec.ofInt k.bits b)).toNat:Int)=a
 rw [hw,hw]
 constructor
 ·intro e
  have:(BitVec.ofInt k.bits a) &&& ~~~(BitVec.ofInt k.bits b)=0#k.bits:=BitVec.eq_of_toNat_eq (by rw [BitVec.toNat_zero];omega)
  rw [h.1 this,hx]
 ·intro e
  have:(BitVec.ofInt k.bits a) &&& (BitVec.ofInt k.bits b)=BitVec.ofInt k.bits a:=BitVec.eq_of_toNat_eq (by omega)
  rw [h.2 this,BitVec.toNat_zero];rfl
theorem ion:∀ x < 256,∀ y < 256,(Zc_ .andNot .u8 ((x:Nat):Int) ((y:Nat):Int)=0 ↔ Zc_ .and .u8 ((x:Nat):Int) ((y:Nat):Int)=((x:Nat):Int)):=fun x hx y _=>
 HW_ rfl _ ⟨by show (0:Int)<=x;omega,by show (x:Int)<=255;omega⟩
theorem ha_:∀ (v m:List Int),(∀ x ∈ v,0<=x/\x<=255)->(∀ x ∈ m,0<=x/\x<=255)->wc_ v m=!inA v m
 | [],_,_,_=>by simp [wc_,inA]
 | _ :: _,[],_,_=>by simp [wc_,inA]
 | x :: r,y :: l,hv,hm=>by
   have hx:=hv x (by simp)
   have hy:=hm y (by simp)
   have ih:=ha_ r l (fun a ha=>hv a (by simp [ha])) (fun a ha=>hm a (by simp [ha]))
   have h:=ion x.toNat (by omega) y.toNat (by omega)
   rw [Int.toNat_of_nonneg hx.1,Int.toNat_of_nonneg hy.1] at h
   unfold wc_ inA
   by_cases h1:Zc_ .andNot .u8 x y=0
   ·rw [if_pos h1,if_pos (h.1 h1),ih]
   ·rw [if_neg h1,if_neg (fun h2=>h1 (h.2 h2))];rfl
theorem Vr_ (b:List Int):∀ (f g:Nat) (i:Int),QJ_ b (f+g) i=(QJ_ b f i && QJ_ b g (i+f))
 | 0,g,i=>by rw [Nat.zero_add,show i+((0:Nat):Int)=i by omega];unfold QJ_;rfl
 | f+1,g,i=>by
   rw [show f+1+g=(f+g)+1 by omega]
   by_cases h:Zc_ .and .u8 ((b.getD (b.length - 1 - i.tdiv 8:Int).toNat 0).fdiv (2 ^ (min (i.tmod 8).toNat 8))) 1=0
   ·rw [jA_ h,jA_ h,Bool.false_and]
   ·rw [jz_ h,jz_ h,Vr_ b f g (i+1),show i+1+(f:Int)=i+((f+1:Nat):Int) by omega]
theorem J6_ (x:Int) (r:List Int):∀ (f:Nat) (i:Int),0<=i->i+f<=8*r.length->QJ_ (x :: r) f i=QJ_ r f i
 | 0,_,_,_=>rfl
 | f+1,i,h0,h=>by
   have ih:=J6_ x r f (i+1) (by omega) (by omega)
   have e:(x :: r).getD (((x :: r).length:Int) - 1 - i.tdiv 8).toNat 0=r.getD ((r.length:Int) - 1 - i.tdiv 8).toNat 0:=by
    rw [kw_ h0,List.length_cons,show (((r.length+1:Nat):Int) - 1 - i / 8).toNat=((r.length:Int) - 1 - i / 8).toNat+1 by omega];rfl
   by_cases hc:Zc_ .and .u8 ((r.getD ((r.length:Int) - 1 - i.tdiv 8).toNat 0).fdiv (2 ^ (min (i.tmod 8).toNat 8))) 1=0
   ·rw [jA_ hc,jA_ (by rw [e];exact hc)]
   ·rw [jz_ hc,jz_ (by rw [e];exact hc),ih]
theorem yt_ (x:Int) (r:List Int):∀ (f:Nat) (i:Int),0<=i->i+f<=8->QJ_ (x :: r) f (8*r.length+i)=QJ_ [x] f i
 | 0,_,_,_=>rfl
 | f+1,i,h0,h=>by
   have ih:=yt_ x r f (i+1) (by omega) (by omega)
   have h8:0<=8*(r.length:Int)+i:=by omega
   have e:(x :: r).getD (((x :: r).length:Int) - 1 - (8*(r.length:Int)+i).tdiv 8).toNat 0=[x].getD ((([x]:List Int).length:Int) - 1 - i.tdiv 8).toNat 0:=by
    rw [kw_ h8,kw_ h0,List.length_cons,List.length_cons,List.length_nil,show (((r.length+1:Nat):Int) - 1 - (8*(r.length:Int)+i) / 8).toNat=0 by omega,show (((0+1:Nat):Int) - 1 - i / 8).toNat=0 by omega];rfl
   have e2:(8*(r.length:Int)+i).tmod 8=i.tmod 8:=by rw [Ja_ h8,Ja_ h0];omega
   by_cases hc:Zc_ .and .u8 (([x].getD ((([x]:List Int).length:Int) - 1 - i.tdiv 8).toNat 0).fdiv (2 ^ (min (i.tmod 8).toNat 8))) 1=0
   ·rw [jA_ hc,jA_ (by rw [e,e2];exact hc)]
   ·rw [jz_ hc,jz_ (by rw [e,e2];exact hc),Int.add_assoc,ih]
theorem b8_:∀ s < 8,∀ x < 256,zO_ (s:Nat) [((x:Nat):Int)]=true->(((x:Nat):Int)=YW_ (s:Nat) ↔ QJ_ [((x:Nat):Int)] (8 - s) 0=true):=by decide+kernel
theorem Bw_:YW_ 0=255:=by decide
theorem wf_:∀ (r:List Int) (s:Int),s<=0->q4_ r s=q4_ r 0
 | [],_,_=>by simp [q4_]
 | x :: r,s,h=>by
   have h1:YW_ s=255:=if_neg (by omega)
   have ih:=wf_ r (s - 8) (by omega)
   have ih0:=wf_ r (0 - 8) (by omega)
   unfold q4_
   rw [h1,Bw_,ih,ih0]
theorem g1_ {s x:Int} (r:List Int) (hs:s<=8) (h:zO_ s (x :: r)=true):zO_ s [x]=true:=by
 by_cases h1:x.fdiv (2 ^ (min (8 - (if 8 < s then 8 else s)).toNat 8))=0
 ·exact if_pos h1
 ·have e:zO_ s (x :: r)=false:=if_neg h1
  rw [e] at h;cases h
theorem Jt_:∀ (m:List Int) (s:Int),(∀ x ∈ m,0<=x/\x<=255)->0<=s->s<=8*m.length->zO_ s m=true->q4_ m s=QJ_ m (8*m.length - s).toNat 0
 | [],s,_,h0,h1,_=>by
   have:s=0:=by simp at h1;omega
   subst this;rfl
 | x :: r,s,hm,h0,h1,hs=>by
   have hx:=hm x (by simp)
   have hr:∀ a ∈ r,0<=a/\a<=255:=fun a ha=>hm a (by simp [ha])
   rw [List.length_cons] at h1
   by_cases h8:8<=s
   ·have hsp:x=0/\zO_ (s - 8) r=true:=by
     have h8':(if 8 < s then 8 else s)=8:=by split<;>omega
     have e:zO_ s (x :: r)=if x.fdiv (2 ^ (min (8 - (if 8 < s then 8 else s)).toNat 8))=0 then zO_ (s - (if 8 < s then 8 else s)) r else false:=rfl
     rw [h8',show (min (8 - 8:Int).toNat 8)=0 from rfl,Int.pow_zero,Int.fdiv_one] at e
     rw [e] at hs
     by_cases h9:x=0
     ·rw [if_pos h9] at hs;exact ⟨h9,hs⟩
     ·rw [if_neg h9] at hs;cases hs
    have ho:YW_ s=0:=by
     unfold YW_
     rw [if_pos (by omega)]
     by_cases h9:8 < s
     ·rw [if_pos h9];decide
     ·rw [if_neg h9,show s=8 by omega];decide
    have ih:=Jt_ r (s - 8) hr (by omega) (by omega) hsp.2
    have hn:(8*(((x :: r).length:Nat):Int) - s).toNat=(8*(r.length:Int) - (s - 8)).toNat:=by rw [List.length_cons];omega
    unfold q4_
    rw [if_pos (by rw [ho];exact hsp.1),ih,hn,J6_ x r _ 0 (by omega) (by omega)]
   ·have hs1:=g1_ r (by omega) hs
    have h2:=b8_ s.toNat (by omega) x.toNat (by omega)
    rw [Int.toNat_of_nonneg h0,Int.toNat_of_nonneg hx.1] at h2
    have h3:=h2 hs1
    have hsr:zO_ 0 r=true:=WT_ r hr
    have ih:=Jt_ r 0 hr (Int.le_refl _) (by omega) hsr
    have hn:(8*(((x :: r).length:Nat):Int) - s).toNat=8*r.length+(8 - s.toNat):=by rw [List.length_cons];omega
    have hn0:(8*(r.length:Int) - 0).toNat=8*r.length:=by omega
    have hhd:=yt_ x r (8 - s.toNat) 0 (Int.le_refl _) (by omega)
    rw [Int.add_zero] at hhd
    rw [hn0] at ih
    unfold q4_
    rw [hn,Vr_,J6_ x r _ 0 (by omega) (by omega),show (0:Int)+((8*r.length:Nat):Int)=8*(r.length:Int) by omega,hhd,wf_ r (s - 8) (by omega),ih]
    by_cases hc:x=YW_ s
    ·rw [if_pos hc,h3.1 hc,Bool.and_true]
    ·rw [if_neg hc,show QJ_ [x] (8 - s.toNat) 0=false by
      cases hq:QJ_ [x] (8 - s.toNat) 0 with
      | false=>rfl
      | true=>exact absurd (h3.2 hq) hc,Bool.and_false]
theorem Uu_ {f:Int} {m:List Int} (hm:∀ x ∈ m,0<=x/\x<=255) (h:k5_ f m=true):wS_ m (qT_ f)=QJ_ m (ZS_ f).toNat 0:=by
 unfold k5_ at h
 split at h
 ·rename_i hh
  have hi:fIs f=true:=ZR_.2 hh.1
  have hz:=Ys_ f.toNat (by omega)
  rw [Int.toNat_of_nonneg hh.1.1] at hz
  have hb:qT_ f=q7_.getD f.toNat 0:=if_pos hi
  have hbl:=v3_ f.toNat (by omega)
  have ho:=Jt_ m (m.length*8 - qT_ f) hm (by omega) (by omega) (by rw [hb,show (m.length:Int)*8 - q7_.getD f.toNat 0=8*Qq_ f - q7_.getD f.toNat 0 by omega];exact h)
  unfold wS_
  rw [ho,<- (HF_ f).1,show (8*(m.length:Int) - (m.length*8 - qT_ f))=qT_ f by omega]
 ·cases h
theorem Ut_ {m:List Int} (hm:∀ x ∈ m,0<=x/\x<=255):wS_ m (m.length*8)=QJ_ m (8*(m.length:Int)).toNat 0:=by
 have ho:=Jt_ m 0 hm (Int.le_refl _) (by omega) (WT_ m hm)
 unfold wS_
 rw [show (m.length:Int)*8 - m.length*8=0 by omega,ho,Int.sub_zero]
theorem yj_ {c f:Int} {h:Bool} {v m:List Int} (hv:∀ x ∈ v,0<=x/\x<=255) (hm:∀ x ∈ m,0<=x/\x<=255) (hc:c=32768\/c=65535):Kg_ f h v m (Qu_ c f) (Zm_ c)=Yx_ c f h v m:=by
 have hoi:=ha_ v m hv hm
 have hio:(wc_ v m=true)=(inA v m=false):=by rw [hoi];simp
 rcases hc with hc | hc
 ·have he:Zm_ c=false:=decide_eq_false (by omega)
  have hb:Qu_ c f=qT_ f:=if_neg (by omega)
  have f1:=uF_ (n:=f) hv
  have f2:=uF_ (n:=f) hm
  unfold Kg_ Yx_
  rw [he,hb,f1,f2]
  simp only [hio,hc,true_and,if_true,Bool.false_eq_true,if_false]
  cases h4:Zf_ f m with
  | true=>
    have ho:=Uu_ hm (f2.trans h4)
    rw [ho]
  | false=>
    cases h with
    | true=>simp
    | false=>simp
 ·have he:Zm_ c=true:=decide_eq_true hc
  have hn:¬ c=32768:=by omega
  have ho:=Ut_ hm
  unfold Kg_ Yx_
  rw [he]
  simp only [hio,hn,false_and,if_true,if_false,reduceCtorEq,ho,and_false]
theorem zf (x:Int) (h:x=0):x.fdiv (2 ^ (min (Int.toNat 32) IntKind.u64.bits))=0:=by subst h;decide
theorem zu (x:Int) (h0:0<=x):x.fdiv (2 ^ (min (Int.toNat 32) IntKind.u64.bits))=0 ↔ x < 4294967296:=by
 rw [show (2:Int) ^ (min (Int.toNat 32) IntKind.u64.bits)=4294967296 from by decide,Int.fdiv_eq_ediv_of_nonneg _ (by decide)];omega
theorem G6_ {f:Int} {h:Bool} {v m:List Int} (hw:Yx_ 32768 f h v m=0):Zf_ f v=true:=by
 cases hh:Zf_ f v with
 | true=>rfl
 | false=>unfold Yx_ at hw;rw [if_pos ⟨rfl,hh⟩] at hw;exact absurd hw (by decide)
theorem ys_ {c f:Int} {h:Bool} {x:Int} {v m:List Int} (hx:0<=x) (hv:∀ x ∈ v,0<=x/\x<=255) (hm:∀ x ∈ m,0<=x/\x<=255):z4_ c f h x v m=Qs_ c f h x v m:=by
 by_cases hb:c=32768
 ·have hw:=yj_ (f:=f) (h:=h) hv hm (.inl hb)
  have hok:Jz_ c f=fIs f:=by unfold Jz_;rw [if_neg (by omega),decide_eq_true hb,Bool.and_true]
  have hmk:Qt_ c f=Kq_ f:=by unfold Qt_;rw [if_neg (by omega)];exact (HF_ f).2.2
  have he:Zm_ c=false:=decide_eq_false (by omega)
  have hz:qb_ c f=Ze_ f:=by unfold qb_;rw [if_neg (by omega)];exact (HF_ f).2.1
  rw [Bool.eq_iff_iff]
  constructor
  ·intro hr
   obtain ⟨r1,r2,r3,r4,r5,r6,r7,r8⟩:=J4_ hr
   unfold Qs_
   rw [if_neg (fun hh=>hh.elim (fun hh=>by have:=r3 hh.1;omega) fun hh=>hh.2 (r2 hh.1)),if_pos hb]
   rw [hw] at r8;rw [hok] at r4;rw [hmk] at r5;rw [he] at r6
   have hx0:x=0:=by simpa using r6
   rw [r4,hx0,r8]
   cases h with
   | true=>rw [r5 rfl];rfl
   | false=>rfl
  ·intro hr
   unfold Qs_ at hr
   by_cases hn:(h=false/\0 < m.length)\/(h=true/\¬ (m.length:Int)=v.length)
   ·rw [if_pos hn] at hr;cases hr
   ·rw [if_neg hn,if_pos hb] at hr
    simp only [Bool.and_eq_true,Bool.or_eq_true,decide_eq_true_eq] at hr
    obtain ⟨⟨⟨h1,h2⟩,h3⟩,h4⟩:=hr
    have hfit:=G6_ (hb ▸ h4)
    have hsz:=Yw_ hfit
    unfold z4_
    rw [hw,hok,hmk,he,hz,h1,h4,zf x h2,decide_eq_true h2]
    have hvl:decide ((v.length:Int)<=Ze_ f)=true:=decide_eq_true (by omega)
    rw [hvl]
    cases h with
    | true=>
      have:(m.length:Int)=v.length:=Decidable.by_contra fun hh=>hn (.inr ⟨rfl,hh⟩)
      rw [decide_eq_true this]
      simpa using h3
    | false=>
      have:m.length=0:=by have:¬ 0 < m.length:=fun hh=>hn (.inl ⟨rfl,hh⟩);omega
      rw [decide_eq_true this];rfl
 ·by_cases hc:c=65535
  ·have hw:=yj_ (f:=f) (h:=h) hv hm (.inr hc)
   have hok:Jz_ c f=(decide (0<=f) && decide (f<=127)):=if_pos hc
   have hmk:Qt_ c f=true:=if_pos hc
   have he:Zm_ c=true:=decide_eq_true hc
   have hz:qb_ c f=100:=if_pos hc
   rw [Bool.eq_iff_iff]
   constructor
   ·intro hr
    obtain ⟨r1,r2,r3,r4,r5,r6,r7,r8⟩:=J4_ hr
    unfold Qs_
    rw [if_neg (fun hh=>hh.elim (fun hh=>by have:=r3 hh.1;omega) fun hh=>hh.2 (r2 hh.1)),if_neg hb]
    rw [hw] at r8;rw [hok] at r4;rw [hz] at r1
    have h7:=(zu x hx).1 r7
    simp only [Bool.and_eq_true,decide_eq_true_eq] at r4 ⊢
    exact ⟨⟨⟨⟨⟨hc,r4.1⟩,r4.2⟩,h7⟩,r1⟩,r8⟩
   ·intro hr
    unfold Qs_ at hr
    by_cases hn:(h=false/\0 < m.length)\/(h=true/\¬ (m.length:Int)=v.length)
    ·rw [if_pos hn] at hr;cases hr
    ·rw [if_neg hn,if_neg hb] at hr
     simp only [Bool.and_eq_true,decide_eq_true_eq] at hr
     obtain ⟨⟨⟨⟨⟨h1,h2⟩,h3⟩,h4⟩,h5⟩,h6⟩:=hr
     unfold z4_
     rw [hw,hok,hmk,he,hz,h6,(zu x hx).2 h4,decide_eq_true h2,decide_eq_true h3,decide_eq_true h5]
     cases h with
     | true=>
       have:(m.length:Int)=v.length:=Decidable.by_contra fun hh=>hn (.inr ⟨rfl,hh⟩)
       rw [decide_eq_true this];rfl
     | false=>
       have:m.length=0:=by have:¬ 0 < m.length:=fun hh=>hn (.inl ⟨rfl,hh⟩);omega
       rw [decide_eq_true this];rfl
  ·have hok:Jz_ c f=false:=by unfold Jz_;rw [if_neg hc,decide_eq_false hb,Bool.and_false]
   have h1:z4_ c f h x v m=false:=by unfold z4_;rw [hok];rfl
   have h2:Qs_ c f h x v m=false:=by
    unfold Qs_;split
    ·rfl
    ·first | (rw [decide_eq_false hc];rfl) | (rw [if_neg hb,decide_eq_false hc];rfl)
   rw [h1,h2]
theorem bn_ {n:Int} (h:0<=n/\n<=255):zG_ n 1=[n]:=by
 show [(n.fdiv (2 ^ (min (8*((1:Int) - 1 - ((0:Nat):Int))).toNat 64))) % 256]=[n]
 rw [show (min (8*((1:Int) - 1 - ((0:Nat):Int))).toNat 64)=0 from by decide,Int.pow_zero,Int.fdiv_one]
 congr 1;omega
theorem kA_ {c f:Int} {h:Bool} {x:Int} {v m:List Int} (hr:z4_ c f h x v m=true):0<=f/\f<=127/\(c=65535\/c=32768)/\(v.length:Int)<=100/\(m.length:Int)<=100/\0<=Qr_ c v m/\Qr_ c v m<=204/\Qr_ c v m=(x8_ c x v m).length:=by
 obtain ⟨r1,r2,r3,r4,_⟩:=J4_ hr
 have hof:=bf_ c f
 have hm:(m.length:Int)<=100:=by cases h;have:=r3 rfl;omega;have:=r2 rfl;omega
 have hb:Qr_ c v m=(x8_ c x v m).length:=by
  have l4:=zZ_ (n:=x) (w:=4) (by decide)
  unfold Qr_ x8_
  split
  ·rw [List.length_append,List.length_append];omega
  ·rw [List.length_append,List.length_append,List.length_nil];omega
 have h0:0<=Qr_ c v m/\Qr_ c v m<=204:=by unfold Qr_;split<;>omega
 have hcf:0<=f/\f<=127/\(c=65535\/c=32768):=by
  unfold Jz_ at r4
  split at r4
  ·simp at r4;omega
  ·simp at r4;have:=ZR_.1 r4.1;omega
 exact ⟨hcf.1,hcf.2.1,hcf.2.2,by omega,hm,h0.1,h0.2,hb⟩
theorem vX_ {c f:Int} {h:Bool} {x:Int} {v m:List Int} (hr:z4_ c f h x v m=true):xX_ c f h x v m=QK_ c f h x v m:=by
 obtain ⟨n1,n2,n3,n4,n5,n6,n7,n8⟩:=kA_ hr
 unfold xX_ bj_ QK_
 rw [bn_ (n:=2*f+if h=true then 1 else 0) (by split<;>omega),bn_ (n:=Qr_ c v m) (by omega),n8]
 unfold x8_
 simp only [List.append_assoc,List.cons_append,List.nil_append]
theorem GY_ {c f:Int} {h:Bool} {x:Int} {v m:List Int}:W1_ c f h x v m=((if z4_ c f h x v m=true then QK_ c f h x v m else []).length:Int):=by
 unfold W1_
 split
 ·rename_i hr
  obtain ⟨n1,n2,n3,n4,n5,n6,n7,n8⟩:=kA_ hr
  have l2:=zZ_ (n:=c) (w:=2) (by decide)
  unfold QK_
  rw [n8]
  simp only [List.length_append,List.length_cons,List.length_nil];omega
 ·rfl
def L1:List Int:=[128,0,10,2,8,0,7]
def L2:List Int:=[128,0,11,4,8,0,8,0]
theorem s1:HT_ L1=0/\HS_ L1 (jk_ L1)=32768/\HS_ L1 (jj_ L1)=5/\uL_ L1=false/\HS_ L1 (Bi_ L1)=0/\Bk_ L1 (Bj_ L1)=[8,0]/\Bk_ L1 (Bl_ L1)=[]/\HS_ L1 (BF_ L1)=6/\HT_ L2=1033:=by decide+kernel
theorem s2:z4_ 32768 5 false 0 [8,0] []=true/\xX_ 32768 5 false 0 [8,0] []=[128,0,10,2,8,0]:=by decide+kernel
def xF_:IR:=
(sq (kr [0,1] [oD 4 (.mov cF)])
(sq (kr [0,1] [oM 5 0,
oD 6 (.b2s 5),
oM 7 1,
oD 8 (.b2s 7),
oB 9 .eql 6 8,
oM 4 9])
.ret))
def W7_:List RD:=[.tmp 4 true none]
theorem xo_:zl_ Tryz.prog Tryz.f74 xF_ W7_=true:=by kernel_rfl
def Q8_:List AV->List Obj->Option (Prop × AV)
 | [.imm (.int .u8) a,.imm (.int .u8) b],[]=>some ((True,.bool (decide (a=b))))
 | _,_=>none
theorem w9_:zf_ Tryz.prog 74 (RoF Q8_).sum:=by
 refine zi_ Tryz.func74 xo_ (ze_ _) fun args objs p v e=>?_
 unfold Q8_ at e
 split at e
 ·rename_i a b
  cases e
  refine ⟨rfl,fun hw ho hp=>?_⟩
  change List Int at a
  change List Int at b
  repeat'(intro t ht;first|(cases t<;>first|(cases ht;done)|(try simp only[zh_]at ht))|((first|refine za_ ht ?_|refine ht ?_ ?_|refine ht.1 ?_ ?_|refine ht ?_)<;>clear ht))
  all_goals first
   | exact True.intro
   | exact ⟨rfl,rfl⟩
 ·cases e
def vN_:IR:=
(sq (kr [0,1] [oD 2 (.boxv 0),
oD 3 (.boxv 1),
oD 4 (.mov cF)])
(sq (kr [2,3] [oA 5 0 2,
oL 6 5,
oA 7 0 3,
oL 8 7,
oB 9 .eql 6 8,
oM 10 9,
oT 10 11 (.fieldAddr 1 2),
oT 10 12 (.load none 11),
oT 10 13 (.fieldAddr 1 3),
oT 10 14 (.load none 13),
oT 10 15 (.bin .eql 12 14),
oP 16 10 15 cF,
oM 17 16,
oT 17 18 (.fieldAddr 3 2),
oT 17 19 (.load none 18),
oT 17 20 (.fieldAddr 3 3),
oT 17 21 (.load none 20),
oT 17 22 (.bin .eql 19 21),
oP 23 17 22 cF,
oM 4 23])
.ret))
def YR_:List RD:=[.tmp 4 true none]
theorem vi_:zl_ Tryz.prog Tryz.f73 vN_ YR_=true:=by kernel_rfl
def KP_:List AV->List Obj->Option (Prop × AV)
 | [.agg [.int .i64 c,.int .i64 f,.bool h,.int .u64 x,.imm (.int .u8) v,.imm (.int .u8) m],.agg [.int .i64 c',.int .i64 f',.bool h',.int .u64 x',.imm (.int .u8) v',.imm (.int .u8) m']],[]=>some ((True,.bool (decide (c=c') && decide (f=f') && decide (x=x'))))
 | _,_=>none
theorem XD_:zf_ Tryz.prog 73 (RoF KP_).sum:=by
 refine zi_ Tryz.func73 vi_ (ze_ _) fun args objs p v e=>?_
 unfold KP_ at e
 split at e
 ·rename_i c f h x v m c' f' h' x' v' m'
  cases e
  refine ⟨rfl,fun hw ho hp=>?_⟩
  change List Int at v
  change List Int at m
  change List Int at v'
  change List Int at m'
  repeat'(intro t ht;first|(cases t<;>first|(cases ht;done)|(try simp only[zh_]at ht))|((first|refine za_ ht ?_|refine ht ?_ ?_|refine ht.1 ?_ ?_|refine ht ?_)<;>clear ht))
  all_goals first
   | exact True.intro
   | (simp_all;done)
 ·cases e
def ur_:IR:=
(sq (kr [0,1] [oD 2 (.boxv 0),
oD 3 (.boxv 1),
oD 4 (.mov cF)])
(sq (kr [2,3] [oK 5 6 2,
oK 6 6 3,
oC 7 73 [5,6],
oM 8 7,
oT 8 9 (.fieldAddr 2 2),
oT 8 10 (.load none 9),
oT 8 11 (.fieldAddr 2 3),
oT 8 12 (.load none 11),
oT 8 13 (.eqb false 10 12),
oP 14 8 13 cF,
oM 15 14,
oT 15 16 (.fieldAddr 4 2),
oT 15 17 (.load none 16),
oT 15 18 (.fieldAddr 4 3),
oT 15 19 (.load none 18),
oT 15 20 (.call false (.f 74) [17,19]),
oP 21 15 20 cF,
oM 22 21,
oT 22 23 (.fieldAddr 5 2),
oT 22 24 (.load none 23),
oT 22 25 (.fieldAddr 5 3),
oT 22 26 (.load none 25),
oT 22 27 (.call false (.f 74) [24,26]),
oP 28 22 27 cF,
oM 4 28])
.ret))
def VE_:List RD:=[.tmp 4 true none]
theorem VX_:zl_ Tryz.prog Tryz.f58 ur_ VE_=true:=by kernel_rfl
def j1_:List AV->List Obj->Option (Prop × AV)
 | [.agg [.int .i64 c,.int .i64 f,.bool h,.int .u64 x,.imm (.int .u8) v,.imm (.int .u8) m],.agg [.int .i64 c',.int .i64 f',.bool h',.int .u64 x',.imm (.int .u8) v',.imm (.int .u8) m']],[]=>some ((True,.bool (qy_ c f h x v m c' f' h' x' v' m')))
 | _,_=>none
theorem Ym_:zf_ Tryz.prog 58 (RoF j1_).sum:=by
 refine zi_ Tryz.func58 VX_ (zc_ (s:=RoF KP_) XD_ (zc_ (s:=RoF Q8_) w9_ (ze_ _))) fun args objs p v e=>?_
 unfold j1_ at e
 split at e
 ·rename_i c f h x v m c' f' h' x' v' m'
  cases e
  refine ⟨rfl,fun hw ho hp=>?_⟩
  change List Int at v
  change List Int at m
  change List Int at v'
  change List Int at m'
  repeat'(intro t ht;first|(cases t<;>first|(cases ht;done)|(try simp only[zh_]at ht))|((first|refine za_ ht ?_|refine ht ?_ ?_|refine ht.1 ?_ ?_|refine ht ?_)<;>clear ht))
  all_goals first
   | exact True.intro
   | (refine ⟨?_,rfl⟩;unfold qy_;simp_all;done)
   | (refine ⟨?_,rfl⟩;unfold qy_;cases h<;>cases h'<;>simp_all;done)
   | (refine ⟨?_,rfl⟩;unfold qy_;rcases ‹(¬c=c'\/¬f=f')\/¬x=x'› with (h1 | h1) | h1<;>rw [decide_eq_false h1]<;>simp)
 ·cases e
def us_:IR:=
(sq (kr [0] [oD 1 (.boxv 0),
oD 2 (.box [.int .i64 0,.int .i64 0,.kb false,.int .u64 0,.imm (.int .u8) [],.imm (.int .u8) []])])
(sq (kr [1,2] [oA 5 4 1,
oL 6 5,
oE 7 6,
oA 8 5 1,
oL 9 8,
oE 10 9,
oB 11 .add 7 10,
oD 12 (.mkrow (.int .u8) 1 (0:Int) 11 11),
oM 3 12])
(sq (kr [1,2,3] [oM 13 3,
oA 14 4 1,
oL 15 14,
oD 16 (.copy (.int .u8) 13 15),
oM 4 16])
(sq (kd [1,2,3,4] [(oM 17 3,[]),
(oM 18 4,[0]),
(oD 19 (.slice 1 17 (some 18) none none),[]),
(oA 20 5 1,[0,0,0]),
(oL 21 20,[1,0,0]),
(oD 22 (.copy (.int .u8) 19 21),[])])
(sq (kd [1,2,3,4] [(oM 23 3,[]),
(oM 24 4,[0]),
(oM 25 4,[0,0]),
(oD 26 (.slice 1 23 none (some 24) (some 25)),[]),
(oM 27 3,[0,0,0,0]),
(oM 28 4,[0,0,0,0,0]),
(oD 29 (.slice 1 27 (some 28) none none),[2,0,0,0]),
(oA 30 4 1,[0,0,0]),
(oS 1 30 26,[1,0,0]),
(oA 31 5 1,[]),
(oS 1 31 29,[])])
(sq (kr [1,2] [oK 32 6 1,
oS 6 2 32])
.ret))))))
def VF_:List RD:=[.cell 2 (some 6) false []]
theorem VY_:zl_ Tryz.prog Tryz.f36 us_ VF_=true:=by kernel_rfl
def j2_:List AV->List Obj->Option (Prop × AV × List Obj)
 | [.agg [.int .i64 c,.int .i64 f,.bool h,.int .u64 x,.imm (.int .u8) v,.imm (.int .u8) m]],[]=>some ((v.length<=100000/\m.length<=100000,.agg [.int .i64 c,.int .i64 f,.bool h,.int .u64 x,.view 0 0 v.length,.view 0 v.length m.length],[.row false (.int .u8) (v++m)]))
 | _,_=>none
theorem Yn_:zf_ Tryz.prog 36 (RwF j2_).sum:=by
 refine wP_ Tryz.func36 VY_ (ze_ _) fun args objs p v o e=>?_
 unfold j2_ at e
 split at e
 ·rename_i c f h x v m
  cases e
  refine ⟨rfl,fun hw ho hp=>?_⟩
  change List Int at v
  change List Int at m
  have k1:((v.length:Int)+m.length).toNat=v.length+m.length:=by omega
  have k2:(List.replicate (v.length+m.length) (0:Int)).length=v.length+m.length:=List.length_replicate
  have k3:v.take (v.length+m.length)=v:=List.take_of_length_le (by omega)
  have k4:(List.replicate (v.length+m.length) (0:Int)).drop v.length=List.replicate m.length 0:=by rw [List.drop_replicate];congr 1;omega
  have k5:min v.length (v.length+m.length)=v.length:=Nat.min_eq_left (by omega)
  have k6:(v++List.replicate m.length (0:Int)).length=v.length+m.length:=by simp
  have k7:(((v.length+m.length:Nat):Int) - (v.length:Int)).toNat=m.length:=by omega
  have k8:(v++List.replicate m.length (0:Int)).take v.length=v:=List.take_left
  have k9:m.take m.length=m:=List.take_length
  have k10:min m.length m.length=m.length:=Nat.min_self _
  have k11:(v++List.replicate m.length (0:Int)).drop (v.length+m.length)=[]:=List.drop_of_length_le (by simp)
  have k12:(v++m).length=v.length+m.length:=List.length_append
  have k13:((v.length:Int) - 0).toNat=v.length:=by omega
  repeat'(intro t ht;first|(cases t<;>first|(cases ht;done)|(try simp only[zh_]at ht))|((first|refine za_ ht ?_|refine ht ?_ ?_|refine ht.1 ?_ ?_|refine ht ?_)<;>clear ht))
  all_goals first
   | exact True.intro
   | (simp only [Zi_,k1,k2,k3,k4,k5,k6,k7,k8,k9,k10,k11,k12,k13,List.append_nil,Int.toNat_natCast];first | omega | exact ⟨rfl,by first | rfl | exact True.intro⟩ | (refine ⟨?_,?_,?_,?_⟩<;>first | exact True.intro | omega))
   | omega
   | ((try simp only [zm_,zn_,zk_] at*);omega)
   | exact ⟨rfl,by first | rfl | exact True.intro⟩
 ·cases e
def ZW_ {α:Type} (p:α->Bool):List α->Int->Int
 | [],_=>-1
 | o :: r,i=>if p o=true then i else ZW_ p r (i+1)
theorem JH_ {α:Type} {p:α->Bool} {l:List α} {i:Nat} (h:l.length<=i):ZW_ p (l.drop i) i=-1:=by
 rw [List.drop_of_length_le h];rfl
theorem WI_ {α:Type} {p:α->Bool} {l:List α} {i:Nat} {d:α} (h:i < l.length) (hk:p (l.getD i d)=true):ZW_ p (l.drop i) i=i:=by
 rw [zw_ h d];exact if_pos hk
theorem WH_ {α:Type} {p:α->Bool} {l:List α} {i:Nat} {d:α} (h:i < l.length) (hk:p (l.getD i d)=false):ZW_ p (l.drop i) i=ZW_ p (l.drop (i+1)) ((i+1:Nat):Int):=by
 rw [zw_ h d];exact if_neg (by rw [hk];decide)
theorem xN_ {α:Type} {p:α->Bool}:∀ (l:List α) (i:Int),0<=i->decide (0<=ZW_ p l i)=l.any p
 | [],i,h=>rfl
 | o :: r,i,h=>by
   unfold ZW_
   rw [List.any_cons]
   cases hk:p o with
   | true=>rw [if_pos rfl,decide_eq_true h];rfl
   | false=>rw [if_neg (by decide),xN_ r (i+1) (by omega)];rfl
abbrev OV:=Int × Int × Bool × Int × List Int × List Int × Unit
instance:DecidableEq (Int × List Int × List Int × Unit):=inferInstance
instance:DecidableEq OV:=inferInstance
def Bz_ (o:OV):Prop:=o.2.2.2.2.1.length<=100000/\o.2.2.2.2.2.1.length<=100000
structure allLen (l:List OV):Prop where
 h:∀ o ∈ l,Bz_ o
def hI (h:Bool):Int:=if h=true then 1 else 0
end Go.Eng
