/- Parts of the proof: O2, O9, O5, O7, OA, OE, OI. No condition. -/
import Derived.Test.YtjajlkddpekdjaaGreatDoorProg
import Derived.Test.YtjajlkddpekdjaaGreatDoorXD10
import Derived.KernelRfl
import Derived.Test.YtjajlkddpekdjaaGreatDoorXD11
namespace Go.Eng
open Go.Proofs
set_option linter.unusedVariables false
set_option linter.unusedSimpArgs false
set_option maxRecDepth 100000
set_option maxHeartbeats 1000000
structure Ox where
 c:Int
 f:Int
 has:Bool
 x:Int
 v:List Int
 m:List Int
def uq_:IR:=
(sq (kr [0] [oD 2 (.mov cF)])
(sq (kr [0] [oM 3 0,
oC 4 95 [3,(.c (.str [0]))],
oE 5 4,
oB 6 .eql 5 (cI 0),
oM 2 6])
.ret))
def VD_:List RD:=[.tmp 2 true none]
theorem VW_:zl_ Tryz.prog Tryz.f78 uq_ VD_=true:=by kernel_rfl
def j8_:List AV->List Obj->Option (Prop × AV)
 | [.imm (.int .u8) b],[]=>some ((b.length<=140737488355328,.bool (jx_ b)))
 | _,_=>none
theorem Yl_:zf_ Tryz.prog 78 (RoF j8_).sum:=by
 refine zh_ Tryz.func78 VW_ (zb_ (s:=RoF jl_) XF_ (zd_ _)) fun args objs p v e=>?_
 unfold j8_ at e
 split at e
 ·rename_i b
  cases e
  refine ⟨rfl,fun hw ho hp=>?_⟩
  change List Int at b
  have h:=hI_ b
  repeat'(intro t ht;first|(cases t<;>first|(cases ht;done)|(try simp only[zg_]at ht))|((first|refine za_ ht ?_|refine ht ?_ ?_|refine ht.1 ?_ ?_|refine ht ?_)<;>clear ht))
  all_goals first
   | exact hp
   | (refine ⟨?_,rfl⟩;rw [<- h];congr 1;rw [Bool.eq_iff_iff];simp only [decide_eq_true_eq];omega)
 ·cases e
def wC_ (s:Int):Int:=if 0 < s then (255:Int).fdiv (2 ^ (min (if 8 < s then 8 else s).toNat 8)) else 255
def QF_:List Int->Int->Bool
 | [],_=>true
 | x :: r,s=>if x=wC_ s then QF_ r (s - 8) else false
def jI_ (b:List Int) (bits:Int):Bool:=QF_ b (b.length*8 - bits)
def UZ_:IR:=
(sq (kr [0,1] [oD 4 (.mov cF)])
(sq (.reg [oM 10 0,
oE 11 10,
oB 12 .mul 11 (cI 8),
oM 5 12])
(sq (sq (.reg [oM 13 0,
oE 14 13,
oD 15 (.mov (cI 0))])
(.block 0
(.loop
(sq (kr [1,5,13,14,15] [oB 16 .lss 15 14])
(sq (.cond 16
.skip
(.exit 0))
(sq (.block 1
(sq (kr [1,5,13,14,15] [oM 17 15,
oI 18 1 13 15,
oL 19 18,
oM 6 17,
oM 7 19])
(sq (.reg [oD 8 (.mov (.c (.int .u8 255)))])
(sq (sq (kr [1,5,6,7,8,13,14,15] [oM 20 5,
oM 21 6,
oB 22 .mul 21 (cI 8),
oB 23 .sub 20 22,
oM 24 1,
oB 25 .sub 23 24,
oM 9 25])
(sq (kr [1,5,7,8,9,13,14,15] [oM 26 9,
oB 27 .gtr 26 (cI 0)])
(.cond 27
(kr [1,5,7,8,9,13,14,15] [oM 28 8,
oM 29 9,
oD 30 (.minmax false 29 (cI 8)),
oB 31 .shr 28 30,
oM 8 31])
.skip)))
(sq (.reg [oM 32 7,
oM 33 8,
oB 34 .neq 32 33])
(.cond 34
(sq (kr [] [oD 4 (.mov cF)])
.ret)
.skip))))))
(kr [1,5,13,14,15] [oB 35 .add 15 (cI 1),
oM 15 35])))))))
(sq (kr [] [oD 4 (.mov cT)])
.ret))))
def Ud_:List RD:=[.tmp 4 true none]
theorem Uv_:zl_ Tryz.prog Tryz.f79 UZ_ Ud_=true:=by kernel_rfl
def wc_:List AV->List Obj->Option (Prop × AV)
 | [.imm (.int .u8) b,.int .i64 n],[]=>some ((0<=n/\n<=1000000/\b.length<=1000000,.bool (jI_ b n)))
 | _,_=>none
theorem Vi_:zf_ Tryz.prog 79 (RoF wc_).sum:=by
 refine zh_ Tryz.func79 Uv_ (zd_ _) fun args objs p v e=>?_
 unfold wc_ at e
 split at e
 ·rename_i b n
  cases e
  refine ⟨rfl,fun hw ho hp=>?_⟩
  change List Int at b
  repeat'(intro t ht;first|(cases t<;>first|(cases ht;done)|(try simp only[zg_]at ht))|((first|refine za_ ht ?_|refine ht ?_ ?_|refine ht.1 ?_ ?_|refine ht ?_)<;>clear ht))
  all_goals first
   | ((try simp only [zq_,zr_,zj_] at*);omega)
   | (intro r h1 h2;clear h1;refine h2 ⟨[1,5,13,14,15],Nat,(fun i=>i<=b.length/\jI_ b n=QF_ (b.drop i) (b.length*8 - i*8 - n)),fun i=>[.int .i64 n,.int .i64 (b.length*8),.imm (.int .u8) b,.int .i64 b.length,.int .i64 i],fun _=>[],fun i=>b.length - i,⟨0,⟨Nat.zero_le _,by unfold jI_;simp⟩,rfl,rfl⟩,?_⟩;clear h2)
  rintro i ⟨hi,he⟩
  repeat'(intro t ht;first|(cases t<;>first|(cases ht;done)|(try simp only[zg_]at ht))|((first|refine za_ ht ?_|refine ht ?_ ?_|refine ht.1 ?_ ?_|refine ht ?_)<;>clear ht))
  all_goals first
   | ((try simp only [zq_,zr_,zj_] at*);omega)
   | (have h0:b.drop i=[]:=List.drop_of_length_le (by omega)
      refine ⟨?_,rfl⟩;rw [he,h0];rfl)
   | ((try simp only [zq_,zr_,zj_] at*);split<;>omega)
   | (have hlt:i < b.length:=by omega
      rw [z2_ hlt 0] at he
      first
       | (have hn:¬ 0 < (b.length:Int)*8 - i*8 - n:=by assumption
          have ho:wC_ ((b.length:Int)*8 - i*8 - n)=255:=if_neg hn
          first
           | (have hx:b.getD i 0=255:=by assumption
              have h1:QF_ (b.getD i 0 :: b.drop (i+1)) ((b.length:Int)*8 - i*8 - n)=QF_ (b.drop (i+1)) ((b.length:Int)*8 - i*8 - n - 8):=if_pos (hx.trans ho.symm)
              refine ⟨i+1,⟨hlt,?_⟩,by dsimp only;omega,rfl,rfl⟩
              rw [he,h1];congr 1;omega)
           | (have hx:¬ b.getD i 0=255:=by assumption
              have h1:QF_ (b.getD i 0 :: b.drop (i+1)) ((b.length:Int)*8 - i*8 - n)=false:=if_neg (fun e=>hx (e.trans ho))
              refine ⟨?_,rfl⟩;rw [he,h1]))
       | (have hn:0 < (b.length:Int)*8 - i*8 - n:=by assumption
          have ho:wC_ ((b.length:Int)*8 - i*8 - n)=(255:Int).fdiv (2 ^ (min (if 8 < (b.length:Int)*8 - i*8 - n then 8 else (b.length:Int)*8 - i*8 - n).toNat 8)):=if_pos hn
          first
           | (have hx:b.getD i 0=(255:Int).fdiv (2 ^ (min (if 8 < (b.length:Int)*8 - i*8 - n then 8 else (b.length:Int)*8 - i*8 - n).toNat 8)):=by assumption
              have h1:QF_ (b.getD i 0 :: b.drop (i+1)) ((b.length:Int)*8 - i*8 - n)=QF_ (b.drop (i+1)) ((b.length:Int)*8 - i*8 - n - 8):=if_pos (hx.trans ho.symm)
              refine ⟨i+1,⟨hlt,?_⟩,by dsimp only;omega,rfl,rfl⟩
              rw [he,h1];congr 1;omega)
           | (have hx:¬ b.getD i 0=(255:Int).fdiv (2 ^ (min (if 8 < (b.length:Int)*8 - i*8 - n then 8 else (b.length:Int)*8 - i*8 - n).toNat 8)):=by assumption
              have h1:QF_ (b.getD i 0 :: b.drop (i+1)) ((b.length:Int)*8 - i*8 - n)=false:=if_neg (fun e=>hx (e.trans ho))
              refine ⟨?_,rfl⟩;rw [he,h1])))
 ·cases e
def jH_:List Int->List Int->Bool
 | x :: r,y :: l=>if zk_ .andNot .u8 x y=0 then jH_ r l else true
 | _,_=>false
def yn_:IR:=
(sq (kr [0,1] [oD 4 (.mov cF)])
(sq (sq (.reg [oM 7 0,
oE 8 7,
oD 9 (.mov (cI 0))])
(.block 0
(.loop
(sq (kr [1,7,8,9] [oB 10 .lss 9 8])
(sq (.cond 10
.skip
(.exit 0))
(sq (.block 1
(sq (kr [1,7,8,9] [oM 11 9,
oI 12 1 7 9,
oL 13 12,
oM 5 11,
oM 6 13])
(sq (kr [1,5,6,7,8,9] [oM 14 6,
oM 15 1,
oM 16 5,
oI 17 1 15 16,
oL 18 17,
oB 19 .andNot 14 18,
oB 20 .neq 19 (.c (.int .u8 0))])
(.cond 20
(sq (kr [] [oD 4 (.mov cT)])
.ret)
.skip))))
(kr [1,7,8,9] [oB 21 .add 9 (cI 1),
oM 9 21])))))))
(sq (kr [] [oD 4 (.mov cF)])
.ret)))
def XM_:List RD:=[.tmp 4 true none]
theorem X6_:zl_ Tryz.prog Tryz.f80 yn_ XM_=true:=by kernel_rfl
def Kn_:List AV->List Obj->Option (Prop × AV)
 | [.imm (.int .u8) v,.imm (.int .u8) m],[]=>some ((v.length<=m.length,.bool (jH_ v m)))
 | _,_=>none
theorem xy_:zf_ Tryz.prog 80 (RoF Kn_).sum:=by
 refine zh_ Tryz.func80 X6_ (zd_ _) fun args objs p v e=>?_
 unfold Kn_ at e
 split at e
 ·rename_i v m
  cases e
  refine ⟨rfl,fun hw ho hp=>?_⟩
  change List Int at v
  change List Int at m
  have hl:m.length<=maxLen:=(hw (.imm (.int .u8) m) (by simp)).2
  unfold maxLen at hl
  repeat'(intro t ht;first|(cases t<;>first|(cases ht;done)|(try simp only[zg_]at ht))|((first|refine za_ ht ?_|refine ht ?_ ?_|refine ht.1 ?_ ?_|refine ht ?_)<;>clear ht))
  all_goals first
   | (intro r h1 h2;clear h1;refine h2 ⟨[1,7,8,9],Nat,(fun i=>i<=v.length/\jH_ v m=jH_ (v.drop i) (m.drop i)),fun i=>[.imm (.int .u8) m,.imm (.int .u8) v,.int .i64 v.length,.int .i64 i],fun _=>[],fun i=>v.length - i,⟨0,⟨Nat.zero_le _,rfl⟩,rfl,rfl⟩,?_⟩;clear h2)
  rintro i ⟨hi,he⟩
  repeat'(intro t ht;first|(cases t<;>first|(cases ht;done)|(try simp only[zg_]at ht))|((first|refine za_ ht ?_|refine ht ?_ ?_|refine ht.1 ?_ ?_|refine ht ?_)<;>clear ht))
  all_goals first
   | ((try simp only [zq_,zr_,zj_] at*);omega)
   | (have h0:v.drop i=[]:=List.drop_of_length_le (by omega)
      refine ⟨?_,rfl⟩;rw [he,h0];rfl)
   | (have hlt:i < v.length:=by omega
      have hlm:i < m.length:=by omega
      rw [z2_ hlt 0,z2_ hlm 0] at he
      first
       | (have hx:zk_ .andNot .u8 (v.getD i 0) (m.getD i 0)=0:=by assumption
          have h1:jH_ (v.getD i 0 :: v.drop (i+1)) (m.getD i 0 :: m.drop (i+1))=jH_ (v.drop (i+1)) (m.drop (i+1)):=if_pos hx
          exact ⟨i+1,⟨hlt,by rw [he,h1]⟩,by dsimp only;omega,rfl,rfl⟩)
       | (have hx:¬ zk_ .andNot .u8 (v.getD i 0) (m.getD i 0)=0:=by assumption
          have h1:jH_ (v.getD i 0 :: v.drop (i+1)) (m.getD i 0 :: m.drop (i+1))=true:=if_neg hx
          refine ⟨?_,rfl⟩;rw [he,h1]))
 ·cases e
def uj_:IR:=
(sq (kr [0] [oD 2 (.mov cF)])
(sq (sq (.reg [oD 3 (.mov (cI 0))])
(.block 0
(.loop
(sq (sq (kr [0,3] [oM 4 3,
oM 5 0,
oE 6 5,
oB 7 .lss 4 6])
(.cond 7
.skip
(.exit 0)))
(sq (.block 1
(sq (kr [0,3] [oM 10 0,
oM 11 3,
oI 12 1 10 11,
oL 13 12,
oB 14 .neq 13 (.c (.int .u8 0))])
(.cond 14
(sq (.reg [oD 2 (.mov cF)])
.ret)
.skip)))
(kr [0,3] [oM 8 3,
oB 9 .add 8 (cI 1),
oM 3 9]))))))
(sq (kr [] [oD 2 (.mov cT)])
.ret)))
def Vw_:List RD:=[.tmp 2 true none]
theorem VP_:zl_ Tryz.prog Tryz.f85 uj_ Vw_=true:=by kernel_rfl
def j3_:List AV->List Obj->Option (Prop × AV)
 | [.imm (.int .u8) b],[]=>some ((True,.bool (jx_ b)))
 | _,_=>none
theorem Yg_:zf_ Tryz.prog 85 (RoF j3_).sum:=by
 refine zh_ Tryz.func85 VP_ (zd_ _) fun args objs p v e=>?_
 unfold j3_ at e
 split at e
 ·rename_i b
  cases e
  refine ⟨rfl,fun hw ho hp=>?_⟩
  change List Int at b
  have hl:b.length<=maxLen:=(hw (.imm (.int .u8) b) (by simp)).2
  unfold maxLen at hl
  repeat'(intro t ht;first|(cases t<;>first|(cases ht;done)|(try simp only[zg_]at ht))|((first|refine za_ ht ?_|refine ht ?_ ?_|refine ht.1 ?_ ?_|refine ht ?_)<;>clear ht))
  all_goals first
   | (intro r h1 h2;clear h1;refine h2 ⟨[0,3],Nat,(fun i=>i<=b.length/\jx_ b=jx_ (b.drop i)),fun i=>[.imm (.int .u8) b,.int .i64 i],fun _=>[],fun i=>b.length - i,⟨0,⟨Nat.zero_le _,rfl⟩,rfl,rfl⟩,?_⟩;clear h2)
  rintro i ⟨hi,he⟩
  repeat'(intro t ht;first|(cases t<;>first|(cases ht;done)|(try simp only[zg_]at ht))|((first|refine za_ ht ?_|refine ht ?_ ?_|refine ht.1 ?_ ?_|refine ht ?_)<;>clear ht))
  all_goals first
   | ((try simp only [zq_,zr_,zj_] at*);omega)
   | (have hge:b.length<=i:=by omega
      refine ⟨?_,rfl⟩;rw [he,List.drop_of_length_le hge];rfl)
   | (have hlt:i < b.length:=by omega
      rw [z2_ hlt 0] at he
      unfold jx_ at he
      rw [List.all_cons] at he
      first
       | (have hk:decide (b.getD i 0=0)=false:=decide_eq_false (by assumption)
          refine ⟨?_,rfl⟩;unfold jx_;rw [he,hk];rfl)
       | (have hk:decide (b.getD i 0=0)=true:=decide_eq_true (by assumption)
          rw [hk,Bool.true_and] at he
          exact ⟨i+1,⟨hlt,he⟩,by (try simp only [zq_,zr_,zj_] at*);omega,rfl,rfl⟩))
 ·cases e
def inA:List Int->List Int->Bool
 | x :: r,y :: l=>if zk_ .and .u8 x y=x then inA r l else false
 | _,_=>true
def YX_:IR:=
(sq (kr [0,1] [oD 4 (.mov cF)])
(sq (sq (.reg [oD 5 (.mov (cI 0))])
(.block 0
(.loop
(sq (sq (kr [0,1,5] [oM 6 5,
oM 7 0,
oE 8 7,
oB 9 .lss 6 8])
(.cond 9
.skip
(.exit 0)))
(sq (.block 1
(sq (kd [0,1,5] [(oM 12 0,[]),
(oM 13 5,[0]),
(oI 14 1 12 13,[]),
(oL 15 14,[]),
(oM 16 1,[0,0,0,0]),
(oM 17 5,[0,0,0,0,0]),
(oI 18 1 16 17,[2,0,0,0]),
(oL 19 18,[3,0,0,0]),
(oB 20 .and 15 19,[]),
(oM 21 0,[0,0,0,0,0,0,0,0,0]),
(oM 22 5,[0,0,0,0,0,0,0,0,0,0]),
(oI 23 1 21 22,[2,0,0,0,0,0,0,0,0]),
(oL 24 23,[3,0,0,0,0,0,0,0,0]),
(oB 25 .neq 20 24,[])])
(.cond 25
(sq (kr [] [oD 4 (.mov cF)])
.ret)
.skip)))
(kr [0,1,5] [oM 10 5,
oB 11 .add 10 (cI 1),
oM 5 11]))))))
(sq (kr [] [oD 4 (.mov cT)])
.ret)))
def Yp_:List RD:=[.tmp 4 true none]
theorem YF_:zl_ Tryz.prog Tryz.f87 YX_ Yp_=true:=by kernel_rfl
def ja_:List AV->List Obj->Option (Prop × AV)
 | [.imm (.int .u8) v,.imm (.int .u8) m],[]=>some ((v.length<=m.length,.bool (inA v m)))
 | _,_=>none
theorem Xv_:zf_ Tryz.prog 87 (RoF ja_).sum:=by
 refine zh_ Tryz.func87 YF_ (zd_ _) fun args objs p v e=>?_
 unfold ja_ at e
 split at e
 ·rename_i v m
  cases e
  refine ⟨rfl,fun hw ho hp=>?_⟩
  change List Int at v
  change List Int at m
  have hl:m.length<=maxLen:=(hw (.imm (.int .u8) m) (by simp)).2
  unfold maxLen at hl
  repeat'(intro t ht;first|(cases t<;>first|(cases ht;done)|(try simp only[zg_]at ht))|((first|refine za_ ht ?_|refine ht ?_ ?_|refine ht.1 ?_ ?_|refine ht ?_)<;>clear ht))
  all_goals first
   | (intro r h1 h2;clear h1;refine h2 ⟨[0,1,5],Nat,(fun i=>i<=v.length/\inA v m=inA (v.drop i) (m.drop i)),fun i=>[.imm (.int .u8) v,.imm (.int .u8) m,.int .i64 i],fun _=>[],fun i=>v.length - i,⟨0,⟨Nat.zero_le _,rfl⟩,rfl,rfl⟩,?_⟩;clear h2)
  rintro i ⟨hi,he⟩
  repeat'(intro t ht;first|(cases t<;>first|(cases ht;done)|(try simp only[zg_]at ht))|((first|refine za_ ht ?_|refine ht ?_ ?_|refine ht.1 ?_ ?_|refine ht ?_)<;>clear ht))
  all_goals first
   | ((try simp only [zq_,zr_,zj_] at*);omega)
   | (have h0:v.drop i=[]:=List.drop_of_length_le (by omega)
      refine ⟨?_,rfl⟩;rw [he,h0];rfl)
   | (have hlt:i < v.length:=by omega
      have hlm:i < m.length:=by omega
      rw [z2_ hlt 0,z2_ hlm 0] at he
      first
       | (have hx:zk_ .and .u8 (v.getD i 0) (m.getD i 0)=v.getD i 0:=by assumption
          have h1:inA (v.getD i 0 :: v.drop (i+1)) (m.getD i 0 :: m.drop (i+1))=inA (v.drop (i+1)) (m.drop (i+1)):=if_pos hx
          exact ⟨i+1,⟨hlt,by rw [he,h1]⟩,by dsimp only;omega,rfl,rfl⟩)
       | (have hx:¬ zk_ .and .u8 (v.getD i 0) (m.getD i 0)=v.getD i 0:=by assumption
          have h1:inA (v.getD i 0 :: v.drop (i+1)) (m.getD i 0 :: m.drop (i+1))=false:=if_neg hx
          refine ⟨?_,rfl⟩;rw [he,h1]))
 ·cases e
def k0_ (b:List Int):Nat->Int->Bool
 | 0,_=>true
 | f+1,i=>if zk_ .and .u8 ((b.getD (b.length - 1 - i.tdiv 8:Int).toNat 0).fdiv (2 ^ (min (i.tmod 8).toNat 8))) 1=0 then false else k0_ b f (i+1)
theorem JN_ {b:List Int} {f:Nat} {i:Int} (h:zk_ .and .u8 ((b.getD (b.length - 1 - i.tdiv 8:Int).toNat 0).fdiv (2 ^ (min (i.tmod 8).toNat 8))) 1=0):k0_ b (f+1) i=false:=if_pos h
theorem JM_ {b:List Int} {f:Nat} {i:Int} (h:¬ zk_ .and .u8 ((b.getD (b.length - 1 - i.tdiv 8:Int).toNat 0).fdiv (2 ^ (min (i.tmod 8).toNat 8))) 1=0):k0_ b (f+1) i=k0_ b f (i+1):=if_neg h
def UV_:IR:=
(sq (kr [0,1] [oD 4 (.mov cF)])
(sq (sq (.reg [oD 5 (.mov (cI 0))])
(.block 0
(.loop
(sq (sq (kr [0,1,5] [oM 6 5,
oM 7 1,
oB 8 .lss 6 7])
(.cond 8
.skip
(.exit 0)))
(sq (.block 1
(sq (kr [0,1,5] [oM 11 0,
oM 12 0,
oE 13 12,
oB 14 .sub 13 (cI 1),
oM 15 5,
oB 16 .quo 15 (cI 8),
oB 17 .sub 14 16,
oI 18 1 11 17,
oL 19 18,
oM 20 5,
oB 21 .rem 20 (cI 8),
oB 22 .shr 19 21,
oB 23 .and 22 (.c (.int .u8 1)),
oB 24 .eql 23 (.c (.int .u8 0))])
(.cond 24
(sq (kr [] [oD 4 (.mov cF)])
.ret)
.skip)))
(kr [0,1,5] [oM 9 5,
oB 10 .add 9 (cI 1),
oM 5 10]))))))
(sq (kr [] [oD 4 (.mov cT)])
.ret)))
def u9_:List RD:=[.tmp 4 true none]
theorem Ur_:zl_ Tryz.prog Tryz.f86 UV_ u9_=true:=by kernel_rfl
def J8_:List AV->List Obj->Option (Prop × AV)
 | [.imm (.int .u8) b,.int .i64 n],[]=>some ((0<=n/\n<=8*b.length/\b.length<=1000000,.bool (k0_ b n.toNat 0)))
 | _,_=>none
theorem Ve_:zf_ Tryz.prog 86 (RoF J8_).sum:=by
 refine zh_ Tryz.func86 Ur_ (zd_ _) fun args objs p v e=>?_
 unfold J8_ at e
 split at e
 ·rename_i b n
  cases e
  refine ⟨rfl,fun hw ho hp=>?_⟩
  change List Int at b
  repeat'(intro t ht;first|(cases t<;>first|(cases ht;done)|(try simp only[zg_]at ht))|((first|refine za_ ht ?_|refine ht ?_ ?_|refine ht.1 ?_ ?_|refine ht ?_)<;>clear ht))
  all_goals first
   | (intro r h1 h2;clear h1;refine h2 ⟨[0,1,5],Nat,(fun i=>(i:Int)<=n/\k0_ b n.toNat 0=k0_ b (n.toNat - i) i),fun i=>[.imm (.int .u8) b,.int .i64 n,.int .i64 i],fun _=>[],fun i=>n.toNat - i,⟨0,⟨hp.1,rfl⟩,rfl,rfl⟩,?_⟩;clear h2)
  rintro i ⟨hi,he⟩
  have htd:(i:Int).tdiv 8=i / 8:=ku_ (by omega)
  have htm:(i:Int).tmod 8=i % 8:=Jf_ (by omega)
  repeat'(intro t ht;first|(cases t<;>first|(cases ht;done)|(try simp only[zg_]at ht))|((first|refine za_ ht ?_|refine ht ?_ ?_|refine ht.1 ?_ ?_|refine ht ?_)<;>clear ht))
  all_goals first
   | exact (by decide)
   | ((try simp only [zq_,zr_,zj_] at*);omega)
   | ((try simp only [zq_,zr_,zj_] at*);simp only [htd,htm];omega)
   | (have h0:n.toNat - i=0:=by omega
      refine ⟨?_,rfl⟩;rw [he,h0];rfl)
   | (have h1:n.toNat - i=(n.toNat - (i+1))+1:=by omega
      rw [h1] at he
      first
       | (have hf:=JN_ (f:=n.toNat - (i+1)) (b:=b) (i:=i) (by assumption)
          refine ⟨?_,rfl⟩;rw [he,hf])
       | (have hf:=JM_ (f:=n.toNat - (i+1)) (b:=b) (i:=i) (by assumption)
          exact ⟨i+1,⟨by omega,by rw [he,hf];rfl⟩,by dsimp only;omega,rfl,rfl⟩))
 ·cases e
def wK_ (c f:Int):Bool:=if c=65535 then decide (0<=f) && decide (f<=127) else fIs f && decide (c=32768)
def QP_ (c f:Int):Int:=if c=65535 then 100 else kS_ f
def qT_ (c f:Int):Int:=if c=65535 then 0 else Zz_ f
def KT_ (c f:Int):Bool:=if c=65535 then true else vI_ f
def zT_ (c:Int):Bool:=decide (c=65535)
theorem fK:∀ k < 40,0<=kS_ (k:Nat)/\kS_ (k:Nat)<=16/\0<=Zz_ (k:Nat)/\Zz_ (k:Nat)<=128:=by decide+kernel
theorem f_le (f:Int):0<=kS_ f/\kS_ f<=16/\0<=Zz_ f/\Zz_ f<=128:=by
 cases h:fIs f with
 | true=>
   have hn:=ZG_.1 h
   have:=fK f.toNat (by omega)
   rwa [Int.toNat_of_nonneg hn.1] at this
 | false=>unfold kS_ Zz_;rw [h];simp
theorem G6_ (c f:Int):0<=QP_ c f/\QP_ c f<=100/\0<=qT_ c f/\qT_ c f<=128:=by
 have:=f_le f
 unfold QP_ qT_;split<;>omega
def Hk_:IR:=
(sq (kr [0] [oD 1 (.boxv 0),
oD 2 (.box [.int .i64 0,.int .i64 0,.kb false,.kb false]),
oD 3 (.mov cF)])
(sq (sq (.reg [oA 6 0 1,
oL 7 6,
oB 8 .eql 7 (cI 65535)])
(.cond 8
(sq (kd [1,2] [(oD 9 (.build [.int .i64 0,.int .i64 0,.kb false,.kb false] [(0,1,(cI 100)),(2,1,cT),(3,1,cT)]),[]),
(oA 10 1 1,[0]),
(oL 11 10,[1]),
(oB 12 .geq 11 (cI 0),[2]),
(oM 13 12,[3]),
(oT 13 14 (.fieldAddr 1 1),[4]),
(oT 13 15 (.load none 14),[5]),
(oT 13 16 (.bin .leq 15 (cI 127)),[6]),
(oP 17 13 16 cF,[7]),
(oS 4 2 9,[0,0,0,0]),
(oM 3 17,[])])
.ret)
.skip))
(sq (kr [1,2] [oA 19 1 1,
oL 20 19,
oC 21 69 [20],
oM 18 21,
oX 22 18 0,
oX 23 18 1,
oD 4 (.box [.int .i64 0,.int .i64 0,.kb false,.int .i64 0,.imm (.int .u64) []]),
oS 5 4 22,
oM 5 23])
(sq (kd [1,2,4,5] [(oA 24 1 4,[]),
(oL 25 24,[]),
(oA 26 0 4,[0,0]),
(oL 27 26,[1,0]),
(oA 28 2 4,[0,0,0,0]),
(oL 29 28,[1,0,0,0]),
(oD 30 (.build [.int .i64 0,.int .i64 0,.kb false,.kb false] [(0,1,25),(1,1,27),(2,1,29)]),[]),
(oM 31 5,[0,0,0,0,0,0,0]),
(oM 32 31,[1,0,0,0,0,0,0]),
(oT 32 33 (.fieldAddr 0 1),[2,0,0,0,0,0,0]),
(oT 32 34 (.load none 33),[3,0,0,0,0,0,0]),
(oT 32 35 (.bin .eql 34 (cI 32768)),[4,0,0,0,0,0,0]),
(oP 36 32 35 cF,[5,0,0,0,0,0,0]),
(oS 4 2 30,[0,0,0,0]),
(oM 3 36,[])])
.ret))))
def hY_:List RD:=[.cell 2 (some 4) true [],.tmp 3 true none]
theorem h3_:zl_ Tryz.prog Tryz.f57 Hk_ hY_=true:=by kernel_rfl
def y4_:List AV->List Obj->Option (Prop × AV)
 | [.agg [.int .i64 c,.int .i64 f,.bool h,.int .u64 x,.imm (.int .u8) v,.imm (.int .u8) m]],[]=>some ((True,.tup [.agg [.int .i64 (QP_ c f),.int .i64 (qT_ c f),.bool (KT_ c f),.bool (zT_ c)],.bool (wK_ c f)]))
 | _,_=>none
theorem gN_:zf_ Tryz.prog 57 (RoF y4_).sum:=by
 refine zh_ Tryz.func57 h3_ (zb_ (s:=RoF QX_) kv_ (zd_ _)) fun args objs p v e=>?_
 unfold y4_ at e
 split at e
 ·rename_i c f h x v m
  cases e
  refine ⟨rfl,fun hw ho hp=>?_⟩
  change List Int at v
  change List Int at m
  repeat'(intro t ht;first|(cases t<;>first|(cases ht;done)|(try simp only[zg_]at ht))|((first|refine za_ ht ?_|refine ht ?_ ?_|refine ht.1 ?_ ?_|refine ht ?_)<;>clear ht))
  all_goals first
   | exact True.intro
   | (simp_all [wK_,QP_,qT_,KT_,zT_];done)
   | (simp_all [wK_,QP_,qT_,KT_,zT_];omega)
 ·cases e
def Kh_ (f:Int) (h:Bool) (v m:List Int) (bits:Int) (ex:Bool):Int:=
 if ex=false/\qY_ f v=false then 1032 else if h=true/\ex=false/\qY_ f m=false then 1033
 else if h=true/\(jx_ m=true\/jI_ m (if ex=true then m.length*8 else bits)=true) then 1033 else if h=true/\jH_ v m=true then 1030 else 0
def up_:IR:=
(sq (kr [0,1] [oD 2 (.boxv 0),
oD 3 (.boxv 1),
oD 4 (.mov (cI 0))])
(sq (sq (.reg [oA 5 3 3,
oL 6 5])
(.cond 6
(kr [2,3] [oA 7 5 2,
oL 8 7,
oE 9 8,
oB 10 .mul 9 (cI 8),
oA 11 1 3,
oS 1 11 10])
.skip))
(sq (.block 0
(sq (.block 3
(.block 2
(sq (.block 1
(sq (sq (sq (kr [2,3] [oA 13 3 3,
oL 14 13,
oD 15 (.un .not 14),
oM 16 15,
oT 16 17 (.fieldAddr 1 2),
oT 16 18 (.load none 17),
oT 16 19 (.fieldAddr 4 2),
oT 16 20 (.load none 19),
oT 16 21 (.call false (.f 77) [18,20]),
oT 16 22 (.un .not 21),
oP 23 16 22 cF,
oM 12 23])
(.cond 12
(.exit 1)
.skip))
(sq (sq (kr [2,3] [oA 25 2 2,
oL 26 25,
oM 27 26,
oT 27 28 (.fieldAddr 3 3),
oT 27 29 (.load none 28),
oT 27 30 (.un .not 29),
oP 31 27 30 cF,
oM 32 31,
oT 32 33 (.fieldAddr 1 2),
oT 32 34 (.load none 33),
oT 32 35 (.fieldAddr 5 2),
oT 32 36 (.load none 35),
oT 32 37 (.call false (.f 77) [34,36]),
oT 32 38 (.un .not 37),
oP 39 32 38 cF,
oM 24 39])
(.cond 24
(.exit 2)
.skip))
(sq (kr [2,3] [oA 41 2 2,
oL 42 41,
oM 43 42,
oT 43 44 (.fieldAddr 5 2),
oT 43 45 (.load none 44),
oT 43 46 (.call false (.f 78) [45]),
oT 43 47 (.mov 46),
oF 47 48 (.fieldAddr 5 2),
oF 47 49 (.load none 48),
oF 47 50 (.fieldAddr 1 3),
oF 47 51 (.load none 50),
oF 47 52 (.call false (.f 79) [49,51]),
oT 43 53 (.pick 47 cT 52),
oP 54 43 53 cF,
oM 40 54])
(.cond 40
(.exit 3)
.skip))))
(.exit 0)))
(sq (sq (kr [] [oD 4 (.mov (cI 1032))])
.ret)
(.exit 0)))))
(sq (sq (kr [] [oD 4 (.mov (cI 1033))])
.ret)
(.exit 0))))
(sq (sq (kr [2] [oA 55 2 2,
oL 56 55,
oM 57 56,
oT 57 58 (.fieldAddr 4 2),
oT 57 59 (.load none 58),
oT 57 60 (.fieldAddr 5 2),
oT 57 61 (.load none 60),
oT 57 62 (.call false (.f 80) [59,61]),
oP 63 57 62 cF])
(.cond 63
(sq (kr [] [oD 4 (.mov (cI 1030))])
.ret)
.skip))
(sq (kr [] [oD 4 (.mov (cI 0))])
.ret)))))
def VC_:List RD:=[.tmp 4 true none]
theorem VV_:zl_ Tryz.prog Tryz.f58 up_ VC_=true:=by kernel_rfl
def j7_:List AV->List Obj->Option (Prop × AV)
 | [.agg [.int .i64 c,.int .i64 f,.bool h,.int .u64 x,.imm (.int .u8) v,.imm (.int .u8) m],.agg [.int .i64 sz,.int .i64 bits,.bool mk,.bool ex]],[]=>some (((h=true->v.length<=m.length)/\m.length<=100000/\0<=bits/\bits<=1000000,.int .i64 (Kh_ f h v m bits ex)))
 | _,_=>none
theorem Yk_:zf_ Tryz.prog 58 (RoF j7_).sum:=by
 refine zh_ Tryz.func58 VV_ (zb_ (s:=RoF jh_) XB_ (zb_ (s:=RoF j8_) Yl_ (zb_ (s:=RoF wc_) Vi_ (zb_ (s:=RoF Kn_) xy_ (zd_ _))))) fun args objs p v e=>?_
 unfold j7_ at e
 split at e
 ·rename_i c f h x v m sz bits mk ex
  cases e
  refine ⟨rfl,fun hw ho hp=>?_⟩
  change List Int at v
  change List Int at m
  cases h<;>cases ex
  all_goals repeat'(intro t ht;first|(cases t<;>first|(cases ht;done)|(try simp only[zg_]at ht))|((first|refine za_ ht ?_|refine ht ?_ ?_|refine ht.1 ?_ ?_|refine ht ?_)<;>clear ht))
  all_goals first
   | exact True.intro
   | exact hp.1 rfl
   | ((try simp only [zq_,zr_,zj_] at*);omega)
   | (unfold Kh_;simp_all;done)
 ·cases e
def QE_ (c:Int) (v m:List Int):Int:=if c=65535 then (v.length:Int)+m.length+4 else (v.length:Int)+m.length
def z7_ (c f:Int) (h:Bool) (x:Int) (v m:List Int):Bool:=
 wK_ c f && (!h || KT_ c f) && (zT_ c || decide (x=0)) && decide (x.fdiv (2 ^ (min (Int.toNat 32) IntKind.u64.bits))=0) &&
  (match h with | true=>decide ((m.length:Int)=v.length) | false=>decide (m.length=0)) && decide ((v.length:Int)<=QP_ c f) && decide (Kh_ f h v m (qT_ c f) (zT_ c)=0)
def ur_:IR:=
(sq (kr [0] [oD 1 (.boxv 0),
oD 2 (.mov cF)])
(sq (kr [1] [oK 6 6 1,
oC 7 57 [6],
oM 5 7,
oX 8 5 0,
oX 9 5 1,
oD 3 (.box [.int .i64 0,.int .i64 0,.kb false,.kb false]),
oS 4 3 8,
oM 4 9])
(sq (.block 0
(sq (.block 4
(sq (.block 3
(.block 2
(sq (.block 1
(sq (sq (sq (kr [1,3,4] [oM 11 4,
oD 12 (.un .not 11),
oM 13 12,
oF 13 14 (.fieldAddr 2 1),
oF 13 15 (.load none 14),
oF 13 16 (.mov 15),
oT 16 17 (.fieldAddr 2 3),
oT 16 18 (.load none 17),
oT 16 19 (.un .not 18),
oF 13 20 (.pick 16 19 cF),
oP 21 13 cT 20,
oM 10 21])
(.cond 10
(.exit 1)
.skip))
(sq (sq (kr [1,3] [oA 23 3 3,
oL 24 23,
oD 25 (.un .not 24),
oM 26 25,
oT 26 27 (.fieldAddr 3 1),
oT 26 28 (.load none 27),
oT 26 29 (.bin .neq 28 (.c (.int .u64 0))),
oP 30 26 29 cF,
oM 22 30])
(.cond 22
(.exit 2)
.skip))
(sq (sq (kr [1,3] [oA 32 3 1,
oL 33 32,
oB 34 .shr 33 (.c (.int .u64 32)),
oB 35 .neq 34 (.c (.int .u64 0)),
oM 31 35])
(.cond 31
(.exit 3)
.skip))
(sq (kr [1,3] [oA 37 2 1,
oL 38 37,
oM 39 38,
oT 39 40 (.fieldAddr 5 1),
oT 39 41 (.load none 40),
oT 39 42 (.len 41),
oT 39 43 (.fieldAddr 4 1),
oT 39 44 (.load none 43),
oT 39 45 (.len 44),
oT 39 46 (.bin .neq 42 45),
oP 47 39 46 cF,
oM 48 47,
oF 48 49 (.fieldAddr 2 1),
oF 48 50 (.load none 49),
oF 48 51 (.un .not 50),
oF 48 52 (.mov 51),
oT 52 53 (.fieldAddr 5 1),
oT 52 54 (.load none 53),
oT 52 55 (.len 54),
oT 52 56 (.bin .gtr 55 (cI 0)),
oF 48 57 (.pick 52 56 cF),
oP 58 48 cT 57,
oM 59 58,
oF 59 60 (.fieldAddr 4 1),
oF 59 61 (.load none 60),
oF 59 62 (.len 61),
oF 59 63 (.fieldAddr 0 3),
oF 59 64 (.load none 63),
oF 59 65 (.bin .gtr 62 64),
oP 66 59 cT 65,
oM 36 66])
(.cond 36
(.exit 4)
.skip)))))
(.exit 0)))
(sq (sq (kr [] [oD 2 (.mov cF)])
.ret)
(.exit 0)))))
(sq (sq (kr [] [oD 2 (.mov cF)])
.ret)
(.exit 0))))
(sq (sq (kr [] [oD 2 (.mov cF)])
.ret)
(.exit 0))))
(sq (kr [1,3] [oK 67 6 1,
oK 68 4 3,
oC 69 58 [67,68],
oB 70 .eql 69 (cI 0),
oM 2 70])
.ret))))
def VE_:List RD:=[.tmp 2 true none]
theorem VX_:zl_ Tryz.prog Tryz.f29 ur_ VE_=true:=by kernel_rfl
def Kf_:List AV->List Obj->Option (Prop × AV)
 | [.agg [.int .i64 c,.int .i64 f,.bool h,.int .u64 x,.imm (.int .u8) v,.imm (.int .u8) m]],[]=>some ((v.length<=1000000/\m.length<=1000000,.bool (z7_ c f h x v m)))
 | _,_=>none
theorem JC_:zf_ Tryz.prog 29 (RoF Kf_).sum:=by
 refine zh_ Tryz.func29 VX_ (zb_ (s:=RoF y4_) gN_ (zb_ (s:=RoF j7_) Yk_ (zd_ _))) fun args objs p v e=>?_
 unfold Kf_ at e
 split at e
 ·rename_i c f h x v m
  cases e
  refine ⟨rfl,fun hw ho hp=>?_⟩
  change List Int at v
  change List Int at m
  have hof:=G6_ c f
  cases h
  all_goals repeat'(intro t ht;first|(cases t<;>first|(cases ht;done)|(try simp only[zg_]at ht))|((first|refine za_ ht ?_|refine ht ?_ ?_|refine ht.1 ?_ ?_|refine ht ?_)<;>clear ht))
  all_goals first
   | exact True.intro
   | exact (by decide)
   | (refine ⟨fun h=>?_,?_,?_,?_⟩<;>first | omega | (cases h;done))
   | (unfold z7_;simp_all;done)
   | (have h0:¬ m.length=0:=by omega
      unfold z7_;simp_all;done)
   | (unfold z7_;simp_all;omega)
 ·cases e
def UY_:IR:=
(sq (kr [0] [oD 1 (.boxv 0),
oD 2 (.mov (cI 0))])
(sq (kr [1] [oA 4 4 1,
oL 5 4,
oE 6 5,
oA 7 5 1,
oL 8 7,
oE 9 8,
oB 10 .add 6 9,
oM 3 10])
(sq (sq (kr [1,3] [oA 11 0 1,
oL 12 11,
oB 13 .eql 12 (cI 65535)])
(.cond 13
(.reg [oM 14 3,
oB 15 .add 14 (cI 4),
oM 3 15])
.skip))
(sq (kr [3] [oM 16 3,
oM 2 16])
.ret))))
def Uc_:List RD:=[.tmp 2 true none]
theorem Uu_:zl_ Tryz.prog Tryz.f83 UY_ Uc_=true:=by kernel_rfl
def wb_:List AV->List Obj->Option (Prop × AV)
 | [.agg [.int .i64 c,.int .i64 f,.bool h,.int .u64 x,.imm (.int .u8) v,.imm (.int .u8) m]],[]=>some ((v.length<=1000000/\m.length<=1000000,.int .i64 (QE_ c v m)))
 | _,_=>none
theorem Vh_:zf_ Tryz.prog 83 (RoF wb_).sum:=by
 refine zh_ Tryz.func83 Uu_ (zd_ _) fun args objs p v e=>?_
 unfold wb_ at e
 split at e
 ·rename_i c f h x v m
  cases e
  refine ⟨rfl,fun hw ho hp=>?_⟩
  change List Int at v
  change List Int at m
  repeat'(intro t ht;first|(cases t<;>first|(cases ht;done)|(try simp only[zg_]at ht))|((first|refine za_ ht ?_|refine ht ?_ ?_|refine ht.1 ?_ ?_|refine ht ?_)<;>clear ht))
  all_goals first
   | ((try simp only [zq_,zr_,zj_] at*);omega)
   | (unfold QE_;simp_all;done)
 ·cases e
theorem Kv_ {c f:Int} {h:Bool} {x:Int} {v m:List Int} (hr:z7_ c f h x v m=true):(v.length:Int)<=QP_ c f/\(h=true->(m.length:Int)=v.length)/\(h=false->m.length=0)/\wK_ c f=true/\(h=true->KT_ c f=true)/\(zT_ c=true\/x=0)/\x.fdiv (2 ^ (min (Int.toNat 32) IntKind.u64.bits))=0/\Kh_ f h v m (qT_ c f) (zT_ c)=0:=by
 unfold z7_ at hr
 simp only [Bool.and_eq_true,Bool.or_eq_true,decide_eq_true_eq] at hr
 obtain ⟨⟨⟨⟨⟨⟨a1,a2⟩,a3⟩,a4⟩,a5⟩,a6⟩,a7⟩:=hr
 cases h with
 | true=>exact ⟨a6,fun _=>of_decide_eq_true a5,fun h=>(by cases h),a1,fun _=>a2.resolve_left (by simp),a3,a4,a7⟩
 | false=>exact ⟨a6,fun h=>(by cases h),fun _=>of_decide_eq_true a5,a1,fun h=>(by cases h),a3,a4,a7⟩
theorem Vq_ {f:Int} {v:List Int} (h:Zn_ f v=true):(v.length:Int)=zy_ f/\0<=zB_ f/\zB_ f<=8*zy_ f/\zy_ f<=16:=by
 unfold Zn_ at h
 split at h
 ·rename_i hh
  have hn:=ZG_.1 hh.1
  have:=gF_ f.toNat (by omega)
  rw [Int.toNat_of_nonneg hn.1] at this
  omega
 ·cases h
def Vr_ (c f:Int) (h:Bool) (v m:List Int):Int:=
 if c=32768/\Zn_ f v=false then 1032 else if h=true/\c=32768/\Zn_ f m=false then 1033
 else if h=true/\(jx_ m=true\/k0_ m (if c=32768 then zB_ f else 8*m.length).toNat 0=true) then 1033 else if h=true/\inA v m=false then 1030 else 0
def uk_:IR:=
(sq (kr [0] [oD 1 (.boxv 0),
oD 2 (.mov (cI 0))])
(sq (kr [1] [oA 7 1 1,
oL 8 7,
oC 9 53 [8],
oM 6 9,
oX 10 6 0,
oX 11 6 1,
oD 3 (.box [.str [],.int .i64 0,.int .i64 0,.kb false,.int .i64 0,.imm (.int .u64) []]),
oS 6 3 10,
oM 4 11])
(sq (kr [1,3] [oA 12 5 1,
oL 13 12,
oE 14 13,
oB 15 .mul (cI 8) 14,
oM 5 15])
(sq (sq (.reg [oA 16 0 1,
oL 17 16,
oB 18 .eql 17 (cI 32768)])
(.cond 18
(sq (kr [1,3] [oA 19 1 3,
oL 20 19,
oM 5 20])
(sq (sq (kr [1,5] [oA 21 1 1,
oL 22 21,
oA 23 4 1,
oL 24 23,
oC 25 84 [22,24],
oD 26 (.un .not 25)])
(.cond 26
(sq (kr [] [oD 2 (.mov (cI 1032))])
.ret)
.skip))
(sq (kr [1,5] [oA 27 2 1,
oL 28 27,
oM 29 28,
oT 29 30 (.fieldAddr 1 1),
oT 29 31 (.load none 30),
oT 29 32 (.fieldAddr 5 1),
oT 29 33 (.load none 32),
oT 29 34 (.call false (.f 84) [31,33]),
oT 29 35 (.un .not 34),
oP 36 29 35 cF])
(.cond 36
(sq (kr [] [oD 2 (.mov (cI 1033))])
.ret)
.skip))))
.skip))
(sq (sq (kr [1,5] [oA 37 2 1,
oL 38 37,
oM 39 38,
oT 39 40 (.fieldAddr 5 1),
oT 39 41 (.load none 40),
oT 39 42 (.call false (.f 85) [41]),
oT 39 43 (.mov 42),
oF 43 44 (.fieldAddr 5 1),
oF 43 45 (.load none 44),
oF 43 46 (.mov 5),
oF 43 47 (.call false (.f 86) [45,46]),
oT 39 48 (.pick 43 cT 47),
oP 49 39 48 cF])
(.cond 49
(sq (kr [] [oD 2 (.mov (cI 1033))])
.ret)
.skip))
(sq (sq (kr [1] [oA 50 2 1,
oL 51 50,
oM 52 51,
oT 52 53 (.fieldAddr 4 1),
oT 52 54 (.load none 53),
oT 52 55 (.fieldAddr 5 1),
oT 52 56 (.load none 55),
oT 52 57 (.call false (.f 87) [54,56]),
oT 52 58 (.un .not 57),
oP 59 52 58 cF])
(.cond 59
(sq (kr [] [oD 2 (.mov (cI 1030))])
.ret)
.skip))
(sq (kr [] [oD 2 (.mov (cI 0))])
.ret)))))))
def Vx_:List RD:=[.tmp 2 true none]
theorem VQ_:zl_ Tryz.prog Tryz.f63 uk_ Vx_=true:=by kernel_rfl
def j4_:List AV->List Obj->Option (Prop × AV)
 | [.agg [.int .i64 c,.int .i64 f,.bool h,.int .u64 x,.imm (.int .u8) v,.imm (.int .u8) m]],[]=>some (((h=true->c ≠ 32768->v.length<=m.length)/\m.length<=100000,.int .i64 (Vr_ c f h v m)))
 | _,_=>none
theorem Yh_:zf_ Tryz.prog 63 (RoF j4_).sum:=by
 refine zh_ Tryz.func63 VQ_ (zb_ (s:=RoF kV_) kK_ (zb_ (s:=RoF wa_) Vg_ (zb_ (s:=RoF j3_) Yg_ (zb_ (s:=RoF J8_) Ve_ (zb_ (s:=RoF ja_) Xv_ (zd_ _)))))) fun args objs p v e=>?_
 unfold j4_ at e
 split at e
 ·rename_i c f h x v m
  cases e
  refine ⟨rfl,fun hw ho hp=>?_⟩
  change List Int at v
  change List Int at m
  have hfv:=Vq_ (f:=f) (v:=v)
  have hfm:=Vq_ (f:=f) (v:=m)
  cases h<;>by_cases hc:c=32768
  all_goals repeat'(intro t ht;first|(cases t<;>first|(cases ht;done)|(try simp only[zg_]at ht))|((first|refine za_ ht ?_|refine ht ?_ ?_|refine ht.1 ?_ ?_|refine ht ?_)<;>clear ht))
  all_goals first
   | exact True.intro
   | contradiction
   | ((try simp only [zq_,zr_,zj_] at*);omega)
   | (have h1:=hfm (by assumption);(try simp only [zq_,zr_,zj_] at*);omega)
   | (have h1:=hfm (by assumption);have h2:=hfv (by assumption);(try simp only [zq_,zr_,zj_] at*);omega)
   | (have h1:=hp.1 rfl (by assumption);exact h1)
   | (unfold Vr_;simp_all;done)
 ·cases e
def XK_ (c f:Int) (h:Bool) (x:Int) (v m:List Int):Bool:=
 if (h=false/\0 < m.length)\/(h=true/\¬ (m.length:Int)=v.length) then false
 else if c=32768 then fIs f && decide (x=0) && (!h || qX_ f) && decide (Vr_ c f h v m=0)
 else decide (c=65535) && decide (0<=f) && decide (f<=127) && decide (x < 4294967296) && decide ((v.length:Int)<=100) && decide (Vr_ c f h v m=0)
def ul_:IR:=
(sq (kr [0] [oD 1 (.boxv 0),
oD 2 (.mov cF)])
(sq (sq (kr [1] [oA 5 2 1,
oL 6 5,
oD 7 (.un .not 6),
oM 8 7,
oT 8 9 (.fieldAddr 5 1),
oT 8 10 (.load none 9),
oT 8 11 (.len 10),
oT 8 12 (.bin .gtr 11 (cI 0)),
oP 13 8 12 cF,
oM 14 13,
oF 14 15 (.fieldAddr 2 1),
oF 14 16 (.load none 15),
oF 14 17 (.mov 16),
oT 17 18 (.fieldAddr 5 1),
oT 17 19 (.load none 18),
oT 17 20 (.len 19),
oT 17 21 (.fieldAddr 4 1),
oT 17 22 (.load none 21),
oT 17 23 (.len 22),
oT 17 24 (.bin .neq 20 23),
oF 14 25 (.pick 17 24 cF),
oP 26 14 cT 25])
(.cond 26
(sq (kr [] [oD 2 (.mov cF)])
.ret)
.skip))
(sq (sq (kr [1] [oA 27 0 1,
oL 28 27,
oB 29 .eql 28 (cI 32768)])
(.cond 29
(sq (kr [1] [oA 31 1 1,
oL 32 31,
oC 33 53 [32],
oM 30 33,
oX 34 30 0,
oX 35 30 1,
oD 3 (.box [.str [],.int .i64 0,.int .i64 0,.kb false,.int .i64 0,.imm (.int .u64) []]),
oS 6 3 34,
oM 4 35])
(sq (kr [1,3,4] [oM 36 4,
oM 37 36,
oT 37 38 (.fieldAddr 3 1),
oT 37 39 (.load none 38),
oT 37 40 (.bin .eql 39 (.c (.int .u64 0))),
oP 41 37 40 cF,
oM 42 41,
oT 42 43 (.fieldAddr 2 1),
oT 42 44 (.load none 43),
oT 42 45 (.un .not 44),
oT 42 46 (.mov 45),
oF 46 47 (.fieldAddr 3 3),
oF 46 48 (.load none 47),
oT 42 49 (.pick 46 cT 48),
oP 50 42 49 cF,
oM 51 50,
oT 51 52 (.load (some 6) 1),
oT 51 53 (.call false (.f 63) [52]),
oT 51 54 (.bin .eql 53 (cI 0)),
oP 55 51 54 cF,
oM 2 55])
.ret))
.skip))
(sq (kr [1] [oA 56 0 1,
oL 57 56,
oB 58 .eql 57 (cI 65535),
oM 59 58,
oT 59 60 (.fieldAddr 1 1),
oT 59 61 (.load none 60),
oT 59 62 (.bin .geq 61 (cI 0)),
oP 63 59 62 cF,
oM 64 63,
oT 64 65 (.fieldAddr 1 1),
oT 64 66 (.load none 65),
oT 64 67 (.bin .leq 66 (cI 127)),
oP 68 64 67 cF,
oM 69 68,
oT 69 70 (.fieldAddr 3 1),
oT 69 71 (.load none 70),
oT 69 72 (.bin .lss 71 (.c (.int .u64 4294967296))),
oP 73 69 72 cF,
oM 74 73,
oT 74 75 (.fieldAddr 4 1),
oT 74 76 (.load none 75),
oT 74 77 (.len 76),
oT 74 78 (.bin .leq 77 (cI 100)),
oP 79 74 78 cF,
oM 80 79,
oT 80 81 (.load (some 6) 1),
oT 80 82 (.call false (.f 63) [81]),
oT 80 83 (.bin .eql 82 (cI 0)),
oP 84 80 83 cF,
oM 2 84])
.ret))))
def Vy_:List RD:=[.tmp 2 true none]
theorem VR_:zl_ Tryz.prog Tryz.f32 ul_ Vy_=true:=by kernel_rfl
def j5_:List AV->List Obj->Option (Prop × AV)
 | [.agg [.int .i64 c,.int .i64 f,.bool h,.int .u64 x,.imm (.int .u8) v,.imm (.int .u8) m]],[]=>some ((m.length<=100000,.bool (XK_ c f h x v m)))
 | _,_=>none
theorem Yi_:zf_ Tryz.prog 32 (RoF j5_).sum:=by
 refine zh_ Tryz.func32 VR_ (zb_ (s:=RoF kV_) kK_ (zb_ (s:=RoF j4_) Yh_ (zd_ _))) fun args objs p v e=>?_
 unfold j5_ at e
 split at e
 ·rename_i c f h x v m
  cases e
  refine ⟨rfl,fun hw ho hp=>?_⟩
  change List Int at v
  change List Int at m
  have hm:m.length<=maxLen:=(hw _ (List.mem_cons_self ..) (.imm (.int .u8) m) (by simp)).2
  have hv:v.length<=maxLen:=(hw _ (List.mem_cons_self ..) (.imm (.int .u8) v) (by simp)).2
  unfold maxLen at hm hv
  cases h<;>by_cases hc:c=32768
  all_goals repeat'(intro t ht;first|(cases t<;>first|(cases ht;done)|(try simp only[zg_]at ht))|((first|refine za_ ht ?_|refine ht ?_ ?_|refine ht.1 ?_ ?_|refine ht ?_)<;>clear ht))
  all_goals first
   | exact True.intro
   | contradiction
   | (refine ⟨fun h1 h2=>?_,?_⟩<;>first | omega | (cases h1;done))
   | ((try simp only [zq_,zr_,zj_] at*);omega)
   | (unfold XK_;simp_all;done)
   | (unfold XK_;simp_all;omega)
 ·cases e
def yT_ (c x:Int) (v m:List Int):List Int:=(if c=65535 then zA_ x 4 else [])++v++m
def XL_ (c f:Int) (h:Bool) (x:Int) (v m:List Int):List Int:=zA_ c 2++[2*f+if h=true then 1 else 0,((yT_ c x v m).length:Int)]++yT_ c x v m
def um_:IR:=
(sq (kr [0] [oD 1 (.boxv 0),
oD 2 (.nilrow (.int .u8))])
(sq (.reg [oD 3 (.nilrow (.int .u8))])
(sq (sq (.reg [oA 5 0 1,
oL 6 5,
oB 7 .eql 6 (cI 65535)])
(.cond 7
(kr [1] [oA 8 3 1,
oL 9 8,
oC 10 73 [9,(cI 4)],
oM 3 10])
.skip))
(sq (kd [1,3] [(oM 11 3,[]),
(oA 12 4 1,[0]),
(oL 13 12,[1]),
(oD 14 (.append (.int .u8) 1 11 13),[]),
(oA 15 5 1,[0,0,0,0]),
(oL 16 15,[1,0,0,0]),
(oD 17 (.append (.int .u8) 1 14 16),[]),
(oM 3 17,[])])
(sq (kr [1,3] [oA 18 1 1,
oL 19 18,
oB 20 .mul (cI 2) 19,
oM 4 20])
(sq (sq (.reg [oA 21 2 1,
oL 22 21])
(.cond 22
(kr [1,3,4] [oM 23 4,
oB 24 .add 23 (cI 1),
oM 4 24])
.skip))
(sq (kr [1,3,4] [oA 25 0 1,
oL 26 25,
oD 27 (.conv .u64 26),
oC 28 73 [27,(cI 2)],
oM 29 4,
oD 30 (.conv .u8 29),
oM 31 3,
oE 32 31,
oD 33 (.conv .u8 32),
oD 34 (.sliceAll (.int .u8) 2 [(0,1,30),(1,1,33)]),
oD 35 (.append (.int .u8) 1 28 34),
oM 36 3,
oD 37 (.append (.int .u8) 1 35 36),
oM 2 37])
.ret)))))))
def Vz_:List RD:=[.tmp 2 true (some (.int .u8))]
theorem VS_:zl_ Tryz.prog Tryz.f49 um_ Vz_=true:=by kernel_rfl
def j6_:List AV->List Obj->Option (Prop × AV)
 | [.agg [.int .i64 c,.int .i64 f,.bool h,.int .u64 x,.imm (.int .u8) v,.imm (.int .u8) m]],[]=>some ((0<=f/\f<=127/\0<=c/\c<=65535/\v.length<=100/\m.length<=100,.imm (.int .u8) (XL_ c f h x v m)))
 | _,_=>none
theorem Yj_:zf_ Tryz.prog 49 (RoF j6_).sum:=by
 refine zh_ Tryz.func49 VS_ (zb_ (s:=RwF Jr_) xf_ (zd_ _)) fun args objs p v e=>?_
 unfold j6_ at e
 split at e
 ·rename_i c f h x v m
  cases e
  refine ⟨rfl,fun hw ho hp=>?_⟩
  change List Int at v
  change List Int at m
  have hx:=QU_ (n:=x) (w:=4) (by decide)
  have hc2:=QU_ (n:=c) (w:=2) (by decide)
  cases h<;>by_cases hc:c=65535
  all_goals repeat'(intro t ht;first|(cases t<;>first|(cases ht;done)|(try simp only[zg_]at ht))|((first|refine za_ ht ?_|refine ht ?_ ?_|refine ht.1 ?_ ?_|refine ht ?_)<;>clear ht))
  all_goals first
   | exact True.intro
   | exact (by decide)
   | contradiction
   | ((try simp only [zq_,zr_,zj_] at*);omega)
   | (simp only [List.length_append,List.length_cons,List.length_nil,yM_];(try simp only [zq_,zr_,zj_] at*);omega)
   | (unfold XL_ yT_;simp_all;done)
 ·cases e
def jE_ (c f:Int) (h:Bool) (x:Int) (v m:List Int):Int:=if z7_ c f h x v m=true then 4+QE_ c v m else 0
def U0_:IR:=
(sq (kr [0] [oD 1 (.boxv 0),
oD 2 (.mov (cI 0))])
(sq (sq (.reg [oK 3 6 1,
oC 4 29 [3],
oD 5 (.un .not 4)])
(.cond 5
(sq (.reg [oD 2 (.mov (cI 0))])
.ret)
.skip))
(sq (kr [1] [oK 6 6 1,
oC 7 83 [6],
oB 8 .add (cI 4) 7,
oM 2 8])
.ret)))
def Ue_:List RD:=[.tmp 2 true none]
theorem Uw_:zl_ Tryz.prog Tryz.f62 U0_ Ue_=true:=by kernel_rfl
def wd_:List AV->List Obj->Option (Prop × AV)
 | [.agg [.int .i64 c,.int .i64 f,.bool h,.int .u64 x,.imm (.int .u8) v,.imm (.int .u8) m]],[]=>some ((v.length<=1000000/\m.length<=1000000,.int .i64 (jE_ c f h x v m)))
 | _,_=>none
theorem Vj_:zf_ Tryz.prog 62 (RoF wd_).sum:=by
 refine zh_ Tryz.func62 Uw_ (zb_ (s:=RoF Kf_) JC_ (zb_ (s:=RoF wb_) Vh_ (zd_ _))) fun args objs p v e=>?_
 unfold wd_ at e
 split at e
 ·rename_i c f h x v m
  cases e
  refine ⟨rfl,fun hw ho hp=>?_⟩
  change List Int at v
  change List Int at m
  repeat'(intro t ht;first|(cases t<;>first|(cases ht;done)|(try simp only[zg_]at ht))|((first|refine za_ ht ?_|refine ht ?_ ?_|refine ht.1 ?_ ?_|refine ht ?_)<;>clear ht))
  all_goals first
   | exact hp
   | (have hr:z7_ c f h x v m=true:=by assumption
      have hl:=Kv_ hr
      have hof:=G6_ c f
      have hm:(m.length:Int)<=100:=by cases h;have:=hl.2.2.1 rfl;omega;have:=hl.2.1 rfl;omega
      have hrest:0<=QE_ c v m/\QE_ c v m<=204:=by unfold QE_;split<;>omega
      first
       | ((try simp only [zq_,zr_,zj_] at*);omega)
       | (unfold jE_;rw [if_pos hr];exact ⟨rfl,rfl⟩))
   | (have hr:z7_ c f h x v m=false:=by assumption
      unfold jE_;rw [hr];exact ⟨rfl,rfl⟩)
 ·cases e
def za5_ (c f:Int) (h:Bool) (v m:List Int):List Int:=zA_ c 2++zA_ (2*f+if h=true then 1 else 0) 1++zA_ (QE_ c v m) 1
def Hq_ (c f:Int) (h:Bool) (x:Int) (v m:List Int):List Int:=za5_ c f h v m++(if c=65535 then zA_ x 4 else [])++v++m
def zcj_ (h ex:Bool) (sz n:Int):Int:=if ex=true then (n - 4).tdiv (if h=true then 2 else 1) else sz
def zck_ (h ex:Bool) (sz n:Int):Bool:=if ex=true then decide (0<=n - 4) && decide ((n - 4).tmod (if h=true then 2 else 1)=0) && decide ((n - 4).tdiv (if h=true then 2 else 1)<=sz) else decide (n=(if h=true then 2 else 1)*sz)
def yJ_ (b:List Int):Int:=Jy_ (b.take 2)
def Gu_ (b:List Int):Int:=(b.getD 2 0).tdiv 2
def Gt_ (b:List Int):Bool:=decide ((b.getD 2 0).tmod 2=1)
def decX (b:List Int):Int:=if yJ_ b=65535 then Jy_ ((b.drop 4).take 4) else 0
def b8_ (b:List Int):Int:=if yJ_ b=65535 then 8 else 4
def Hr_ (b:List Int):Int:=zcj_ (Gt_ b) (zT_ (yJ_ b)) (QP_ (yJ_ b) (Gu_ b)) (b.getD 3 0)
def decK (b:List Int):Bool:=zck_ (Gt_ b) (zT_ (yJ_ b)) (QP_ (yJ_ b) (Gu_ b)) (b.getD 3 0)
def decV (b:List Int):List Int:=(b.take (b8_ b+Hr_ b).toNat).drop (b8_ b).toNat
def decM (b:List Int):List Int:=if Gt_ b=true then (b.take (b8_ b+Hr_ b+Hr_ b).toNat).drop (b8_ b+Hr_ b).toNat else []
def decN (b:List Int):Int:=b8_ b+Hr_ b+if Gt_ b=true then Hr_ b else 0
def decE (b:List Int):Int:=if b.length < 4 then 1026 else if wK_ (yJ_ b) (Gu_ b)=false then 1031 else if Gt_ b=true/\KT_ (yJ_ b) (Gu_ b)=false then 1033 else if decK b=false\/(b.length:Int) - 4 < b.getD 3 0 then 1026 else Kh_ (Gu_ b) (Gt_ b) (decV b) (decM b) (qT_ (yJ_ b) (Gu_ b)) (zT_ (yJ_ b))
def decI (b:List Int) (x:Int):Int:=if decE b=0 then x else 0
def decR (b:List Int) (l:List Int):List Int:=if decE b=0 then l else []
def un_:IR:=
(sq (kr [0,1] [oD 2 (.boxv 0),
oD 3 (.boxv 1),
oD 4 (.mov cF)])
(sq (kr [2,3] [oA 5 0 2,
oL 6 5,
oA 7 0 3,
oL 8 7,
oB 9 .eql 6 8,
oM 10 9,
oT 10 11 (.fieldAddr 1 2),
oT 10 12 (.load none 11),
oT 10 13 (.fieldAddr 1 3),
oT 10 14 (.load none 13),
oT 10 15 (.bin .eql 12 14),
oP 16 10 15 cF,
oM 17 16,
oT 17 18 (.fieldAddr 3 2),
oT 17 19 (.load none 18),
oT 17 20 (.fieldAddr 3 3),
oT 17 21 (.load none 20),
oT 17 22 (.bin .eql 19 21),
oP 23 17 22 cF,
oM 4 23])
.ret))
def VA_:List RD:=[.tmp 4 true none]
theorem VT_:zl_ Tryz.prog Tryz.f23 un_ VA_=true:=by kernel_rfl
def qZ_:List AV->List Obj->Option (Prop × AV)
 | [.agg [.int .i64 c,.int .i64 f,.bool h,.int .u64 x,.imm (.int .u8) v,.imm (.int .u8) m],.agg [.int .i64 c',.int .i64 f',.bool h',.int .u64 x',.imm (.int .u8) v',.imm (.int .u8) m']],[]=>some ((True,.bool (decide (c=c') && decide (f=f') && decide (x=x'))))
 | _,_=>none
theorem Q1_:zf_ Tryz.prog 23 (RoF qZ_).sum:=by
 refine zh_ Tryz.func23 VT_ (zd_ _) fun args objs p v e=>?_
 unfold qZ_ at e
 split at e
 ·rename_i c f h x v m c' f' h' x' v' m'
  cases e
  refine ⟨rfl,fun hw ho hp=>?_⟩
  change List Int at v
  change List Int at m
  change List Int at v'
  change List Int at m'
  repeat'(intro t ht;first|(cases t<;>first|(cases ht;done)|(try simp only[zg_]at ht))|((first|refine za_ ht ?_|refine ht ?_ ?_|refine ht.1 ?_ ?_|refine ht ?_)<;>clear ht))
  all_goals first
   | exact True.intro
   | (simp_all;done)
 ·cases e
def xg_ (c f:Int) (h:Bool) (x:Int) (v m:List Int) (c' f':Int) (h':Bool) (x':Int) (v' m':List Int):Bool:=decide (c=c') && decide (f=f') && decide (x=x') && (h == h') && decide (v=v') && decide (m=m')
theorem hR_ (c f:Int) (h:Bool) (x:Int) (v m:List Int):xg_ c f h x v m c f h x v m=true:=by unfold xg_;simp
def UW_:IR:=
(sq (kr [0,1] [oD 2 (.boxv 0),
oD 3 (.boxv 1),
oD 4 (.mov cF)])
(sq (kr [2,3] [oK 5 6 2,
oK 6 6 3,
oC 7 23 [5,6],
oM 8 7,
oT 8 9 (.fieldAddr 2 2),
oT 8 10 (.load none 9),
oT 8 11 (.fieldAddr 2 3),
oT 8 12 (.load none 11),
oT 8 13 (.eqb false 10 12),
oP 14 8 13 cF,
oM 15 14,
oT 15 16 (.fieldAddr 4 2),
oT 15 17 (.load none 16),
oT 15 18 (.fieldAddr 4 3),
oT 15 19 (.load none 18),
oT 15 20 (.call false (.f 55) [17,19]),
oP 21 15 20 cF,
oM 22 21,
oT 22 23 (.fieldAddr 5 2),
oT 22 24 (.load none 23),
oT 22 25 (.fieldAddr 5 3),
oT 22 26 (.load none 25),
oT 22 27 (.call false (.f 55) [24,26]),
oP 28 22 27 cF,
oM 4 28])
.ret))
def Ua_:List RD:=[.tmp 4 true none]
theorem Us_:zl_ Tryz.prog Tryz.f26 UW_ Ua_=true:=by kernel_rfl
def J9_:List AV->List Obj->Option (Prop × AV)
 | [.agg [.int .i64 c,.int .i64 f,.bool h,.int .u64 x,.imm (.int .u8) v,.imm (.int .u8) m],.agg [.int .i64 c',.int .i64 f',.bool h',.int .u64 x',.imm (.int .u8) v',.imm (.int .u8) m']],[]=>some ((True,.bool (xg_ c f h x v m c' f' h' x' v' m')))
 | _,_=>none
theorem Vf_:zf_ Tryz.prog 26 (RoF J9_).sum:=by
 refine zh_ Tryz.func26 Us_ (zb_ (s:=RoF qZ_) Q1_ (zb_ (s:=RoF Ke_) JB_ (zd_ _))) fun args objs p v e=>?_
 unfold J9_ at e
 split at e
 ·rename_i c f h x v m c' f' h' x' v' m'
  cases e
  refine ⟨rfl,fun hw ho hp=>?_⟩
  change List Int at v
  change List Int at m
  change List Int at v'
  change List Int at m'
  repeat'(intro t ht;first|(cases t<;>first|(cases ht;done)|(try simp only[zg_]at ht))|((first|refine za_ ht ?_|refine ht ?_ ?_|refine ht.1 ?_ ?_|refine ht ?_)<;>clear ht))
  all_goals first
   | exact True.intro
   | (refine ⟨?_,rfl⟩;unfold xg_;simp_all;done)
   | (refine ⟨?_,rfl⟩;unfold xg_;cases h<;>cases h'<;>simp_all;done)
   | (refine ⟨?_,rfl⟩;unfold xg_;rcases ‹(¬c=c'\/¬f=f')\/¬x=x'› with (h1 | h1) | h1<;>rw [decide_eq_false h1]<;>simp)
 ·cases e
def Gj_:IR:=
(sq (kr [0] [oD 1 (.boxv 0),
oD 2 (.mov cF)])
(sq (kr [1] [oA 3 4 1,
oL 4 3,
oE 5 4,
oB 6 .leq 5 (cI 300),
oM 7 6,
oT 7 8 (.fieldAddr 5 1),
oT 7 9 (.load none 8),
oT 7 10 (.len 9),
oT 7 11 (.bin .leq 10 (cI 300)),
oP 12 7 11 cF,
oM 2 12])
.ret))
def gX_:List RD:=[.tmp 2 true none]
theorem g4_:zl_ Tryz.prog Tryz.f16 Gj_ gX_=true:=by kernel_rfl
def W4_:List AV->List Obj->Option (Prop × AV)
 | [.agg [.int .i64 c,.int .i64 f,.bool h,.int .u64 x,.imm (.int .u8) v,.imm (.int .u8) m]],[]=>some ((True,.bool (decide (v.length<=300) && decide (m.length<=300))))
 | _,_=>none
theorem uW_:zf_ Tryz.prog 16 (RoF W4_).sum:=by
 refine zh_ Tryz.func16 g4_ (zd_ _) fun args objs p v e=>?_
 unfold W4_ at e
 split at e
 ·rename_i c f h x v m
  cases e
  refine ⟨rfl,fun hw ho hp=>?_⟩
  change List Int at v
  change List Int at m
  repeat'(intro t ht;first|(cases t<;>first|(cases ht;done)|(try simp only[zg_]at ht))|((first|refine za_ ht ?_|refine ht ?_ ?_|refine ht.1 ?_ ?_|refine ht ?_)<;>clear ht))
  all_goals first
   | exact True.intro
   | (simp_all;done)
   | (have e:decide (v.length<=300)=false:=decide_eq_false (by omega)
      rw [e];exact ⟨rfl,rfl⟩)
   | (have e:decide (v.length<=300)=true:=decide_eq_true (by omega)
      rw [e];refine ⟨?_,rfl⟩;rw [Bool.true_and];congr 1;rw [Bool.eq_iff_iff];simp only [decide_eq_true_eq];omega)
 ·cases e
theorem H1_ (f:Int):0<=zy_ f/\zy_ f<=16:=by
 cases h:fIs f with
 | true=>
   have hn:=ZG_.1 h
   have:=gF_ f.toNat (by omega)
   rw [Int.toNat_of_nonneg hn.1] at this
   omega
 | false=>unfold zy_;rw [h];exact ⟨Int.le_refl _,show (0:Int)<=16 by decide⟩
theorem zcm_:∀ k < 40,Zz_ (k:Nat)=zB_ (k:Nat)/\kS_ (k:Nat)=zy_ (k:Nat)/\vI_ (k:Nat)=qX_ (k:Nat):=by decide+kernel
theorem He_ (f:Int):Zz_ f=zB_ f/\kS_ f=zy_ f/\vI_ f=qX_ f:=by
 cases h:fIs f with
 | true=>
   have hn:=ZG_.1 h
   have:=zcm_ f.toNat (by omega)
   rwa [Int.toNat_of_nonneg hn.1] at this
 | false=>
   unfold Zz_ zB_ kS_ zy_ vI_ qX_;rw [h];exact ⟨rfl,rfl,rfl⟩
theorem zbS_ {n:Nat} (x y:BitVec n):x &&& ~~~y=0#n ↔ x &&& y=x:=by
 constructor
 ·intro h
  refine BitVec.eq_of_getLsbD_eq fun i hi=>?_
  have h1:(x &&& ~~~y).getLsbD i=(0#n).getLsbD i:=by rw [h]
  rw [BitVec.getLsbD_and,BitVec.getLsbD_not,BitVec.getLsbD_zero,decide_eq_true hi,Bool.true_and] at h1
  rw [BitVec.getLsbD_and]
  cases hx:x.getLsbD i<;>cases hy:y.getLsbD i<;>simp_all
 ·intro h
  refine BitVec.eq_of_getLsbD_eq fun i hi=>?_
  have h1:(x &&& y).getLsbD i=x.getLsbD i:=by rw [h]
  rw [BitVec.getLsbD_and] at h1
  rw [BitVec.getLsbD_and,BitVec.getLsbD_not,BitVec.getLsbD_zero,decide_eq_true hi,Bool.true_and]
  cases hx:x.getLsbD i<;>cases hy:y.getLsbD i<;>simp_all
theorem zaK_ {k:IntKind} (hk:k.signed=false) {a:Int} (b:Int) (ha:k.min<=a/\a<=k.max):zk_ .andNot k a b=0 ↔ zk_ .and k a b=a:=by
 have hw:∀ v:BitVec k.bits,k.wrap (v.toNat:Int)=v.toNat:=fun v=>by
  refine KF_ ⟨?_,?_⟩
  ·cases k<;>simp_all [IntKind.min,IntKind.signed,IntKind.bits]<;>omega
  ·have:=v.isLt
   cases k<;>simp_all [IntKind.max,IntKind.signed,IntKind.bits]<;>omega
 have hx:((BitVec.ofInt k.bits a).toNat:Int)=a:=by
  rw [BitVec.toNat_ofInt]
  cases k<;>simp_all [IntKind.min,IntKind.max,IntKind.signed,IntKind.bits]<;>omega
 have h:=zbS_ (BitVec.ofInt k.bits a) (BitVec.ofInt k.bits b)
 show k.wrap (((BitVec.ofInt k.bits a) &&& ~~~(BitVec.ofInt k.bits b)).toNat:Int)=0 ↔ k.wrap (((BitVec.ofInt k.bits a) &&& (BitVec.ofInt k.bits b)).toNat:Int)=a
 rw [hw,hw]
 constructor
 ·intro e
  have:(BitVec.ofInt k.bits a) &&& ~~~(BitVec.ofInt k.bits b)=0#k.bits:=BitVec.eq_of_toNat_eq (by rw [BitVec.toNat_zero];omega)
  rw [h.1 this,hx]
 ·intro e
  have:(BitVec.ofInt k.bits a) &&& (BitVec.ofInt k.bits b)=BitVec.ofInt k.bits a:=BitVec.eq_of_toNat_eq (by omega)
  rw [h.2 this,BitVec.toNat_zero];rfl
theorem ion:∀ x < 256,∀ y < 256,(zk_ .andNot .u8 ((x:Nat):Int) ((y:Nat):Int)=0 ↔ zk_ .and .u8 ((x:Nat):Int) ((y:Nat):Int)=((x:Nat):Int)):=fun x hx y _=>
 zaK_ rfl _ ⟨by show (0:Int)<=x;omega,by show (x:Int)<=255;omega⟩
theorem bi_:∀ (v m:List Int),(∀ x ∈ v,0<=x/\x<=255)->(∀ x ∈ m,0<=x/\x<=255)->jH_ v m=!inA v m
 | [],_,_,_=>by simp [jH_,inA]
 | _ :: _,[],_,_=>by simp [jH_,inA]
 | x :: r,y :: l,hv,hm=>by
   have hx:=hv x (by simp)
   have hy:=hm y (by simp)
   have ih:=bi_ r l (fun a ha=>hv a (by simp [ha])) (fun a ha=>hm a (by simp [ha]))
   have h:=ion x.toNat (by omega) y.toNat (by omega)
   rw [Int.toNat_of_nonneg hx.1,Int.toNat_of_nonneg hy.1] at h
   unfold jH_ inA
   by_cases h1:zk_ .andNot .u8 x y=0
   ·rw [if_pos h1,if_pos (h.1 h1),ih]
   ·rw [if_neg h1,if_neg (fun h2=>h1 (h.2 h2))];rfl
theorem u2_ (b:List Int):∀ (f g:Nat) (i:Int),k0_ b (f+g) i=(k0_ b f i && k0_ b g (i+f))
 | 0,g,i=>by rw [Nat.zero_add,show i+((0:Nat):Int)=i by omega];unfold k0_;rfl
 | f+1,g,i=>by
   rw [show f+1+g=(f+g)+1 by omega]
   by_cases h:zk_ .and .u8 ((b.getD (b.length - 1 - i.tdiv 8:Int).toNat 0).fdiv (2 ^ (min (i.tmod 8).toNat 8))) 1=0
   ·rw [JN_ h,JN_ h,Bool.false_and]
   ·rw [JM_ h,JM_ h,u2_ b f g (i+1),show i+1+(f:Int)=i+((f+1:Nat):Int) by omega]
theorem Wm_ (x:Int) (r:List Int):∀ (f:Nat) (i:Int),0<=i->i+f<=8*r.length->k0_ (x :: r) f i=k0_ r f i
 | 0,_,_,_=>rfl
 | f+1,i,h0,h=>by
   have ih:=Wm_ x r f (i+1) (by omega) (by omega)
   have e:(x :: r).getD (((x :: r).length:Int) - 1 - i.tdiv 8).toNat 0=r.getD ((r.length:Int) - 1 - i.tdiv 8).toNat 0:=by
    rw [ku_ h0,List.length_cons,show (((r.length+1:Nat):Int) - 1 - i / 8).toNat=((r.length:Int) - 1 - i / 8).toNat+1 by omega];rfl
   by_cases hc:zk_ .and .u8 ((r.getD ((r.length:Int) - 1 - i.tdiv 8).toNat 0).fdiv (2 ^ (min (i.tmod 8).toNat 8))) 1=0
   ·rw [JN_ hc,JN_ (by rw [e];exact hc)]
   ·rw [JM_ hc,JM_ (by rw [e];exact hc),ih]
theorem vq_ (x:Int) (r:List Int):∀ (f:Nat) (i:Int),0<=i->i+f<=8->k0_ (x :: r) f (8*r.length+i)=k0_ [x] f i
 | 0,_,_,_=>rfl
 | f+1,i,h0,h=>by
   have ih:=vq_ x r f (i+1) (by omega) (by omega)
   have h8:0<=8*(r.length:Int)+i:=by omega
   have e:(x :: r).getD (((x :: r).length:Int) - 1 - (8*(r.length:Int)+i).tdiv 8).toNat 0=[x].getD ((([x]:List Int).length:Int) - 1 - i.tdiv 8).toNat 0:=by
    rw [ku_ h8,ku_ h0,List.length_cons,List.length_cons,List.length_nil,show (((r.length+1:Nat):Int) - 1 - (8*(r.length:Int)+i) / 8).toNat=0 by omega,show (((0+1:Nat):Int) - 1 - i / 8).toNat=0 by omega];rfl
   have e2:(8*(r.length:Int)+i).tmod 8=i.tmod 8:=by rw [Jf_ h8,Jf_ h0];omega
   by_cases hc:zk_ .and .u8 (([x].getD ((([x]:List Int).length:Int) - 1 - i.tdiv 8).toNat 0).fdiv (2 ^ (min (i.tmod 8).toNat 8))) 1=0
   ·rw [JN_ hc,JN_ (by rw [e,e2];exact hc)]
   ·rw [JM_ hc,JM_ (by rw [e,e2];exact hc),Int.add_assoc,ih]
theorem zcc_:∀ s < 8,∀ x < 256,zP_ (s:Nat) [((x:Nat):Int)]=true->(((x:Nat):Int)=wC_ (s:Nat) ↔ k0_ [((x:Nat):Int)] (8 - s) 0=true):=by decide+kernel
theorem own0:wC_ 0=255:=by decide
theorem Wv_:∀ (r:List Int) (s:Int),s<=0->QF_ r s=QF_ r 0
 | [],_,_=>by simp [QF_]
 | x :: r,s,h=>by
   have h1:wC_ s=255:=if_neg (by omega)
   have ih:=Wv_ r (s - 8) (by omega)
   have ih0:=Wv_ r (0 - 8) (by omega)
   unfold QF_
   rw [h1,own0,ih,ih0]
theorem hP_ {s x:Int} (r:List Int) (hs:s<=8) (h:zP_ s (x :: r)=true):zP_ s [x]=true:=by
 by_cases h1:x.fdiv (2 ^ (min (8 - (if 8 < s then 8 else s)).toNat 8))=0
 ·exact if_pos h1
 ·have e:zP_ s (x :: r)=false:=if_neg h1
  rw [e] at h;cases h
theorem wF_:∀ (m:List Int) (s:Int),(∀ x ∈ m,0<=x/\x<=255)->0<=s->s<=8*m.length->zP_ s m=true->QF_ m s=k0_ m (8*m.length - s).toNat 0
 | [],s,_,h0,h1,_=>by
   have:s=0:=by simp at h1;omega
   subst this;rfl
 | x :: r,s,hm,h0,h1,hs=>by
   have hx:=hm x (by simp)
   have hr:∀ a ∈ r,0<=a/\a<=255:=fun a ha=>hm a (by simp [ha])
   rw [List.length_cons] at h1
   by_cases h8:8<=s
   ·have hsp:x=0/\zP_ (s - 8) r=true:=by
     have h8':(if 8 < s then 8 else s)=8:=by split<;>omega
     have e:zP_ s (x :: r)=if x.fdiv (2 ^ (min (8 - (if 8 < s then 8 else s)).toNat 8))=0 then zP_ (s - (if 8 < s then 8 else s)) r else false:=rfl
     rw [h8',show (min (8 - 8:Int).toNat 8)=0 from rfl,Int.pow_zero,Int.fdiv_one] at e
     rw [e] at hs
     by_cases h9:x=0
     ·rw [if_pos h9] at hs;exact ⟨h9,hs⟩
     ·rw [if_neg h9] at hs;cases hs
    have ho:wC_ s=0:=by
     unfold wC_
     rw [if_pos (by omega)]
     by_cases h9:8 < s
     ·rw [if_pos h9];decide
     ·rw [if_neg h9,show s=8 by omega];decide
    have ih:=wF_ r (s - 8) hr (by omega) (by omega) hsp.2
    have hn:(8*(((x :: r).length:Nat):Int) - s).toNat=(8*(r.length:Int) - (s - 8)).toNat:=by rw [List.length_cons];omega
    unfold QF_
    rw [if_pos (by rw [ho];exact hsp.1),ih,hn,Wm_ x r _ 0 (by omega) (by omega)]
   ·have hs1:=hP_ r (by omega) hs
    have h2:=zcc_ s.toNat (by omega) x.toNat (by omega)
    rw [Int.toNat_of_nonneg h0,Int.toNat_of_nonneg hx.1] at h2
    have h3:=h2 hs1
    have hsr:zP_ 0 r=true:=Xt_ r hr
    have ih:=wF_ r 0 hr (Int.le_refl _) (by omega) hsr
    have hn:(8*(((x :: r).length:Nat):Int) - s).toNat=8*r.length+(8 - s.toNat):=by rw [List.length_cons];omega
    have hn0:(8*(r.length:Int) - 0).toNat=8*r.length:=by omega
    have hhd:=vq_ x r (8 - s.toNat) 0 (Int.le_refl _) (by omega)
    rw [Int.add_zero] at hhd
    rw [hn0] at ih
    unfold QF_
    rw [hn,u2_,Wm_ x r _ 0 (by omega) (by omega),show (0:Int)+((8*r.length:Nat):Int)=8*(r.length:Int) by omega,hhd,Wv_ r (s - 8) (by omega),ih]
    by_cases hc:x=wC_ s
    ·rw [if_pos hc,h3.1 hc,Bool.and_true]
    ·rw [if_neg hc,show k0_ [x] (8 - s.toNat) 0=false by
      cases hq:k0_ [x] (8 - s.toNat) 0 with
      | false=>rfl
      | true=>exact absurd (h3.2 hq) hc,Bool.and_false]
theorem g1_ {f:Int} {m:List Int} (hm:∀ x ∈ m,0<=x/\x<=255) (h:qY_ f m=true):jI_ m (Zz_ f)=k0_ m (zB_ f).toNat 0:=by
 unfold qY_ at h
 split at h
 ·rename_i hh
  have hi:fIs f=true:=ZG_.2 hh.1
  have hz:=wt_ f.toNat (by omega)
  rw [Int.toNat_of_nonneg hh.1.1] at hz
  have hb:Zz_ f=QI_.getD f.toNat 0:=if_pos hi
  have hbl:=uH_ f.toNat (by omega)
  have ho:=wF_ m (m.length*8 - Zz_ f) hm (by omega) (by omega) (by rw [hb,show (m.length:Int)*8 - QI_.getD f.toNat 0=8*ks_ f - QI_.getD f.toNat 0 by omega];exact h)
  unfold jI_
  rw [ho,<- (He_ f).1,show (8*(m.length:Int) - (m.length*8 - Zz_ f))=Zz_ f by omega]
 ·cases h
theorem g0_ {m:List Int} (hm:∀ x ∈ m,0<=x/\x<=255):jI_ m (m.length*8)=k0_ m (8*(m.length:Int)).toNat 0:=by
 have ho:=wF_ m 0 hm (Int.le_refl _) (by omega) (Xt_ m hm)
 unfold jI_
 rw [show (m.length:Int)*8 - m.length*8=0 by omega,ho,Int.sub_zero]
theorem vj_ {c f:Int} {h:Bool} {v m:List Int} (hv:∀ x ∈ v,0<=x/\x<=255) (hm:∀ x ∈ m,0<=x/\x<=255) (hc:c=32768\/c=65535):Kh_ f h v m (qT_ c f) (zT_ c)=Vr_ c f h v m:=by
 have hoi:=bi_ v m hv hm
 have hio:(jH_ v m=true)=(inA v m=false):=by rw [hoi];simp
 rcases hc with hc | hc
 ·have he:zT_ c=false:=decide_eq_false (by omega)
  have hb:qT_ c f=Zz_ f:=if_neg (by omega)
  have f1:=gf_ (n:=f) hv
  have f2:=gf_ (n:=f) hm
  unfold Kh_ Vr_
  rw [he,hb,f1,f2]
  simp only [hio,hc,true_and,if_true,Bool.false_eq_true,if_false]
  cases h4:Zn_ f m with
  | true=>
    have ho:=g1_ hm (f2.trans h4)
    rw [ho]
  | false=>
    cases h with
    | true=>simp
    | false=>simp
 ·have he:zT_ c=true:=decide_eq_true hc
  have hn:¬ c=32768:=by omega
  have ho:=g0_ hm
  unfold Kh_ Vr_
  rw [he]
  simp only [hio,hn,false_and,if_true,if_false,reduceCtorEq,ho,and_false]
theorem zf (x:Int) (h:x=0):x.fdiv (2 ^ (min (Int.toNat 32) IntKind.u64.bits))=0:=by subst h;decide
theorem zu (x:Int) (h0:0<=x):x.fdiv (2 ^ (min (Int.toNat 32) IntKind.u64.bits))=0 ↔ x < 4294967296:=by
 rw [show (2:Int) ^ (min (Int.toNat 32) IntKind.u64.bits)=4294967296 from by decide,Int.fdiv_eq_ediv_of_nonneg _ (by decide)];omega
theorem bd_ {f:Int} {h:Bool} {v m:List Int} (hw:Vr_ 32768 f h v m=0):Zn_ f v=true:=by
 cases hh:Zn_ f v with
 | true=>rfl
 | false=>unfold Vr_ at hw;rw [if_pos ⟨rfl,hh⟩] at hw;exact absurd hw (by decide)
theorem hU_ {c f:Int} {h:Bool} {x:Int} {v m:List Int} (hx:0<=x) (hv:∀ x ∈ v,0<=x/\x<=255) (hm:∀ x ∈ m,0<=x/\x<=255):z7_ c f h x v m=XK_ c f h x v m:=by
 by_cases hb:c=32768
 ·have hw:=vj_ (f:=f) (h:=h) hv hm (.inl hb)
  have hok:wK_ c f=fIs f:=by unfold wK_;rw [if_neg (by omega),decide_eq_true hb,Bool.and_true]
  have hmk:KT_ c f=qX_ f:=by unfold KT_;rw [if_neg (by omega)];exact (He_ f).2.2
  have he:zT_ c=false:=decide_eq_false (by omega)
  have hz:QP_ c f=zy_ f:=by unfold QP_;rw [if_neg (by omega)];exact (He_ f).2.1
  rw [Bool.eq_iff_iff]
  constructor
  ·intro hr
   obtain ⟨r1,r2,r3,r4,r5,r6,r7,r8⟩:=Kv_ hr
   unfold XK_
   rw [if_neg (fun hh=>hh.elim (fun hh=>by have:=r3 hh.1;omega) fun hh=>hh.2 (r2 hh.1)),if_pos hb]
   rw [hw] at r8;rw [hok] at r4;rw [hmk] at r5;rw [he] at r6
   have hx0:x=0:=by simpa using r6
   rw [r4,hx0,r8]
   cases h with
   | true=>rw [r5 rfl];rfl
   | false=>rfl
  ·intro hr
   unfold XK_ at hr
   by_cases hn:(h=false/\0 < m.length)\/(h=true/\¬ (m.length:Int)=v.length)
   ·rw [if_pos hn] at hr;cases hr
   ·rw [if_neg hn,if_pos hb] at hr
    simp only [Bool.and_eq_true,Bool.or_eq_true,decide_eq_true_eq] at hr
    obtain ⟨⟨⟨h1,h2⟩,h3⟩,h4⟩:=hr
    have hfit:=bd_ (hb ▸ h4)
    have hsz:=Vq_ hfit
    unfold z7_
    rw [hw,hok,hmk,he,hz,h1,h4,zf x h2,decide_eq_true h2]
    have hvl:decide ((v.length:Int)<=zy_ f)=true:=decide_eq_true (by omega)
    rw [hvl]
    cases h with
    | true=>
      have:(m.length:Int)=v.length:=Decidable.by_contra fun hh=>hn (.inr ⟨rfl,hh⟩)
      rw [decide_eq_true this]
      simpa using h3
    | false=>
      have:m.length=0:=by have:¬ 0 < m.length:=fun hh=>hn (.inl ⟨rfl,hh⟩);omega
      rw [decide_eq_true this];rfl
 ·by_cases hc:c=65535
  ·have hw:=vj_ (f:=f) (h:=h) hv hm (.inr hc)
   have hok:wK_ c f=(decide (0<=f) && decide (f<=127)):=if_pos hc
   have hmk:KT_ c f=true:=if_pos hc
   have he:zT_ c=true:=decide_eq_true hc
   have hz:QP_ c f=100:=if_pos hc
   rw [Bool.eq_iff_iff]
   constructor
   ·intro hr
    obtain ⟨r1,r2,r3,r4,r5,r6,r7,r8⟩:=Kv_ hr
    unfold XK_
    rw [if_neg (fun hh=>hh.elim (fun hh=>by have:=r3 hh.1;omega) fun hh=>hh.2 (r2 hh.1)),if_neg hb]
    rw [hw] at r8;rw [hok] at r4;rw [hz] at r1
    have h7:=(zu x hx).1 r7
    simp only [Bool.and_eq_true,decide_eq_true_eq] at r4 ⊢
    exact ⟨⟨⟨⟨⟨hc,r4.1⟩,r4.2⟩,h7⟩,r1⟩,r8⟩
   ·intro hr
    unfold XK_ at hr
    by_cases hn:(h=false/\0 < m.length)\/(h=true/\¬ (m.length:Int)=v.length)
    ·rw [if_pos hn] at hr;cases hr
    ·rw [if_neg hn,if_neg hb] at hr
     simp only [Bool.and_eq_true,decide_eq_true_eq] at hr
     obtain ⟨⟨⟨⟨⟨h1,h2⟩,h3⟩,h4⟩,h5⟩,h6⟩:=hr
     unfold z7_
     rw [hw,hok,hmk,he,hz,h6,(zu x hx).2 h4,decide_eq_true h2,decide_eq_true h3,decide_eq_true h5]
     cases h with
     | true=>
       have:(m.length:Int)=v.length:=Decidable.by_contra fun hh=>hn (.inr ⟨rfl,hh⟩)
       rw [decide_eq_true this];rfl
     | false=>
       have:m.length=0:=by have:¬ 0 < m.length:=fun hh=>hn (.inl ⟨rfl,hh⟩);omega
       rw [decide_eq_true this];rfl
  ·have hok:wK_ c f=false:=by unfold wK_;rw [if_neg hc,decide_eq_false hb,Bool.and_false]
   have h1:z7_ c f h x v m=false:=by unfold z7_;rw [hok];rfl
   have h2:XK_ c f h x v m=false:=by
    unfold XK_;split
    ·rfl
    ·first | (rw [decide_eq_false hc];rfl) | (rw [if_neg hb,decide_eq_false hc];rfl)
   rw [h1,h2]
theorem Bl_ {n:Int} (h:0<=n/\n<=255):zA_ n 1=[n]:=by
 show [(n.fdiv (2 ^ (min (8*((1:Int) - 1 - ((0:Nat):Int))).toNat 64))) % 256]=[n]
 rw [show (min (8*((1:Int) - 1 - ((0:Nat):Int))).toNat 64)=0 from by decide,Int.pow_zero,Int.fdiv_one]
 congr 1;omega
theorem KP_ {c f:Int} {h:Bool} {x:Int} {v m:List Int} (hr:z7_ c f h x v m=true):0<=f/\f<=127/\(c=65535\/c=32768)/\(v.length:Int)<=100/\(m.length:Int)<=100/\0<=QE_ c v m/\QE_ c v m<=204/\QE_ c v m=(yT_ c x v m).length:=by
 obtain ⟨r1,r2,r3,r4,_⟩:=Kv_ hr
 have hof:=G6_ c f
 have hm:(m.length:Int)<=100:=by cases h;have:=r3 rfl;omega;have:=r2 rfl;omega
 have hb:QE_ c v m=(yT_ c x v m).length:=by
  have l4:=QU_ (n:=x) (w:=4) (by decide)
  unfold QE_ yT_
  split
  ·rw [List.length_append,List.length_append];omega
  ·rw [List.length_append,List.length_append,List.length_nil];omega
 have h0:0<=QE_ c v m/\QE_ c v m<=204:=by unfold QE_;split<;>omega
 have hcf:0<=f/\f<=127/\(c=65535\/c=32768):=by
  unfold wK_ at r4
  split at r4
  ·simp at r4;omega
  ·simp at r4;have:=ZG_.1 r4.1;omega
 exact ⟨hcf.1,hcf.2.1,hcf.2.2,by omega,hm,h0.1,h0.2,hb⟩
theorem hr_ {c f:Int} {h:Bool} {x:Int} {v m:List Int} (hr:z7_ c f h x v m=true):Hq_ c f h x v m=XL_ c f h x v m:=by
 obtain ⟨n1,n2,n3,n4,n5,n6,n7,n8⟩:=KP_ hr
 unfold Hq_ za5_ XL_
 rw [Bl_ (n:=2*f+if h=true then 1 else 0) (by split<;>omega),Bl_ (n:=QE_ c v m) (by omega),n8]
 unfold yT_
 simp only [List.append_assoc,List.cons_append,List.nil_append]
theorem H0_ {c f:Int} {h:Bool} {x:Int} {v m:List Int}:jE_ c f h x v m=((if z7_ c f h x v m=true then XL_ c f h x v m else []).length:Int):=by
 unfold jE_
 split
 ·rename_i hr
  obtain ⟨n1,n2,n3,n4,n5,n6,n7,n8⟩:=KP_ hr
  have l2:=QU_ (n:=c) (w:=2) (by decide)
  unfold XL_
  rw [n8]
  simp only [List.length_append,List.length_cons,List.length_nil];omega
 ·rfl
def L1:List Int:=[128,0,10,2,8,0,7]
def L2:List Int:=[128,0,11,4,8,0,8,0]
theorem s1:decE L1=0/\decI L1 (yJ_ L1)=32768/\decI L1 (Gu_ L1)=5/\Gt_ L1=false/\decI L1 (decX L1)=0/\decR L1 (decV L1)=[8,0]/\decR L1 (decM L1)=[]/\decI L1 (decN L1)=6/\decE L2=1033:=by decide+kernel
theorem s2:z7_ 32768 5 false 0 [8,0] []=true/\Hq_ 32768 5 false 0 [8,0] []=[128,0,10,2,8,0]:=by decide+kernel
def us_:IR:=
(sq (kr [0,1] [oD 2 (.boxv 0),
oD 3 (.boxv 1),
oD 4 (.mov cF)])
(sq (kr [2,3] [oA 5 0 2,
oL 6 5,
oA 7 0 3,
oL 8 7,
oB 9 .eql 6 8,
oM 10 9,
oT 10 11 (.fieldAddr 1 2),
oT 10 12 (.load none 11),
oT 10 13 (.fieldAddr 1 3),
oT 10 14 (.load none 13),
oT 10 15 (.bin .eql 12 14),
oP 16 10 15 cF,
oM 17 16,
oT 17 18 (.fieldAddr 3 2),
oT 17 19 (.load none 18),
oT 17 20 (.fieldAddr 3 3),
oT 17 21 (.load none 20),
oT 17 22 (.bin .eql 19 21),
oP 23 17 22 cF,
oM 4 23])
.ret))
def VF_:List RD:=[.tmp 4 true none]
theorem VY_:zl_ Tryz.prog Tryz.f60 us_ VF_=true:=by kernel_rfl
def q0_:List AV->List Obj->Option (Prop × AV)
 | [.agg [.int .i64 c,.int .i64 f,.bool h,.int .u64 x,.imm (.int .u8) v,.imm (.int .u8) m],.agg [.int .i64 c',.int .i64 f',.bool h',.int .u64 x',.imm (.int .u8) v',.imm (.int .u8) m']],[]=>some ((True,.bool (decide (c=c') && decide (f=f') && decide (x=x'))))
 | _,_=>none
theorem Q2_:zf_ Tryz.prog 60 (RoF q0_).sum:=by
 refine zh_ Tryz.func60 VY_ (zd_ _) fun args objs p v e=>?_
 unfold q0_ at e
 split at e
 ·rename_i c f h x v m c' f' h' x' v' m'
  cases e
  refine ⟨rfl,fun hw ho hp=>?_⟩
  change List Int at v
  change List Int at m
  change List Int at v'
  change List Int at m'
  repeat'(intro t ht;first|(cases t<;>first|(cases ht;done)|(try simp only[zg_]at ht))|((first|refine za_ ht ?_|refine ht ?_ ?_|refine ht.1 ?_ ?_|refine ht ?_)<;>clear ht))
  all_goals first
   | exact True.intro
   | (simp_all;done)
 ·cases e
def U1_:IR:=
(sq (kr [0] [oD 1 (.boxv 0),
oD 2 (.box [.int .i64 0,.int .i64 0,.kb false,.int .u64 0,.imm (.int .u8) [],.imm (.int .u8) []])])
(sq (kr [1,2] [oA 5 4 1,
oL 6 5,
oE 7 6,
oA 8 5 1,
oL 9 8,
oE 10 9,
oB 11 .add 7 10,
oD 12 (.mkrow (.int .u8) 1 (0:Int) 11 11),
oM 3 12])
(sq (kr [1,2,3] [oM 13 3,
oA 14 4 1,
oL 15 14,
oD 16 (.copy (.int .u8) 13 15),
oM 4 16])
(sq (kd [1,2,3,4] [(oM 17 3,[]),
(oM 18 4,[0]),
(oD 19 (.slice 1 17 (some 18) none none),[]),
(oA 20 5 1,[0,0,0]),
(oL 21 20,[1,0,0]),
(oD 22 (.copy (.int .u8) 19 21),[])])
(sq (kd [1,2,3,4] [(oM 23 3,[]),
(oM 24 4,[0]),
(oM 25 4,[0,0]),
(oD 26 (.slice 1 23 none (some 24) (some 25)),[]),
(oM 27 3,[0,0,0,0]),
(oM 28 4,[0,0,0,0,0]),
(oD 29 (.slice 1 27 (some 28) none none),[2,0,0,0]),
(oA 30 4 1,[0,0,0]),
(oS 1 30 26,[1,0,0]),
(oA 31 5 1,[]),
(oS 1 31 29,[])])
(sq (kr [1,2] [oK 32 6 1,
oS 6 2 32])
.ret))))))
def Uf_:List RD:=[.cell 2 (some 6) false []]
theorem Ux_:zl_ Tryz.prog Tryz.f19 U1_ Uf_=true:=by kernel_rfl
def kW_:List AV->List Obj->Option (Prop × AV × List Obj)
 | [.agg [.int .i64 c,.int .i64 f,.bool h,.int .u64 x,.imm (.int .u8) v,.imm (.int .u8) m]],[]=>some ((v.length<=100000/\m.length<=100000,.agg [.int .i64 c,.int .i64 f,.bool h,.int .u64 x,.view 0 0 v.length,.view 0 v.length m.length],[.row false (.int .u8) (v++m)]))
 | _,_=>none
theorem KK_:zf_ Tryz.prog 19 (RwF kW_).sum:=by
 refine wu_ Tryz.func19 Ux_ (zd_ _) fun args objs p v o e=>?_
 unfold kW_ at e
 split at e
 ·rename_i c f h x v m
  cases e
  refine ⟨rfl,fun hw ho hp=>?_⟩
  change List Int at v
  change List Int at m
  have k1:((v.length:Int)+m.length).toNat=v.length+m.length:=by omega
  have k2:(List.replicate (v.length+m.length) (0:Int)).length=v.length+m.length:=List.length_replicate
  have k3:v.take (v.length+m.length)=v:=List.take_of_length_le (by omega)
  have k4:(List.replicate (v.length+m.length) (0:Int)).drop v.length=List.replicate m.length 0:=by rw [List.drop_replicate];congr 1;omega
  have k5:min v.length (v.length+m.length)=v.length:=Nat.min_eq_left (by omega)
  have k6:(v++List.replicate m.length (0:Int)).length=v.length+m.length:=by simp
  have k7:(((v.length+m.length:Nat):Int) - (v.length:Int)).toNat=m.length:=by omega
  have k8:(v++List.replicate m.length (0:Int)).take v.length=v:=List.take_left
  have k9:m.take m.length=m:=List.take_length
  have k10:min m.length m.length=m.length:=Nat.min_self _
  have k11:(v++List.replicate m.length (0:Int)).drop (v.length+m.length)=[]:=List.drop_of_length_le (by simp)
  have k12:(v++m).length=v.length+m.length:=List.length_append
  have k13:((v.length:Int) - 0).toNat=v.length:=by omega
  repeat'(intro t ht;first|(cases t<;>first|(cases ht;done)|(try simp only[zg_]at ht))|((first|refine za_ ht ?_|refine ht ?_ ?_|refine ht.1 ?_ ?_|refine ht ?_)<;>clear ht))
  all_goals first
   | exact True.intro
   | (simp only [yM_,k1,k2,k3,k4,k5,k6,k7,k8,k9,k10,k11,k12,k13,List.append_nil,Int.toNat_natCast];first | omega | exact ⟨rfl,by first | rfl | exact True.intro⟩ | (refine ⟨?_,?_,?_,?_⟩<;>first | exact True.intro | omega))
   | omega
   | ((try simp only [zq_,zr_,zj_] at*);omega)
   | exact ⟨rfl,by first | rfl | exact True.intro⟩
 ·cases e
end Go.Eng
