/- Parts of the proof: O2, O9, O5, O7, OA, OE, OI. No condition. -/
import Derived.Test.YtjajlkddpekdjaaGreatDoorProg
import Derived.Test.YtjajlkddpekdjaaGreatDoorXC10
import Derived.KernelRfl
import Derived.Test.YtjajlkddpekdjaaGreatDoorXC11
namespace Go.Eng
open Go.Proofs
set_option linter.unusedVariables false
set_option linter.unusedSimpArgs false
set_option maxRecDepth 100000
set_option maxHeartbeats 1000000
structure Ox where
 c:Int
 f:Int
 has:Bool
 x:Int
 v:List Int
 m:List Int
def VV_:IR:=
(sq (kr [0] [oD 2 (.mov cF)])
(sq (kr [0] [oM 3 0,
oC 4 95 [3,(.c (.str [0]))],
oE 5 4,
oB 6 .eql 5 (cI 0),
oM 2 6])
.ret))
def Vm_:List RD:=[.tmp 2 true none]
theorem Vz_:zn_ Tryz.prog Tryz.f78 VV_ Vm_=true:=by kernel_rfl
def Jb_:List AV->List Obj->Option (Prop × AV)
 | [.imm (.int .u8) b],[]=>some ((b.length<=140737488355328,.bool (jD_ b)))
 | _,_=>none
theorem Yc_:zf_ Tryz.prog 78 (RoF Jb_).sum:=by
 refine zi_ Tryz.func78 Vz_ (zb_ (s:=RoF jp_) Xs_ (ze_ _)) fun args objs p v e=>?_
 unfold Jb_ at e
 split at e
 ·rename_i b
  cases e
  refine ⟨rfl,fun hw ho hp=>?_⟩
  change List Int at b
  have h:=G1_ b
  repeat'(intro t ht;first|(cases t<;>first|(cases ht;done)|(try simp only[zg_]at ht))|((first|refine za_ ht ?_|refine ht ?_ ?_|refine ht.1 ?_ ?_|refine ht ?_)<;>clear ht))
  all_goals first
   | exact hp
   | (refine ⟨?_,rfl⟩;rw [<- h];congr 1;rw [Bool.eq_iff_iff];simp only [decide_eq_true_eq];omega)
 ·cases e
def wy_ (s:Int):Int:=if 0 < s then (255:Int).fdiv (2 ^ (min (if 8 < s then 8 else s).toNat 8)) else 255
def QR_:List Int->Int->Bool
 | [],_=>true
 | x :: r,s=>if x=wy_ s then QR_ r (s - 8) else false
def jM_ (b:List Int) (bits:Int):Bool:=QR_ b (b.length*8 - bits)
def Un_:IR:=
(sq (kr [0,1] [oD 4 (.mov cF)])
(sq (.reg [oM 10 0,
oE 11 10,
oB 12 .mul 11 (cI 8),
oM 5 12])
(sq (sq (.reg [oM 13 0,
oE 14 13,
oD 15 (.mov (cI 0))])
(.block 0
(.loop
(sq (kr [1,5,13,14,15] [oB 16 .lss 15 14])
(sq (.cond 16
.skip
(.exit 0))
(sq (.block 1
(sq (kr [1,5,13,14,15] [oM 17 15,
oI 18 1 13 15,
oL 19 18,
oM 6 17,
oM 7 19])
(sq (.reg [oD 8 (.mov (.c (.int .u8 255)))])
(sq (sq (kr [1,5,6,7,8,13,14,15] [oM 20 5,
oM 21 6,
oB 22 .mul 21 (cI 8),
oB 23 .sub 20 22,
oM 24 1,
oB 25 .sub 23 24,
oM 9 25])
(sq (kr [1,5,7,8,9,13,14,15] [oM 26 9,
oB 27 .gtr 26 (cI 0)])
(.cond 27
(kr [1,5,7,8,9,13,14,15] [oM 28 8,
oM 29 9,
oD 30 (.minmax false 29 (cI 8)),
oB 31 .shr 28 30,
oM 8 31])
.skip)))
(sq (.reg [oM 32 7,
oM 33 8,
oB 34 .neq 32 33])
(.cond 34
(sq (kr [] [oD 4 (.mov cF)])
.ret)
.skip))))))
(kr [1,5,13,14,15] [oB 35 .add 15 (cI 1),
oM 15 35])))))))
(sq (kr [] [oD 4 (.mov cT)])
.ret))))
def uE_:List RD:=[.tmp 4 true none]
theorem uU_:zn_ Tryz.prog Tryz.f79 Un_ uE_=true:=by kernel_rfl
def wa_:List AV->List Obj->Option (Prop × AV)
 | [.imm (.int .u8) b,.int .i64 n],[]=>some ((0<=n/\n<=1000000/\b.length<=1000000,.bool (jM_ b n)))
 | _,_=>none
theorem v6_:zf_ Tryz.prog 79 (RoF wa_).sum:=by
 refine zi_ Tryz.func79 uU_ (ze_ _) fun args objs p v e=>?_
 unfold wa_ at e
 split at e
 ·rename_i b n
  cases e
  refine ⟨rfl,fun hw ho hp=>?_⟩
  change List Int at b
  repeat'(intro t ht;first|(cases t<;>first|(cases ht;done)|(try simp only[zg_]at ht))|((first|refine za_ ht ?_|refine ht ?_ ?_|refine ht.1 ?_ ?_|refine ht ?_)<;>clear ht))
  all_goals first
   | ((try simp only [zy_,zz_,zm_] at*);omega)
   | (intro r h1 h2;clear h1;refine h2 ⟨[1,5,13,14,15],Nat,(fun i=>i<=b.length/\jM_ b n=QR_ (b.drop i) (b.length*8 - i*8 - n)),fun i=>[.int .i64 n,.int .i64 (b.length*8),.imm (.int .u8) b,.int .i64 b.length,.int .i64 i],fun _=>[],fun i=>b.length - i,⟨0,⟨Nat.zero_le _,by unfold jM_;simp⟩,rfl,rfl⟩,?_⟩;clear h2)
  rintro i ⟨hi,he⟩
  repeat'(intro t ht;first|(cases t<;>first|(cases ht;done)|(try simp only[zg_]at ht))|((first|refine za_ ht ?_|refine ht ?_ ?_|refine ht.1 ?_ ?_|refine ht ?_)<;>clear ht))
  all_goals first
   | ((try simp only [zy_,zz_,zm_] at*);omega)
   | (have h0:b.drop i=[]:=List.drop_of_length_le (by omega)
      refine ⟨?_,rfl⟩;rw [he,h0];rfl)
   | ((try simp only [zy_,zz_,zm_] at*);split<;>omega)
   | (have hlt:i < b.length:=by omega
      rw [z8_ hlt 0] at he
      first
       | (have hn:¬ 0 < (b.length:Int)*8 - i*8 - n:=by assumption
          have ho:wy_ ((b.length:Int)*8 - i*8 - n)=255:=if_neg hn
          first
           | (have hx:b.getD i 0=255:=by assumption
              have h1:QR_ (b.getD i 0 :: b.drop (i+1)) ((b.length:Int)*8 - i*8 - n)=QR_ (b.drop (i+1)) ((b.length:Int)*8 - i*8 - n - 8):=if_pos (hx.trans ho.symm)
              refine ⟨i+1,⟨hlt,?_⟩,by dsimp only;omega,rfl,rfl⟩
              rw [he,h1];congr 1;omega)
           | (have hx:¬ b.getD i 0=255:=by assumption
              have h1:QR_ (b.getD i 0 :: b.drop (i+1)) ((b.length:Int)*8 - i*8 - n)=false:=if_neg (fun e=>hx (e.trans ho))
              refine ⟨?_,rfl⟩;rw [he,h1]))
       | (have hn:0 < (b.length:Int)*8 - i*8 - n:=by assumption
          have ho:wy_ ((b.length:Int)*8 - i*8 - n)=(255:Int).fdiv (2 ^ (min (if 8 < (b.length:Int)*8 - i*8 - n then 8 else (b.length:Int)*8 - i*8 - n).toNat 8)):=if_pos hn
          first
           | (have hx:b.getD i 0=(255:Int).fdiv (2 ^ (min (if 8 < (b.length:Int)*8 - i*8 - n then 8 else (b.length:Int)*8 - i*8 - n).toNat 8)):=by assumption
              have h1:QR_ (b.getD i 0 :: b.drop (i+1)) ((b.length:Int)*8 - i*8 - n)=QR_ (b.drop (i+1)) ((b.length:Int)*8 - i*8 - n - 8):=if_pos (hx.trans ho.symm)
              refine ⟨i+1,⟨hlt,?_⟩,by dsimp only;omega,rfl,rfl⟩
              rw [he,h1];congr 1;omega)
           | (have hx:¬ b.getD i 0=(255:Int).fdiv (2 ^ (min (if 8 < (b.length:Int)*8 - i*8 - n then 8 else (b.length:Int)*8 - i*8 - n).toNat 8)):=by assumption
              have h1:QR_ (b.getD i 0 :: b.drop (i+1)) ((b.length:Int)*8 - i*8 - n)=false:=if_neg (fun e=>hx (e.trans ho))
              refine ⟨?_,rfl⟩;rw [he,h1])))
 ·cases e
def jL_:List Int->List Int->Bool
 | x :: r,y :: l=>if zj_ .andNot .u8 x y=0 then jL_ r l else true
 | _,_=>false
def yg_:IR:=
(sq (kr [0,1] [oD 4 (.mov cF)])
(sq (sq (.reg [oM 7 0,
oE 8 7,
oD 9 (.mov (cI 0))])
(.block 0
(.loop
(sq (kr [1,7,8,9] [oB 10 .lss 9 8])
(sq (.cond 10
.skip
(.exit 0))
(sq (.block 1
(sq (kr [1,7,8,9] [oM 11 9,
oI 12 1 7 9,
oL 13 12,
oM 5 11,
oM 6 13])
(sq (kr [1,5,6,7,8,9] [oM 14 6,
oM 15 1,
oM 16 5,
oI 17 1 15 16,
oL 18 17,
oB 19 .andNot 14 18,
oB 20 .neq 19 (.c (.int .u8 0))])
(.cond 20
(sq (kr [] [oD 4 (.mov cT)])
.ret)
.skip))))
(kr [1,7,8,9] [oB 21 .add 9 (cI 1),
oM 9 21])))))))
(sq (kr [] [oD 4 (.mov cF)])
.ret)))
def Xz_:List RD:=[.tmp 4 true none]
theorem XU_:zn_ Tryz.prog Tryz.f80 yg_ Xz_=true:=by kernel_rfl
def Ku_:List AV->List Obj->Option (Prop × AV)
 | [.imm (.int .u8) v,.imm (.int .u8) m],[]=>some ((v.length<=m.length,.bool (jL_ v m)))
 | _,_=>none
theorem xq_:zf_ Tryz.prog 80 (RoF Ku_).sum:=by
 refine zi_ Tryz.func80 XU_ (ze_ _) fun args objs p v e=>?_
 unfold Ku_ at e
 split at e
 ·rename_i v m
  cases e
  refine ⟨rfl,fun hw ho hp=>?_⟩
  change List Int at v
  change List Int at m
  have hl:m.length<=maxLen:=(hw (.imm (.int .u8) m) (by simp)).2
  unfold maxLen at hl
  repeat'(intro t ht;first|(cases t<;>first|(cases ht;done)|(try simp only[zg_]at ht))|((first|refine za_ ht ?_|refine ht ?_ ?_|refine ht.1 ?_ ?_|refine ht ?_)<;>clear ht))
  all_goals first
   | (intro r h1 h2;clear h1;refine h2 ⟨[1,7,8,9],Nat,(fun i=>i<=v.length/\jL_ v m=jL_ (v.drop i) (m.drop i)),fun i=>[.imm (.int .u8) m,.imm (.int .u8) v,.int .i64 v.length,.int .i64 i],fun _=>[],fun i=>v.length - i,⟨0,⟨Nat.zero_le _,rfl⟩,rfl,rfl⟩,?_⟩;clear h2)
  rintro i ⟨hi,he⟩
  repeat'(intro t ht;first|(cases t<;>first|(cases ht;done)|(try simp only[zg_]at ht))|((first|refine za_ ht ?_|refine ht ?_ ?_|refine ht.1 ?_ ?_|refine ht ?_)<;>clear ht))
  all_goals first
   | ((try simp only [zy_,zz_,zm_] at*);omega)
   | (have h0:v.drop i=[]:=List.drop_of_length_le (by omega)
      refine ⟨?_,rfl⟩;rw [he,h0];rfl)
   | (have hlt:i < v.length:=by omega
      have hlm:i < m.length:=by omega
      rw [z8_ hlt 0,z8_ hlm 0] at he
      first
       | (have hx:zj_ .andNot .u8 (v.getD i 0) (m.getD i 0)=0:=by assumption
          have h1:jL_ (v.getD i 0 :: v.drop (i+1)) (m.getD i 0 :: m.drop (i+1))=jL_ (v.drop (i+1)) (m.drop (i+1)):=if_pos hx
          exact ⟨i+1,⟨hlt,by rw [he,h1]⟩,by dsimp only;omega,rfl,rfl⟩)
       | (have hx:¬ zj_ .andNot .u8 (v.getD i 0) (m.getD i 0)=0:=by assumption
          have h1:jL_ (v.getD i 0 :: v.drop (i+1)) (m.getD i 0 :: m.drop (i+1))=true:=if_neg hx
          refine ⟨?_,rfl⟩;rw [he,h1]))
 ·cases e
def VP_:IR:=
(sq (kr [0] [oD 2 (.mov cF)])
(sq (sq (.reg [oD 3 (.mov (cI 0))])
(.block 0
(.loop
(sq (sq (kr [0,3] [oM 4 3,
oM 5 0,
oE 6 5,
oB 7 .lss 4 6])
(.cond 7
.skip
(.exit 0)))
(sq (.block 1
(sq (kr [0,3] [oM 10 0,
oM 11 3,
oI 12 1 10 11,
oL 13 12,
oB 14 .neq 13 (.c (.int .u8 0))])
(.cond 14
(sq (.reg [oD 2 (.mov cF)])
.ret)
.skip)))
(kr [0,3] [oM 8 3,
oB 9 .add 8 (cI 1),
oM 3 9]))))))
(sq (kr [] [oD 2 (.mov cT)])
.ret)))
def Vg_:List RD:=[.tmp 2 true none]
theorem Vt_:zn_ Tryz.prog Tryz.f85 VP_ Vg_=true:=by kernel_rfl
def j5_:List AV->List Obj->Option (Prop × AV)
 | [.imm (.int .u8) b],[]=>some ((True,.bool (jD_ b)))
 | _,_=>none
theorem y7_:zf_ Tryz.prog 85 (RoF j5_).sum:=by
 refine zi_ Tryz.func85 Vt_ (ze_ _) fun args objs p v e=>?_
 unfold j5_ at e
 split at e
 ·rename_i b
  cases e
  refine ⟨rfl,fun hw ho hp=>?_⟩
  change List Int at b
  have hl:b.length<=maxLen:=(hw (.imm (.int .u8) b) (by simp)).2
  unfold maxLen at hl
  repeat'(intro t ht;first|(cases t<;>first|(cases ht;done)|(try simp only[zg_]at ht))|((first|refine za_ ht ?_|refine ht ?_ ?_|refine ht.1 ?_ ?_|refine ht ?_)<;>clear ht))
  all_goals first
   | (intro r h1 h2;clear h1;refine h2 ⟨[0,3],Nat,(fun i=>i<=b.length/\jD_ b=jD_ (b.drop i)),fun i=>[.imm (.int .u8) b,.int .i64 i],fun _=>[],fun i=>b.length - i,⟨0,⟨Nat.zero_le _,rfl⟩,rfl,rfl⟩,?_⟩;clear h2)
  rintro i ⟨hi,he⟩
  repeat'(intro t ht;first|(cases t<;>first|(cases ht;done)|(try simp only[zg_]at ht))|((first|refine za_ ht ?_|refine ht ?_ ?_|refine ht.1 ?_ ?_|refine ht ?_)<;>clear ht))
  all_goals first
   | ((try simp only [zy_,zz_,zm_] at*);omega)
   | (have hge:b.length<=i:=by omega
      refine ⟨?_,rfl⟩;rw [he,List.drop_of_length_le hge];rfl)
   | (have hlt:i < b.length:=by omega
      rw [z8_ hlt 0] at he
      unfold jD_ at he
      rw [List.all_cons] at he
      first
       | (have hk:decide (b.getD i 0=0)=false:=decide_eq_false (by assumption)
          refine ⟨?_,rfl⟩;unfold jD_;rw [he,hk];rfl)
       | (have hk:decide (b.getD i 0=0)=true:=decide_eq_true (by assumption)
          rw [hk,Bool.true_and] at he
          exact ⟨i+1,⟨hlt,he⟩,by (try simp only [zy_,zz_,zm_] at*);omega,rfl,rfl⟩))
 ·cases e
def inA:List Int->List Int->Bool
 | x :: r,y :: l=>if zj_ .and .u8 x y=x then inA r l else false
 | _,_=>true
def YN_:IR:=
(sq (kr [0,1] [oD 4 (.mov cF)])
(sq (sq (.reg [oD 5 (.mov (cI 0))])
(.block 0
(.loop
(sq (sq (kr [0,1,5] [oM 6 5,
oM 7 0,
oE 8 7,
oB 9 .lss 6 8])
(.cond 9
.skip
(.exit 0)))
(sq (.block 1
(sq (kd [0,1,5] [(oM 12 0,[]),
(oM 13 5,[0]),
(oI 14 1 12 13,[]),
(oL 15 14,[]),
(oM 16 1,[0,0,0,0]),
(oM 17 5,[0,0,0,0,0]),
(oI 18 1 16 17,[2,0,0,0]),
(oL 19 18,[3,0,0,0]),
(oB 20 .and 15 19,[]),
(oM 21 0,[0,0,0,0,0,0,0,0,0]),
(oM 22 5,[0,0,0,0,0,0,0,0,0,0]),
(oI 23 1 21 22,[2,0,0,0,0,0,0,0,0]),
(oL 24 23,[3,0,0,0,0,0,0,0,0]),
(oB 25 .neq 20 24,[])])
(.cond 25
(sq (kr [] [oD 4 (.mov cF)])
.ret)
.skip)))
(kr [0,1,5] [oM 10 5,
oB 11 .add 10 (cI 1),
oM 5 11]))))))
(sq (kr [] [oD 4 (.mov cT)])
.ret)))
def Yf_:List RD:=[.tmp 4 true none]
theorem Yv_:zn_ Tryz.prog Tryz.f87 YN_ Yf_=true:=by kernel_rfl
def jc_:List AV->List Obj->Option (Prop × AV)
 | [.imm (.int .u8) v,.imm (.int .u8) m],[]=>some ((v.length<=m.length,.bool (inA v m)))
 | _,_=>none
theorem Xh_:zf_ Tryz.prog 87 (RoF jc_).sum:=by
 refine zi_ Tryz.func87 Yv_ (ze_ _) fun args objs p v e=>?_
 unfold jc_ at e
 split at e
 ·rename_i v m
  cases e
  refine ⟨rfl,fun hw ho hp=>?_⟩
  change List Int at v
  change List Int at m
  have hl:m.length<=maxLen:=(hw (.imm (.int .u8) m) (by simp)).2
  unfold maxLen at hl
  repeat'(intro t ht;first|(cases t<;>first|(cases ht;done)|(try simp only[zg_]at ht))|((first|refine za_ ht ?_|refine ht ?_ ?_|refine ht.1 ?_ ?_|refine ht ?_)<;>clear ht))
  all_goals first
   | (intro r h1 h2;clear h1;refine h2 ⟨[0,1,5],Nat,(fun i=>i<=v.length/\inA v m=inA (v.drop i) (m.drop i)),fun i=>[.imm (.int .u8) v,.imm (.int .u8) m,.int .i64 i],fun _=>[],fun i=>v.length - i,⟨0,⟨Nat.zero_le _,rfl⟩,rfl,rfl⟩,?_⟩;clear h2)
  rintro i ⟨hi,he⟩
  repeat'(intro t ht;first|(cases t<;>first|(cases ht;done)|(try simp only[zg_]at ht))|((first|refine za_ ht ?_|refine ht ?_ ?_|refine ht.1 ?_ ?_|refine ht ?_)<;>clear ht))
  all_goals first
   | ((try simp only [zy_,zz_,zm_] at*);omega)
   | (have h0:v.drop i=[]:=List.drop_of_length_le (by omega)
      refine ⟨?_,rfl⟩;rw [he,h0];rfl)
   | (have hlt:i < v.length:=by omega
      have hlm:i < m.length:=by omega
      rw [z8_ hlt 0,z8_ hlm 0] at he
      first
       | (have hx:zj_ .and .u8 (v.getD i 0) (m.getD i 0)=v.getD i 0:=by assumption
          have h1:inA (v.getD i 0 :: v.drop (i+1)) (m.getD i 0 :: m.drop (i+1))=inA (v.drop (i+1)) (m.drop (i+1)):=if_pos hx
          exact ⟨i+1,⟨hlt,by rw [he,h1]⟩,by dsimp only;omega,rfl,rfl⟩)
       | (have hx:¬ zj_ .and .u8 (v.getD i 0) (m.getD i 0)=v.getD i 0:=by assumption
          have h1:inA (v.getD i 0 :: v.drop (i+1)) (m.getD i 0 :: m.drop (i+1))=false:=if_neg hx
          refine ⟨?_,rfl⟩;rw [he,h1]))
 ·cases e
def k9_ (b:List Int):Nat->Int->Bool
 | 0,_=>true
 | f+1,i=>if zj_ .and .u8 ((b.getD (b.length - 1 - i.tdiv 8:Int).toNat 0).fdiv (2 ^ (min (i.tmod 8).toNat 8))) 1=0 then false else k9_ b f (i+1)
theorem JO_ {b:List Int} {f:Nat} {i:Int} (h:zj_ .and .u8 ((b.getD (b.length - 1 - i.tdiv 8:Int).toNat 0).fdiv (2 ^ (min (i.tmod 8).toNat 8))) 1=0):k9_ b (f+1) i=false:=if_pos h
theorem JN_ {b:List Int} {f:Nat} {i:Int} (h:¬ zj_ .and .u8 ((b.getD (b.length - 1 - i.tdiv 8:Int).toNat 0).fdiv (2 ^ (min (i.tmod 8).toNat 8))) 1=0):k9_ b (f+1) i=k9_ b f (i+1):=if_neg h
def Uj_:IR:=
(sq (kr [0,1] [oD 4 (.mov cF)])
(sq (sq (.reg [oD 5 (.mov (cI 0))])
(.block 0
(.loop
(sq (sq (kr [0,1,5] [oM 6 5,
oM 7 1,
oB 8 .lss 6 7])
(.cond 8
.skip
(.exit 0)))
(sq (.block 1
(sq (kr [0,1,5] [oM 11 0,
oM 12 0,
oE 13 12,
oB 14 .sub 13 (cI 1),
oM 15 5,
oB 16 .quo 15 (cI 8),
oB 17 .sub 14 16,
oI 18 1 11 17,
oL 19 18,
oM 20 5,
oB 21 .rem 20 (cI 8),
oB 22 .shr 19 21,
oB 23 .and 22 (.c (.int .u8 1)),
oB 24 .eql 23 (.c (.int .u8 0))])
(.cond 24
(sq (kr [] [oD 4 (.mov cF)])
.ret)
.skip)))
(kr [0,1,5] [oM 9 5,
oB 10 .add 9 (cI 1),
oM 5 10]))))))
(sq (kr [] [oD 4 (.mov cT)])
.ret)))
def uA_:List RD:=[.tmp 4 true none]
theorem uQ_:zn_ Tryz.prog Tryz.f86 Uj_ uA_=true:=by kernel_rfl
def J6_:List AV->List Obj->Option (Prop × AV)
 | [.imm (.int .u8) b,.int .i64 n],[]=>some ((0<=n/\n<=8*b.length/\b.length<=1000000,.bool (k9_ b n.toNat 0)))
 | _,_=>none
theorem v2_:zf_ Tryz.prog 86 (RoF J6_).sum:=by
 refine zi_ Tryz.func86 uQ_ (ze_ _) fun args objs p v e=>?_
 unfold J6_ at e
 split at e
 ·rename_i b n
  cases e
  refine ⟨rfl,fun hw ho hp=>?_⟩
  change List Int at b
  repeat'(intro t ht;first|(cases t<;>first|(cases ht;done)|(try simp only[zg_]at ht))|((first|refine za_ ht ?_|refine ht ?_ ?_|refine ht.1 ?_ ?_|refine ht ?_)<;>clear ht))
  all_goals first
   | (intro r h1 h2;clear h1;refine h2 ⟨[0,1,5],Nat,(fun i=>(i:Int)<=n/\k9_ b n.toNat 0=k9_ b (n.toNat - i) i),fun i=>[.imm (.int .u8) b,.int .i64 n,.int .i64 i],fun _=>[],fun i=>n.toNat - i,⟨0,⟨hp.1,rfl⟩,rfl,rfl⟩,?_⟩;clear h2)
  rintro i ⟨hi,he⟩
  have htd:(i:Int).tdiv 8=i / 8:=KQ_ (by omega)
  have htm:(i:Int).tmod 8=i % 8:=xT_ (by omega)
  repeat'(intro t ht;first|(cases t<;>first|(cases ht;done)|(try simp only[zg_]at ht))|((first|refine za_ ht ?_|refine ht ?_ ?_|refine ht.1 ?_ ?_|refine ht ?_)<;>clear ht))
  all_goals first
   | exact (by decide)
   | ((try simp only [zy_,zz_,zm_] at*);omega)
   | ((try simp only [zy_,zz_,zm_] at*);simp only [htd,htm];omega)
   | (have h0:n.toNat - i=0:=by omega
      refine ⟨?_,rfl⟩;rw [he,h0];rfl)
   | (have h1:n.toNat - i=(n.toNat - (i+1))+1:=by omega
      rw [h1] at he
      first
       | (have hf:=JO_ (f:=n.toNat - (i+1)) (b:=b) (i:=i) (by assumption)
          refine ⟨?_,rfl⟩;rw [he,hf])
       | (have hf:=JN_ (f:=n.toNat - (i+1)) (b:=b) (i:=i) (by assumption)
          exact ⟨i+1,⟨by omega,by rw [he,hf];rfl⟩,by dsimp only;omega,rfl,rfl⟩))
 ·cases e
def Wx_ (c f:Int):Bool:=if c=65535 then decide (0<=f) && decide (f<=127) else fIs f && decide (c=32768)
def QZ_ (c f:Int):Int:=if c=65535 then 100 else Kj_ f
def q4_ (c f:Int):Int:=if c=65535 then 0 else Z4_ f
def KZ_ (c f:Int):Bool:=if c=65535 then true else vx_ f
def zV_ (c:Int):Bool:=decide (c=65535)
theorem fK:∀ k < 40,0<=Kj_ (k:Nat)/\Kj_ (k:Nat)<=16/\0<=Z4_ (k:Nat)/\Z4_ (k:Nat)<=128:=by decide+kernel
theorem f_le (f:Int):0<=Kj_ f/\Kj_ f<=16/\0<=Z4_ f/\Z4_ f<=128:=by
 cases h:fIs f with
 | true=>
   have hn:=q8_.1 h
   have:=fK f.toNat (by omega)
   rwa [Int.toNat_of_nonneg hn.1] at this
 | false=>unfold Kj_ Z4_;rw [h];simp
theorem Hw_ (c f:Int):0<=QZ_ c f/\QZ_ c f<=100/\0<=q4_ c f/\q4_ c f<=128:=by
 have:=f_le f
 unfold QZ_ q4_;split<;>omega
def hz_:IR:=
(sq (kr [0] [oD 1 (.boxv 0),
oD 2 (.box [.int .i64 0,.int .i64 0,.kb false,.kb false]),
oD 3 (.mov cF)])
(sq (sq (.reg [oA 6 0 1,
oL 7 6,
oB 8 .eql 7 (cI 65535)])
(.cond 8
(sq (kd [1,2] [(oD 9 (.build [.int .i64 0,.int .i64 0,.kb false,.kb false] [(0,1,(cI 100)),(2,1,cT),(3,1,cT)]),[]),
(oA 10 1 1,[0]),
(oL 11 10,[1]),
(oB 12 .geq 11 (cI 0),[2]),
(oM 13 12,[3]),
(oT 13 14 (.fieldAddr 1 1),[4]),
(oT 13 15 (.load none 14),[5]),
(oT 13 16 (.bin .leq 15 (cI 127)),[6]),
(oP 17 13 16 cF,[7]),
(oS 4 2 9,[0,0,0,0]),
(oM 3 17,[])])
.ret)
.skip))
(sq (kr [1,2] [oA 19 1 1,
oL 20 19,
oC 21 69 [20],
oM 18 21,
oX 22 18 0,
oX 23 18 1,
oD 4 (.box [.int .i64 0,.int .i64 0,.kb false,.int .i64 0,.imm (.int .u64) []]),
oS 5 4 22,
oM 5 23])
(sq (kd [1,2,4,5] [(oA 24 1 4,[]),
(oL 25 24,[]),
(oA 26 0 4,[0,0]),
(oL 27 26,[1,0]),
(oA 28 2 4,[0,0,0,0]),
(oL 29 28,[1,0,0,0]),
(oD 30 (.build [.int .i64 0,.int .i64 0,.kb false,.kb false] [(0,1,25),(1,1,27),(2,1,29)]),[]),
(oM 31 5,[0,0,0,0,0,0,0]),
(oM 32 31,[1,0,0,0,0,0,0]),
(oT 32 33 (.fieldAddr 0 1),[2,0,0,0,0,0,0]),
(oT 32 34 (.load none 33),[3,0,0,0,0,0,0]),
(oT 32 35 (.bin .eql 34 (cI 32768)),[4,0,0,0,0,0,0]),
(oP 36 32 35 cF,[5,0,0,0,0,0,0]),
(oS 4 2 30,[0,0,0,0]),
(oM 3 36,[])])
.ret))))
def hh_:List RD:=[.cell 2 (some 4) true [],.tmp 3 true none]
theorem hl_:zn_ Tryz.prog Tryz.f57 hz_ hh_=true:=by kernel_rfl
def yZ_:List AV->List Obj->Option (Prop × AV)
 | [.agg [.int .i64 c,.int .i64 f,.bool h,.int .u64 x,.imm (.int .u8) v,.imm (.int .u8) m]],[]=>some ((True,.tup [.agg [.int .i64 (QZ_ c f),.int .i64 (q4_ c f),.bool (KZ_ c f),.bool (zV_ c)],.bool (Wx_ c f)]))
 | _,_=>none
theorem ge_:zf_ Tryz.prog 57 (RoF yZ_).sum:=by
 refine zi_ Tryz.func57 hl_ (zb_ (s:=RoF Q6_) kE_ (ze_ _)) fun args objs p v e=>?_
 unfold yZ_ at e
 split at e
 ·rename_i c f h x v m
  cases e
  refine ⟨rfl,fun hw ho hp=>?_⟩
  change List Int at v
  change List Int at m
  repeat'(intro t ht;first|(cases t<;>first|(cases ht;done)|(try simp only[zg_]at ht))|((first|refine za_ ht ?_|refine ht ?_ ?_|refine ht.1 ?_ ?_|refine ht ?_)<;>clear ht))
  all_goals first
   | exact True.intro
   | (simp_all [Wx_,QZ_,q4_,KZ_,zV_];done)
   | (simp_all [Wx_,QZ_,q4_,KZ_,zV_];omega)
 ·cases e
def KL_ (f:Int) (h:Bool) (v m:List Int) (bits:Int) (ex:Bool):Int:=
 if ex=false/\Qw_ f v=false then 1032 else if h=true/\ex=false/\Qw_ f m=false then 1033
 else if h=true/\(jD_ m=true\/jM_ m (if ex=true then m.length*8 else bits)=true) then 1033 else if h=true/\jL_ v m=true then 1030 else 0
def VU_:IR:=
(sq (kr [0,1] [oD 2 (.boxv 0),
oD 3 (.boxv 1),
oD 4 (.mov (cI 0))])
(sq (sq (.reg [oA 5 3 3,
oL 6 5])
(.cond 6
(kr [2,3] [oA 7 5 2,
oL 8 7,
oE 9 8,
oB 10 .mul 9 (cI 8),
oA 11 1 3,
oS 1 11 10])
.skip))
(sq (.block 0
(sq (.block 3
(.block 2
(sq (.block 1
(sq (sq (sq (kr [2,3] [oA 13 3 3,
oL 14 13,
oD 15 (.un .not 14),
oM 16 15,
oT 16 17 (.fieldAddr 1 2),
oT 16 18 (.load none 17),
oT 16 19 (.fieldAddr 4 2),
oT 16 20 (.load none 19),
oT 16 21 (.call false (.f 77) [18,20]),
oT 16 22 (.un .not 21),
oP 23 16 22 cF,
oM 12 23])
(.cond 12
(.exit 1)
.skip))
(sq (sq (kr [2,3] [oA 25 2 2,
oL 26 25,
oM 27 26,
oT 27 28 (.fieldAddr 3 3),
oT 27 29 (.load none 28),
oT 27 30 (.un .not 29),
oP 31 27 30 cF,
oM 32 31,
oT 32 33 (.fieldAddr 1 2),
oT 32 34 (.load none 33),
oT 32 35 (.fieldAddr 5 2),
oT 32 36 (.load none 35),
oT 32 37 (.call false (.f 77) [34,36]),
oT 32 38 (.un .not 37),
oP 39 32 38 cF,
oM 24 39])
(.cond 24
(.exit 2)
.skip))
(sq (kr [2,3] [oA 41 2 2,
oL 42 41,
oM 43 42,
oT 43 44 (.fieldAddr 5 2),
oT 43 45 (.load none 44),
oT 43 46 (.call false (.f 78) [45]),
oT 43 47 (.mov 46),
oF 47 48 (.fieldAddr 5 2),
oF 47 49 (.load none 48),
oF 47 50 (.fieldAddr 1 3),
oF 47 51 (.load none 50),
oF 47 52 (.call false (.f 79) [49,51]),
oT 43 53 (.pick 47 cT 52),
oP 54 43 53 cF,
oM 40 54])
(.cond 40
(.exit 3)
.skip))))
(.exit 0)))
(sq (sq (kr [] [oD 4 (.mov (cI 1032))])
.ret)
(.exit 0)))))
(sq (sq (kr [] [oD 4 (.mov (cI 1033))])
.ret)
(.exit 0))))
(sq (sq (kr [2] [oA 55 2 2,
oL 56 55,
oM 57 56,
oT 57 58 (.fieldAddr 4 2),
oT 57 59 (.load none 58),
oT 57 60 (.fieldAddr 5 2),
oT 57 61 (.load none 60),
oT 57 62 (.call false (.f 80) [59,61]),
oP 63 57 62 cF])
(.cond 63
(sq (kr [] [oD 4 (.mov (cI 1030))])
.ret)
.skip))
(sq (kr [] [oD 4 (.mov (cI 0))])
.ret)))))
def Vl_:List RD:=[.tmp 4 true none]
theorem Vy_:zn_ Tryz.prog Tryz.f58 VU_ Vl_=true:=by kernel_rfl
def Ja_:List AV->List Obj->Option (Prop × AV)
 | [.agg [.int .i64 c,.int .i64 f,.bool h,.int .u64 x,.imm (.int .u8) v,.imm (.int .u8) m],.agg [.int .i64 sz,.int .i64 bits,.bool mk,.bool ex]],[]=>some (((h=true->v.length<=m.length)/\m.length<=100000/\0<=bits/\bits<=1000000,.int .i64 (KL_ f h v m bits ex)))
 | _,_=>none
theorem Yb_:zf_ Tryz.prog 58 (RoF Ja_).sum:=by
 refine zi_ Tryz.func58 Vy_ (zb_ (s:=RoF jl_) Xo_ (zb_ (s:=RoF Jb_) Yc_ (zb_ (s:=RoF wa_) v6_ (zb_ (s:=RoF Ku_) xq_ (ze_ _))))) fun args objs p v e=>?_
 unfold Ja_ at e
 split at e
 ·rename_i c f h x v m sz bits mk ex
  cases e
  refine ⟨rfl,fun hw ho hp=>?_⟩
  change List Int at v
  change List Int at m
  cases h<;>cases ex
  all_goals repeat'(intro t ht;first|(cases t<;>first|(cases ht;done)|(try simp only[zg_]at ht))|((first|refine za_ ht ?_|refine ht ?_ ?_|refine ht.1 ?_ ?_|refine ht ?_)<;>clear ht))
  all_goals first
   | exact True.intro
   | exact hp.1 rfl
   | ((try simp only [zy_,zz_,zm_] at*);omega)
   | (unfold KL_;simp_all;done)
 ·cases e
def W8_ (c:Int) (v m:List Int):Int:=if c=65535 then (v.length:Int)+m.length+4 else (v.length:Int)+m.length
def ZD_ (c f:Int) (h:Bool) (x:Int) (v m:List Int):Bool:=
 Wx_ c f && (!h || KZ_ c f) && (zV_ c || decide (x=0)) && decide (x.fdiv (2 ^ (min (Int.toNat 32) IntKind.u64.bits))=0) &&
  (match h with | true=>decide ((m.length:Int)=v.length) | false=>decide (m.length=0)) && decide ((v.length:Int)<=QZ_ c f) && decide (KL_ f h v m (q4_ c f) (zV_ c)=0)
def VW_:IR:=
(sq (kr [0] [oD 1 (.boxv 0),
oD 2 (.mov cF)])
(sq (kr [1] [oK 6 6 1,
oC 7 57 [6],
oM 5 7,
oX 8 5 0,
oX 9 5 1,
oD 3 (.box [.int .i64 0,.int .i64 0,.kb false,.kb false]),
oS 4 3 8,
oM 4 9])
(sq (.block 0
(sq (.block 4
(sq (.block 3
(.block 2
(sq (.block 1
(sq (sq (sq (kr [1,3,4] [oM 11 4,
oD 12 (.un .not 11),
oM 13 12,
oF 13 14 (.fieldAddr 2 1),
oF 13 15 (.load none 14),
oF 13 16 (.mov 15),
oT 16 17 (.fieldAddr 2 3),
oT 16 18 (.load none 17),
oT 16 19 (.un .not 18),
oF 13 20 (.pick 16 19 cF),
oP 21 13 cT 20,
oM 10 21])
(.cond 10
(.exit 1)
.skip))
(sq (sq (kr [1,3] [oA 23 3 3,
oL 24 23,
oD 25 (.un .not 24),
oM 26 25,
oT 26 27 (.fieldAddr 3 1),
oT 26 28 (.load none 27),
oT 26 29 (.bin .neq 28 (.c (.int .u64 0))),
oP 30 26 29 cF,
oM 22 30])
(.cond 22
(.exit 2)
.skip))
(sq (sq (kr [1,3] [oA 32 3 1,
oL 33 32,
oB 34 .shr 33 (.c (.int .u64 32)),
oB 35 .neq 34 (.c (.int .u64 0)),
oM 31 35])
(.cond 31
(.exit 3)
.skip))
(sq (kr [1,3] [oA 37 2 1,
oL 38 37,
oM 39 38,
oT 39 40 (.fieldAddr 5 1),
oT 39 41 (.load none 40),
oT 39 42 (.len 41),
oT 39 43 (.fieldAddr 4 1),
oT 39 44 (.load none 43),
oT 39 45 (.len 44),
oT 39 46 (.bin .neq 42 45),
oP 47 39 46 cF,
oM 48 47,
oF 48 49 (.fieldAddr 2 1),
oF 48 50 (.load none 49),
oF 48 51 (.un .not 50),
oF 48 52 (.mov 51),
oT 52 53 (.fieldAddr 5 1),
oT 52 54 (.load none 53),
oT 52 55 (.len 54),
oT 52 56 (.bin .gtr 55 (cI 0)),
oF 48 57 (.pick 52 56 cF),
oP 58 48 cT 57,
oM 59 58,
oF 59 60 (.fieldAddr 4 1),
oF 59 61 (.load none 60),
oF 59 62 (.len 61),
oF 59 63 (.fieldAddr 0 3),
oF 59 64 (.load none 63),
oF 59 65 (.bin .gtr 62 64),
oP 66 59 cT 65,
oM 36 66])
(.cond 36
(.exit 4)
.skip)))))
(.exit 0)))
(sq (sq (kr [] [oD 2 (.mov cF)])
.ret)
(.exit 0)))))
(sq (sq (kr [] [oD 2 (.mov cF)])
.ret)
(.exit 0))))
(sq (sq (kr [] [oD 2 (.mov cF)])
.ret)
(.exit 0))))
(sq (kr [1,3] [oK 67 6 1,
oK 68 4 3,
oC 69 58 [67,68],
oB 70 .eql 69 (cI 0),
oM 2 70])
.ret))))
def Vn_:List RD:=[.tmp 2 true none]
theorem VA_:zn_ Tryz.prog Tryz.f29 VW_ Vn_=true:=by kernel_rfl
def Ko_:List AV->List Obj->Option (Prop × AV)
 | [.agg [.int .i64 c,.int .i64 f,.bool h,.int .u64 x,.imm (.int .u8) v,.imm (.int .u8) m]],[]=>some ((v.length<=1000000/\m.length<=1000000,.bool (ZD_ c f h x v m)))
 | _,_=>none
theorem JC_:zf_ Tryz.prog 29 (RoF Ko_).sum:=by
 refine zi_ Tryz.func29 VA_ (zb_ (s:=RoF yZ_) ge_ (zb_ (s:=RoF Ja_) Yb_ (ze_ _))) fun args objs p v e=>?_
 unfold Ko_ at e
 split at e
 ·rename_i c f h x v m
  cases e
  refine ⟨rfl,fun hw ho hp=>?_⟩
  change List Int at v
  change List Int at m
  have hof:=Hw_ c f
  cases h
  all_goals repeat'(intro t ht;first|(cases t<;>first|(cases ht;done)|(try simp only[zg_]at ht))|((first|refine za_ ht ?_|refine ht ?_ ?_|refine ht.1 ?_ ?_|refine ht ?_)<;>clear ht))
  all_goals first
   | exact True.intro
   | exact (by decide)
   | (refine ⟨fun h=>?_,?_,?_,?_⟩<;>first | omega | (cases h;done))
   | (unfold ZD_;simp_all;done)
   | (have h0:¬ m.length=0:=by omega
      unfold ZD_;simp_all;done)
   | (unfold ZD_;simp_all;omega)
 ·cases e
def Um_:IR:=
(sq (kr [0] [oD 1 (.boxv 0),
oD 2 (.mov (cI 0))])
(sq (kr [1] [oA 4 4 1,
oL 5 4,
oE 6 5,
oA 7 5 1,
oL 8 7,
oE 9 8,
oB 10 .add 6 9,
oM 3 10])
(sq (sq (kr [1,3] [oA 11 0 1,
oL 12 11,
oB 13 .eql 12 (cI 65535)])
(.cond 13
(.reg [oM 14 3,
oB 15 .add 14 (cI 4),
oM 3 15])
.skip))
(sq (kr [3] [oM 16 3,
oM 2 16])
.ret))))
def uD_:List RD:=[.tmp 2 true none]
theorem uT_:zn_ Tryz.prog Tryz.f83 Um_ uD_=true:=by kernel_rfl
def J9_:List AV->List Obj->Option (Prop × AV)
 | [.agg [.int .i64 c,.int .i64 f,.bool h,.int .u64 x,.imm (.int .u8) v,.imm (.int .u8) m]],[]=>some ((v.length<=1000000/\m.length<=1000000,.int .i64 (W8_ c v m)))
 | _,_=>none
theorem v5_:zf_ Tryz.prog 83 (RoF J9_).sum:=by
 refine zi_ Tryz.func83 uT_ (ze_ _) fun args objs p v e=>?_
 unfold J9_ at e
 split at e
 ·rename_i c f h x v m
  cases e
  refine ⟨rfl,fun hw ho hp=>?_⟩
  change List Int at v
  change List Int at m
  repeat'(intro t ht;first|(cases t<;>first|(cases ht;done)|(try simp only[zg_]at ht))|((first|refine za_ ht ?_|refine ht ?_ ?_|refine ht.1 ?_ ?_|refine ht ?_)<;>clear ht))
  all_goals first
   | ((try simp only [zy_,zz_,zm_] at*);omega)
   | (unfold W8_;simp_all;done)
 ·cases e
theorem Ji_ {c f:Int} {h:Bool} {x:Int} {v m:List Int} (hr:ZD_ c f h x v m=true):(v.length:Int)<=QZ_ c f/\(h=true->(m.length:Int)=v.length)/\(h=false->m.length=0)/\Wx_ c f=true/\(h=true->KZ_ c f=true)/\(zV_ c=true\/x=0)/\x.fdiv (2 ^ (min (Int.toNat 32) IntKind.u64.bits))=0/\KL_ f h v m (q4_ c f) (zV_ c)=0:=by
 unfold ZD_ at hr
 simp only [Bool.and_eq_true,Bool.or_eq_true,decide_eq_true_eq] at hr
 obtain ⟨⟨⟨⟨⟨⟨a1,a2⟩,a3⟩,a4⟩,a5⟩,a6⟩,a7⟩:=hr
 cases h with
 | true=>exact ⟨a6,fun _=>of_decide_eq_true a5,fun h=>(by cases h),a1,fun _=>a2.resolve_left (by simp),a3,a4,a7⟩
 | false=>exact ⟨a6,fun h=>(by cases h),fun _=>of_decide_eq_true a5,a1,fun h=>(by cases h),a3,a4,a7⟩
theorem Ve_ {f:Int} {v:List Int} (h:Zv_ f v=true):(v.length:Int)=ZC_ f/\0<=qE_ f/\qE_ f<=8*ZC_ f/\ZC_ f<=16:=by
 unfold Zv_ at h
 split at h
 ·rename_i hh
  have hn:=q8_.1 hh.1
  have:=h7_ f.toNat (by omega)
  rw [Int.toNat_of_nonneg hn.1] at this
  omega
 ·cases h
def Vf_ (c f:Int) (h:Bool) (v m:List Int):Int:=
 if c=32768/\Zv_ f v=false then 1032 else if h=true/\c=32768/\Zv_ f m=false then 1033
 else if h=true/\(jD_ m=true\/k9_ m (if c=32768 then qE_ f else 8*m.length).toNat 0=true) then 1033 else if h=true/\inA v m=false then 1030 else 0
def VQ_:IR:=
(sq (kr [0] [oD 1 (.boxv 0),
oD 2 (.mov (cI 0))])
(sq (kr [1] [oA 7 1 1,
oL 8 7,
oC 9 53 [8],
oM 6 9,
oX 10 6 0,
oX 11 6 1,
oD 3 (.box [.str [],.int .i64 0,.int .i64 0,.kb false,.int .i64 0,.imm (.int .u64) []]),
oS 6 3 10,
oM 4 11])
(sq (kr [1,3] [oA 12 5 1,
oL 13 12,
oE 14 13,
oB 15 .mul (cI 8) 14,
oM 5 15])
(sq (sq (.reg [oA 16 0 1,
oL 17 16,
oB 18 .eql 17 (cI 32768)])
(.cond 18
(sq (kr [1,3] [oA 19 1 3,
oL 20 19,
oM 5 20])
(sq (sq (kr [1,5] [oA 21 1 1,
oL 22 21,
oA 23 4 1,
oL 24 23,
oC 25 84 [22,24],
oD 26 (.un .not 25)])
(.cond 26
(sq (kr [] [oD 2 (.mov (cI 1032))])
.ret)
.skip))
(sq (kr [1,5] [oA 27 2 1,
oL 28 27,
oM 29 28,
oT 29 30 (.fieldAddr 1 1),
oT 29 31 (.load none 30),
oT 29 32 (.fieldAddr 5 1),
oT 29 33 (.load none 32),
oT 29 34 (.call false (.f 84) [31,33]),
oT 29 35 (.un .not 34),
oP 36 29 35 cF])
(.cond 36
(sq (kr [] [oD 2 (.mov (cI 1033))])
.ret)
.skip))))
.skip))
(sq (sq (kr [1,5] [oA 37 2 1,
oL 38 37,
oM 39 38,
oT 39 40 (.fieldAddr 5 1),
oT 39 41 (.load none 40),
oT 39 42 (.call false (.f 85) [41]),
oT 39 43 (.mov 42),
oF 43 44 (.fieldAddr 5 1),
oF 43 45 (.load none 44),
oF 43 46 (.mov 5),
oF 43 47 (.call false (.f 86) [45,46]),
oT 39 48 (.pick 43 cT 47),
oP 49 39 48 cF])
(.cond 49
(sq (kr [] [oD 2 (.mov (cI 1033))])
.ret)
.skip))
(sq (sq (kr [1] [oA 50 2 1,
oL 51 50,
oM 52 51,
oT 52 53 (.fieldAddr 4 1),
oT 52 54 (.load none 53),
oT 52 55 (.fieldAddr 5 1),
oT 52 56 (.load none 55),
oT 52 57 (.call false (.f 87) [54,56]),
oT 52 58 (.un .not 57),
oP 59 52 58 cF])
(.cond 59
(sq (kr [] [oD 2 (.mov (cI 1030))])
.ret)
.skip))
(sq (kr [] [oD 2 (.mov (cI 0))])
.ret)))))))
def Vh_:List RD:=[.tmp 2 true none]
theorem Vu_:zn_ Tryz.prog Tryz.f63 VQ_ Vh_=true:=by kernel_rfl
def j6_:List AV->List Obj->Option (Prop × AV)
 | [.agg [.int .i64 c,.int .i64 f,.bool h,.int .u64 x,.imm (.int .u8) v,.imm (.int .u8) m]],[]=>some (((h=true->c ≠ 32768->v.length<=m.length)/\m.length<=100000,.int .i64 (Vf_ c f h v m)))
 | _,_=>none
theorem y8_:zf_ Tryz.prog 63 (RoF j6_).sum:=by
 refine zi_ Tryz.func63 Vu_ (zb_ (s:=RoF j8_) JI_ (zb_ (s:=RoF J8_) v4_ (zb_ (s:=RoF j5_) y7_ (zb_ (s:=RoF J6_) v2_ (zb_ (s:=RoF jc_) Xh_ (ze_ _)))))) fun args objs p v e=>?_
 unfold j6_ at e
 split at e
 ·rename_i c f h x v m
  cases e
  refine ⟨rfl,fun hw ho hp=>?_⟩
  change List Int at v
  change List Int at m
  have hfv:=Ve_ (f:=f) (v:=v)
  have hfm:=Ve_ (f:=f) (v:=m)
  cases h<;>by_cases hc:c=32768
  all_goals repeat'(intro t ht;first|(cases t<;>first|(cases ht;done)|(try simp only[zg_]at ht))|((first|refine za_ ht ?_|refine ht ?_ ?_|refine ht.1 ?_ ?_|refine ht ?_)<;>clear ht))
  all_goals first
   | exact True.intro
   | contradiction
   | ((try simp only [zy_,zz_,zm_] at*);omega)
   | (have h1:=hfm (by assumption);(try simp only [zy_,zz_,zm_] at*);omega)
   | (have h1:=hfm (by assumption);have h2:=hfv (by assumption);(try simp only [zy_,zz_,zm_] at*);omega)
   | (have h1:=hp.1 rfl (by assumption);exact h1)
   | (unfold Vf_;simp_all;done)
 ·cases e
def Xy_ (c f:Int) (h:Bool) (x:Int) (v m:List Int):Bool:=
 if (h=false/\0 < m.length)\/(h=true/\¬ (m.length:Int)=v.length) then false
 else if c=32768 then fIs f && decide (x=0) && (!h || JD_ f) && decide (Vf_ c f h v m=0)
 else decide (c=65535) && decide (0<=f) && decide (f<=127) && decide (x < 4294967296) && decide ((v.length:Int)<=100) && decide (Vf_ c f h v m=0)
def VR_:IR:=
(sq (kr [0] [oD 1 (.boxv 0),
oD 2 (.mov cF)])
(sq (sq (kr [1] [oA 5 2 1,
oL 6 5,
oD 7 (.un .not 6),
oM 8 7,
oT 8 9 (.fieldAddr 5 1),
oT 8 10 (.load none 9),
oT 8 11 (.len 10),
oT 8 12 (.bin .gtr 11 (cI 0)),
oP 13 8 12 cF,
oM 14 13,
oF 14 15 (.fieldAddr 2 1),
oF 14 16 (.load none 15),
oF 14 17 (.mov 16),
oT 17 18 (.fieldAddr 5 1),
oT 17 19 (.load none 18),
oT 17 20 (.len 19),
oT 17 21 (.fieldAddr 4 1),
oT 17 22 (.load none 21),
oT 17 23 (.len 22),
oT 17 24 (.bin .neq 20 23),
oF 14 25 (.pick 17 24 cF),
oP 26 14 cT 25])
(.cond 26
(sq (kr [] [oD 2 (.mov cF)])
.ret)
.skip))
(sq (sq (kr [1] [oA 27 0 1,
oL 28 27,
oB 29 .eql 28 (cI 32768)])
(.cond 29
(sq (kr [1] [oA 31 1 1,
oL 32 31,
oC 33 53 [32],
oM 30 33,
oX 34 30 0,
oX 35 30 1,
oD 3 (.box [.str [],.int .i64 0,.int .i64 0,.kb false,.int .i64 0,.imm (.int .u64) []]),
oS 6 3 34,
oM 4 35])
(sq (kr [1,3,4] [oM 36 4,
oM 37 36,
oT 37 38 (.fieldAddr 3 1),
oT 37 39 (.load none 38),
oT 37 40 (.bin .eql 39 (.c (.int .u64 0))),
oP 41 37 40 cF,
oM 42 41,
oT 42 43 (.fieldAddr 2 1),
oT 42 44 (.load none 43),
oT 42 45 (.un .not 44),
oT 42 46 (.mov 45),
oF 46 47 (.fieldAddr 3 3),
oF 46 48 (.load none 47),
oT 42 49 (.pick 46 cT 48),
oP 50 42 49 cF,
oM 51 50,
oT 51 52 (.load (some 6) 1),
oT 51 53 (.call false (.f 63) [52]),
oT 51 54 (.bin .eql 53 (cI 0)),
oP 55 51 54 cF,
oM 2 55])
.ret))
.skip))
(sq (kr [1] [oA 56 0 1,
oL 57 56,
oB 58 .eql 57 (cI 65535),
oM 59 58,
oT 59 60 (.fieldAddr 1 1),
oT 59 61 (.load none 60),
oT 59 62 (.bin .geq 61 (cI 0)),
oP 63 59 62 cF,
oM 64 63,
oT 64 65 (.fieldAddr 1 1),
oT 64 66 (.load none 65),
oT 64 67 (.bin .leq 66 (cI 127)),
oP 68 64 67 cF,
oM 69 68,
oT 69 70 (.fieldAddr 3 1),
oT 69 71 (.load none 70),
oT 69 72 (.bin .lss 71 (.c (.int .u64 4294967296))),
oP 73 69 72 cF,
oM 74 73,
oT 74 75 (.fieldAddr 4 1),
oT 74 76 (.load none 75),
oT 74 77 (.len 76),
oT 74 78 (.bin .leq 77 (cI 100)),
oP 79 74 78 cF,
oM 80 79,
oT 80 81 (.load (some 6) 1),
oT 80 82 (.call false (.f 63) [81]),
oT 80 83 (.bin .eql 82 (cI 0)),
oP 84 80 83 cF,
oM 2 84])
.ret))))
def Vi_:List RD:=[.tmp 2 true none]
theorem Vv_:zn_ Tryz.prog Tryz.f32 VR_ Vi_=true:=by kernel_rfl
def j7_:List AV->List Obj->Option (Prop × AV)
 | [.agg [.int .i64 c,.int .i64 f,.bool h,.int .u64 x,.imm (.int .u8) v,.imm (.int .u8) m]],[]=>some ((m.length<=100000,.bool (Xy_ c f h x v m)))
 | _,_=>none
theorem y9_:zf_ Tryz.prog 32 (RoF j7_).sum:=by
 refine zi_ Tryz.func32 Vv_ (zb_ (s:=RoF j8_) JI_ (zb_ (s:=RoF j6_) y8_ (ze_ _))) fun args objs p v e=>?_
 unfold j7_ at e
 split at e
 ·rename_i c f h x v m
  cases e
  refine ⟨rfl,fun hw ho hp=>?_⟩
  change List Int at v
  change List Int at m
  have hm:m.length<=maxLen:=(hw _ (List.mem_cons_self ..) (.imm (.int .u8) m) (by simp)).2
  have hv:v.length<=maxLen:=(hw _ (List.mem_cons_self ..) (.imm (.int .u8) v) (by simp)).2
  unfold maxLen at hm hv
  cases h<;>by_cases hc:c=32768
  all_goals repeat'(intro t ht;first|(cases t<;>first|(cases ht;done)|(try simp only[zg_]at ht))|((first|refine za_ ht ?_|refine ht ?_ ?_|refine ht.1 ?_ ?_|refine ht ?_)<;>clear ht))
  all_goals first
   | exact True.intro
   | contradiction
   | (refine ⟨fun h1 h2=>?_,?_⟩<;>first | omega | (cases h1;done))
   | ((try simp only [zy_,zz_,zm_] at*);omega)
   | (unfold Xy_;simp_all;done)
   | (unfold Xy_;simp_all;omega)
 ·cases e
def Xt_ (c f:Int) (h:Bool) (x:Int) (v m:List Int):Int:=if ZD_ c f h x v m=true then 4+W8_ c v m else 0
def Uo_:IR:=
(sq (kr [0] [oD 1 (.boxv 0),
oD 2 (.mov (cI 0))])
(sq (sq (.reg [oK 3 6 1,
oC 4 29 [3],
oD 5 (.un .not 4)])
(.cond 5
(sq (.reg [oD 2 (.mov (cI 0))])
.ret)
.skip))
(sq (kr [1] [oK 6 6 1,
oC 7 83 [6],
oB 8 .add (cI 4) 7,
oM 2 8])
.ret)))
def uF_:List RD:=[.tmp 2 true none]
theorem uV_:zn_ Tryz.prog Tryz.f62 Uo_ uF_=true:=by kernel_rfl
def wb_:List AV->List Obj->Option (Prop × AV)
 | [.agg [.int .i64 c,.int .i64 f,.bool h,.int .u64 x,.imm (.int .u8) v,.imm (.int .u8) m]],[]=>some ((v.length<=1000000/\m.length<=1000000,.int .i64 (Xt_ c f h x v m)))
 | _,_=>none
theorem v7_:zf_ Tryz.prog 62 (RoF wb_).sum:=by
 refine zi_ Tryz.func62 uV_ (zb_ (s:=RoF Ko_) JC_ (zb_ (s:=RoF J9_) v5_ (ze_ _))) fun args objs p v e=>?_
 unfold wb_ at e
 split at e
 ·rename_i c f h x v m
  cases e
  refine ⟨rfl,fun hw ho hp=>?_⟩
  change List Int at v
  change List Int at m
  repeat'(intro t ht;first|(cases t<;>first|(cases ht;done)|(try simp only[zg_]at ht))|((first|refine za_ ht ?_|refine ht ?_ ?_|refine ht.1 ?_ ?_|refine ht ?_)<;>clear ht))
  all_goals first
   | exact hp
   | (have hr:ZD_ c f h x v m=true:=by assumption
      have hl:=Ji_ hr
      have hof:=Hw_ c f
      have hm:(m.length:Int)<=100:=by cases h;have:=hl.2.2.1 rfl;omega;have:=hl.2.1 rfl;omega
      have hrest:0<=W8_ c v m/\W8_ c v m<=204:=by unfold W8_;split<;>omega
      first
       | ((try simp only [zy_,zz_,zm_] at*);omega)
       | (unfold Xt_;rw [if_pos hr];exact ⟨rfl,rfl⟩))
   | (have hr:ZD_ c f h x v m=false:=by assumption
      unfold Xt_;rw [hr];exact ⟨rfl,rfl⟩)
 ·cases e
def zba_ (c f:Int) (h:Bool) (v m:List Int):List Int:=ub_ c 2++ub_ (2*f+if h=true then 1 else 0) 1++ub_ (W8_ c v m) 1
def encO (c f:Int) (h:Bool) (x:Int) (v m:List Int):List Int:=zba_ c f h v m++(if c=65535 then ub_ x 4 else [])++v++m
def za6_ (h ex:Bool) (sz n:Int):Int:=if ex=true then (n - 4).tdiv (if h=true then 2 else 1) else sz
def za7_ (h ex:Bool) (sz n:Int):Bool:=if ex=true then decide (0<=n - 4) && decide ((n - 4).tmod (if h=true then 2 else 1)=0) && decide ((n - 4).tdiv (if h=true then 2 else 1)<=sz) else decide (n=(if h=true then 2 else 1)*sz)
def yE_ (b:List Int):Int:=numL (b.take 2)
def gT_ (b:List Int):Int:=(b.getD 2 0).tdiv 2
def gS_ (b:List Int):Bool:=decide ((b.getD 2 0).tmod 2=1)
def decX (b:List Int):Int:=if yE_ b=65535 then numL ((b.drop 4).take 4) else 0
def bb_ (b:List Int):Int:=if yE_ b=65535 then 8 else 4
def hG_ (b:List Int):Int:=za6_ (gS_ b) (zV_ (yE_ b)) (QZ_ (yE_ b) (gT_ b)) (b.getD 3 0)
def decK (b:List Int):Bool:=za7_ (gS_ b) (zV_ (yE_ b)) (QZ_ (yE_ b) (gT_ b)) (b.getD 3 0)
def decV (b:List Int):List Int:=(b.take (bb_ b+hG_ b).toNat).drop (bb_ b).toNat
def decM (b:List Int):List Int:=if gS_ b=true then (b.take (bb_ b+hG_ b+hG_ b).toNat).drop (bb_ b+hG_ b).toNat else []
def decN (b:List Int):Int:=bb_ b+hG_ b+if gS_ b=true then hG_ b else 0
def BB_ (b:List Int):Int:=if b.length < 4 then 1026 else if Wx_ (yE_ b) (gT_ b)=false then 1031 else if gS_ b=true/\KZ_ (yE_ b) (gT_ b)=false then 1033 else if decK b=false\/(b.length:Int) - 4 < b.getD 3 0 then 1026 else KL_ (gT_ b) (gS_ b) (decV b) (decM b) (q4_ (yE_ b) (gT_ b)) (zV_ (yE_ b))
def BA_ (b:List Int) (x:Int):Int:=if BB_ b=0 then x else 0
def decR (b:List Int) (l:List Int):List Int:=if BB_ b=0 then l else []
def VS_:IR:=
(sq (kr [0,1] [oD 2 (.boxv 0),
oD 3 (.boxv 1),
oD 4 (.mov cF)])
(sq (kr [2,3] [oA 5 0 2,
oL 6 5,
oA 7 0 3,
oL 8 7,
oB 9 .eql 6 8,
oM 10 9,
oT 10 11 (.fieldAddr 1 2),
oT 10 12 (.load none 11),
oT 10 13 (.fieldAddr 1 3),
oT 10 14 (.load none 13),
oT 10 15 (.bin .eql 12 14),
oP 16 10 15 cF,
oM 17 16,
oT 17 18 (.fieldAddr 3 2),
oT 17 19 (.load none 18),
oT 17 20 (.fieldAddr 3 3),
oT 17 21 (.load none 20),
oT 17 22 (.bin .eql 19 21),
oP 23 17 22 cF,
oM 4 23])
.ret))
def Vj_:List RD:=[.tmp 4 true none]
theorem Vw_:zn_ Tryz.prog Tryz.f23 VS_ Vj_=true:=by kernel_rfl
def Kn_:List AV->List Obj->Option (Prop × AV)
 | [.agg [.int .i64 c,.int .i64 f,.bool h,.int .u64 x,.imm (.int .u8) v,.imm (.int .u8) m],.agg [.int .i64 c',.int .i64 f',.bool h',.int .u64 x',.imm (.int .u8) v',.imm (.int .u8) m']],[]=>some ((True,.bool (decide (c=c') && decide (f=f') && decide (x=x'))))
 | _,_=>none
theorem JB_:zf_ Tryz.prog 23 (RoF Kn_).sum:=by
 refine zi_ Tryz.func23 Vw_ (ze_ _) fun args objs p v e=>?_
 unfold Kn_ at e
 split at e
 ·rename_i c f h x v m c' f' h' x' v' m'
  cases e
  refine ⟨rfl,fun hw ho hp=>?_⟩
  change List Int at v
  change List Int at m
  change List Int at v'
  change List Int at m'
  repeat'(intro t ht;first|(cases t<;>first|(cases ht;done)|(try simp only[zg_]at ht))|((first|refine za_ ht ?_|refine ht ?_ ?_|refine ht.1 ?_ ?_|refine ht ?_)<;>clear ht))
  all_goals first
   | exact True.intro
   | (simp_all;done)
 ·cases e
def js_ (c f:Int) (h:Bool) (x:Int) (v m:List Int) (c' f':Int) (h':Bool) (x':Int) (v' m':List Int):Bool:=decide (c=c') && decide (f=f') && decide (x=x') && (h == h') && decide (v=v') && decide (m=m')
theorem hb_ (c f:Int) (h:Bool) (x:Int) (v m:List Int):js_ c f h x v m c f h x v m=true:=by unfold js_;simp
def Uk_:IR:=
(sq (kr [0,1] [oD 2 (.boxv 0),
oD 3 (.boxv 1),
oD 4 (.mov cF)])
(sq (kr [2,3] [oK 5 6 2,
oK 6 6 3,
oC 7 23 [5,6],
oM 8 7,
oT 8 9 (.fieldAddr 2 2),
oT 8 10 (.load none 9),
oT 8 11 (.fieldAddr 2 3),
oT 8 12 (.load none 11),
oT 8 13 (.eqb false 10 12),
oP 14 8 13 cF,
oM 15 14,
oT 15 16 (.fieldAddr 4 2),
oT 15 17 (.load none 16),
oT 15 18 (.fieldAddr 4 3),
oT 15 19 (.load none 18),
oT 15 20 (.call false (.f 55) [17,19]),
oP 21 15 20 cF,
oM 22 21,
oT 22 23 (.fieldAddr 5 2),
oT 22 24 (.load none 23),
oT 22 25 (.fieldAddr 5 3),
oT 22 26 (.load none 25),
oT 22 27 (.call false (.f 55) [24,26]),
oP 28 22 27 cF,
oM 4 28])
.ret))
def uB_:List RD:=[.tmp 4 true none]
theorem uR_:zn_ Tryz.prog Tryz.f26 Uk_ uB_=true:=by kernel_rfl
def J7_:List AV->List Obj->Option (Prop × AV)
 | [.agg [.int .i64 c,.int .i64 f,.bool h,.int .u64 x,.imm (.int .u8) v,.imm (.int .u8) m],.agg [.int .i64 c',.int .i64 f',.bool h',.int .u64 x',.imm (.int .u8) v',.imm (.int .u8) m']],[]=>some ((True,.bool (js_ c f h x v m c' f' h' x' v' m')))
 | _,_=>none
theorem v3_:zf_ Tryz.prog 26 (RoF J7_).sum:=by
 refine zi_ Tryz.func26 uR_ (zb_ (s:=RoF Kn_) JB_ (zb_ (s:=RoF j9_) Ya_ (ze_ _))) fun args objs p v e=>?_
 unfold J7_ at e
 split at e
 ·rename_i c f h x v m c' f' h' x' v' m'
  cases e
  refine ⟨rfl,fun hw ho hp=>?_⟩
  change List Int at v
  change List Int at m
  change List Int at v'
  change List Int at m'
  repeat'(intro t ht;first|(cases t<;>first|(cases ht;done)|(try simp only[zg_]at ht))|((first|refine za_ ht ?_|refine ht ?_ ?_|refine ht.1 ?_ ?_|refine ht ?_)<;>clear ht))
  all_goals first
   | exact True.intro
   | (refine ⟨?_,rfl⟩;unfold js_;simp_all;done)
   | (refine ⟨?_,rfl⟩;unfold js_;cases h<;>cases h'<;>simp_all;done)
   | (refine ⟨?_,rfl⟩;unfold js_;rcases ‹(¬c=c'\/¬f=f')\/¬x=x'› with (h1 | h1) | h1<;>rw [decide_eq_false h1]<;>simp)
 ·cases e
def gK_:IR:=
(sq (kr [0] [oD 1 (.boxv 0),
oD 2 (.mov cF)])
(sq (kr [1] [oA 3 4 1,
oL 4 3,
oE 5 4,
oB 6 .leq 5 (cI 300),
oM 7 6,
oT 7 8 (.fieldAddr 5 1),
oT 7 9 (.load none 8),
oT 7 10 (.len 9),
oT 7 11 (.bin .leq 10 (cI 300)),
oP 12 7 11 cF,
oM 2 12])
.ret))
def gn_:List RD:=[.tmp 2 true none]
theorem gt_:zn_ Tryz.prog Tryz.f16 gK_ gn_=true:=by kernel_rfl
def WW_:List AV->List Obj->Option (Prop × AV)
 | [.agg [.int .i64 c,.int .i64 f,.bool h,.int .u64 x,.imm (.int .u8) v,.imm (.int .u8) m]],[]=>some ((True,.bool (decide (v.length<=300) && decide (m.length<=300))))
 | _,_=>none
theorem us_:zf_ Tryz.prog 16 (RoF WW_).sum:=by
 refine zi_ Tryz.func16 gt_ (ze_ _) fun args objs p v e=>?_
 unfold WW_ at e
 split at e
 ·rename_i c f h x v m
  cases e
  refine ⟨rfl,fun hw ho hp=>?_⟩
  change List Int at v
  change List Int at m
  repeat'(intro t ht;first|(cases t<;>first|(cases ht;done)|(try simp only[zg_]at ht))|((first|refine za_ ht ?_|refine ht ?_ ?_|refine ht.1 ?_ ?_|refine ht ?_)<;>clear ht))
  all_goals first
   | exact True.intro
   | (simp_all;done)
   | (have e:decide (v.length<=300)=false:=decide_eq_false (by omega)
      rw [e];exact ⟨rfl,rfl⟩)
   | (have e:decide (v.length<=300)=true:=decide_eq_true (by omega)
      rw [e];refine ⟨?_,rfl⟩;rw [Bool.true_and];congr 1;rw [Bool.eq_iff_iff];simp only [decide_eq_true_eq];omega)
 ·cases e
theorem za8_:∀ k < 40,Z4_ (k:Nat)=qE_ (k:Nat)/\Kj_ (k:Nat)=ZC_ (k:Nat)/\vx_ (k:Nat)=JD_ (k:Nat):=by decide+kernel
theorem law8 (f:Int):Z4_ f=qE_ f/\Kj_ f=ZC_ f/\vx_ f=JD_ f:=by
 cases h:fIs f with
 | true=>
   have hn:=q8_.1 h
   have:=za8_ f.toNat (by omega)
   rwa [Int.toNat_of_nonneg hn.1] at this
 | false=>
   unfold Z4_ qE_ Kj_ ZC_ vx_ JD_;rw [h];exact ⟨rfl,rfl,rfl⟩
theorem zaO_ {n:Nat} (x y:BitVec n):x &&& ~~~y=0#n ↔ x &&& y=x:=by
 constructor
 ·intro h
  refine BitVec.eq_of_getLsbD_eq fun i hi=>?_
  have h1:(x &&& ~~~y).getLsbD i=(0#n).getLsbD i:=by rw [h]
  rw [BitVec.getLsbD_and,BitVec.getLsbD_not,BitVec.getLsbD_zero,decide_eq_true hi,Bool.true_and] at h1
  rw [BitVec.getLsbD_and]
  cases hx:x.getLsbD i<;>cases hy:y.getLsbD i<;>simp_all
 ·intro h
  refine BitVec.eq_of_getLsbD_eq fun i hi=>?_
  have h1:(x &&& y).getLsbD i=x.getLsbD i:=by rw [h]
  rw [BitVec.getLsbD_and] at h1
  rw [BitVec.getLsbD_and,BitVec.getLsbD_not,BitVec.getLsbD_zero,decide_eq_true hi,Bool.true_and]
  cases hx:x.getLsbD i<;>cases hy:y.getLsbD i<;>simp_all
theorem BG_ {k:IntKind} (hk:k.signed=false) {a:Int} (b:Int) (ha:k.min<=a/\a<=k.max):zj_ .andNot k a b=0 ↔ zj_ .and k a b=a:=by
 have hw:∀ v:BitVec k.bits,k.wrap (v.toNat:Int)=v.toNat:=fun v=>by
  refine xQ_ ⟨?_,?_⟩
  ·cases k<;>simp_all [IntKind.min,IntKind.signed,IntKind.bits]<;>omega
  ·have:=v.isLt
   cases k<;>simp_all [IntKind.max,IntKind.signed,IntKind.bits]<;>omega
 have hx:((BitVec.ofInt k.bits a).toNat:Int)=a:=by
  rw [BitVec.toNat_ofInt]
  cases k<;>simp_all [IntKind.min,IntKind.max,IntKind.signed,IntKind.bits]<;>omega
 have h:=zaO_ (BitVec.ofInt k.bits a) (BitVec.ofInt k.bits b)
 show k.wrap (((BitVec.ofInt k.bits a) &&& ~~~(BitVec.ofInt k.bits b)).toNat:Int)=0 ↔ k.wrap (((BitVec.ofInt k.bits a) &&& (BitVec.ofInt k.bits b)).toNat:Int)=a
 rw [hw,hw]
 constructor
 ·intro e
  have:(BitVec.ofInt k.bits a) &&& ~~~(BitVec.ofInt k.bits b)=0#k.bits:=BitVec.eq_of_toNat_eq (by rw [BitVec.toNat_zero];omega)
  rw [h.1 this,hx]
 ·intro e
  have:(BitVec.ofInt k.bits a) &&& (BitVec.ofInt k.bits b)=BitVec.ofInt k.bits a:=BitVec.eq_of_toNat_eq (by omega)
  rw [h.2 this,BitVec.toNat_zero];rfl
theorem ion:∀ x < 256,∀ y < 256,(zj_ .andNot .u8 ((x:Nat):Int) ((y:Nat):Int)=0 ↔ zj_ .and .u8 ((x:Nat):Int) ((y:Nat):Int)=((x:Nat):Int)):=fun x hx y _=>
 BG_ rfl _ ⟨by show (0:Int)<=x;omega,by show (x:Int)<=255;omega⟩
theorem Ht_:∀ (v m:List Int),(∀ x ∈ v,0<=x/\x<=255)->(∀ x ∈ m,0<=x/\x<=255)->jL_ v m=!inA v m
 | [],_,_,_=>by simp [jL_,inA]
 | _ :: _,[],_,_=>by simp [jL_,inA]
 | x :: r,y :: l,hv,hm=>by
   have hx:=hv x (by simp)
   have hy:=hm y (by simp)
   have ih:=Ht_ r l (fun a ha=>hv a (by simp [ha])) (fun a ha=>hm a (by simp [ha]))
   have h:=ion x.toNat (by omega) y.toNat (by omega)
   rw [Int.toNat_of_nonneg hx.1,Int.toNat_of_nonneg hy.1] at h
   unfold jL_ inA
   by_cases h1:zj_ .andNot .u8 x y=0
   ·rw [if_pos h1,if_pos (h.1 h1),ih]
   ·rw [if_neg h1,if_neg (fun h2=>h1 (h.2 h2))];rfl
theorem ux_ (b:List Int):∀ (f g:Nat) (i:Int),k9_ b (f+g) i=(k9_ b f i && k9_ b g (i+f))
 | 0,g,i=>by rw [Nat.zero_add,show i+((0:Nat):Int)=i by omega];unfold k9_;rfl
 | f+1,g,i=>by
   rw [show f+1+g=(f+g)+1 by omega]
   by_cases h:zj_ .and .u8 ((b.getD (b.length - 1 - i.tdiv 8:Int).toNat 0).fdiv (2 ^ (min (i.tmod 8).toNat 8))) 1=0
   ·rw [JO_ h,JO_ h,Bool.false_and]
   ·rw [JN_ h,JN_ h,ux_ b f g (i+1),show i+1+(f:Int)=i+((f+1:Nat):Int) by omega]
theorem Wh_ (x:Int) (r:List Int):∀ (f:Nat) (i:Int),0<=i->i+f<=8*r.length->k9_ (x :: r) f i=k9_ r f i
 | 0,_,_,_=>rfl
 | f+1,i,h0,h=>by
   have ih:=Wh_ x r f (i+1) (by omega) (by omega)
   have e:(x :: r).getD (((x :: r).length:Int) - 1 - i.tdiv 8).toNat 0=r.getD ((r.length:Int) - 1 - i.tdiv 8).toNat 0:=by
    rw [KQ_ h0,List.length_cons,show (((r.length+1:Nat):Int) - 1 - i / 8).toNat=((r.length:Int) - 1 - i / 8).toNat+1 by omega];rfl
   by_cases hc:zj_ .and .u8 ((r.getD ((r.length:Int) - 1 - i.tdiv 8).toNat 0).fdiv (2 ^ (min (i.tmod 8).toNat 8))) 1=0
   ·rw [JO_ hc,JO_ (by rw [e];exact hc)]
   ·rw [JN_ hc,JN_ (by rw [e];exact hc),ih]
theorem vh_ (x:Int) (r:List Int):∀ (f:Nat) (i:Int),0<=i->i+f<=8->k9_ (x :: r) f (8*r.length+i)=k9_ [x] f i
 | 0,_,_,_=>rfl
 | f+1,i,h0,h=>by
   have ih:=vh_ x r f (i+1) (by omega) (by omega)
   have h8:0<=8*(r.length:Int)+i:=by omega
   have e:(x :: r).getD (((x :: r).length:Int) - 1 - (8*(r.length:Int)+i).tdiv 8).toNat 0=[x].getD ((([x]:List Int).length:Int) - 1 - i.tdiv 8).toNat 0:=by
    rw [KQ_ h8,KQ_ h0,List.length_cons,List.length_cons,List.length_nil,show (((r.length+1:Nat):Int) - 1 - (8*(r.length:Int)+i) / 8).toNat=0 by omega,show (((0+1:Nat):Int) - 1 - i / 8).toNat=0 by omega];rfl
   have e2:(8*(r.length:Int)+i).tmod 8=i.tmod 8:=by rw [xT_ h8,xT_ h0];omega
   by_cases hc:zj_ .and .u8 (([x].getD ((([x]:List Int).length:Int) - 1 - i.tdiv 8).toNat 0).fdiv (2 ^ (min (i.tmod 8).toNat 8))) 1=0
   ·rw [JO_ hc,JO_ (by rw [e,e2];exact hc)]
   ·rw [JN_ hc,JN_ (by rw [e,e2];exact hc),Int.add_assoc,ih]
theorem za0_:∀ s < 8,∀ x < 256,zO_ (s:Nat) [((x:Nat):Int)]=true->(((x:Nat):Int)=wy_ (s:Nat) ↔ k9_ [((x:Nat):Int)] (8 - s) 0=true):=by decide+kernel
theorem own0:wy_ 0=255:=by decide
theorem Wp_:∀ (r:List Int) (s:Int),s<=0->QR_ r s=QR_ r 0
 | [],_,_=>by simp [QR_]
 | x :: r,s,h=>by
   have h1:wy_ s=255:=if_neg (by omega)
   have ih:=Wp_ r (s - 8) (by omega)
   have ih0:=Wp_ r (0 - 8) (by omega)
   unfold QR_
   rw [h1,own0,ih,ih0]
theorem G9_ {s x:Int} (r:List Int) (hs:s<=8) (h:zO_ s (x :: r)=true):zO_ s [x]=true:=by
 by_cases h1:x.fdiv (2 ^ (min (8 - (if 8 < s then 8 else s)).toNat 8))=0
 ·exact if_pos h1
 ·have e:zO_ s (x :: r)=false:=if_neg h1
  rw [e] at h;cases h
theorem wB_:∀ (m:List Int) (s:Int),(∀ x ∈ m,0<=x/\x<=255)->0<=s->s<=8*m.length->zO_ s m=true->QR_ m s=k9_ m (8*m.length - s).toNat 0
 | [],s,_,h0,h1,_=>by
   have:s=0:=by simp at h1;omega
   subst this;rfl
 | x :: r,s,hm,h0,h1,hs=>by
   have hx:=hm x (by simp)
   have hr:∀ a ∈ r,0<=a/\a<=255:=fun a ha=>hm a (by simp [ha])
   rw [List.length_cons] at h1
   by_cases h8:8<=s
   ·have hsp:x=0/\zO_ (s - 8) r=true:=by
     have h8':(if 8 < s then 8 else s)=8:=by split<;>omega
     have e:zO_ s (x :: r)=if x.fdiv (2 ^ (min (8 - (if 8 < s then 8 else s)).toNat 8))=0 then zO_ (s - (if 8 < s then 8 else s)) r else false:=rfl
     rw [h8',show (min (8 - 8:Int).toNat 8)=0 from rfl,Int.pow_zero,Int.fdiv_one] at e
     rw [e] at hs
     by_cases h9:x=0
     ·rw [if_pos h9] at hs;exact ⟨h9,hs⟩
     ·rw [if_neg h9] at hs;cases hs
    have ho:wy_ s=0:=by
     unfold wy_
     rw [if_pos (by omega)]
     by_cases h9:8 < s
     ·rw [if_pos h9];decide
     ·rw [if_neg h9,show s=8 by omega];decide
    have ih:=wB_ r (s - 8) hr (by omega) (by omega) hsp.2
    have hn:(8*(((x :: r).length:Nat):Int) - s).toNat=(8*(r.length:Int) - (s - 8)).toNat:=by rw [List.length_cons];omega
    unfold QR_
    rw [if_pos (by rw [ho];exact hsp.1),ih,hn,Wh_ x r _ 0 (by omega) (by omega)]
   ·have hs1:=G9_ r (by omega) hs
    have h2:=za0_ s.toNat (by omega) x.toNat (by omega)
    rw [Int.toNat_of_nonneg h0,Int.toNat_of_nonneg hx.1] at h2
    have h3:=h2 hs1
    have hsr:zO_ 0 r=true:=Xg_ r hr
    have ih:=wB_ r 0 hr (Int.le_refl _) (by omega) hsr
    have hn:(8*(((x :: r).length:Nat):Int) - s).toNat=8*r.length+(8 - s.toNat):=by rw [List.length_cons];omega
    have hn0:(8*(r.length:Int) - 0).toNat=8*r.length:=by omega
    have hhd:=vh_ x r (8 - s.toNat) 0 (Int.le_refl _) (by omega)
    rw [Int.add_zero] at hhd
    rw [hn0] at ih
    unfold QR_
    rw [hn,ux_,Wh_ x r _ 0 (by omega) (by omega),show (0:Int)+((8*r.length:Nat):Int)=8*(r.length:Int) by omega,hhd,Wp_ r (s - 8) (by omega),ih]
    by_cases hc:x=wy_ s
    ·rw [if_pos hc,h3.1 hc,Bool.and_true]
    ·rw [if_neg hc,show k9_ [x] (8 - s.toNat) 0=false by
      cases hq:k9_ [x] (8 - s.toNat) 0 with
      | false=>rfl
      | true=>exact absurd (h3.2 hq) hc,Bool.and_false]
theorem gr_ {f:Int} {m:List Int} (hm:∀ x ∈ m,0<=x/\x<=255) (h:Qw_ f m=true):jM_ m (Z4_ f)=k9_ m (qE_ f).toNat 0:=by
 unfold Qw_ at h
 split at h
 ·rename_i hh
  have hi:fIs f=true:=q8_.2 hh.1
  have hz:=xV_ f.toNat (by omega)
  rw [Int.toNat_of_nonneg hh.1.1] at hz
  have hb:Z4_ f=kq_.getD f.toNat 0:=if_pos hi
  have hbl:=ud_ f.toNat (by omega)
  have ho:=wB_ m (m.length*8 - Z4_ f) hm (by omega) (by omega) (by rw [hb,show (m.length:Int)*8 - kq_.getD f.toNat 0=8*kC_ f - kq_.getD f.toNat 0 by omega];exact h)
  unfold jM_
  rw [ho,<- (law8 f).1,show (8*(m.length:Int) - (m.length*8 - Z4_ f))=Z4_ f by omega]
 ·cases h
theorem gq_ {m:List Int} (hm:∀ x ∈ m,0<=x/\x<=255):jM_ m (m.length*8)=k9_ m (8*(m.length:Int)).toNat 0:=by
 have ho:=wB_ m 0 hm (Int.le_refl _) (by omega) (Xg_ m hm)
 unfold jM_
 rw [show (m.length:Int)*8 - m.length*8=0 by omega,ho,Int.sub_zero]
theorem Y9_ {c f:Int} {h:Bool} {v m:List Int} (hv:∀ x ∈ v,0<=x/\x<=255) (hm:∀ x ∈ m,0<=x/\x<=255) (hc:c=32768\/c=65535):KL_ f h v m (q4_ c f) (zV_ c)=Vf_ c f h v m:=by
 have hoi:=Ht_ v m hv hm
 have hio:(jL_ v m=true)=(inA v m=false):=by rw [hoi];simp
 rcases hc with hc | hc
 ·have he:zV_ c=false:=decide_eq_false (by omega)
  have hb:q4_ c f=Z4_ f:=if_neg (by omega)
  have f1:=UF_ (n:=f) hv
  have f2:=UF_ (n:=f) hm
  unfold KL_ Vf_
  rw [he,hb,f1,f2]
  simp only [hio,hc,true_and,if_true,Bool.false_eq_true,if_false]
  cases h4:Zv_ f m with
  | true=>
    have ho:=gr_ hm (f2.trans h4)
    rw [ho]
  | false=>
    cases h with
    | true=>simp
    | false=>simp
 ·have he:zV_ c=true:=decide_eq_true hc
  have hn:¬ c=32768:=by omega
  have ho:=gq_ hm
  unfold KL_ Vf_
  rw [he]
  simp only [hio,hn,false_and,if_true,if_false,reduceCtorEq,ho,and_false]
theorem zf (x:Int) (h:x=0):x.fdiv (2 ^ (min (Int.toNat 32) IntKind.u64.bits))=0:=by subst h;decide
theorem zu (x:Int) (h0:0<=x):x.fdiv (2 ^ (min (Int.toNat 32) IntKind.u64.bits))=0 ↔ x < 4294967296:=by
 rw [show (2:Int) ^ (min (Int.toNat 32) IntKind.u64.bits)=4294967296 from by decide,Int.fdiv_eq_ediv_of_nonneg _ (by decide)];omega
theorem Hp_ {f:Int} {h:Bool} {v m:List Int} (hw:Vf_ 32768 f h v m=0):Zv_ f v=true:=by
 cases hh:Zv_ f v with
 | true=>rfl
 | false=>unfold Vf_ at hw;rw [if_pos ⟨rfl,hh⟩] at hw;exact absurd hw (by decide)
theorem he_ {c f:Int} {h:Bool} {x:Int} {v m:List Int} (hx:0<=x) (hv:∀ x ∈ v,0<=x/\x<=255) (hm:∀ x ∈ m,0<=x/\x<=255):ZD_ c f h x v m=Xy_ c f h x v m:=by
 by_cases hb:c=32768
 ·have hw:=Y9_ (f:=f) (h:=h) hv hm (.inl hb)
  have hok:Wx_ c f=fIs f:=by unfold Wx_;rw [if_neg (by omega),decide_eq_true hb,Bool.and_true]
  have hmk:KZ_ c f=JD_ f:=by unfold KZ_;rw [if_neg (by omega)];exact (law8 f).2.2
  have he:zV_ c=false:=decide_eq_false (by omega)
  have hz:QZ_ c f=ZC_ f:=by unfold QZ_;rw [if_neg (by omega)];exact (law8 f).2.1
  rw [Bool.eq_iff_iff]
  constructor
  ·intro hr
   obtain ⟨r1,r2,r3,r4,r5,r6,r7,r8⟩:=Ji_ hr
   unfold Xy_
   rw [if_neg (fun hh=>hh.elim (fun hh=>by have:=r3 hh.1;omega) fun hh=>hh.2 (r2 hh.1)),if_pos hb]
   rw [hw] at r8;rw [hok] at r4;rw [hmk] at r5;rw [he] at r6
   have hx0:x=0:=by simpa using r6
   rw [r4,hx0,r8]
   cases h with
   | true=>rw [r5 rfl];rfl
   | false=>rfl
  ·intro hr
   unfold Xy_ at hr
   by_cases hn:(h=false/\0 < m.length)\/(h=true/\¬ (m.length:Int)=v.length)
   ·rw [if_pos hn] at hr;cases hr
   ·rw [if_neg hn,if_pos hb] at hr
    simp only [Bool.and_eq_true,Bool.or_eq_true,decide_eq_true_eq] at hr
    obtain ⟨⟨⟨h1,h2⟩,h3⟩,h4⟩:=hr
    have hfit:=Hp_ (hb ▸ h4)
    have hsz:=Ve_ hfit
    unfold ZD_
    rw [hw,hok,hmk,he,hz,h1,h4,zf x h2,decide_eq_true h2]
    have hvl:decide ((v.length:Int)<=ZC_ f)=true:=decide_eq_true (by omega)
    rw [hvl]
    cases h with
    | true=>
      have:(m.length:Int)=v.length:=Decidable.by_contra fun hh=>hn (.inr ⟨rfl,hh⟩)
      rw [decide_eq_true this]
      simpa using h3
    | false=>
      have:m.length=0:=by have:¬ 0 < m.length:=fun hh=>hn (.inl ⟨rfl,hh⟩);omega
      rw [decide_eq_true this];rfl
 ·by_cases hc:c=65535
  ·have hw:=Y9_ (f:=f) (h:=h) hv hm (.inr hc)
   have hok:Wx_ c f=(decide (0<=f) && decide (f<=127)):=if_pos hc
   have hmk:KZ_ c f=true:=if_pos hc
   have he:zV_ c=true:=decide_eq_true hc
   have hz:QZ_ c f=100:=if_pos hc
   rw [Bool.eq_iff_iff]
   constructor
   ·intro hr
    obtain ⟨r1,r2,r3,r4,r5,r6,r7,r8⟩:=Ji_ hr
    unfold Xy_
    rw [if_neg (fun hh=>hh.elim (fun hh=>by have:=r3 hh.1;omega) fun hh=>hh.2 (r2 hh.1)),if_neg hb]
    rw [hw] at r8;rw [hok] at r4;rw [hz] at r1
    have h7:=(zu x hx).1 r7
    simp only [Bool.and_eq_true,decide_eq_true_eq] at r4 ⊢
    exact ⟨⟨⟨⟨⟨hc,r4.1⟩,r4.2⟩,h7⟩,r1⟩,r8⟩
   ·intro hr
    unfold Xy_ at hr
    by_cases hn:(h=false/\0 < m.length)\/(h=true/\¬ (m.length:Int)=v.length)
    ·rw [if_pos hn] at hr;cases hr
    ·rw [if_neg hn,if_neg hb] at hr
     simp only [Bool.and_eq_true,decide_eq_true_eq] at hr
     obtain ⟨⟨⟨⟨⟨h1,h2⟩,h3⟩,h4⟩,h5⟩,h6⟩:=hr
     unfold ZD_
     rw [hw,hok,hmk,he,hz,h6,(zu x hx).2 h4,decide_eq_true h2,decide_eq_true h3,decide_eq_true h5]
     cases h with
     | true=>
       have:(m.length:Int)=v.length:=Decidable.by_contra fun hh=>hn (.inr ⟨rfl,hh⟩)
       rw [decide_eq_true this];rfl
     | false=>
       have:m.length=0:=by have:¬ 0 < m.length:=fun hh=>hn (.inl ⟨rfl,hh⟩);omega
       rw [decide_eq_true this];rfl
  ·have hok:Wx_ c f=false:=by unfold Wx_;rw [if_neg hc,decide_eq_false hb,Bool.and_false]
   have h1:ZD_ c f h x v m=false:=by unfold ZD_;rw [hok];rfl
   have h2:Xy_ c f h x v m=false:=by
    unfold Xy_;split
    ·rfl
    ·first | (rw [decide_eq_false hc];rfl) | (rw [if_neg hb,decide_eq_false hc];rfl)
   rw [h1,h2]
def L1:List Int:=[128,0,10,2,8,0,7]
def L2:List Int:=[128,0,11,4,8,0,8,0]
theorem s1:BB_ L1=0/\BA_ L1 (yE_ L1)=32768/\BA_ L1 (gT_ L1)=5/\gS_ L1=false/\BA_ L1 (decX L1)=0/\decR L1 (decV L1)=[8,0]/\decR L1 (decM L1)=[]/\BA_ L1 (decN L1)=6/\BB_ L2=1033:=by decide+kernel
theorem s2:ZD_ 32768 5 false 0 [8,0] []=true/\encO 32768 5 false 0 [8,0] []=[128,0,10,2,8,0]:=by decide+kernel
def yp_:IR:=
(sq (kr [0,1] [oD 4 (.mov cF)])
(sq (kr [0,1] [oM 5 0,
oD 6 (.b2s 5),
oM 7 1,
oD 8 (.b2s 7),
oB 9 .eql 6 8,
oM 4 9])
.ret))
def XI_:List RD:=[.tmp 4 true none]
theorem X3_:zn_ Tryz.prog Tryz.f68 yp_ XI_=true:=by kernel_rfl
def Ky_:List AV->List Obj->Option (Prop × AV)
 | [.imm (.int .u8) a,.imm (.int .u8) b],[]=>some ((True,.bool (decide (a=b))))
 | _,_=>none
theorem xu_:zf_ Tryz.prog 68 (RoF Ky_).sum:=by
 refine zi_ Tryz.func68 X3_ (ze_ _) fun args objs p v e=>?_
 unfold Ky_ at e
 split at e
 ·rename_i a b
  cases e
  refine ⟨rfl,fun hw ho hp=>?_⟩
  change List Int at a
  change List Int at b
  repeat'(intro t ht;first|(cases t<;>first|(cases ht;done)|(try simp only[zg_]at ht))|((first|refine za_ ht ?_|refine ht ?_ ?_|refine ht.1 ?_ ?_|refine ht ?_)<;>clear ht))
  all_goals first
   | exact True.intro
   | exact ⟨rfl,rfl⟩
 ·cases e
def VX_:IR:=
(sq (kr [0,1] [oD 2 (.boxv 0),
oD 3 (.boxv 1),
oD 4 (.mov cF)])
(sq (kr [2,3] [oA 5 0 2,
oL 6 5,
oA 7 0 3,
oL 8 7,
oB 9 .eql 6 8,
oM 10 9,
oT 10 11 (.fieldAddr 1 2),
oT 10 12 (.load none 11),
oT 10 13 (.fieldAddr 1 3),
oT 10 14 (.load none 13),
oT 10 15 (.bin .eql 12 14),
oP 16 10 15 cF,
oM 17 16,
oT 17 18 (.fieldAddr 3 2),
oT 17 19 (.load none 18),
oT 17 20 (.fieldAddr 3 3),
oT 17 21 (.load none 20),
oT 17 22 (.bin .eql 19 21),
oP 23 17 22 cF,
oM 4 23])
.ret))
def Vo_:List RD:=[.tmp 4 true none]
theorem VB_:zn_ Tryz.prog Tryz.f60 VX_ Vo_=true:=by kernel_rfl
def qh_:List AV->List Obj->Option (Prop × AV)
 | [.agg [.int .i64 c,.int .i64 f,.bool h,.int .u64 x,.imm (.int .u8) v,.imm (.int .u8) m],.agg [.int .i64 c',.int .i64 f',.bool h',.int .u64 x',.imm (.int .u8) v',.imm (.int .u8) m']],[]=>some ((True,.bool (decide (c=c') && decide (f=f') && decide (x=x'))))
 | _,_=>none
theorem qI_:zf_ Tryz.prog 60 (RoF qh_).sum:=by
 refine zi_ Tryz.func60 VB_ (ze_ _) fun args objs p v e=>?_
 unfold qh_ at e
 split at e
 ·rename_i c f h x v m c' f' h' x' v' m'
  cases e
  refine ⟨rfl,fun hw ho hp=>?_⟩
  change List Int at v
  change List Int at m
  change List Int at v'
  change List Int at m'
  repeat'(intro t ht;first|(cases t<;>first|(cases ht;done)|(try simp only[zg_]at ht))|((first|refine za_ ht ?_|refine ht ?_ ?_|refine ht.1 ?_ ?_|refine ht ?_)<;>clear ht))
  all_goals first
   | exact True.intro
   | (simp_all;done)
 ·cases e
def Up_:IR:=
(sq (kr [0,1] [oD 2 (.boxv 0),
oD 3 (.boxv 1),
oD 4 (.mov cF)])
(sq (kr [2,3] [oK 5 6 2,
oK 6 6 3,
oC 7 60 [5,6],
oM 8 7,
oT 8 9 (.fieldAddr 2 2),
oT 8 10 (.load none 9),
oT 8 11 (.fieldAddr 2 3),
oT 8 12 (.load none 11),
oT 8 13 (.eqb false 10 12),
oP 14 8 13 cF,
oM 15 14,
oT 15 16 (.fieldAddr 4 2),
oT 15 17 (.load none 16),
oT 15 18 (.fieldAddr 4 3),
oT 15 19 (.load none 18),
oT 15 20 (.call false (.f 68) [17,19]),
oP 21 15 20 cF,
oM 22 21,
oT 22 23 (.fieldAddr 5 2),
oT 22 24 (.load none 23),
oT 22 25 (.fieldAddr 5 3),
oT 22 26 (.load none 25),
oT 22 27 (.call false (.f 68) [24,26]),
oP 28 22 27 cF,
oM 4 28])
.ret))
def uG_:List RD:=[.tmp 4 true none]
theorem uW_:zn_ Tryz.prog Tryz.f41 Up_ uG_=true:=by kernel_rfl
def jd_:List AV->List Obj->Option (Prop × AV)
 | [.agg [.int .i64 c,.int .i64 f,.bool h,.int .u64 x,.imm (.int .u8) v,.imm (.int .u8) m],.agg [.int .i64 c',.int .i64 f',.bool h',.int .u64 x',.imm (.int .u8) v',.imm (.int .u8) m']],[]=>some ((True,.bool (js_ c f h x v m c' f' h' x' v' m')))
 | _,_=>none
theorem wo_:zf_ Tryz.prog 41 (RoF jd_).sum:=by
 refine zi_ Tryz.func41 uW_ (zb_ (s:=RoF qh_) qI_ (zb_ (s:=RoF Ky_) xu_ (ze_ _))) fun args objs p v e=>?_
 unfold jd_ at e
 split at e
 ·rename_i c f h x v m c' f' h' x' v' m'
  cases e
  refine ⟨rfl,fun hw ho hp=>?_⟩
  change List Int at v
  change List Int at m
  change List Int at v'
  change List Int at m'
  repeat'(intro t ht;first|(cases t<;>first|(cases ht;done)|(try simp only[zg_]at ht))|((first|refine za_ ht ?_|refine ht ?_ ?_|refine ht.1 ?_ ?_|refine ht ?_)<;>clear ht))
  all_goals first
   | exact True.intro
   | (refine ⟨?_,rfl⟩;unfold js_;simp_all;done)
   | (refine ⟨?_,rfl⟩;unfold js_;cases h<;>cases h'<;>simp_all;done)
   | (refine ⟨?_,rfl⟩;unfold js_;rcases ‹(¬c=c'\/¬f=f')\/¬x=x'› with (h1 | h1) | h1<;>rw [decide_eq_false h1]<;>simp)
 ·cases e
def Uq_:IR:=
(sq (kr [0] [oD 1 (.boxv 0),
oD 2 (.box [.int .i64 0,.int .i64 0,.kb false,.int .u64 0,.imm (.int .u8) [],.imm (.int .u8) []])])
(sq (kr [1,2] [oA 5 4 1,
oL 6 5,
oE 7 6,
oA 8 5 1,
oL 9 8,
oE 10 9,
oB 11 .add 7 10,
oD 12 (.mkrow (.int .u8) 1 (0:Int) 11 11),
oM 3 12])
(sq (kr [1,2,3] [oM 13 3,
oA 14 4 1,
oL 15 14,
oD 16 (.copy (.int .u8) 13 15),
oM 4 16])
(sq (kd [1,2,3,4] [(oM 17 3,[]),
(oM 18 4,[0]),
(oD 19 (.slice 1 17 (some 18) none none),[]),
(oA 20 5 1,[0,0,0]),
(oL 21 20,[1,0,0]),
(oD 22 (.copy (.int .u8) 19 21),[])])
(sq (kd [1,2,3,4] [(oM 23 3,[]),
(oM 24 4,[0]),
(oM 25 4,[0,0]),
(oD 26 (.slice 1 23 none (some 24) (some 25)),[]),
(oM 27 3,[0,0,0,0]),
(oM 28 4,[0,0,0,0,0]),
(oD 29 (.slice 1 27 (some 28) none none),[2,0,0,0]),
(oA 30 4 1,[0,0,0]),
(oS 1 30 26,[1,0,0]),
(oA 31 5 1,[]),
(oS 1 31 29,[])])
(sq (kr [1,2] [oK 32 6 1,
oS 6 2 32])
.ret))))))
def uH_:List RD:=[.cell 2 (some 6) false []]
theorem uX_:zn_ Tryz.prog Tryz.f19 Uq_ uH_=true:=by kernel_rfl
def k5_:List AV->List Obj->Option (Prop × AV × List Obj)
 | [.agg [.int .i64 c,.int .i64 f,.bool h,.int .u64 x,.imm (.int .u8) v,.imm (.int .u8) m]],[]=>some ((v.length<=100000/\m.length<=100000,.agg [.int .i64 c,.int .i64 f,.bool h,.int .u64 x,.view 0 0 v.length,.view 0 v.length m.length],[.row false (.int .u8) (v++m)]))
 | _,_=>none
theorem KS_:zf_ Tryz.prog 19 (RwF k5_).sum:=by
 refine W7_ Tryz.func19 uX_ (ze_ _) fun args objs p v o e=>?_
 unfold k5_ at e
 split at e
 ·rename_i c f h x v m
  cases e
  refine ⟨rfl,fun hw ho hp=>?_⟩
  change List Int at v
  change List Int at m
  have k1:((v.length:Int)+m.length).toNat=v.length+m.length:=by omega
  have k2:(List.replicate (v.length+m.length) (0:Int)).length=v.length+m.length:=List.length_replicate
  have k3:v.take (v.length+m.length)=v:=List.take_of_length_le (by omega)
  have k4:(List.replicate (v.length+m.length) (0:Int)).drop v.length=List.replicate m.length 0:=by rw [List.drop_replicate];congr 1;omega
  have k5:min v.length (v.length+m.length)=v.length:=Nat.min_eq_left (by omega)
  have k6:(v++List.replicate m.length (0:Int)).length=v.length+m.length:=by simp
  have k7:(((v.length+m.length:Nat):Int) - (v.length:Int)).toNat=m.length:=by omega
  have k8:(v++List.replicate m.length (0:Int)).take v.length=v:=List.take_left
  have k9:m.take m.length=m:=List.take_length
  have k10:min m.length m.length=m.length:=Nat.min_self _
  have k11:(v++List.replicate m.length (0:Int)).drop (v.length+m.length)=[]:=List.drop_of_length_le (by simp)
  have k12:(v++m).length=v.length+m.length:=List.length_append
  have k13:((v.length:Int) - 0).toNat=v.length:=by omega
  repeat'(intro t ht;first|(cases t<;>first|(cases ht;done)|(try simp only[zg_]at ht))|((first|refine za_ ht ?_|refine ht ?_ ?_|refine ht.1 ?_ ?_|refine ht ?_)<;>clear ht))
  all_goals first
   | exact True.intro
   | (simp only [UP_,k1,k2,k3,k4,k5,k6,k7,k8,k9,k10,k11,k12,k13,List.append_nil,Int.toNat_natCast];first | omega | exact ⟨rfl,by first | rfl | exact True.intro⟩ | (refine ⟨?_,?_,?_,?_⟩<;>first | exact True.intro | omega))
   | omega
   | ((try simp only [zy_,zz_,zm_] at*);omega)
   | exact ⟨rfl,by first | rfl | exact True.intro⟩
 ·cases e
end Go.Eng
