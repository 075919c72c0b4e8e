/- Parts of the proof: O2, O9, O5. No condition. -/
import Derived.Test.YtodnkagabgglfaaGreatDoorProg
import Derived.Test.YtodnkagabgglfaaGreatDoorWB10
import Derived.KernelRfl
import Derived.Test.YtodnkagabgglfaaGreatDoorWB11
import Derived.Test.YtodnkagabgglfaaGreatDoorWB12
import Derived.Test.YtodnkagabgglfaaGreatDoorWB13
namespace Go.Eng
open Go.Proofs
set_option linter.unusedVariables false
set_option linter.unusedSimpArgs false
set_option maxRecDepth 100000
set_option maxHeartbeats 1000000
structure Ox where
 c:Int
 f:Int
 has:Bool
 x:Int
 v:List Int
 m:List Int
def Gl_:IR:=
(sq (kr [0] [oD 2 (.mov cF)])
(sq (kr [0] [oM 3 0,
oC 4 129 [3,(.c (.str [0]))],
oE 5 4,
oB 6 .eql 5 (cI 0),
oM 2 6])
.ret))
def gu_:List RD:=[.tmp 2 true none]
theorem gS_:zl_ Tryz.prog Tryz.f139 Gl_ gu_=true:=by kernel_rfl
def Wi_:List AV->List Obj->Option (Prop × AV)
 | [.imm (.int .u8) b],[]=>some ((b.length<=140737488355328,.bool (ZJ_ b)))
 | _,_=>none
theorem VS_:ze_ Tryz.prog 139 (RoF Wi_).sum:=by
 refine zm_ Tryz.func139 gS_ (zb_ (s:=RoF Ky_) wz_ (zd_ _)) fun args objs p v e=>?_
 unfold Wi_ at e
 split at e
 ·rename_i b
  cases e
  refine ⟨rfl,fun hw ho hp=>?_⟩
  change List Int at b
  have h:=uZ_ b
  repeat'(intro t ht;first|(cases t<;>first|(cases ht;done)|(try simp only[zh_]at ht))|((first|refine za_ ht ?_|refine ht ?_ ?_|refine ht.1 ?_ ?_|refine ht ?_)<;>clear ht))
  all_goals first
   | exact hp
   | (refine ⟨?_,rfl⟩;rw [<- h];congr 1;rw [Bool.eq_iff_iff];simp only [decide_eq_true_eq];omega)
 ·cases e
def gC_ (s:Int):Int:=if 0 < s then (255:Int).fdiv (2 ^ (min (if 8 < s then 8 else s).toNat 8)) else 255
def Kh_:List Int->Int->Bool
 | [],_=>true
 | x :: r,s=>if x=gC_ s then Kh_ r (s - 8) else false
def y3_ (b:List Int) (bits:Int):Bool:=Kh_ b (b.length*8 - bits)
def Hb_:IR:=
(sq (kr [0,1] [oD 4 (.mov cF)])
(sq (.reg [oM 10 0,
oE 11 10,
oB 12 .mul 11 (cI 8),
oM 5 12])
(sq (sq (.reg [oM 13 0,
oE 14 13,
oD 15 (.mov (cI 0))])
(.block 0
(.loop
(sq (kr [1,5,13,14,15] [oB 16 .lss 15 14])
(sq (.cond 16
.skip
(.exit 0))
(sq (.block 1
(sq (kr [1,5,13,14,15] [oM 17 15,
oI 18 1 13 15,
oL 19 18,
oM 6 17,
oM 7 19])
(sq (.reg [oD 8 (.mov (.c (.int .u8 255)))])
(sq (sq (kr [1,5,6,7,8,13,14,15] [oM 20 5,
oM 21 6,
oB 22 .mul 21 (cI 8),
oB 23 .sub 20 22,
oM 24 1,
oB 25 .sub 23 24,
oM 9 25])
(sq (kr [1,5,7,8,9,13,14,15] [oM 26 9,
oB 27 .gtr 26 (cI 0)])
(.cond 27
(kr [1,5,7,8,9,13,14,15] [oM 28 8,
oM 29 9,
oD 30 (.minmax false 29 (cI 8)),
oB 31 .shr 28 30,
oM 8 31])
.skip)))
(sq (.reg [oM 32 7,
oM 33 8,
oB 34 .neq 32 33])
(.cond 34
(sq (kr [] [oD 4 (.mov cF)])
.ret)
.skip))))))
(kr [1,5,13,14,15] [oB 35 .add 15 (cI 1),
oM 15 35])))))))
(sq (kr [] [oD 4 (.mov cT)])
.ret))))
def hf_:List RD:=[.tmp 4 true none]
theorem hD_:zl_ Tryz.prog Tryz.f140 Hb_ hf_=true:=by kernel_rfl
def xO_:List AV->List Obj->Option (Prop × AV)
 | [.imm (.int .u8) b,.int .i64 n],[]=>some ((0<=n/\n<=1000000/\b.length<=1000000,.bool (y3_ b n)))
 | _,_=>none
theorem U4_:ze_ Tryz.prog 140 (RoF xO_).sum:=by
 refine zm_ Tryz.func140 hD_ (zd_ _) fun args objs p v e=>?_
 unfold xO_ at e
 split at e
 ·rename_i b n
  cases e
  refine ⟨rfl,fun hw ho hp=>?_⟩
  change List Int at b
  repeat'(intro t ht;first|(cases t<;>first|(cases ht;done)|(try simp only[zh_]at ht))|((first|refine za_ ht ?_|refine ht ?_ ?_|refine ht.1 ?_ ?_|refine ht ?_)<;>clear ht))
  all_goals first
   | ((try simp only [zn_,zo_,zi_] at*);omega)
   | (intro r h1 h2;clear h1;refine h2 ⟨[1,5,13,14,15],Nat,(fun i=>i<=b.length/\y3_ b n=Kh_ (b.drop i) (b.length*8 - i*8 - n)),fun i=>[.int .i64 n,.int .i64 (b.length*8),.imm (.int .u8) b,.int .i64 b.length,.int .i64 i],fun _=>[],fun i=>b.length - i,⟨0,⟨Nat.zero_le _,by unfold y3_;simp⟩,rfl,rfl⟩,?_⟩;clear h2)
  rintro i ⟨hi,he⟩
  repeat'(intro t ht;first|(cases t<;>first|(cases ht;done)|(try simp only[zh_]at ht))|((first|refine za_ ht ?_|refine ht ?_ ?_|refine ht.1 ?_ ?_|refine ht ?_)<;>clear ht))
  all_goals first
   | ((try simp only [zn_,zo_,zi_] at*);omega)
   | (have h0:b.drop i=[]:=List.drop_of_length_le (by omega)
      refine ⟨?_,rfl⟩;rw [he,h0];rfl)
   | ((try simp only [zn_,zo_,zi_] at*);split<;>omega)
   | (have hlt:i < b.length:=by omega
      rw [zz_ hlt 0] at he
      first
       | (have hn:¬ 0 < (b.length:Int)*8 - i*8 - n:=by assumption
          have ho:gC_ ((b.length:Int)*8 - i*8 - n)=255:=if_neg hn
          first
           | (have hx:b.getD i 0=255:=by assumption
              have h1:Kh_ (b.getD i 0 :: b.drop (i+1)) ((b.length:Int)*8 - i*8 - n)=Kh_ (b.drop (i+1)) ((b.length:Int)*8 - i*8 - n - 8):=if_pos (hx.trans ho.symm)
              refine ⟨i+1,⟨hlt,?_⟩,by dsimp only;omega,rfl,rfl⟩
              rw [he,h1];congr 1;omega)
           | (have hx:¬ b.getD i 0=255:=by assumption
              have h1:Kh_ (b.getD i 0 :: b.drop (i+1)) ((b.length:Int)*8 - i*8 - n)=false:=if_neg (fun e=>hx (e.trans ho))
              refine ⟨?_,rfl⟩;rw [he,h1]))
       | (have hn:0 < (b.length:Int)*8 - i*8 - n:=by assumption
          have ho:gC_ ((b.length:Int)*8 - i*8 - n)=(255:Int).fdiv (2 ^ (min (if 8 < (b.length:Int)*8 - i*8 - n then 8 else (b.length:Int)*8 - i*8 - n).toNat 8)):=if_pos hn
          first
           | (have hx:b.getD i 0=(255:Int).fdiv (2 ^ (min (if 8 < (b.length:Int)*8 - i*8 - n then 8 else (b.length:Int)*8 - i*8 - n).toNat 8)):=by assumption
              have h1:Kh_ (b.getD i 0 :: b.drop (i+1)) ((b.length:Int)*8 - i*8 - n)=Kh_ (b.drop (i+1)) ((b.length:Int)*8 - i*8 - n - 8):=if_pos (hx.trans ho.symm)
              refine ⟨i+1,⟨hlt,?_⟩,by dsimp only;omega,rfl,rfl⟩
              rw [he,h1];congr 1;omega)
           | (have hx:¬ b.getD i 0=(255:Int).fdiv (2 ^ (min (if 8 < (b.length:Int)*8 - i*8 - n then 8 else (b.length:Int)*8 - i*8 - n).toNat 8)):=by assumption
              have h1:Kh_ (b.getD i 0 :: b.drop (i+1)) ((b.length:Int)*8 - i*8 - n)=false:=if_neg (fun e=>hx (e.trans ho))
              refine ⟨?_,rfl⟩;rw [he,h1])))
 ·cases e
def X9_:List Int->List Int->Bool
 | x :: r,y :: l=>if z9_ .andNot .u8 x y=0 then X9_ r l else true
 | _,_=>false
def v1_:IR:=
(sq (kr [0,1] [oD 4 (.mov cF)])
(sq (sq (.reg [oM 7 0,
oE 8 7,
oD 9 (.mov (cI 0))])
(.block 0
(.loop
(sq (kr [1,7,8,9] [oB 10 .lss 9 8])
(sq (.cond 10
.skip
(.exit 0))
(sq (.block 1
(sq (kr [1,7,8,9] [oM 11 9,
oI 12 1 7 9,
oL 13 12,
oM 5 11,
oM 6 13])
(sq (kr [1,5,6,7,8,9] [oM 14 6,
oM 15 1,
oM 16 5,
oI 17 1 15 16,
oL 18 17,
oB 19 .andNot 14 18,
oB 20 .neq 19 (.c (.int .u8 0))])
(.cond 20
(sq (kr [] [oD 4 (.mov cT)])
.ret)
.skip))))
(kr [1,7,8,9] [oB 21 .add 9 (cI 1),
oM 9 21])))))))
(sq (kr [] [oD 4 (.mov cF)])
.ret)))
def vq_:List RD:=[.tmp 4 true none]
theorem vI_:zl_ Tryz.prog Tryz.f141 v1_ vq_=true:=by kernel_rfl
def js_:List AV->List Obj->Option (Prop × AV)
 | [.imm (.int .u8) v,.imm (.int .u8) m],[]=>some ((v.length<=m.length,.bool (X9_ v m)))
 | _,_=>none
theorem Yq_:ze_ Tryz.prog 141 (RoF js_).sum:=by
 refine zm_ Tryz.func141 vI_ (zd_ _) fun args objs p v e=>?_
 unfold js_ at e
 split at e
 ·rename_i v m
  cases e
  refine ⟨rfl,fun hw ho hp=>?_⟩
  change List Int at v
  change List Int at m
  have hl:m.length<=maxLen:=(hw (.imm (.int .u8) m) (by simp)).2
  unfold maxLen at hl
  repeat'(intro t ht;first|(cases t<;>first|(cases ht;done)|(try simp only[zh_]at ht))|((first|refine za_ ht ?_|refine ht ?_ ?_|refine ht.1 ?_ ?_|refine ht ?_)<;>clear ht))
  all_goals first
   | (intro r h1 h2;clear h1;refine h2 ⟨[1,7,8,9],Nat,(fun i=>i<=v.length/\X9_ v m=X9_ (v.drop i) (m.drop i)),fun i=>[.imm (.int .u8) m,.imm (.int .u8) v,.int .i64 v.length,.int .i64 i],fun _=>[],fun i=>v.length - i,⟨0,⟨Nat.zero_le _,rfl⟩,rfl,rfl⟩,?_⟩;clear h2)
  rintro i ⟨hi,he⟩
  repeat'(intro t ht;first|(cases t<;>first|(cases ht;done)|(try simp only[zh_]at ht))|((first|refine za_ ht ?_|refine ht ?_ ?_|refine ht.1 ?_ ?_|refine ht ?_)<;>clear ht))
  all_goals first
   | ((try simp only [zn_,zo_,zi_] at*);omega)
   | (have h0:v.drop i=[]:=List.drop_of_length_le (by omega)
      refine ⟨?_,rfl⟩;rw [he,h0];rfl)
   | (have hlt:i < v.length:=by omega
      have hlm:i < m.length:=by omega
      rw [zz_ hlt 0,zz_ hlm 0] at he
      first
       | (have hx:z9_ .andNot .u8 (v.getD i 0) (m.getD i 0)=0:=by assumption
          have h1:X9_ (v.getD i 0 :: v.drop (i+1)) (m.getD i 0 :: m.drop (i+1))=X9_ (v.drop (i+1)) (m.drop (i+1)):=if_pos hx
          exact ⟨i+1,⟨hlt,by rw [he,h1]⟩,by dsimp only;omega,rfl,rfl⟩)
       | (have hx:¬ z9_ .andNot .u8 (v.getD i 0) (m.getD i 0)=0:=by assumption
          have h1:X9_ (v.getD i 0 :: v.drop (i+1)) (m.getD i 0 :: m.drop (i+1))=true:=if_neg hx
          refine ⟨?_,rfl⟩;rw [he,h1]))
 ·cases e
def Gc_:IR:=
(sq (kr [0] [oD 2 (.mov cF)])
(sq (sq (.reg [oD 3 (.mov (cI 0))])
(.block 0
(.loop
(sq (sq (kr [0,3] [oM 4 3,
oM 5 0,
oE 6 5,
oB 7 .lss 4 6])
(.cond 7
.skip
(.exit 0)))
(sq (.block 1
(sq (kr [0,3] [oM 10 0,
oM 11 3,
oI 12 1 10 11,
oL 13 12,
oB 14 .neq 13 (.c (.int .u8 0))])
(.cond 14
(sq (.reg [oD 2 (.mov cF)])
.ret)
.skip)))
(kr [0,3] [oM 8 3,
oB 9 .add 8 (cI 1),
oM 3 9]))))))
(sq (kr [] [oD 2 (.mov cT)])
.ret)))
def gl_:List RD:=[.tmp 2 true none]
theorem gJ_:zl_ Tryz.prog Tryz.f133 Gc_ gl_=true:=by kernel_rfl
def Wd_:List AV->List Obj->Option (Prop × AV)
 | [.imm (.int .u8) b],[]=>some ((True,.bool (ZJ_ b)))
 | _,_=>none
theorem VN_:ze_ Tryz.prog 133 (RoF Wd_).sum:=by
 refine zm_ Tryz.func133 gJ_ (zd_ _) fun args objs p v e=>?_
 unfold Wd_ at e
 split at e
 ·rename_i b
  cases e
  refine ⟨rfl,fun hw ho hp=>?_⟩
  change List Int at b
  have hl:b.length<=maxLen:=(hw (.imm (.int .u8) b) (by simp)).2
  unfold maxLen at hl
  repeat'(intro t ht;first|(cases t<;>first|(cases ht;done)|(try simp only[zh_]at ht))|((first|refine za_ ht ?_|refine ht ?_ ?_|refine ht.1 ?_ ?_|refine ht ?_)<;>clear ht))
  all_goals first
   | (intro r h1 h2;clear h1;refine h2 ⟨[0,3],Nat,(fun i=>i<=b.length/\ZJ_ b=ZJ_ (b.drop i)),fun i=>[.imm (.int .u8) b,.int .i64 i],fun _=>[],fun i=>b.length - i,⟨0,⟨Nat.zero_le _,rfl⟩,rfl,rfl⟩,?_⟩;clear h2)
  rintro i ⟨hi,he⟩
  repeat'(intro t ht;first|(cases t<;>first|(cases ht;done)|(try simp only[zh_]at ht))|((first|refine za_ ht ?_|refine ht ?_ ?_|refine ht.1 ?_ ?_|refine ht ?_)<;>clear ht))
  all_goals first
   | ((try simp only [zn_,zo_,zi_] at*);omega)
   | (have hge:b.length<=i:=by omega
      refine ⟨?_,rfl⟩;rw [he,List.drop_of_length_le hge];rfl)
   | (have hlt:i < b.length:=by omega
      rw [zz_ hlt 0] at he
      unfold ZJ_ at he
      rw [List.all_cons] at he
      first
       | (have hk:decide (b.getD i 0=0)=false:=decide_eq_false (by assumption)
          refine ⟨?_,rfl⟩;unfold ZJ_;rw [he,hk];rfl)
       | (have hk:decide (b.getD i 0=0)=true:=decide_eq_true (by assumption)
          rw [hk,Bool.true_and] at he
          exact ⟨i+1,⟨hlt,he⟩,by (try simp only [zn_,zo_,zi_] at*);omega,rfl,rfl⟩))
 ·cases e
def inA:List Int->List Int->Bool
 | x :: r,y :: l=>if z9_ .and .u8 x y=x then inA r l else false
 | _,_=>true
def uB_:IR:=
(sq (kr [0,1] [oD 4 (.mov cF)])
(sq (sq (.reg [oD 5 (.mov (cI 0))])
(.block 0
(.loop
(sq (sq (kr [0,1,5] [oM 6 5,
oM 7 0,
oE 8 7,
oB 9 .lss 6 8])
(.cond 9
.skip
(.exit 0)))
(sq (.block 1
(sq (kd [0,1,5] [(oM 12 0,[]),
(oM 13 5,[0]),
(oI 14 1 12 13,[]),
(oL 15 14,[]),
(oM 16 1,[0,0,0,0]),
(oM 17 5,[0,0,0,0,0]),
(oI 18 1 16 17,[2,0,0,0]),
(oL 19 18,[3,0,0,0]),
(oB 20 .and 15 19,[]),
(oM 21 0,[0,0,0,0,0,0,0,0,0]),
(oM 22 5,[0,0,0,0,0,0,0,0,0,0]),
(oI 23 1 21 22,[2,0,0,0,0,0,0,0,0]),
(oL 24 23,[3,0,0,0,0,0,0,0,0]),
(oB 25 .neq 20 24,[])])
(.cond 25
(sq (kr [] [oD 4 (.mov cF)])
.ret)
.skip)))
(kr [0,1,5] [oM 10 5,
oB 11 .add 10 (cI 1),
oM 5 11]))))))
(sq (kr [] [oD 4 (.mov cT)])
.ret)))
def V2_:List RD:=[.tmp 4 true none]
theorem uj_:zl_ Tryz.prog Tryz.f135 uB_ V2_=true:=by kernel_rfl
def Jy_:List AV->List Obj->Option (Prop × AV)
 | [.imm (.int .u8) v,.imm (.int .u8) m],[]=>some ((v.length<=m.length,.bool (inA v m)))
 | _,_=>none
theorem Y8_:ze_ Tryz.prog 135 (RoF Jy_).sum:=by
 refine zm_ Tryz.func135 uj_ (zd_ _) fun args objs p v e=>?_
 unfold Jy_ at e
 split at e
 ·rename_i v m
  cases e
  refine ⟨rfl,fun hw ho hp=>?_⟩
  change List Int at v
  change List Int at m
  have hl:m.length<=maxLen:=(hw (.imm (.int .u8) m) (by simp)).2
  unfold maxLen at hl
  repeat'(intro t ht;first|(cases t<;>first|(cases ht;done)|(try simp only[zh_]at ht))|((first|refine za_ ht ?_|refine ht ?_ ?_|refine ht.1 ?_ ?_|refine ht ?_)<;>clear ht))
  all_goals first
   | (intro r h1 h2;clear h1;refine h2 ⟨[0,1,5],Nat,(fun i=>i<=v.length/\inA v m=inA (v.drop i) (m.drop i)),fun i=>[.imm (.int .u8) v,.imm (.int .u8) m,.int .i64 i],fun _=>[],fun i=>v.length - i,⟨0,⟨Nat.zero_le _,rfl⟩,rfl,rfl⟩,?_⟩;clear h2)
  rintro i ⟨hi,he⟩
  repeat'(intro t ht;first|(cases t<;>first|(cases ht;done)|(try simp only[zh_]at ht))|((first|refine za_ ht ?_|refine ht ?_ ?_|refine ht.1 ?_ ?_|refine ht ?_)<;>clear ht))
  all_goals first
   | ((try simp only [zn_,zo_,zi_] at*);omega)
   | (have h0:v.drop i=[]:=List.drop_of_length_le (by omega)
      refine ⟨?_,rfl⟩;rw [he,h0];rfl)
   | (have hlt:i < v.length:=by omega
      have hlm:i < m.length:=by omega
      rw [zz_ hlt 0,zz_ hlm 0] at he
      first
       | (have hx:z9_ .and .u8 (v.getD i 0) (m.getD i 0)=v.getD i 0:=by assumption
          have h1:inA (v.getD i 0 :: v.drop (i+1)) (m.getD i 0 :: m.drop (i+1))=inA (v.drop (i+1)) (m.drop (i+1)):=if_pos hx
          exact ⟨i+1,⟨hlt,by rw [he,h1]⟩,by dsimp only;omega,rfl,rfl⟩)
       | (have hx:¬ z9_ .and .u8 (v.getD i 0) (m.getD i 0)=v.getD i 0:=by assumption
          have h1:inA (v.getD i 0 :: v.drop (i+1)) (m.getD i 0 :: m.drop (i+1))=false:=if_neg hx
          refine ⟨?_,rfl⟩;rw [he,h1]))
 ·cases e
def K0_ (b:List Int):Nat->Int->Bool
 | 0,_=>true
 | f+1,i=>if z9_ .and .u8 ((b.getD (b.length - 1 - i.tdiv 8:Int).toNat 0).fdiv (2 ^ (min (i.tmod 8).toNat 8))) 1=0 then false else K0_ b f (i+1)
theorem xe_ {b:List Int} {f:Nat} {i:Int} (h:z9_ .and .u8 ((b.getD (b.length - 1 - i.tdiv 8:Int).toNat 0).fdiv (2 ^ (min (i.tmod 8).toNat 8))) 1=0):K0_ b (f+1) i=false:=if_pos h
theorem xd_ {b:List Int} {f:Nat} {i:Int} (h:¬ z9_ .and .u8 ((b.getD (b.length - 1 - i.tdiv 8:Int).toNat 0).fdiv (2 ^ (min (i.tmod 8).toNat 8))) 1=0):K0_ b (f+1) i=K0_ b f (i+1):=if_neg h
def h5_:IR:=
(sq (kr [0,1] [oD 4 (.mov cF)])
(sq (sq (.reg [oD 5 (.mov (cI 0))])
(.block 0
(.loop
(sq (sq (kr [0,1,5] [oM 6 5,
oM 7 1,
oB 8 .lss 6 7])
(.cond 8
.skip
(.exit 0)))
(sq (.block 1
(sq (kr [0,1,5] [oM 11 0,
oM 12 0,
oE 13 12,
oB 14 .sub 13 (cI 1),
oM 15 5,
oB 16 .quo 15 (cI 8),
oB 17 .sub 14 16,
oI 18 1 11 17,
oL 19 18,
oM 20 5,
oB 21 .rem 20 (cI 8),
oB 22 .shr 19 21,
oB 23 .and 22 (.c (.int .u8 1)),
oB 24 .eql 23 (.c (.int .u8 0))])
(.cond 24
(sq (kr [] [oD 4 (.mov cF)])
.ret)
.skip)))
(kr [0,1,5] [oM 9 5,
oB 10 .add 9 (cI 1),
oM 5 10]))))))
(sq (kr [] [oD 4 (.mov cT)])
.ret)))
def G9_:List RD:=[.tmp 4 true none]
theorem hx_:zl_ Tryz.prog Tryz.f134 h5_ G9_=true:=by kernel_rfl
def xK_:List AV->List Obj->Option (Prop × AV)
 | [.imm (.int .u8) b,.int .i64 n],[]=>some ((0<=n/\n<=8*b.length/\b.length<=1000000,.bool (K0_ b n.toNat 0)))
 | _,_=>none
theorem U0_:ze_ Tryz.prog 134 (RoF xK_).sum:=by
 refine zm_ Tryz.func134 hx_ (zd_ _) fun args objs p v e=>?_
 unfold xK_ at e
 split at e
 ·rename_i b n
  cases e
  refine ⟨rfl,fun hw ho hp=>?_⟩
  change List Int at b
  repeat'(intro t ht;first|(cases t<;>first|(cases ht;done)|(try simp only[zh_]at ht))|((first|refine za_ ht ?_|refine ht ?_ ?_|refine ht.1 ?_ ?_|refine ht ?_)<;>clear ht))
  all_goals first
   | (intro r h1 h2;clear h1;refine h2 ⟨[0,1,5],Nat,(fun i=>(i:Int)<=n/\K0_ b n.toNat 0=K0_ b (n.toNat - i) i),fun i=>[.imm (.int .u8) b,.int .i64 n,.int .i64 i],fun _=>[],fun i=>n.toNat - i,⟨0,⟨hp.1,rfl⟩,rfl,rfl⟩,?_⟩;clear h2)
  rintro i ⟨hi,he⟩
  have htd:(i:Int).tdiv 8=i / 8:=Z5_ (by omega)
  have htm:(i:Int).tmod 8=i % 8:=kE_ (by omega)
  repeat'(intro t ht;first|(cases t<;>first|(cases ht;done)|(try simp only[zh_]at ht))|((first|refine za_ ht ?_|refine ht ?_ ?_|refine ht.1 ?_ ?_|refine ht ?_)<;>clear ht))
  all_goals first
   | exact (by decide)
   | ((try simp only [zn_,zo_,zi_] at*);omega)
   | ((try simp only [zn_,zo_,zi_] at*);simp only [htd,htm];omega)
   | (have h0:n.toNat - i=0:=by omega
      refine ⟨?_,rfl⟩;rw [he,h0];rfl)
   | (have h1:n.toNat - i=(n.toNat - (i+1))+1:=by omega
      rw [h1] at he
      first
       | (have hf:=xe_ (f:=n.toNat - (i+1)) (b:=b) (i:=i) (by assumption)
          refine ⟨?_,rfl⟩;rw [he,hf])
       | (have hf:=xd_ (f:=n.toNat - (i+1)) (b:=b) (i:=i) (by assumption)
          exact ⟨i+1,⟨by omega,by rw [he,hf];rfl⟩,by dsimp only;omega,rfl,rfl⟩))
 ·cases e
def kR_ (c f:Int):Bool:=if c=65535 then decide (0<=f) && decide (f<=127) else fIs f && decide (c=32768)
def Z0_ (c f:Int):Int:=if c=65535 then 100 else K8_ f
def q7_ (c f:Int):Int:=if c=65535 then 0 else kS_ f
def Z1_ (c f:Int):Bool:=if c=65535 then true else Uu_ f
def zI_ (c:Int):Bool:=decide (c=65535)
theorem fK:∀ k < 40,0<=K8_ (k:Nat)/\K8_ (k:Nat)<=16/\0<=kS_ (k:Nat)/\kS_ (k:Nat)<=128:=by decide+kernel
theorem f_le (f:Int):0<=K8_ f/\K8_ f<=16/\0<=kS_ f/\kS_ f<=128:=by
 cases h:fIs f with
 | true=>
   have hn:=qp_.1 h
   have:=fK f.toNat (by omega)
   rwa [Int.toNat_of_nonneg hn.1] at this
 | false=>unfold K8_ kS_;rw [h];simp
theorem Ui_ (c f:Int):0<=Z0_ c f/\Z0_ c f<=100/\0<=q7_ c f/\q7_ c f<=128:=by
 have:=f_le f
 unfold Z0_ q7_;split<;>omega
def zaN_:IR:=
(sq (kr [0] [oD 1 (.boxv 0),
oD 2 (.box [.int .i64 0,.int .i64 0,.kb false,.kb false]),
oD 3 (.mov cF)])
(sq (sq (.reg [oA 6 0 1,
oL 7 6,
oB 8 .eql 7 (cI 65535)])
(.cond 8
(sq (kd [1,2] [(oD 9 (.build [.int .i64 0,.int .i64 0,.kb false,.kb false] [(0,1,(cI 100)),(2,1,cT),(3,1,cT)]),[]),
(oA 10 1 1,[0]),
(oL 11 10,[1]),
(oB 12 .geq 11 (cI 0),[2]),
(oM 13 12,[3]),
(oT 13 14 (.fieldAddr 1 1),[4]),
(oT 13 15 (.load none 14),[5]),
(oT 13 16 (.bin .leq 15 (cI 127)),[6]),
(oP 17 13 16 cF,[7]),
(oS 4 2 9,[0,0,0,0]),
(oM 3 17,[])])
.ret)
.skip))
(sq (kr [1,2] [oA 19 1 1,
oL 20 19,
oC 21 137 [20],
oM 18 21,
oX 22 18 0,
oX 23 18 1,
oD 4 (.box [.int .i64 0,.int .i64 0,.kb false,.int .i64 0,.imm (.int .u64) []]),
oS 5 4 22,
oM 5 23])
(sq (kd [1,2,4,5] [(oA 24 1 4,[]),
(oL 25 24,[]),
(oA 26 0 4,[0,0]),
(oL 27 26,[1,0]),
(oA 28 2 4,[0,0,0,0]),
(oL 29 28,[1,0,0,0]),
(oD 30 (.build [.int .i64 0,.int .i64 0,.kb false,.kb false] [(0,1,25),(1,1,27),(2,1,29)]),[]),
(oM 31 5,[0,0,0,0,0,0,0]),
(oM 32 31,[1,0,0,0,0,0,0]),
(oT 32 33 (.fieldAddr 0 1),[2,0,0,0,0,0,0]),
(oT 32 34 (.load none 33),[3,0,0,0,0,0,0]),
(oT 32 35 (.bin .eql 34 (cI 32768)),[4,0,0,0,0,0,0]),
(oP 36 32 35 cF,[5,0,0,0,0,0,0]),
(oS 4 2 30,[0,0,0,0]),
(oM 3 36,[])])
.ret))))
def zap_:List RD:=[.cell 2 (some 4) true [],.tmp 3 true none]
theorem zay_:zl_ Tryz.prog Tryz.f115 zaN_ zap_=true:=by kernel_rfl
def XK_:List AV->List Obj->Option (Prop × AV)
 | [.agg [.int .i64 c,.int .i64 f,.bool h,.int .u64 x,.imm (.int .u8) v,.imm (.int .u8) m]],[]=>some ((True,.tup [.agg [.int .i64 (Z0_ c f),.int .i64 (q7_ c f),.bool (Z1_ c f),.bool (zI_ c)],.bool (kR_ c f)]))
 | _,_=>none
theorem Y9_:ze_ Tryz.prog 115 (RoF XK_).sum:=by
 refine zm_ Tryz.func115 zay_ (zb_ (s:=RoF xR_) U7_ (zd_ _)) fun args objs p v e=>?_
 unfold XK_ at e
 split at e
 ·rename_i c f h x v m
  cases e
  refine ⟨rfl,fun hw ho hp=>?_⟩
  change List Int at v
  change List Int at m
  repeat'(intro t ht;first|(cases t<;>first|(cases ht;done)|(try simp only[zh_]at ht))|((first|refine za_ ht ?_|refine ht ?_ ?_|refine ht.1 ?_ ?_|refine ht ?_)<;>clear ht))
  all_goals first
   | exact True.intro
   | (simp_all [kR_,Z0_,q7_,Z1_,zI_];done)
   | (simp_all [kR_,Z0_,q7_,Z1_,zI_];omega)
 ·cases e
def QF_ (f:Int) (h:Bool) (v m:List Int) (bits:Int) (ex:Bool):Int:=
 if ex=false/\KQ_ f v=false then 1032 else if h=true/\ex=false/\KQ_ f m=false then 1033
 else if h=true/\(ZJ_ m=true\/y3_ m (if ex=true then m.length*8 else bits)=true) then 1033 else if h=true/\X9_ v m=true then 1030 else 0
def Gk_:IR:=
(sq (kr [0,1] [oD 2 (.boxv 0),
oD 3 (.boxv 1),
oD 4 (.mov (cI 0))])
(sq (sq (.reg [oA 5 3 3,
oL 6 5])
(.cond 6
(kr [2,3] [oA 7 5 2,
oL 8 7,
oE 9 8,
oB 10 .mul 9 (cI 8),
oA 11 1 3,
oS 1 11 10])
.skip))
(sq (.block 0
(sq (.block 3
(.block 2
(sq (.block 1
(sq (sq (sq (kr [2,3] [oA 13 3 3,
oL 14 13,
oD 15 (.un .not 14),
oM 16 15,
oT 16 17 (.fieldAddr 1 2),
oT 16 18 (.load none 17),
oT 16 19 (.fieldAddr 4 2),
oT 16 20 (.load none 19),
oT 16 21 (.call false (.f 138) [18,20]),
oT 16 22 (.un .not 21),
oP 23 16 22 cF,
oM 12 23])
(.cond 12
(.exit 1)
.skip))
(sq (sq (kr [2,3] [oA 25 2 2,
oL 26 25,
oM 27 26,
oT 27 28 (.fieldAddr 3 3),
oT 27 29 (.load none 28),
oT 27 30 (.un .not 29),
oP 31 27 30 cF,
oM 32 31,
oT 32 33 (.fieldAddr 1 2),
oT 32 34 (.load none 33),
oT 32 35 (.fieldAddr 5 2),
oT 32 36 (.load none 35),
oT 32 37 (.call false (.f 138) [34,36]),
oT 32 38 (.un .not 37),
oP 39 32 38 cF,
oM 24 39])
(.cond 24
(.exit 2)
.skip))
(sq (kr [2,3] [oA 41 2 2,
oL 42 41,
oM 43 42,
oT 43 44 (.fieldAddr 5 2),
oT 43 45 (.load none 44),
oT 43 46 (.call false (.f 139) [45]),
oT 43 47 (.mov 46),
oF 47 48 (.fieldAddr 5 2),
oF 47 49 (.load none 48),
oF 47 50 (.fieldAddr 1 3),
oF 47 51 (.load none 50),
oF 47 52 (.call false (.f 140) [49,51]),
oT 43 53 (.pick 47 cT 52),
oP 54 43 53 cF,
oM 40 54])
(.cond 40
(.exit 3)
.skip))))
(.exit 0)))
(sq (sq (kr [] [oD 4 (.mov (cI 1032))])
.ret)
(.exit 0)))))
(sq (sq (kr [] [oD 4 (.mov (cI 1033))])
.ret)
(.exit 0))))
(sq (sq (kr [2] [oA 55 2 2,
oL 56 55,
oM 57 56,
oT 57 58 (.fieldAddr 4 2),
oT 57 59 (.load none 58),
oT 57 60 (.fieldAddr 5 2),
oT 57 61 (.load none 60),
oT 57 62 (.call false (.f 141) [59,61]),
oP 63 57 62 cF])
(.cond 63
(sq (kr [] [oD 4 (.mov (cI 1030))])
.ret)
.skip))
(sq (kr [] [oD 4 (.mov (cI 0))])
.ret)))))
def gt_:List RD:=[.tmp 4 true none]
theorem gR_:zl_ Tryz.prog Tryz.f116 Gk_ gt_=true:=by kernel_rfl
def je_:List AV->List Obj->Option (Prop × AV)
 | [.agg [.int .i64 c,.int .i64 f,.bool h,.int .u64 x,.imm (.int .u8) v,.imm (.int .u8) m],.agg [.int .i64 sz,.int .i64 bits,.bool mk,.bool ex]],[]=>some (((h=true->v.length<=m.length)/\m.length<=100000/\0<=bits/\bits<=1000000,.int .i64 (QF_ f h v m bits ex)))
 | _,_=>none
theorem W1_:ze_ Tryz.prog 116 (RoF je_).sum:=by
 refine zm_ Tryz.func116 gR_ (zb_ (s:=RoF JG_) ve_ (zb_ (s:=RoF Wi_) VS_ (zb_ (s:=RoF xO_) U4_ (zb_ (s:=RoF js_) Yq_ (zd_ _))))) fun args objs p v e=>?_
 unfold je_ at e
 split at e
 ·rename_i c f h x v m sz bits mk ex
  cases e
  refine ⟨rfl,fun hw ho hp=>?_⟩
  change List Int at v
  change List Int at m
  cases h<;>cases ex
  all_goals repeat'(intro t ht;first|(cases t<;>first|(cases ht;done)|(try simp only[zh_]at ht))|((first|refine za_ ht ?_|refine ht ?_ ?_|refine ht.1 ?_ ?_|refine ht ?_)<;>clear ht))
  all_goals first
   | exact True.intro
   | exact hp.1 rfl
   | ((try simp only [zn_,zo_,zi_] at*);omega)
   | (unfold QF_;simp_all;done)
 ·cases e
def zY_ (c:Int) (v m:List Int):Int:=if c=65535 then (v.length:Int)+m.length+4 else (v.length:Int)+m.length
def zv_ (c f:Int) (h:Bool) (x:Int) (v m:List Int):Bool:=
 kR_ c f && (!h || Z1_ c f) && (zI_ c || decide (x=0)) && decide (x.fdiv (2 ^ (min (Int.toNat 32) IntKind.u64.bits))=0) &&
  (match h with | true=>decide ((m.length:Int)=v.length) | false=>decide (m.length=0)) && decide ((v.length:Int)<=Z0_ c f) && decide (QF_ f h v m (q7_ c f) (zI_ c)=0)
def Gm_:IR:=
(sq (kr [0] [oD 1 (.boxv 0),
oD 2 (.mov cF)])
(sq (kr [1] [oK 6 6 1,
oC 7 115 [6],
oM 5 7,
oX 8 5 0,
oX 9 5 1,
oD 3 (.box [.int .i64 0,.int .i64 0,.kb false,.kb false]),
oS 4 3 8,
oM 4 9])
(sq (.block 0
(sq (.block 4
(sq (.block 3
(.block 2
(sq (.block 1
(sq (sq (sq (kr [1,3,4] [oM 11 4,
oD 12 (.un .not 11),
oM 13 12,
oF 13 14 (.fieldAddr 2 1),
oF 13 15 (.load none 14),
oF 13 16 (.mov 15),
oT 16 17 (.fieldAddr 2 3),
oT 16 18 (.load none 17),
oT 16 19 (.un .not 18),
oF 13 20 (.pick 16 19 cF),
oP 21 13 cT 20,
oM 10 21])
(.cond 10
(.exit 1)
.skip))
(sq (sq (kr [1,3] [oA 23 3 3,
oL 24 23,
oD 25 (.un .not 24),
oM 26 25,
oT 26 27 (.fieldAddr 3 1),
oT 26 28 (.load none 27),
oT 26 29 (.bin .neq 28 (.c (.int .u64 0))),
oP 30 26 29 cF,
oM 22 30])
(.cond 22
(.exit 2)
.skip))
(sq (sq (kr [1,3] [oA 32 3 1,
oL 33 32,
oB 34 .shr 33 (.c (.int .u64 32)),
oB 35 .neq 34 (.c (.int .u64 0)),
oM 31 35])
(.cond 31
(.exit 3)
.skip))
(sq (kr [1,3] [oA 37 2 1,
oL 38 37,
oM 39 38,
oT 39 40 (.fieldAddr 5 1),
oT 39 41 (.load none 40),
oT 39 42 (.len 41),
oT 39 43 (.fieldAddr 4 1),
oT 39 44 (.load none 43),
oT 39 45 (.len 44),
oT 39 46 (.bin .neq 42 45),
oP 47 39 46 cF,
oM 48 47,
oF 48 49 (.fieldAddr 2 1),
oF 48 50 (.load none 49),
oF 48 51 (.un .not 50),
oF 48 52 (.mov 51),
oT 52 53 (.fieldAddr 5 1),
oT 52 54 (.load none 53),
oT 52 55 (.len 54),
oT 52 56 (.bin .gtr 55 (cI 0)),
oF 48 57 (.pick 52 56 cF),
oP 58 48 cT 57,
oM 59 58,
oF 59 60 (.fieldAddr 4 1),
oF 59 61 (.load none 60),
oF 59 62 (.len 61),
oF 59 63 (.fieldAddr 0 3),
oF 59 64 (.load none 63),
oF 59 65 (.bin .gtr 62 64),
oP 66 59 cT 65,
oM 36 66])
(.cond 36
(.exit 4)
.skip)))))
(.exit 0)))
(sq (sq (kr [] [oD 2 (.mov cF)])
.ret)
(.exit 0)))))
(sq (sq (kr [] [oD 2 (.mov cF)])
.ret)
(.exit 0))))
(sq (sq (kr [] [oD 2 (.mov cF)])
.ret)
(.exit 0))))
(sq (kr [1,3] [oK 67 6 1,
oK 68 4 3,
oC 69 116 [67,68],
oB 70 .eql 69 (cI 0),
oM 2 70])
.ret))))
def gv_:List RD:=[.tmp 2 true none]
theorem gT_:zl_ Tryz.prog Tryz.f83 Gm_ gv_=true:=by kernel_rfl
def kY_:List AV->List Obj->Option (Prop × AV)
 | [.agg [.int .i64 c,.int .i64 f,.bool h,.int .u64 x,.imm (.int .u8) v,.imm (.int .u8) m]],[]=>some ((v.length<=1000000/\m.length<=1000000,.bool (zv_ c f h x v m)))
 | _,_=>none
theorem ji_:ze_ Tryz.prog 83 (RoF kY_).sum:=by
 refine zm_ Tryz.func83 gT_ (zb_ (s:=RoF XK_) Y9_ (zb_ (s:=RoF je_) W1_ (zd_ _))) fun args objs p v e=>?_
 unfold kY_ at e
 split at e
 ·rename_i c f h x v m
  cases e
  refine ⟨rfl,fun hw ho hp=>?_⟩
  change List Int at v
  change List Int at m
  have hof:=Ui_ c f
  cases h
  all_goals repeat'(intro t ht;first|(cases t<;>first|(cases ht;done)|(try simp only[zh_]at ht))|((first|refine za_ ht ?_|refine ht ?_ ?_|refine ht.1 ?_ ?_|refine ht ?_)<;>clear ht))
  all_goals first
   | exact True.intro
   | exact (by decide)
   | (refine ⟨fun h=>?_,?_,?_,?_⟩<;>first | omega | (cases h;done))
   | (unfold zv_;simp_all;done)
   | (have h0:¬ m.length=0:=by omega
      unfold zv_;simp_all;done)
   | (unfold zv_;simp_all;omega)
 ·cases e
def Ha_:IR:=
(sq (kr [0] [oD 1 (.boxv 0),
oD 2 (.mov (cI 0))])
(sq (kr [1] [oA 4 4 1,
oL 5 4,
oE 6 5,
oA 7 5 1,
oL 8 7,
oE 9 8,
oB 10 .add 6 9,
oM 3 10])
(sq (sq (kr [1,3] [oA 11 0 1,
oL 12 11,
oB 13 .eql 12 (cI 65535)])
(.cond 13
(.reg [oM 14 3,
oB 15 .add 14 (cI 4),
oM 3 15])
.skip))
(sq (kr [3] [oM 16 3,
oM 2 16])
.ret))))
def he_:List RD:=[.tmp 2 true none]
theorem hC_:zl_ Tryz.prog Tryz.f84 Ha_ he_=true:=by kernel_rfl
def Jz_:List AV->List Obj->Option (Prop × AV)
 | [.agg [.int .i64 c,.int .i64 f,.bool h,.int .u64 x,.imm (.int .u8) v,.imm (.int .u8) m]],[]=>some ((v.length<=1000000/\m.length<=1000000,.int .i64 (zY_ c v m)))
 | _,_=>none
theorem x2_:ze_ Tryz.prog 84 (RoF Jz_).sum:=by
 refine zm_ Tryz.func84 hC_ (zd_ _) fun args objs p v e=>?_
 unfold Jz_ at e
 split at e
 ·rename_i c f h x v m
  cases e
  refine ⟨rfl,fun hw ho hp=>?_⟩
  change List Int at v
  change List Int at m
  repeat'(intro t ht;first|(cases t<;>first|(cases ht;done)|(try simp only[zh_]at ht))|((first|refine za_ ht ?_|refine ht ?_ ?_|refine ht.1 ?_ ?_|refine ht ?_)<;>clear ht))
  all_goals first
   | ((try simp only [zn_,zo_,zi_] at*);omega)
   | (unfold zY_;simp_all;done)
 ·cases e
theorem kg_ {c f:Int} {h:Bool} {x:Int} {v m:List Int} (hr:zv_ c f h x v m=true):(v.length:Int)<=Z0_ c f/\(h=true->(m.length:Int)=v.length)/\(h=false->m.length=0)/\kR_ c f=true/\(h=true->Z1_ c f=true)/\(zI_ c=true\/x=0)/\x.fdiv (2 ^ (min (Int.toNat 32) IntKind.u64.bits))=0/\QF_ f h v m (q7_ c f) (zI_ c)=0:=by
 unfold zv_ at hr
 simp only [Bool.and_eq_true,Bool.or_eq_true,decide_eq_true_eq] at hr
 obtain ⟨⟨⟨⟨⟨⟨a1,a2⟩,a3⟩,a4⟩,a5⟩,a6⟩,a7⟩:=hr
 cases h with
 | true=>exact ⟨a6,fun _=>of_decide_eq_true a5,fun h=>(by cases h),a1,fun _=>a2.resolve_left (by simp),a3,a4,a7⟩
 | false=>exact ⟨a6,fun h=>(by cases h),fun _=>of_decide_eq_true a5,a1,fun h=>(by cases h),a3,a4,a7⟩
theorem gf_ {f:Int} {v:List Int} (h:ZN_ f v=true):(v.length:Int)=ZX_ f/\0<=q3_ f/\q3_ f<=8*ZX_ f/\ZX_ f<=16:=by
 unfold ZN_ at h
 split at h
 ·rename_i hh
  have hn:=qp_.1 hh.1
  have:=zbk_ f.toNat (by omega)
  rw [Int.toNat_of_nonneg hn.1] at this
  omega
 ·cases h
def gg_ (c f:Int) (h:Bool) (v m:List Int):Int:=
 if c=32768/\ZN_ f v=false then 1032 else if h=true/\c=32768/\ZN_ f m=false then 1033
 else if h=true/\(ZJ_ m=true\/K0_ m (if c=32768 then q3_ f else 8*m.length).toNat 0=true) then 1033 else if h=true/\inA v m=false then 1030 else 0
def Gd_:IR:=
(sq (kr [0] [oD 1 (.boxv 0),
oD 2 (.mov (cI 0))])
(sq (kr [1] [oA 7 1 1,
oL 8 7,
oC 9 109 [8],
oM 6 9,
oX 10 6 0,
oX 11 6 1,
oD 3 (.box [.str [],.int .i64 0,.int .i64 0,.kb false,.int .i64 0,.imm (.int .u64) []]),
oS 6 3 10,
oM 4 11])
(sq (kr [1,3] [oA 12 5 1,
oL 13 12,
oE 14 13,
oB 15 .mul (cI 8) 14,
oM 5 15])
(sq (sq (.reg [oA 16 0 1,
oL 17 16,
oB 18 .eql 17 (cI 32768)])
(.cond 18
(sq (kr [1,3] [oA 19 1 3,
oL 20 19,
oM 5 20])
(sq (sq (kr [1,5] [oA 21 1 1,
oL 22 21,
oA 23 4 1,
oL 24 23,
oC 25 132 [22,24],
oD 26 (.un .not 25)])
(.cond 26
(sq (kr [] [oD 2 (.mov (cI 1032))])
.ret)
.skip))
(sq (kr [1,5] [oA 27 2 1,
oL 28 27,
oM 29 28,
oT 29 30 (.fieldAddr 1 1),
oT 29 31 (.load none 30),
oT 29 32 (.fieldAddr 5 1),
oT 29 33 (.load none 32),
oT 29 34 (.call false (.f 132) [31,33]),
oT 29 35 (.un .not 34),
oP 36 29 35 cF])
(.cond 36
(sq (kr [] [oD 2 (.mov (cI 1033))])
.ret)
.skip))))
.skip))
(sq (sq (kr [1,5] [oA 37 2 1,
oL 38 37,
oM 39 38,
oT 39 40 (.fieldAddr 5 1),
oT 39 41 (.load none 40),
oT 39 42 (.call false (.f 133) [41]),
oT 39 43 (.mov 42),
oF 43 44 (.fieldAddr 5 1),
oF 43 45 (.load none 44),
oF 43 46 (.mov 5),
oF 43 47 (.call false (.f 134) [45,46]),
oT 39 48 (.pick 43 cT 47),
oP 49 39 48 cF])
(.cond 49
(sq (kr [] [oD 2 (.mov (cI 1033))])
.ret)
.skip))
(sq (sq (kr [1] [oA 50 2 1,
oL 51 50,
oM 52 51,
oT 52 53 (.fieldAddr 4 1),
oT 52 54 (.load none 53),
oT 52 55 (.fieldAddr 5 1),
oT 52 56 (.load none 55),
oT 52 57 (.call false (.f 135) [54,56]),
oT 52 58 (.un .not 57),
oP 59 52 58 cF])
(.cond 59
(sq (kr [] [oD 2 (.mov (cI 1030))])
.ret)
.skip))
(sq (kr [] [oD 2 (.mov (cI 0))])
.ret)))))))
def gm_:List RD:=[.tmp 2 true none]
theorem gK_:zl_ Tryz.prog Tryz.f110 Gd_ gm_=true:=by kernel_rfl
def We_:List AV->List Obj->Option (Prop × AV)
 | [.agg [.int .i64 c,.int .i64 f,.bool h,.int .u64 x,.imm (.int .u8) v,.imm (.int .u8) m]],[]=>some (((h=true->c ≠ 32768->v.length<=m.length)/\m.length<=100000,.int .i64 (gg_ c f h v m)))
 | _,_=>none
theorem VO_:ze_ Tryz.prog 110 (RoF We_).sum:=by
 refine zm_ Tryz.func110 gK_ (zb_ (s:=RoF jS_) j1_ (zb_ (s:=RoF xM_) U2_ (zb_ (s:=RoF Wd_) VN_ (zb_ (s:=RoF xK_) U0_ (zb_ (s:=RoF Jy_) Y8_ (zd_ _)))))) fun args objs p v e=>?_
 unfold We_ at e
 split at e
 ·rename_i c f h x v m
  cases e
  refine ⟨rfl,fun hw ho hp=>?_⟩
  change List Int at v
  change List Int at m
  have hfv:=gf_ (f:=f) (v:=v)
  have hfm:=gf_ (f:=f) (v:=m)
  cases h<;>by_cases hc:c=32768
  all_goals repeat'(intro t ht;first|(cases t<;>first|(cases ht;done)|(try simp only[zh_]at ht))|((first|refine za_ ht ?_|refine ht ?_ ?_|refine ht.1 ?_ ?_|refine ht ?_)<;>clear ht))
  all_goals first
   | exact True.intro
   | contradiction
   | ((try simp only [zn_,zo_,zi_] at*);omega)
   | (have h1:=hfm (by assumption);(try simp only [zn_,zo_,zi_] at*);omega)
   | (have h1:=hfm (by assumption);have h2:=hfv (by assumption);(try simp only [zn_,zo_,zi_] at*);omega)
   | (have h1:=hp.1 rfl (by assumption);exact h1)
   | (unfold gg_;simp_all;done)
 ·cases e
def KM_ (c f:Int) (h:Bool) (x:Int) (v m:List Int):Bool:=
 if (h=false/\0 < m.length)\/(h=true/\¬ (m.length:Int)=v.length) then false
 else if c=32768 then fIs f && decide (x=0) && (!h || W4_ f) && decide (gg_ c f h v m=0)
 else decide (c=65535) && decide (0<=f) && decide (f<=127) && decide (x < 4294967296) && decide ((v.length:Int)<=100) && decide (gg_ c f h v m=0)
def Ge_:IR:=
(sq (kr [0] [oD 1 (.boxv 0),
oD 2 (.mov cF)])
(sq (sq (kr [1] [oA 5 2 1,
oL 6 5,
oD 7 (.un .not 6),
oM 8 7,
oT 8 9 (.fieldAddr 5 1),
oT 8 10 (.load none 9),
oT 8 11 (.len 10),
oT 8 12 (.bin .gtr 11 (cI 0)),
oP 13 8 12 cF,
oM 14 13,
oF 14 15 (.fieldAddr 2 1),
oF 14 16 (.load none 15),
oF 14 17 (.mov 16),
oT 17 18 (.fieldAddr 5 1),
oT 17 19 (.load none 18),
oT 17 20 (.len 19),
oT 17 21 (.fieldAddr 4 1),
oT 17 22 (.load none 21),
oT 17 23 (.len 22),
oT 17 24 (.bin .neq 20 23),
oF 14 25 (.pick 17 24 cF),
oP 26 14 cT 25])
(.cond 26
(sq (kr [] [oD 2 (.mov cF)])
.ret)
.skip))
(sq (sq (kr [1] [oA 27 0 1,
oL 28 27,
oB 29 .eql 28 (cI 32768)])
(.cond 29
(sq (kr [1] [oA 31 1 1,
oL 32 31,
oC 33 109 [32],
oM 30 33,
oX 34 30 0,
oX 35 30 1,
oD 3 (.box [.str [],.int .i64 0,.int .i64 0,.kb false,.int .i64 0,.imm (.int .u64) []]),
oS 6 3 34,
oM 4 35])
(sq (kr [1,3,4] [oM 36 4,
oM 37 36,
oT 37 38 (.fieldAddr 3 1),
oT 37 39 (.load none 38),
oT 37 40 (.bin .eql 39 (.c (.int .u64 0))),
oP 41 37 40 cF,
oM 42 41,
oT 42 43 (.fieldAddr 2 1),
oT 42 44 (.load none 43),
oT 42 45 (.un .not 44),
oT 42 46 (.mov 45),
oF 46 47 (.fieldAddr 3 3),
oF 46 48 (.load none 47),
oT 42 49 (.pick 46 cT 48),
oP 50 42 49 cF,
oM 51 50,
oT 51 52 (.load (some 6) 1),
oT 51 53 (.call false (.f 110) [52]),
oT 51 54 (.bin .eql 53 (cI 0)),
oP 55 51 54 cF,
oM 2 55])
.ret))
.skip))
(sq (kr [1] [oA 56 0 1,
oL 57 56,
oB 58 .eql 57 (cI 65535),
oM 59 58,
oT 59 60 (.fieldAddr 1 1),
oT 59 61 (.load none 60),
oT 59 62 (.bin .geq 61 (cI 0)),
oP 63 59 62 cF,
oM 64 63,
oT 64 65 (.fieldAddr 1 1),
oT 64 66 (.load none 65),
oT 64 67 (.bin .leq 66 (cI 127)),
oP 68 64 67 cF,
oM 69 68,
oT 69 70 (.fieldAddr 3 1),
oT 69 71 (.load none 70),
oT 69 72 (.bin .lss 71 (.c (.int .u64 4294967296))),
oP 73 69 72 cF,
oM 74 73,
oT 74 75 (.fieldAddr 4 1),
oT 74 76 (.load none 75),
oT 74 77 (.len 76),
oT 74 78 (.bin .leq 77 (cI 100)),
oP 79 74 78 cF,
oM 80 79,
oT 80 81 (.load (some 6) 1),
oT 80 82 (.call false (.f 110) [81]),
oT 80 83 (.bin .eql 82 (cI 0)),
oP 84 80 83 cF,
oM 2 84])
.ret))))
def gn_:List RD:=[.tmp 2 true none]
theorem gL_:zl_ Tryz.prog Tryz.f75 Ge_ gn_=true:=by kernel_rfl
def Wf_:List AV->List Obj->Option (Prop × AV)
 | [.agg [.int .i64 c,.int .i64 f,.bool h,.int .u64 x,.imm (.int .u8) v,.imm (.int .u8) m]],[]=>some ((m.length<=100000,.bool (KM_ c f h x v m)))
 | _,_=>none
theorem VP_:ze_ Tryz.prog 75 (RoF Wf_).sum:=by
 refine zm_ Tryz.func75 gL_ (zb_ (s:=RoF jS_) j1_ (zb_ (s:=RoF We_) VO_ (zd_ _))) fun args objs p v e=>?_
 unfold Wf_ at e
 split at e
 ·rename_i c f h x v m
  cases e
  refine ⟨rfl,fun hw ho hp=>?_⟩
  change List Int at v
  change List Int at m
  have hm:m.length<=maxLen:=(hw _ (List.mem_cons_self ..) (.imm (.int .u8) m) (by simp)).2
  have hv:v.length<=maxLen:=(hw _ (List.mem_cons_self ..) (.imm (.int .u8) v) (by simp)).2
  unfold maxLen at hm hv
  cases h<;>by_cases hc:c=32768
  all_goals repeat'(intro t ht;first|(cases t<;>first|(cases ht;done)|(try simp only[zh_]at ht))|((first|refine za_ ht ?_|refine ht ?_ ?_|refine ht.1 ?_ ?_|refine ht ?_)<;>clear ht))
  all_goals first
   | exact True.intro
   | contradiction
   | (refine ⟨fun h1 h2=>?_,?_⟩<;>first | omega | (cases h1;done))
   | ((try simp only [zn_,zo_,zi_] at*);omega)
   | (unfold KM_;simp_all;done)
   | (unfold KM_;simp_all;omega)
 ·cases e
def JM_ (c x:Int) (v m:List Int):List Int:=(if c=65535 then zf_ x 4 else [])++v++m
def ZH_ (c f:Int) (h:Bool) (x:Int) (v m:List Int):List Int:=zf_ c 2++[2*f+if h=true then 1 else 0,((JM_ c x v m).length:Int)]++JM_ c x v m
def Qe_ (c f:Int) (h:Bool) (x:Int) (v m:List Int):Int:=if zv_ c f h x v m=true then 4+zY_ c v m else 0
def Hd_:IR:=
(sq (kr [0] [oD 1 (.boxv 0),
oD 2 (.mov (cI 0))])
(sq (sq (.reg [oK 3 6 1,
oC 4 83 [3],
oD 5 (.un .not 4)])
(.cond 5
(sq (.reg [oD 2 (.mov (cI 0))])
.ret)
.skip))
(sq (kr [1] [oK 6 6 1,
oC 7 84 [6],
oB 8 .add (cI 4) 7,
oM 2 8])
.ret)))
def hh_:List RD:=[.tmp 2 true none]
theorem hF_:zl_ Tryz.prog Tryz.f57 Hd_ hh_=true:=by kernel_rfl
def JA_:List AV->List Obj->Option (Prop × AV)
 | [.agg [.int .i64 c,.int .i64 f,.bool h,.int .u64 x,.imm (.int .u8) v,.imm (.int .u8) m]],[]=>some ((v.length<=1000000/\m.length<=1000000,.int .i64 (Qe_ c f h x v m)))
 | _,_=>none
theorem x3_:ze_ Tryz.prog 57 (RoF JA_).sum:=by
 refine zm_ Tryz.func57 hF_ (zb_ (s:=RoF kY_) ji_ (zb_ (s:=RoF Jz_) x2_ (zd_ _))) fun args objs p v e=>?_
 unfold JA_ at e
 split at e
 ·rename_i c f h x v m
  cases e
  refine ⟨rfl,fun hw ho hp=>?_⟩
  change List Int at v
  change List Int at m
  repeat'(intro t ht;first|(cases t<;>first|(cases ht;done)|(try simp only[zh_]at ht))|((first|refine za_ ht ?_|refine ht ?_ ?_|refine ht.1 ?_ ?_|refine ht ?_)<;>clear ht))
  all_goals first
   | exact hp
   | (have hr:zv_ c f h x v m=true:=by assumption
      have hl:=kg_ hr
      have hof:=Ui_ c f
      have hm:(m.length:Int)<=100:=by cases h;have:=hl.2.2.1 rfl;omega;have:=hl.2.1 rfl;omega
      have hrest:0<=zY_ c v m/\zY_ c v m<=204:=by unfold zY_;split<;>omega
      first
       | ((try simp only [zn_,zo_,zi_] at*);omega)
       | (unfold Qe_;rw [if_pos hr];exact ⟨rfl,rfl⟩))
   | (have hr:zv_ c f h x v m=false:=by assumption
      unfold Qe_;rw [hr];exact ⟨rfl,rfl⟩)
 ·cases e
theorem Bz_ {n:Int} (h:0<=n) (h1:n<=1000000):W3_ n=n:=by unfold W3_;rw [if_neg (by omega)];split<;>omega
def BU_ (c f:Int) (h:Bool) (v m:List Int):List Int:=zf_ c 2++zf_ (2*f+if h=true then 1 else 0) 1++zf_ (zY_ c v m) 1
def Zj_ (c f:Int) (h:Bool) (x:Int) (v m:List Int):List Int:=BU_ c f h v m++(if c=65535 then zf_ x 4 else [])++v++m
theorem zeP_ {a b c:Int} (ha:0<=a/\a<=65535) (hb:0<=b/\b<=255) (hc:0<=c/\c<=255):qd_ [2,1,1] [a,b,c]=zf_ a 2++zf_ b 1++zf_ c 1/\QN_ [2,1,1] [a,b,c]=true:=by
 have e1:a.fdiv (2 ^ 16)=0:=by rw [Int.fdiv_eq_ediv_of_nonneg _ (by decide)];omega
 have e2:b.fdiv (2 ^ 8)=0:=by rw [Int.fdiv_eq_ediv_of_nonneg _ (by decide)];omega
 have e3:c.fdiv (2 ^ 8)=0:=by rw [Int.fdiv_eq_ediv_of_nonneg _ (by decide)];omega
 have h:Kq_ [2,1,1] [a,b,c]=some (zf_ a 2++zf_ b 1++zf_ c 1):=by
  unfold Kq_
  rw [if_pos ⟨by decide,show zw_ [2,1,1]=3 by decide⟩]
  show (if (2:Int) < 8/\a.fdiv (2 ^ 16) ≠ 0 then none else qA_ [1,1] [b,c] ([]++zf_ a 2))=_
  rw [if_neg (fun h=>h.2 e1)]
  show (if (1:Int) < 8/\b.fdiv (2 ^ 8) ≠ 0 then none else qA_ [1] [c] ([]++zf_ a 2++zf_ b 1))=_
  rw [if_neg (fun h=>h.2 e2)]
  show (if (1:Int) < 8/\c.fdiv (2 ^ 8) ≠ 0 then none else qA_ [] [] ([]++zf_ a 2++zf_ b 1++zf_ c 1))=_
  rw [if_neg (fun h=>h.2 e3)]
  simp [qA_]
 unfold qd_ QN_;rw [h];exact ⟨rfl,rfl⟩
theorem put4 {a:Int} (ha:0<=a/\a<=4294967295):qd_ [4] [a]=zf_ a 4/\QN_ [4] [a]=true:=by
 have e1:a.fdiv (2 ^ 32)=0:=by rw [Int.fdiv_eq_ediv_of_nonneg _ (by decide)];omega
 have h:Kq_ [4] [a]=some (zf_ a 4):=by
  unfold Kq_
  rw [if_pos ⟨by decide,show zw_ [4]=1 by decide⟩]
  show (if (4:Int) < 8/\a.fdiv (2 ^ 32) ≠ 0 then none else qA_ [] [] ([]++zf_ a 4))=_
  rw [if_neg (fun h=>h.2 e1)]
  simp [qA_]
 unfold qd_ QN_;rw [h];exact ⟨rfl,rfl⟩
theorem WD_ {x l:List Int} {room:Int} (h:(x.length:Int)<=room - l.length):Jt_ x l room 0=l++x/\WW_ x l room 0=0:=by
 unfold Jt_ WW_ jP_;rw [decide_eq_true h];simp;omega
theorem zdn_ {a b c room:Int} (ha:0<=a/\a<=65535) (hb:0<=b/\b<=255) (hc:0<=c/\c<=255) (hr:4<=room):VY_ [2,1,1] [a,b,c] [] room 0=zf_ a 2++zf_ b 1++zf_ c 1/\VX_ [2,1,1] [a,b,c] [] room 0=0:=by
 obtain ⟨h1,h2⟩:=zeP_ ha hb hc
 have l1:=zk_ (n:=a) (w:=2) (by decide)
 have l2:=zk_ (n:=b) (w:=1) (by decide)
 have l3:=zk_ (n:=c) (w:=1) (by decide)
 have:=WD_ (x:=zf_ a 2++zf_ b 1++zf_ c 1) (l:=[]) (room:=room) (by simp only [List.length_append,List.length_nil];omega)
 unfold VY_ VX_;rw [h1,h2];exact this
theorem nm4 {x room:Int} {l:List Int} (hx:0<=x/\x<=4294967295) (hr:4<=room - l.length):nmB 4 x l room 0=l++zf_ x 4/\nmE 4 x l room 0=0:=by
 obtain ⟨h1,h2⟩:=put4 hx
 have l1:=zk_ (n:=x) (w:=4) (by decide)
 have:=WD_ (x:=zf_ x 4) (l:=l) (room:=room) (by omega)
 have hw:jx_ 4=true:=by decide
 unfold nmB nmE VY_ VX_;rw [hw,h1,h2];exact this
def uC_:IR:=
(sq (kr [0] [oD 1 (.boxv 0),
oD 2 (.mov (.c (.imm (.int .u8) []))),
oD 3 (.mov (cI 0))])
(sq (sq (.reg [oK 6 6 1,
oC 7 83 [6],
oD 8 (.un .not 7)])
(.cond 8
(sq (kr [] [oD 2 (.mov (.c (.imm (.int .u8) []))),
oD 3 (.mov (cI 10001))])
.ret)
.skip))
(sq (kr [1] [oK 9 6 1,
oC 10 57 [9],
oC 11 11 [10],
oM 4 11])
(sq (kr [1,4] [oA 12 1 1,
oL 13 12,
oB 14 .mul (cI 2) 13,
oD 15 (.conv .u64 14),
oM 5 15])
(sq (sq (.reg [oA 16 2 1,
oL 17 16])
(.cond 17
(kr [1,4,5] [oM 18 5,
oB 19 .add 18 (.c (.int .u64 1)),
oM 5 19])
.skip))
(sq (kd [1,4,5] [(oM 20 4,[]),
(oD 21 (.sliceAll (.int .i64) 3 [(0,1,(cI 2)),(1,1,(cI 1)),(2,1,(cI 1))]),[0]),
(oA 22 0 1,[0,0]),
(oL 23 22,[1,0]),
(oD 24 (.conv .u64 23),[2,0]),
(oM 25 5,[0,0,0,0,0]),
(oK 26 6 1,[0,0,0,0,0,0]),
(oC 27 84 [26],[1,0,0,0,0,0]),
(oD 28 (.conv .u64 27),[2,0,0,0,0,0]),
(oD 29 (.sliceAll (.int .u64) 3 [(0,1,24),(1,1,25),(2,1,28)]),[7,0]),
(oC 30 52 [20,21,29],[])])
(sq (sq (kr [1,4] [oA 31 0 1,
oL 32 31,
oB 33 .eql 32 (cI 65535)])
(.cond 33
(.reg [oM 34 4,
oA 35 3 1,
oL 36 35,
oC 37 85 [34,(cI 4),36]])
.skip))
(sq (kr [1,4] [oM 38 4,
oA 39 4 1,
oL 40 39,
oC 41 12 [38,40]])
(sq (.reg [oM 42 4,
oA 43 5 1,
oL 44 43,
oC 45 12 [42,44]])
(sq (kr [4] [oM 46 4,
oC 47 14 [46],
oX 48 47 0,
oX 49 47 1,
oM 2 48,
oM 3 49])
.ret))))))))))
def V3_:List RD:=[.tmp 2 true (some (.int .u8)),.tmp 3 true none]
theorem uk_:zl_ Tryz.prog Tryz.f53 uC_ V3_=true:=by kernel_rfl
def JB_:List AV->List Obj->Option (Prop × AV)
 | [.agg [.int .i64 c,.int .i64 f,.bool h,.int .u64 x,.imm (.int .u8) v,.imm (.int .u8) m]],[]=>some ((v.length<=1000000/\m.length<=1000000,.tup [.imm (.int .u8) (if zv_ c f h x v m=true then Zj_ c f h x v m else []),.int .i64 (if zv_ c f h x v m=true then 0 else 10001)]))
 | _,_=>none
theorem va_:ze_ Tryz.prog 53 (RoF JB_).sum:=by
 refine zm_ Tryz.func53 uk_ (zb_ (s:=RoF kY_) ji_ (zb_ (s:=RoF JA_) x3_ (zb_ (s:=RwF q1_) QJ_ (zb_ (s:=RoF Jz_) x2_ (zb_ (s:=RwF Zu_) qg_ (zb_ (s:=RwF Qb_) JR_ (zb_ (s:=RwF zx_) zD_ (zb_ (s:=RwF z2_) Zx_ (zd_ _))))))))) fun args objs p v e=>?_
 unfold JB_ at e
 split at e
 ·rename_i c f h x v m
  cases e
  refine ⟨rfl,fun hw ho hp=>?_⟩
  change List Int at v
  change List Int at m
  cases hr:zv_ c f h x v m with
  | false=>
    repeat'(intro t ht;first|(cases t<;>first|(cases ht;done)|(try simp only[zh_]at ht))|((first|refine za_ ht ?_|refine ht ?_ ?_|refine ht.1 ?_ ?_|refine ht ?_)<;>clear ht))
    all_goals first
     | exact hp
     | (exfalso;simp_all;done)
     | exact ⟨rfl,rfl⟩
  | true=>
    have hl:=kg_ hr
    have hof:=Ui_ c f
    have hm:(m.length:Int)<=100:=by cases h;have:=hl.2.2.1 rfl;omega;have:=hl.2.1 rfl;omega
    have hrest:0<=zY_ c v m/\zY_ c v m<=204:=by unfold zY_;split<;>omega
    have hcf:0<=f/\f<=127/\(c=65535\/c=32768):=by
     have h4:=hl.2.2.2.1
     unfold kR_ at h4
     split at h4
     ·simp at h4;omega
     ·simp at h4;have:=qp_.1 h4.1;omega
    have hs:Qe_ c f h x v m=4+zY_ c v m:=by unfold Qe_;rw [if_pos hr]
    have hroom:W3_ (Qe_ c f h x v m)=4+zY_ c v m:=by rw [hs];exact Bz_ (by omega) (by omega)
    have hx0:0<=x:=((hw _ (List.mem_cons_self ..)) (.int .u64 x) (by simp)).1
    have hx1:x<=4294967295:=by
     have h7:x.fdiv (2 ^ 32)=0:=hl.2.2.2.2.2.2.1
     rw [Int.fdiv_eq_ediv_of_nonneg _ (by decide)] at h7;omega
    obtain ⟨N,hN⟩:∃ N,N=2*f+if h=true then 1 else 0:=⟨_,rfl⟩
    have hN1:0<=N/\N<=255:=by rw [hN];split<;>omega
    obtain ⟨R,hR⟩:∃ R,R=zY_ c v m:=⟨_,rfl⟩
    have hR1:0<=R/\R<=204:=by omega
    obtain ⟨H1,H2⟩:=zdn_ (a:=c) (b:=N) (c:=R) (room:=4+R) (by omega) (by omega) (by omega) (by omega)
    have l0:((zf_ c 2++zf_ N 1++zf_ R 1).length:Int)=4:=by
     have l1:=zk_ (n:=c) (w:=2) (by decide)
     have l2:=zk_ (n:=N) (w:=1) (by decide)
     have l3:=zk_ (n:=R) (w:=1) (by decide)
     simp only [List.length_append];omega
    have l4:=zk_ (n:=x) (w:=4) (by decide)
    have hd0:Xz_=Xz_:=rfl
    have e0:∀ l,Xz_ l [] 0=l:=fun l=>rfl
    have e1:XA_ [] 0=0:=rfl
    rw [<- hR] at hroom
    by_cases hc:c=65535
    ·have hRe:R=(v.length:Int)+m.length+4:=by rw [hR];unfold zY_;rw [if_pos hc]
     obtain ⟨H3,H4⟩:=nm4 (x:=x) (room:=4+R) (l:=zf_ c 2++zf_ N 1++zf_ R 1) ⟨hx0,hx1⟩ (by omega)
     obtain ⟨H5,H6⟩:=WD_ (x:=v) (room:=4+R) (l:=zf_ c 2++zf_ N 1++zf_ R 1++zf_ x 4) (by rw [List.length_append];omega)
     obtain ⟨H7,H8⟩:=WD_ (x:=m) (room:=4+R) (l:=zf_ c 2++zf_ N 1++zf_ R 1++zf_ x 4++v) (by rw [List.length_append,List.length_append];omega)
     have hfin:Zj_ c f h x v m=zf_ c 2++zf_ N 1++zf_ R 1++zf_ x 4++v++m:=by unfold Zj_ BU_;rw [<- hN,<- hR,if_pos hc]
     rw [hfin]
     cases h
     all_goals (simp only [if_true,if_false,Bool.false_eq_true,Int.add_zero] at hN)
     all_goals repeat'(intro t ht;first|(cases t<;>first|(cases ht;done)|(try simp only[zh_]at ht))|((first|refine za_ ht ?_|refine ht ?_ ?_|refine ht.1 ?_ ?_|refine ht ?_)<;>clear ht))
     all_goals (try simp only [<- hN,<- hR])
     all_goals first
      | exact True.intro
      | exact hp
      | (exfalso;simp_all;done)
      | ((try simp only [zn_,zo_,zi_] at*);omega)
      | (simp only [hroom,H1,H2,H3,H4,H5,H6,H7,H8];simp only [List.length_append,List.length_nil] at l0 ⊢;omega)
      | (refine ⟨?_,?_⟩<;>first | rfl | (simp only [hroom,H1,H2,H3,H4,H5,H6,H7,H8,e0,e1];done) | (simp only [hroom,H1,H2,H3,H4,H5,H6,H7,H8,e0,e1];rfl))
    ·have hRe:R=(v.length:Int)+m.length:=by rw [hR];unfold zY_;rw [if_neg hc]
     obtain ⟨H5,H6⟩:=WD_ (x:=v) (room:=4+R) (l:=zf_ c 2++zf_ N 1++zf_ R 1) (by omega)
     obtain ⟨H7,H8⟩:=WD_ (x:=m) (room:=4+R) (l:=zf_ c 2++zf_ N 1++zf_ R 1++v) (by rw [List.length_append];omega)
     have hfin:Zj_ c f h x v m=zf_ c 2++zf_ N 1++zf_ R 1++v++m:=by unfold Zj_ BU_;rw [<- hN,<- hR,if_neg hc,List.append_nil]
     rw [hfin]
     cases h
     all_goals (simp only [if_true,if_false,Bool.false_eq_true,Int.add_zero] at hN)
     all_goals repeat'(intro t ht;first|(cases t<;>first|(cases ht;done)|(try simp only[zh_]at ht))|((first|refine za_ ht ?_|refine ht ?_ ?_|refine ht.1 ?_ ?_|refine ht ?_)<;>clear ht))
     all_goals (try simp only [<- hN,<- hR])
     all_goals first
      | exact True.intro
      | exact hp
      | (exfalso;simp_all;done)
      | ((try simp only [zn_,zo_,zi_] at*);omega)
      | (simp only [hroom,H1,H2,H5,H6,H7,H8];simp only [List.length_append,List.length_nil] at l0 ⊢;omega)
      | (refine ⟨?_,?_⟩<;>first | rfl | (simp only [hroom,H1,H2,H5,H6,H7,H8,e0,e1];done) | (simp only [hroom,H1,H2,H5,H6,H7,H8,e0,e1];rfl))
 ·cases e
def vT_ (h ex:Bool) (sz n:Int):Int:=if ex=true then (n - 4).tdiv (if h=true then 2 else 1) else sz
def Xs_ (h ex:Bool) (sz n:Int):Bool:=if ex=true then decide (0<=n - 4) && decide ((n - 4).tmod (if h=true then 2 else 1)=0) && decide ((n - 4).tdiv (if h=true then 2 else 1)<=sz) else decide (n=(if h=true then 2 else 1)*sz)
def Hc_:IR:=
(sq (kr [0,1,2] [oD 3 (.boxv 0),
oD 4 (.boxv 1),
oD 6 (.mov (cI 0)),
oD 7 (.mov cF)])
(sq (.reg [oD 8 (.mov (cI 1))])
(sq (sq (.reg [oA 9 2 3,
oL 10 9])
(.cond 10
(kr [2,4,8] [oM 11 8,
oB 12 .add 11 (cI 1),
oM 8 12])
.skip))
(sq (sq (kr [2,4,8] [oA 13 3 4,
oL 14 13,
oD 15 (.un .not 14)])
(.cond 15
(sq (kd [2,4,8] [(oA 16 0 4,[]),
(oL 17 16,[]),
(oM 18 2,[0,0]),
(oM 19 8,[0,0,0]),
(oA 20 0 4,[0,0,0,0]),
(oL 21 20,[1,0,0,0]),
(oB 22 .mul 19 21,[3,0,0]),
(oB 23 .eql 18 22,[5,0]),
(oM 6 17,[0,0,0,0,0,0]),
(oM 7 23,[])])
.ret)
.skip))
(sq (kr [2,4,8] [oM 24 2,
oB 25 .sub 24 (cI 4),
oM 2 25])
(sq (kd [2,4,8] [(oM 26 2,[]),
(oM 27 8,[0]),
(oB 28 .quo 26 27,[]),
(oM 29 2,[0,0,0]),
(oB 30 .geq 29 (cI 0),[1,0,0]),
(oM 31 30,[2,0,0]),
(oT 31 32 (.mov 2),[3,0,0]),
(oT 31 33 (.mov 8),[0,3,0,0]),
(oT 31 34 (.bin .rem 32 33),[5,0,0]),
(oT 31 35 (.bin .eql 34 (cI 0)),[6,0,0]),
(oP 36 31 35 cF,[7,0,0]),
(oM 37 36,[8,0,0]),
(oT 37 38 (.mov 2),[9,0,0]),
(oT 37 39 (.mov 8),[0,9,0,0]),
(oT 37 40 (.bin .quo 38 39),[11,0,0]),
(oT 37 41 (.fieldAddr 0 4),[0,0,0,9,0,0]),
(oT 37 42 (.load none 41),[1,0,0,9,0,0]),
(oT 37 43 (.bin .leq 40 42),[14,0,0]),
(oP 44 37 43 cF,[15,0,0]),
(oM 6 28,[0,0,0,0,0,0,0]),
(oM 7 44,[])])
.ret))))))
def hg_:List RD:=[.tmp 6 true none,.tmp 7 true none]
theorem hE_:zl_ Tryz.prog Tryz.f144 Hc_ hg_=true:=by kernel_rfl
def xP_:List AV->List Obj->Option (Prop × AV)
 | [.agg [.int .i64 c,.int .i64 f,.bool h,.int .u64 x,.imm (.int .u8) v,.imm (.int .u8) m],.agg [.int .i64 sz,.int .i64 bits,.bool mk,.bool ex],.int .i64 n],[]=>some ((0<=n/\n<=255/\0<=sz/\sz<=100,.tup [.int .i64 (vT_ h ex sz n),.bool (Xs_ h ex sz n)]))
 | _,_=>none
theorem U5_:ze_ Tryz.prog 144 (RoF xP_).sum:=by
 refine zm_ Tryz.func144 hE_ (zd_ _) fun args objs p v e=>?_
 unfold xP_ at e
 split at e
 ·rename_i c f h x v m sz bits mk ex n
  cases e
  refine ⟨rfl,fun hw ho hp=>?_⟩
  change List Int at v
  change List Int at m
  have t1:(n - 4).tdiv 1=n - 4:=Int.tdiv_one _
  have t2:-4<=(n - 4).tdiv 2/\(n - 4).tdiv 2<=255:=by
   by_cases h:0<=n - 4
   ·rw [Z5_ h];omega
   ·have:n=0\/n=1\/n=2\/n=3:=by omega
    rcases this with h | h | h | h<;>subst h<;>decide
  have e2:(1+1:Int)=2:=rfl
  cases h<;>cases ex
  all_goals repeat'(intro t ht;first|(cases t<;>first|(cases ht;done)|(try simp only[zh_]at ht))|((first|refine za_ ht ?_|refine ht ?_ ?_|refine ht.1 ?_ ?_|refine ht ?_)<;>clear ht))
  all_goals (try simp only [e2] at*)
  all_goals first
   | exact True.intro
   | exact (by decide)
   | ((try simp only [zn_,zo_,zi_] at*);simp only [t1];omega)
   | ((try simp only [zn_,zo_,zi_] at*);omega)
   | (have hn:¬ 0<=n - 4:=by assumption
      refine ⟨?_,by first | rfl | exact True.intro⟩;unfold Xs_;rw [decide_eq_false hn];rfl)
   | (unfold vT_ Xs_;simp_all;done)
 ·cases e
end Go.Eng
