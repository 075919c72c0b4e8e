/- Parts of the proof: O2, O9, O5, O7, OA, OE, OI, M1, OG, R7, N1. No condition. -/
import Derived.Test.YtjajlkddpekdjaaDoorProg
import Derived.Test.YtjajlkddpekdjaaDoorXC10
import Derived.KernelRfl
namespace Go.Eng
open Go.Proofs
set_option linter.unusedVariables false
set_option linter.unusedSimpArgs false
set_option maxRecDepth 100000
set_option maxHeartbeats 1000000
structure Ox where
 c:Int
 f:Int
 has:Bool
 x:Int
 v:List Int
 m:List Int
def vI_:IR:=
(sq (kr [0] [oD 2 (.mov cF)])
(sq (kr [0] [oM 3 0,
oC 4 68 [3,(.c (.str [0]))],
oE 5 4,
oB 6 .eql 5 (cI 0),
oM 2 6])
.ret))
def vh_:List RD:=[.tmp 2 true none]
theorem vr_:zm_ Tryd.prog Tryd.f53 vI_ vh_=true:=by kernel_rfl
def jF_:List AV->List Obj->Option (Prop × AV)
 | [.imm (.int .u8) b],[]=>some ((b.length<=140737488355328,.bool (Va_ b)))
 | _,_=>none
theorem yi_:zf_ Tryd.prog 53 (RoF jF_).sum:=by
 refine zi_ Tryd.func53 vr_ (zb_ (s:=RoF KX_) xI_ (ze_ _)) fun args objs p v e=>?_
 unfold jF_ at e
 split at e
 ·rename_i b
  cases e
  refine ⟨rfl,fun hw ho hp=>?_⟩
  change List Int at b
  have h:=gy_ b
  repeat'(intro t ht;first|(cases t<;>first|(cases ht;done)|(try simp only[zg_]at ht))|((first|refine za_ ht ?_|refine ht ?_ ?_|refine ht.1 ?_ ?_|refine ht ?_)<;>clear ht))
  all_goals first
   | exact hp
   | (refine ⟨?_,rfl⟩;rw [<- h];congr 1;rw [Bool.eq_iff_iff];simp only [decide_eq_true_eq];omega)
 ·cases e
def Vv_ (s:Int):Int:=if 0 < s then (255:Int).fdiv (2 ^ (min (if 8 < s then 8 else s).toNat 8)) else 255
def jg_:List Int->Int->Bool
 | [],_=>true
 | x :: r,s=>if x=Vv_ s then jg_ r (s - 8) else false
def x6_ (b:List Int) (bits:Int):Bool:=jg_ b (b.length*8 - bits)
def V3_:IR:=
(sq (kr [0,1] [oD 4 (.mov cF)])
(sq (.reg [oM 10 0,
oE 11 10,
oB 12 .mul 11 (cI 8),
oM 5 12])
(sq (sq (.reg [oM 13 0,
oE 14 13,
oD 15 (.mov (cI 0))])
(.block 0
(.loop
(sq (kr [1,5,13,14,15] [oB 16 .lss 15 14])
(sq (.cond 16
.skip
(.exit 0))
(sq (.block 1
(sq (kr [1,5,13,14,15] [oM 17 15,
oI 18 1 13 15,
oL 19 18,
oM 6 17,
oM 7 19])
(sq (.reg [oD 8 (.mov (.c (.int .u8 255)))])
(sq (sq (kr [1,5,6,7,8,13,14,15] [oM 20 5,
oM 21 6,
oB 22 .mul 21 (cI 8),
oB 23 .sub 20 22,
oM 24 1,
oB 25 .sub 23 24,
oM 9 25])
(sq (kr [1,5,7,8,9,13,14,15] [oM 26 9,
oB 27 .gtr 26 (cI 0)])
(.cond 27
(kr [1,5,7,8,9,13,14,15] [oM 28 8,
oM 29 9,
oD 30 (.minmax false 29 (cI 8)),
oB 31 .shr 28 30,
oM 8 31])
.skip)))
(sq (.reg [oM 32 7,
oM 33 8,
oB 34 .neq 32 33])
(.cond 34
(sq (kr [] [oD 4 (.mov cF)])
.ret)
.skip))))))
(kr [1,5,13,14,15] [oB 35 .add 15 (cI 1),
oM 15 35])))))))
(sq (kr [] [oD 4 (.mov cT)])
.ret))))
def Vo_:List RD:=[.tmp 4 true none]
theorem VC_:zm_ Tryd.prog Tryd.f54 V3_ Vo_=true:=by kernel_rfl
def Jw_:List AV->List Obj->Option (Prop × AV)
 | [.imm (.int .u8) b,.int .i64 n],[]=>some ((0<=n/\n<=1000000/\b.length<=1000000,.bool (x6_ b n)))
 | _,_=>none
theorem Y5_:zf_ Tryd.prog 54 (RoF Jw_).sum:=by
 refine zi_ Tryd.func54 VC_ (ze_ _) fun args objs p v e=>?_
 unfold Jw_ at e
 split at e
 ·rename_i b n
  cases e
  refine ⟨rfl,fun hw ho hp=>?_⟩
  change List Int at b
  repeat'(intro t ht;first|(cases t<;>first|(cases ht;done)|(try simp only[zg_]at ht))|((first|refine za_ ht ?_|refine ht ?_ ?_|refine ht.1 ?_ ?_|refine ht ?_)<;>clear ht))
  all_goals first
   | ((try simp only [zZ_,z0_,zp_] at*);omega)
   | (intro r h1 h2;clear h1;refine h2 ⟨[1,5,13,14,15],Nat,(fun i=>i<=b.length/\x6_ b n=jg_ (b.drop i) (b.length*8 - i*8 - n)),fun i=>[.int .i64 n,.int .i64 (b.length*8),.imm (.int .u8) b,.int .i64 b.length,.int .i64 i],fun _=>[],fun i=>b.length - i,⟨0,⟨Nat.zero_le _,by unfold x6_;simp⟩,rfl,rfl⟩,?_⟩;clear h2)
  rintro i ⟨hi,he⟩
  repeat'(intro t ht;first|(cases t<;>first|(cases ht;done)|(try simp only[zg_]at ht))|((first|refine za_ ht ?_|refine ht ?_ ?_|refine ht.1 ?_ ?_|refine ht ?_)<;>clear ht))
  all_goals first
   | ((try simp only [zZ_,z0_,zp_] at*);omega)
   | (have h0:b.drop i=[]:=List.drop_of_length_le (by omega)
      refine ⟨?_,rfl⟩;rw [he,h0];rfl)
   | ((try simp only [zZ_,z0_,zp_] at*);split<;>omega)
   | (have hlt:i < b.length:=by omega
      rw [Zt_ hlt 0] at he
      first
       | (have hn:¬ 0 < (b.length:Int)*8 - i*8 - n:=by assumption
          have ho:Vv_ ((b.length:Int)*8 - i*8 - n)=255:=if_neg hn
          first
           | (have hx:b.getD i 0=255:=by assumption
              have h1:jg_ (b.getD i 0 :: b.drop (i+1)) ((b.length:Int)*8 - i*8 - n)=jg_ (b.drop (i+1)) ((b.length:Int)*8 - i*8 - n - 8):=if_pos (hx.trans ho.symm)
              refine ⟨i+1,⟨hlt,?_⟩,by dsimp only;omega,rfl,rfl⟩
              rw [he,h1];congr 1;omega)
           | (have hx:¬ b.getD i 0=255:=by assumption
              have h1:jg_ (b.getD i 0 :: b.drop (i+1)) ((b.length:Int)*8 - i*8 - n)=false:=if_neg (fun e=>hx (e.trans ho))
              refine ⟨?_,rfl⟩;rw [he,h1]))
       | (have hn:0 < (b.length:Int)*8 - i*8 - n:=by assumption
          have ho:Vv_ ((b.length:Int)*8 - i*8 - n)=(255:Int).fdiv (2 ^ (min (if 8 < (b.length:Int)*8 - i*8 - n then 8 else (b.length:Int)*8 - i*8 - n).toNat 8)):=if_pos hn
          first
           | (have hx:b.getD i 0=(255:Int).fdiv (2 ^ (min (if 8 < (b.length:Int)*8 - i*8 - n then 8 else (b.length:Int)*8 - i*8 - n).toNat 8)):=by assumption
              have h1:jg_ (b.getD i 0 :: b.drop (i+1)) ((b.length:Int)*8 - i*8 - n)=jg_ (b.drop (i+1)) ((b.length:Int)*8 - i*8 - n - 8):=if_pos (hx.trans ho.symm)
              refine ⟨i+1,⟨hlt,?_⟩,by dsimp only;omega,rfl,rfl⟩
              rw [he,h1];congr 1;omega)
           | (have hx:¬ b.getD i 0=(255:Int).fdiv (2 ^ (min (if 8 < (b.length:Int)*8 - i*8 - n then 8 else (b.length:Int)*8 - i*8 - n).toNat 8)):=by assumption
              have h1:jg_ (b.getD i 0 :: b.drop (i+1)) ((b.length:Int)*8 - i*8 - n)=false:=if_neg (fun e=>hx (e.trans ho))
              refine ⟨?_,rfl⟩;rw [he,h1])))
 ·cases e
def WT_:List Int->List Int->Bool
 | x :: r,y :: l=>if zo_ .andNot .u8 x y=0 then WT_ r l else true
 | _,_=>false
def Xq_:IR:=
(sq (kr [0,1] [oD 4 (.mov cF)])
(sq (sq (.reg [oM 7 0,
oE 8 7,
oD 9 (.mov (cI 0))])
(.block 0
(.loop
(sq (kr [1,7,8,9] [oB 10 .lss 9 8])
(sq (.cond 10
.skip
(.exit 0))
(sq (.block 1
(sq (kr [1,7,8,9] [oM 11 9,
oI 12 1 7 9,
oL 13 12,
oM 5 11,
oM 6 13])
(sq (kr [1,5,6,7,8,9] [oM 14 6,
oM 15 1,
oM 16 5,
oI 17 1 15 16,
oL 18 17,
oB 19 .andNot 14 18,
oB 20 .neq 19 (.c (.int .u8 0))])
(.cond 20
(sq (kr [] [oD 4 (.mov cT)])
.ret)
.skip))))
(kr [1,7,8,9] [oB 21 .add 9 (cI 1),
oM 9 21])))))))
(sq (kr [] [oD 4 (.mov cF)])
.ret)))
def xO_:List RD:=[.tmp 4 true none]
theorem x9_:zm_ Tryd.prog Tryd.f55 Xq_ xO_=true:=by kernel_rfl
def k4_:List AV->List Obj->Option (Prop × AV)
 | [.imm (.int .u8) v,.imm (.int .u8) m],[]=>some ((v.length<=m.length,.bool (WT_ v m)))
 | _,_=>none
theorem WI_:zf_ Tryd.prog 55 (RoF k4_).sum:=by
 refine zi_ Tryd.func55 x9_ (ze_ _) fun args objs p v e=>?_
 unfold k4_ at e
 split at e
 ·rename_i v m
  cases e
  refine ⟨rfl,fun hw ho hp=>?_⟩
  change List Int at v
  change List Int at m
  have hl:m.length<=maxLen:=(hw (.imm (.int .u8) m) (by simp)).2
  unfold maxLen at hl
  repeat'(intro t ht;first|(cases t<;>first|(cases ht;done)|(try simp only[zg_]at ht))|((first|refine za_ ht ?_|refine ht ?_ ?_|refine ht.1 ?_ ?_|refine ht ?_)<;>clear ht))
  all_goals first
   | (intro r h1 h2;clear h1;refine h2 ⟨[1,7,8,9],Nat,(fun i=>i<=v.length/\WT_ v m=WT_ (v.drop i) (m.drop i)),fun i=>[.imm (.int .u8) m,.imm (.int .u8) v,.int .i64 v.length,.int .i64 i],fun _=>[],fun i=>v.length - i,⟨0,⟨Nat.zero_le _,rfl⟩,rfl,rfl⟩,?_⟩;clear h2)
  rintro i ⟨hi,he⟩
  repeat'(intro t ht;first|(cases t<;>first|(cases ht;done)|(try simp only[zg_]at ht))|((first|refine za_ ht ?_|refine ht ?_ ?_|refine ht.1 ?_ ?_|refine ht ?_)<;>clear ht))
  all_goals first
   | ((try simp only [zZ_,z0_,zp_] at*);omega)
   | (have h0:v.drop i=[]:=List.drop_of_length_le (by omega)
      refine ⟨?_,rfl⟩;rw [he,h0];rfl)
   | (have hlt:i < v.length:=by omega
      have hlm:i < m.length:=by omega
      rw [Zt_ hlt 0,Zt_ hlm 0] at he
      first
       | (have hx:zo_ .andNot .u8 (v.getD i 0) (m.getD i 0)=0:=by assumption
          have h1:WT_ (v.getD i 0 :: v.drop (i+1)) (m.getD i 0 :: m.drop (i+1))=WT_ (v.drop (i+1)) (m.drop (i+1)):=if_pos hx
          exact ⟨i+1,⟨hlt,by rw [he,h1]⟩,by dsimp only;omega,rfl,rfl⟩)
       | (have hx:¬ zo_ .andNot .u8 (v.getD i 0) (m.getD i 0)=0:=by assumption
          have h1:WT_ (v.getD i 0 :: v.drop (i+1)) (m.getD i 0 :: m.drop (i+1))=true:=if_neg hx
          refine ⟨?_,rfl⟩;rw [he,h1]))
 ·cases e
def VJ_ (c f:Int):Bool:=if c=65535 then decide (0<=f) && decide (f<=127) else fIs f && decide (c=32768)
def k2_ (c f:Int):Int:=if c=65535 then 100 else jr_ f
def QE_ (c f:Int):Int:=if c=65535 then 0 else kF_ f
def wO_ (c f:Int):Bool:=if c=65535 then true else hy_ f
def Zb_ (c:Int):Bool:=decide (c=65535)
theorem fK:∀ k < 40,0<=jr_ (k:Nat)/\jr_ (k:Nat)<=16/\0<=kF_ (k:Nat)/\kF_ (k:Nat)<=128:=by decide+kernel
theorem BD_ (f:Int):0<=jr_ f/\jr_ f<=16/\0<=kF_ f/\kF_ f<=128:=by
 cases h:fIs f with
 | true=>
   have hn:=kE_.1 h
   have:=fK f.toNat (by omega)
   rwa [Int.toNat_of_nonneg hn.1] at this
 | false=>unfold jr_ kF_;rw [h];simp
theorem GV_ (c f:Int):0<=k2_ c f/\k2_ c f<=100/\0<=QE_ c f/\QE_ c f<=128:=by
 have:=BD_ f
 unfold k2_ QE_;split<;>omega
def g0_:IR:=
(sq (kr [0] [oD 1 (.boxv 0),
oD 2 (.box [.int .i64 0,.int .i64 0,.kb false,.kb false]),
oD 3 (.mov cF)])
(sq (sq (.reg [oA 6 0 1,
oL 7 6,
oB 8 .eql 7 (cI 65535)])
(.cond 8
(sq (kd [1,2] [(oD 9 (.build [.int .i64 0,.int .i64 0,.kb false,.kb false] [(0,1,(cI 100)),(2,1,cT),(3,1,cT)]),[]),
(oA 10 1 1,[0]),
(oL 11 10,[1]),
(oB 12 .geq 11 (cI 0),[2]),
(oM 13 12,[3]),
(oT 13 14 (.fieldAddr 1 1),[4]),
(oT 13 15 (.load none 14),[5]),
(oT 13 16 (.bin .leq 15 (cI 127)),[6]),
(oP 17 13 16 cF,[7]),
(oS 4 2 9,[0,0,0,0]),
(oM 3 17,[])])
.ret)
.skip))
(sq (kr [1,2] [oA 19 1 1,
oL 20 19,
oC 21 51 [20],
oM 18 21,
oX 22 18 0,
oX 23 18 1,
oD 4 (.box [.int .i64 0,.int .i64 0,.kb false,.int .i64 0,.imm (.int .u64) []]),
oS 5 4 22,
oM 5 23])
(sq (kd [1,2,4,5] [(oA 24 1 4,[]),
(oL 25 24,[]),
(oA 26 0 4,[0,0]),
(oL 27 26,[1,0]),
(oA 28 2 4,[0,0,0,0]),
(oL 29 28,[1,0,0,0]),
(oD 30 (.build [.int .i64 0,.int .i64 0,.kb false,.kb false] [(0,1,25),(1,1,27),(2,1,29)]),[]),
(oM 31 5,[0,0,0,0,0,0,0]),
(oM 32 31,[1,0,0,0,0,0,0]),
(oT 32 33 (.fieldAddr 0 1),[2,0,0,0,0,0,0]),
(oT 32 34 (.load none 33),[3,0,0,0,0,0,0]),
(oT 32 35 (.bin .eql 34 (cI 32768)),[4,0,0,0,0,0,0]),
(oP 36 32 35 cF,[5,0,0,0,0,0,0]),
(oS 4 2 30,[0,0,0,0]),
(oM 3 36,[])])
.ret))))
def gK_:List RD:=[.cell 2 (some 4) true [],.tmp 3 true none]
theorem gN_:zm_ Tryd.prog Tryd.f31 g0_ gK_=true:=by kernel_rfl
def X7_:List AV->List Obj->Option (Prop × AV)
 | [.agg [.int .i64 c,.int .i64 f,.bool h,.int .u64 x,.imm (.int .u8) v,.imm (.int .u8) m]],[]=>some ((True,.tup [.agg [.int .i64 (k2_ c f),.int .i64 (QE_ c f),.bool (wO_ c f),.bool (Zb_ c)],.bool (VJ_ c f)]))
 | _,_=>none
theorem uP_:zf_ Tryd.prog 31 (RoF X7_).sum:=by
 refine zi_ Tryd.func31 gN_ (zb_ (s:=RoF QM_) kh_ (ze_ _)) fun args objs p v e=>?_
 unfold X7_ at e
 split at e
 ·rename_i c f h x v m
  cases e
  refine ⟨rfl,fun hw ho hp=>?_⟩
  change List Int at v
  change List Int at m
  repeat'(intro t ht;first|(cases t<;>first|(cases ht;done)|(try simp only[zg_]at ht))|((first|refine za_ ht ?_|refine ht ?_ ?_|refine ht.1 ?_ ?_|refine ht ?_)<;>clear ht))
  all_goals first
   | exact True.intro
   | (simp_all [VJ_,k2_,QE_,wO_,Zb_];done)
   | (simp_all [VJ_,k2_,QE_,wO_,Zb_];omega)
 ·cases e
def wt_ (f:Int) (h:Bool) (v m:List Int) (bits:Int) (ex:Bool):Int:=
 if ex=false/\kX_ f v=false then 1032 else if h=true/\ex=false/\kX_ f m=false then 1033
 else if h=true/\(Va_ m=true\/x6_ m (if ex=true then m.length*8 else bits)=true) then 1033 else if h=true/\WT_ v m=true then 1030 else 0
def vH_:IR:=
(sq (kr [0,1] [oD 2 (.boxv 0),
oD 3 (.boxv 1),
oD 4 (.mov (cI 0))])
(sq (sq (.reg [oA 5 3 3,
oL 6 5])
(.cond 6
(kr [2,3] [oA 7 5 2,
oL 8 7,
oE 9 8,
oB 10 .mul 9 (cI 8),
oA 11 1 3,
oS 1 11 10])
.skip))
(sq (.block 0
(sq (.block 3
(.block 2
(sq (.block 1
(sq (sq (sq (kr [2,3] [oA 13 3 3,
oL 14 13,
oD 15 (.un .not 14),
oM 16 15,
oT 16 17 (.fieldAddr 1 2),
oT 16 18 (.load none 17),
oT 16 19 (.fieldAddr 4 2),
oT 16 20 (.load none 19),
oT 16 21 (.call false (.f 52) [18,20]),
oT 16 22 (.un .not 21),
oP 23 16 22 cF,
oM 12 23])
(.cond 12
(.exit 1)
.skip))
(sq (sq (kr [2,3] [oA 25 2 2,
oL 26 25,
oM 27 26,
oT 27 28 (.fieldAddr 3 3),
oT 27 29 (.load none 28),
oT 27 30 (.un .not 29),
oP 31 27 30 cF,
oM 32 31,
oT 32 33 (.fieldAddr 1 2),
oT 32 34 (.load none 33),
oT 32 35 (.fieldAddr 5 2),
oT 32 36 (.load none 35),
oT 32 37 (.call false (.f 52) [34,36]),
oT 32 38 (.un .not 37),
oP 39 32 38 cF,
oM 24 39])
(.cond 24
(.exit 2)
.skip))
(sq (kr [2,3] [oA 41 2 2,
oL 42 41,
oM 43 42,
oT 43 44 (.fieldAddr 5 2),
oT 43 45 (.load none 44),
oT 43 46 (.call false (.f 53) [45]),
oT 43 47 (.mov 46),
oF 47 48 (.fieldAddr 5 2),
oF 47 49 (.load none 48),
oF 47 50 (.fieldAddr 1 3),
oF 47 51 (.load none 50),
oF 47 52 (.call false (.f 54) [49,51]),
oT 43 53 (.pick 47 cT 52),
oP 54 43 53 cF,
oM 40 54])
(.cond 40
(.exit 3)
.skip))))
(.exit 0)))
(sq (sq (kr [] [oD 4 (.mov (cI 1032))])
.ret)
(.exit 0)))))
(sq (sq (kr [] [oD 4 (.mov (cI 1033))])
.ret)
(.exit 0))))
(sq (sq (kr [2] [oA 55 2 2,
oL 56 55,
oM 57 56,
oT 57 58 (.fieldAddr 4 2),
oT 57 59 (.load none 58),
oT 57 60 (.fieldAddr 5 2),
oT 57 61 (.load none 60),
oT 57 62 (.call false (.f 55) [59,61]),
oP 63 57 62 cF])
(.cond 63
(sq (kr [] [oD 4 (.mov (cI 1030))])
.ret)
.skip))
(sq (kr [] [oD 4 (.mov (cI 0))])
.ret)))))
def vg_:List RD:=[.tmp 4 true none]
theorem vq_:zm_ Tryd.prog Tryd.f32 vH_ vg_=true:=by kernel_rfl
def jE_:List AV->List Obj->Option (Prop × AV)
 | [.agg [.int .i64 c,.int .i64 f,.bool h,.int .u64 x,.imm (.int .u8) v,.imm (.int .u8) m],.agg [.int .i64 sz,.int .i64 bits,.bool mk,.bool ex]],[]=>some (((h=true->v.length<=m.length)/\m.length<=100000/\0<=bits/\bits<=1000000,.int .i64 (wt_ f h v m bits ex)))
 | _,_=>none
theorem yh_:zf_ Tryd.prog 32 (RoF jE_).sum:=by
 refine zi_ Tryd.func32 vq_ (zb_ (s:=RoF KT_) xE_ (zb_ (s:=RoF jF_) yi_ (zb_ (s:=RoF Jw_) Y5_ (zb_ (s:=RoF k4_) WI_ (ze_ _))))) fun args objs p v e=>?_
 unfold jE_ at e
 split at e
 ·rename_i c f h x v m sz bits mk ex
  cases e
  refine ⟨rfl,fun hw ho hp=>?_⟩
  change List Int at v
  change List Int at m
  cases h<;>cases ex
  all_goals repeat'(intro t ht;first|(cases t<;>first|(cases ht;done)|(try simp only[zg_]at ht))|((first|refine za_ ht ?_|refine ht ?_ ?_|refine ht.1 ?_ ?_|refine ht ?_)<;>clear ht))
  all_goals first
   | exact True.intro
   | exact hp.1 rfl
   | ((try simp only [zZ_,z0_,zp_] at*);omega)
   | (unfold wt_;simp_all;done)
 ·cases e
def Wq_ (c:Int) (v m:List Int):Int:=if c=65535 then (v.length:Int)+m.length+4 else (v.length:Int)+m.length
def qK_ (c f:Int) (h:Bool) (x:Int) (v m:List Int):Bool:=
 VJ_ c f && (!h || wO_ c f) && (Zb_ c || decide (x=0)) && decide (x.fdiv (2 ^ (min (Int.toNat 32) IntKind.u64.bits))=0) &&
  (match h with | true=>decide ((m.length:Int)=v.length) | false=>decide (m.length=0)) && decide ((v.length:Int)<=k2_ c f) && decide (wt_ f h v m (QE_ c f) (Zb_ c)=0)
def vJ_:IR:=
(sq (kr [0] [oD 1 (.boxv 0),
oD 2 (.mov cF)])
(sq (kr [1] [oK 6 6 1,
oC 7 31 [6],
oM 5 7,
oX 8 5 0,
oX 9 5 1,
oD 3 (.box [.int .i64 0,.int .i64 0,.kb false,.kb false]),
oS 4 3 8,
oM 4 9])
(sq (.block 0
(sq (.block 4
(sq (.block 3
(.block 2
(sq (.block 1
(sq (sq (sq (kr [1,3,4] [oM 11 4,
oD 12 (.un .not 11),
oM 13 12,
oF 13 14 (.fieldAddr 2 1),
oF 13 15 (.load none 14),
oF 13 16 (.mov 15),
oT 16 17 (.fieldAddr 2 3),
oT 16 18 (.load none 17),
oT 16 19 (.un .not 18),
oF 13 20 (.pick 16 19 cF),
oP 21 13 cT 20,
oM 10 21])
(.cond 10
(.exit 1)
.skip))
(sq (sq (kr [1,3] [oA 23 3 3,
oL 24 23,
oD 25 (.un .not 24),
oM 26 25,
oT 26 27 (.fieldAddr 3 1),
oT 26 28 (.load none 27),
oT 26 29 (.bin .neq 28 (.c (.int .u64 0))),
oP 30 26 29 cF,
oM 22 30])
(.cond 22
(.exit 2)
.skip))
(sq (sq (kr [1,3] [oA 32 3 1,
oL 33 32,
oB 34 .shr 33 (.c (.int .u64 32)),
oB 35 .neq 34 (.c (.int .u64 0)),
oM 31 35])
(.cond 31
(.exit 3)
.skip))
(sq (kr [1,3] [oA 37 2 1,
oL 38 37,
oM 39 38,
oT 39 40 (.fieldAddr 5 1),
oT 39 41 (.load none 40),
oT 39 42 (.len 41),
oT 39 43 (.fieldAddr 4 1),
oT 39 44 (.load none 43),
oT 39 45 (.len 44),
oT 39 46 (.bin .neq 42 45),
oP 47 39 46 cF,
oM 48 47,
oF 48 49 (.fieldAddr 2 1),
oF 48 50 (.load none 49),
oF 48 51 (.un .not 50),
oF 48 52 (.mov 51),
oT 52 53 (.fieldAddr 5 1),
oT 52 54 (.load none 53),
oT 52 55 (.len 54),
oT 52 56 (.bin .gtr 55 (cI 0)),
oF 48 57 (.pick 52 56 cF),
oP 58 48 cT 57,
oM 59 58,
oF 59 60 (.fieldAddr 4 1),
oF 59 61 (.load none 60),
oF 59 62 (.len 61),
oF 59 63 (.fieldAddr 0 3),
oF 59 64 (.load none 63),
oF 59 65 (.bin .gtr 62 64),
oP 66 59 cT 65,
oM 36 66])
(.cond 36
(.exit 4)
.skip)))))
(.exit 0)))
(sq (sq (kr [] [oD 2 (.mov cF)])
.ret)
(.exit 0)))))
(sq (sq (kr [] [oD 2 (.mov cF)])
.ret)
(.exit 0))))
(sq (sq (kr [] [oD 2 (.mov cF)])
.ret)
(.exit 0))))
(sq (kr [1,3] [oK 67 6 1,
oK 68 4 3,
oC 69 32 [67,68],
oB 70 .eql 69 (cI 0),
oM 2 70])
.ret))))
def vi_:List RD:=[.tmp 2 true none]
theorem vs_:zm_ Tryd.prog Tryd.f15 vJ_ vi_=true:=by kernel_rfl
def k0_:List AV->List Obj->Option (Prop × AV)
 | [.agg [.int .i64 c,.int .i64 f,.bool h,.int .u64 x,.imm (.int .u8) v,.imm (.int .u8) m]],[]=>some ((v.length<=1000000/\m.length<=1000000,.bool (qK_ c f h x v m)))
 | _,_=>none
theorem j3_:zf_ Tryd.prog 15 (RoF k0_).sum:=by
 refine zi_ Tryd.func15 vs_ (zb_ (s:=RoF X7_) uP_ (zb_ (s:=RoF jE_) yh_ (ze_ _))) fun args objs p v e=>?_
 unfold k0_ at e
 split at e
 ·rename_i c f h x v m
  cases e
  refine ⟨rfl,fun hw ho hp=>?_⟩
  change List Int at v
  change List Int at m
  have hof:=GV_ c f
  cases h
  all_goals repeat'(intro t ht;first|(cases t<;>first|(cases ht;done)|(try simp only[zg_]at ht))|((first|refine za_ ht ?_|refine ht ?_ ?_|refine ht.1 ?_ ?_|refine ht ?_)<;>clear ht))
  all_goals first
   | exact True.intro
   | exact (by decide)
   | (refine ⟨fun h=>?_,?_,?_,?_⟩<;>first | omega | (cases h;done))
   | (unfold qK_;simp_all;done)
   | (have h0:¬ m.length=0:=by omega
      unfold qK_;simp_all;done)
   | (unfold qK_;simp_all;omega)
 ·cases e
def V2_:IR:=
(sq (kr [0] [oD 1 (.boxv 0),
oD 2 (.mov (cI 0))])
(sq (kr [1] [oA 4 4 1,
oL 5 4,
oE 6 5,
oA 7 5 1,
oL 8 7,
oE 9 8,
oB 10 .add 6 9,
oM 3 10])
(sq (sq (kr [1,3] [oA 11 0 1,
oL 12 11,
oB 13 .eql 12 (cI 65535)])
(.cond 13
(.reg [oM 14 3,
oB 15 .add 14 (cI 4),
oM 3 15])
.skip))
(sq (kr [3] [oM 16 3,
oM 2 16])
.ret))))
def Vn_:List RD:=[.tmp 2 true none]
theorem VB_:zm_ Tryd.prog Tryd.f58 V2_ Vn_=true:=by kernel_rfl
def Jv_:List AV->List Obj->Option (Prop × AV)
 | [.agg [.int .i64 c,.int .i64 f,.bool h,.int .u64 x,.imm (.int .u8) v,.imm (.int .u8) m]],[]=>some ((v.length<=1000000/\m.length<=1000000,.int .i64 (Wq_ c v m)))
 | _,_=>none
theorem Y4_:zf_ Tryd.prog 58 (RoF Jv_).sum:=by
 refine zi_ Tryd.func58 VB_ (ze_ _) fun args objs p v e=>?_
 unfold Jv_ at e
 split at e
 ·rename_i c f h x v m
  cases e
  refine ⟨rfl,fun hw ho hp=>?_⟩
  change List Int at v
  change List Int at m
  repeat'(intro t ht;first|(cases t<;>first|(cases ht;done)|(try simp only[zg_]at ht))|((first|refine za_ ht ?_|refine ht ?_ ?_|refine ht.1 ?_ ?_|refine ht ?_)<;>clear ht))
  all_goals first
   | ((try simp only [zZ_,z0_,zp_] at*);omega)
   | (unfold Wq_;simp_all;done)
 ·cases e
theorem Yi_ {c f:Int} {h:Bool} {x:Int} {v m:List Int} (hr:qK_ c f h x v m=true):(v.length:Int)<=k2_ c f/\(h=true->(m.length:Int)=v.length)/\(h=false->m.length=0)/\VJ_ c f=true/\(h=true->wO_ c f=true)/\(Zb_ c=true\/x=0)/\x.fdiv (2 ^ (min (Int.toNat 32) IntKind.u64.bits))=0/\wt_ f h v m (QE_ c f) (Zb_ c)=0:=by
 unfold qK_ at hr
 simp only [Bool.and_eq_true,Bool.or_eq_true,decide_eq_true_eq] at hr
 obtain ⟨⟨⟨⟨⟨⟨a1,a2⟩,a3⟩,a4⟩,a5⟩,a6⟩,a7⟩:=hr
 cases h with
 | true=>exact ⟨a6,fun _=>of_decide_eq_true a5,fun h=>(by cases h),a1,fun _=>a2.resolve_left (by simp),a3,a4,a7⟩
 | false=>exact ⟨a6,fun h=>(by cases h),fun _=>of_decide_eq_true a5,a1,fun h=>(by cases h),a3,a4,a7⟩
def xJ_ (c f:Int) (h:Bool) (x:Int) (v m:List Int):Int:=if qK_ c f h x v m=true then 4+Wq_ c v m else 0
def V4_:IR:=
(sq (kr [0] [oD 1 (.boxv 0),
oD 2 (.mov (cI 0))])
(sq (sq (.reg [oK 3 6 1,
oC 4 15 [3],
oD 5 (.un .not 4)])
(.cond 5
(sq (.reg [oD 2 (.mov (cI 0))])
.ret)
.skip))
(sq (kr [1] [oK 6 6 1,
oC 7 58 [6],
oB 8 .add (cI 4) 7,
oM 2 8])
.ret)))
def Vp_:List RD:=[.tmp 2 true none]
theorem VD_:zm_ Tryd.prog Tryd.f36 V4_ Vp_=true:=by kernel_rfl
def Jx_:List AV->List Obj->Option (Prop × AV)
 | [.agg [.int .i64 c,.int .i64 f,.bool h,.int .u64 x,.imm (.int .u8) v,.imm (.int .u8) m]],[]=>some ((v.length<=1000000/\m.length<=1000000,.int .i64 (xJ_ c f h x v m)))
 | _,_=>none
theorem Y6_:zf_ Tryd.prog 36 (RoF Jx_).sum:=by
 refine zi_ Tryd.func36 VD_ (zb_ (s:=RoF k0_) j3_ (zb_ (s:=RoF Jv_) Y4_ (ze_ _))) fun args objs p v e=>?_
 unfold Jx_ at e
 split at e
 ·rename_i c f h x v m
  cases e
  refine ⟨rfl,fun hw ho hp=>?_⟩
  change List Int at v
  change List Int at m
  repeat'(intro t ht;first|(cases t<;>first|(cases ht;done)|(try simp only[zg_]at ht))|((first|refine za_ ht ?_|refine ht ?_ ?_|refine ht.1 ?_ ?_|refine ht ?_)<;>clear ht))
  all_goals first
   | exact hp
   | (have hr:qK_ c f h x v m=true:=by assumption
      have hl:=Yi_ hr
      have hof:=GV_ c f
      have hm:(m.length:Int)<=100:=by cases h;have:=hl.2.2.1 rfl;omega;have:=hl.2.1 rfl;omega
      have hrest:0<=Wq_ c v m/\Wq_ c v m<=204:=by unfold Wq_;split<;>omega
      first
       | ((try simp only [zZ_,z0_,zp_] at*);omega)
       | (unfold xJ_;rw [if_pos hr];exact ⟨rfl,rfl⟩))
   | (have hr:qK_ c f h x v m=false:=by assumption
      unfold xJ_;rw [hr];exact ⟨rfl,rfl⟩)
 ·cases e
def BA_ (c f:Int) (h:Bool) (v m:List Int):List Int:=vY_ c 2++vY_ (2*f+if h=true then 1 else 0) 1++vY_ (Wq_ c v m) 1
def B3_ (c f:Int) (h:Bool) (x:Int) (v m:List Int):List Int:=BA_ c f h v m++(if c=65535 then vY_ x 4 else [])++v++m
def Bw_ (h ex:Bool) (sz n:Int):Int:=if ex=true then (n - 4).tdiv (if h=true then 2 else 1) else sz
def Bx_ (h ex:Bool) (sz n:Int):Bool:=if ex=true then decide (0<=n - 4) && decide ((n - 4).tmod (if h=true then 2 else 1)=0) && decide ((n - 4).tdiv (if h=true then 2 else 1)<=sz) else decide (n=(if h=true then 2 else 1)*sz)
def XO_ (b:List Int):Int:=Bu_ (b.take 2)
def Uo_ (b:List Int):Int:=(b.getD 2 0).tdiv 2
def Un_ (b:List Int):Bool:=decide ((b.getD 2 0).tmod 2=1)
def B4_ (b:List Int):Int:=if XO_ b=65535 then Bu_ ((b.drop 4).take 4) else 0
def hB_ (b:List Int):Int:=if XO_ b=65535 then 8 else 4
def g7_ (b:List Int):Int:=Bw_ (Un_ b) (Zb_ (XO_ b)) (k2_ (XO_ b) (Uo_ b)) (b.getD 3 0)
def B6_ (b:List Int):Bool:=Bx_ (Un_ b) (Zb_ (XO_ b)) (k2_ (XO_ b) (Uo_ b)) (b.getD 3 0)
def BH_ (b:List Int):List Int:=(b.take (hB_ b+g7_ b).toNat).drop (hB_ b).toNat
def BJ_ (b:List Int):List Int:=if Un_ b=true then (b.take (hB_ b+g7_ b+g7_ b).toNat).drop (hB_ b+g7_ b).toNat else []
def B5_ (b:List Int):Int:=hB_ b+g7_ b+if Un_ b=true then g7_ b else 0
def H1_ (b:List Int):Int:=if b.length < 4 then 1026 else if VJ_ (XO_ b) (Uo_ b)=false then 1031 else if Un_ b=true/\wO_ (XO_ b) (Uo_ b)=false then 1033 else if B6_ b=false\/(b.length:Int) - 4 < b.getD 3 0 then 1026 else wt_ (Uo_ b) (Un_ b) (BH_ b) (BJ_ b) (QE_ (XO_ b) (Uo_ b)) (Zb_ (XO_ b))
def H0_ (b:List Int) (x:Int):Int:=if H1_ b=0 then x else 0
def BI_ (b:List Int) (l:List Int):List Int:=if H1_ b=0 then l else []
def vF_:IR:=
(sq (kr [0,1] [oD 2 (.boxv 0),
oD 3 (.boxv 1),
oD 4 (.mov cF)])
(sq (kr [2,3] [oA 5 0 2,
oL 6 5,
oA 7 0 3,
oL 8 7,
oB 9 .eql 6 8,
oM 10 9,
oT 10 11 (.fieldAddr 1 2),
oT 10 12 (.load none 11),
oT 10 13 (.fieldAddr 1 3),
oT 10 14 (.load none 13),
oT 10 15 (.bin .eql 12 14),
oP 16 10 15 cF,
oM 17 16,
oT 17 18 (.fieldAddr 3 2),
oT 17 19 (.load none 18),
oT 17 20 (.fieldAddr 3 3),
oT 17 21 (.load none 20),
oT 17 22 (.bin .eql 19 21),
oP 23 17 22 cF,
oM 4 23])
.ret))
def ve_:List RD:=[.tmp 4 true none]
theorem vo_:zm_ Tryd.prog Tryd.f49 vF_ ve_=true:=by kernel_rfl
def jC_:List AV->List Obj->Option (Prop × AV)
 | [.agg [.int .i64 c,.int .i64 f,.bool h,.int .u64 x,.imm (.int .u8) v,.imm (.int .u8) m],.agg [.int .i64 c',.int .i64 f',.bool h',.int .u64 x',.imm (.int .u8) v',.imm (.int .u8) m']],[]=>some ((True,.bool (decide (c=c') && decide (f=f') && decide (x=x'))))
 | _,_=>none
theorem yf_:zf_ Tryd.prog 49 (RoF jC_).sum:=by
 refine zi_ Tryd.func49 vo_ (ze_ _) fun args objs p v e=>?_
 unfold jC_ at e
 split at e
 ·rename_i c f h x v m c' f' h' x' v' m'
  cases e
  refine ⟨rfl,fun hw ho hp=>?_⟩
  change List Int at v
  change List Int at m
  change List Int at v'
  change List Int at m'
  repeat'(intro t ht;first|(cases t<;>first|(cases ht;done)|(try simp only[zg_]at ht))|((first|refine za_ ht ?_|refine ht ?_ ?_|refine ht.1 ?_ ?_|refine ht ?_)<;>clear ht))
  all_goals first
   | exact True.intro
   | (simp_all;done)
 ·cases e
def Wo_ (c f:Int) (h:Bool) (x:Int) (v m:List Int) (c' f':Int) (h':Bool) (x':Int) (v' m':List Int):Bool:=decide (c=c') && decide (f=f') && decide (x=x') && (h == h') && decide (v=v') && decide (m=m')
theorem gG_ (c f:Int) (h:Bool) (x:Int) (v m:List Int):Wo_ c f h x v m c f h x v m=true:=by unfold Wo_;simp
def V1_:IR:=
(sq (kr [0,1] [oD 2 (.boxv 0),
oD 3 (.boxv 1),
oD 4 (.mov cF)])
(sq (kr [2,3] [oK 5 6 2,
oK 6 6 3,
oC 7 49 [5,6],
oM 8 7,
oT 8 9 (.fieldAddr 2 2),
oT 8 10 (.load none 9),
oT 8 11 (.fieldAddr 2 3),
oT 8 12 (.load none 11),
oT 8 13 (.eqb false 10 12),
oP 14 8 13 cF,
oM 15 14,
oT 15 16 (.fieldAddr 4 2),
oT 15 17 (.load none 16),
oT 15 18 (.fieldAddr 4 3),
oT 15 19 (.load none 18),
oT 15 20 (.call false (.f 50) [17,19]),
oP 21 15 20 cF,
oM 22 21,
oT 22 23 (.fieldAddr 5 2),
oT 22 24 (.load none 23),
oT 22 25 (.fieldAddr 5 3),
oT 22 26 (.load none 25),
oT 22 27 (.call false (.f 50) [24,26]),
oP 28 22 27 cF,
oM 4 28])
.ret))
def Vm_:List RD:=[.tmp 4 true none]
theorem VA_:zm_ Tryd.prog Tryd.f28 V1_ Vm_=true:=by kernel_rfl
def Ju_:List AV->List Obj->Option (Prop × AV)
 | [.agg [.int .i64 c,.int .i64 f,.bool h,.int .u64 x,.imm (.int .u8) v,.imm (.int .u8) m],.agg [.int .i64 c',.int .i64 f',.bool h',.int .u64 x',.imm (.int .u8) v',.imm (.int .u8) m']],[]=>some ((True,.bool (Wo_ c f h x v m c' f' h' x' v' m')))
 | _,_=>none
theorem Y3_:zf_ Tryd.prog 28 (RoF Ju_).sum:=by
 refine zi_ Tryd.func28 VA_ (zb_ (s:=RoF jC_) yf_ (zb_ (s:=RoF jD_) yg_ (ze_ _))) fun args objs p v e=>?_
 unfold Ju_ at e
 split at e
 ·rename_i c f h x v m c' f' h' x' v' m'
  cases e
  refine ⟨rfl,fun hw ho hp=>?_⟩
  change List Int at v
  change List Int at m
  change List Int at v'
  change List Int at m'
  repeat'(intro t ht;first|(cases t<;>first|(cases ht;done)|(try simp only[zg_]at ht))|((first|refine za_ ht ?_|refine ht ?_ ?_|refine ht.1 ?_ ?_|refine ht ?_)<;>clear ht))
  all_goals first
   | exact True.intro
   | (refine ⟨?_,rfl⟩;unfold Wo_;simp_all;done)
   | (refine ⟨?_,rfl⟩;unfold Wo_;cases h<;>cases h'<;>simp_all;done)
   | (refine ⟨?_,rfl⟩;unfold Wo_;rcases ‹(¬c=c'\/¬f=f')\/¬x=x'› with (h1 | h1) | h1<;>rw [decide_eq_false h1]<;>simp)
 ·cases e
def Uf_:IR:=
(sq (kr [0] [oD 1 (.boxv 0),
oD 2 (.mov cF)])
(sq (kr [1] [oA 3 4 1,
oL 4 3,
oE 5 4,
oB 6 .leq 5 (cI 300),
oM 7 6,
oT 7 8 (.fieldAddr 5 1),
oT 7 9 (.load none 8),
oT 7 10 (.len 9),
oT 7 11 (.bin .leq 10 (cI 300)),
oP 12 7 11 cF,
oM 2 12])
.ret))
def uV_:List RD:=[.tmp 2 true none]
theorem uY_:zm_ Tryd.prog Tryd.f12 Uf_ uV_=true:=by kernel_rfl
def We_:List AV->List Obj->Option (Prop × AV)
 | [.agg [.int .i64 c,.int .i64 f,.bool h,.int .u64 x,.imm (.int .u8) v,.imm (.int .u8) m]],[]=>some ((True,.bool (decide (v.length<=300) && decide (m.length<=300))))
 | _,_=>none
theorem Vf_:zf_ Tryd.prog 12 (RoF We_).sum:=by
 refine zi_ Tryd.func12 uY_ (ze_ _) fun args objs p v e=>?_
 unfold We_ at e
 split at e
 ·rename_i c f h x v m
  cases e
  refine ⟨rfl,fun hw ho hp=>?_⟩
  change List Int at v
  change List Int at m
  repeat'(intro t ht;first|(cases t<;>first|(cases ht;done)|(try simp only[zg_]at ht))|((first|refine za_ ht ?_|refine ht ?_ ?_|refine ht.1 ?_ ?_|refine ht ?_)<;>clear ht))
  all_goals first
   | exact True.intro
   | (simp_all;done)
   | (have e:decide (v.length<=300)=false:=decide_eq_false (by omega)
      rw [e];exact ⟨rfl,rfl⟩)
   | (have e:decide (v.length<=300)=true:=decide_eq_true (by omega)
      rw [e];refine ⟨?_,rfl⟩;rw [Bool.true_and];congr 1;rw [Bool.eq_iff_iff];simp only [decide_eq_true_eq];omega)
 ·cases e
def L1:List Int:=[128,0,10,2,8,0,7]
def L2:List Int:=[128,0,11,4,8,0,8,0]
theorem s1:H1_ L1=0/\H0_ L1 (XO_ L1)=32768/\H0_ L1 (Uo_ L1)=5/\Un_ L1=false/\H0_ L1 (B4_ L1)=0/\BI_ L1 (BH_ L1)=[8,0]/\BI_ L1 (BJ_ L1)=[]/\H0_ L1 (B5_ L1)=6/\H1_ L2=1033:=by decide+kernel
theorem s2:qK_ 32768 5 false 0 [8,0] []=true/\B3_ 32768 5 false 0 [8,0] []=[128,0,10,2,8,0]:=by decide+kernel
def vK_:IR:=
(sq (kr [0,1] [oD 2 (.boxv 0),
oD 3 (.boxv 1),
oD 4 (.mov cF)])
(sq (kr [2,3] [oA 5 0 2,
oL 6 5,
oA 7 0 3,
oL 8 7,
oB 9 .eql 6 8,
oM 10 9,
oT 10 11 (.fieldAddr 1 2),
oT 10 12 (.load none 11),
oT 10 13 (.fieldAddr 1 3),
oT 10 14 (.load none 13),
oT 10 15 (.bin .eql 12 14),
oP 16 10 15 cF,
oM 17 16,
oT 17 18 (.fieldAddr 3 2),
oT 17 19 (.load none 18),
oT 17 20 (.fieldAddr 3 3),
oT 17 21 (.load none 20),
oT 17 22 (.bin .eql 19 21),
oP 23 17 22 cF,
oM 4 23])
.ret))
def vj_:List RD:=[.tmp 4 true none]
theorem vt_:zm_ Tryd.prog Tryd.f34 vK_ vj_=true:=by kernel_rfl
def qP_:List AV->List Obj->Option (Prop × AV)
 | [.agg [.int .i64 c,.int .i64 f,.bool h,.int .u64 x,.imm (.int .u8) v,.imm (.int .u8) m],.agg [.int .i64 c',.int .i64 f',.bool h',.int .u64 x',.imm (.int .u8) v',.imm (.int .u8) m']],[]=>some ((True,.bool (decide (c=c') && decide (f=f') && decide (x=x'))))
 | _,_=>none
theorem QQ_:zf_ Tryd.prog 34 (RoF qP_).sum:=by
 refine zi_ Tryd.func34 vt_ (ze_ _) fun args objs p v e=>?_
 unfold qP_ at e
 split at e
 ·rename_i c f h x v m c' f' h' x' v' m'
  cases e
  refine ⟨rfl,fun hw ho hp=>?_⟩
  change List Int at v
  change List Int at m
  change List Int at v'
  change List Int at m'
  repeat'(intro t ht;first|(cases t<;>first|(cases ht;done)|(try simp only[zg_]at ht))|((first|refine za_ ht ?_|refine ht ?_ ?_|refine ht.1 ?_ ?_|refine ht ?_)<;>clear ht))
  all_goals first
   | exact True.intro
   | (simp_all;done)
 ·cases e
def V5_:IR:=
(sq (kr [0] [oD 1 (.boxv 0),
oD 2 (.box [.int .i64 0,.int .i64 0,.kb false,.int .u64 0,.imm (.int .u8) [],.imm (.int .u8) []])])
(sq (kr [1,2] [oA 5 4 1,
oL 6 5,
oE 7 6,
oA 8 5 1,
oL 9 8,
oE 10 9,
oB 11 .add 7 10,
oD 12 (.mkrow (.int .u8) 1 (0:Int) 11 11),
oM 3 12])
(sq (kr [1,2,3] [oM 13 3,
oA 14 4 1,
oL 15 14,
oD 16 (.copy (.int .u8) 13 15),
oM 4 16])
(sq (kd [1,2,3,4] [(oM 17 3,[]),
(oM 18 4,[0]),
(oD 19 (.slice 1 17 (some 18) none none),[]),
(oA 20 5 1,[0,0,0]),
(oL 21 20,[1,0,0]),
(oD 22 (.copy (.int .u8) 19 21),[])])
(sq (kd [1,2,3,4] [(oM 23 3,[]),
(oM 24 4,[0]),
(oM 25 4,[0,0]),
(oD 26 (.slice 1 23 none (some 24) (some 25)),[]),
(oM 27 3,[0,0,0,0]),
(oM 28 4,[0,0,0,0,0]),
(oD 29 (.slice 1 27 (some 28) none none),[2,0,0,0]),
(oA 30 4 1,[0,0,0]),
(oS 1 30 26,[1,0,0]),
(oA 31 5 1,[]),
(oS 1 31 29,[])])
(sq (kr [1,2] [oK 32 6 1,
oS 6 2 32])
.ret))))))
def Vq_:List RD:=[.cell 2 (some 6) false []]
theorem VE_:zm_ Tryd.prog Tryd.f26 V5_ Vq_=true:=by kernel_rfl
def kI_:List AV->List Obj->Option (Prop × AV × List Obj)
 | [.agg [.int .i64 c,.int .i64 f,.bool h,.int .u64 x,.imm (.int .u8) v,.imm (.int .u8) m]],[]=>some ((v.length<=100000/\m.length<=100000,.agg [.int .i64 c,.int .i64 f,.bool h,.int .u64 x,.view 0 0 v.length,.view 0 v.length m.length],[.row false (.int .u8) (v++m)]))
 | _,_=>none
theorem Kq_:zf_ Tryd.prog 26 (RwF kI_).sum:=by
 refine Wp_ Tryd.func26 VE_ (ze_ _) fun args objs p v o e=>?_
 unfold kI_ at e
 split at e
 ·rename_i c f h x v m
  cases e
  refine ⟨rfl,fun hw ho hp=>?_⟩
  change List Int at v
  change List Int at m
  have k1:((v.length:Int)+m.length).toNat=v.length+m.length:=by omega
  have k2:(List.replicate (v.length+m.length) (0:Int)).length=v.length+m.length:=List.length_replicate
  have k3:v.take (v.length+m.length)=v:=List.take_of_length_le (by omega)
  have k4:(List.replicate (v.length+m.length) (0:Int)).drop v.length=List.replicate m.length 0:=by rw [List.drop_replicate];congr 1;omega
  have k5:min v.length (v.length+m.length)=v.length:=Nat.min_eq_left (by omega)
  have k6:(v++List.replicate m.length (0:Int)).length=v.length+m.length:=by simp
  have k7:(((v.length+m.length:Nat):Int) - (v.length:Int)).toNat=m.length:=by omega
  have k8:(v++List.replicate m.length (0:Int)).take v.length=v:=List.take_left
  have k9:m.take m.length=m:=List.take_length
  have k10:min m.length m.length=m.length:=Nat.min_self _
  have k11:(v++List.replicate m.length (0:Int)).drop (v.length+m.length)=[]:=List.drop_of_length_le (by simp)
  have k12:(v++m).length=v.length+m.length:=List.length_append
  have k13:((v.length:Int) - 0).toNat=v.length:=by omega
  repeat'(intro t ht;first|(cases t<;>first|(cases ht;done)|(try simp only[zg_]at ht))|((first|refine za_ ht ?_|refine ht ?_ ?_|refine ht.1 ?_ ?_|refine ht ?_)<;>clear ht))
  all_goals first
   | exact True.intro
   | (simp only [us_,k1,k2,k3,k4,k5,k6,k7,k8,k9,k10,k11,k12,k13,List.append_nil,Int.toNat_natCast];first | omega | exact ⟨rfl,by first | rfl | exact True.intro⟩ | (refine ⟨?_,?_,?_,?_⟩<;>first | exact True.intro | omega))
   | omega
   | ((try simp only [zZ_,z0_,zp_] at*);omega)
   | exact ⟨rfl,by first | rfl | exact True.intro⟩
 ·cases e
def ql_ {α:Type} (p:α->Bool):List α->Int->Int
 | [],_=>-1
 | o :: r,i=>if p o=true then i else ql_ p r (i+1)
theorem Qc_ {α:Type} {p:α->Bool} {l:List α} {i:Nat} (h:l.length<=i):ql_ p (l.drop i) i=-1:=by
 rw [List.drop_of_length_le h];rfl
theorem km_ {α:Type} {p:α->Bool} {l:List α} {i:Nat} {d:α} (h:i < l.length) (hk:p (l.getD i d)=true):ql_ p (l.drop i) i=i:=by
 rw [Zt_ h d];exact if_pos hk
theorem kl_ {α:Type} {p:α->Bool} {l:List α} {i:Nat} {d:α} (h:i < l.length) (hk:p (l.getD i d)=false):ql_ p (l.drop i) i=ql_ p (l.drop (i+1)) ((i+1:Nat):Int):=by
 rw [Zt_ h d];exact if_neg (by rw [hk];decide)
theorem qy_ {α:Type} {p:α->Bool}:∀ (l:List α) (i:Int),0<=i->decide (0<=ql_ p l i)=l.any p
 | [],i,h=>rfl
 | o :: r,i,h=>by
   unfold ql_
   rw [List.any_cons]
   cases hk:p o with
   | true=>rw [if_pos rfl,decide_eq_true h];rfl
   | false=>rw [if_neg (by decide),qy_ r (i+1) (by omega)];rfl
def nzB (c:Int):Bool:=decide (c ≠ 0)
abbrev OV:=Int × Int × Bool × Int × List Int × List Int × Unit
instance:DecidableEq (Int × List Int × List Int × Unit):=inferInstance
instance:DecidableEq OV:=inferInstance
def uZ_ (b:List Int):Int:=b.foldl (fun n c=>zo_ .or .u64 (IntKind.u64.wrap (n*2 ^ min (Int.toNat 8) IntKind.u64.bits)) (IntKind.u64.wrap c)) 0
theorem gO_ {b:List Int} {i:Nat} (h:i < b.length):uZ_ (b.take (i+1))=zo_ .or .u64 (IntKind.u64.wrap (uZ_ (b.take i)*2 ^ min (Int.toNat 8) IntKind.u64.bits)) (IntKind.u64.wrap (b.getD i 0)):=by
 unfold uZ_
 rw [List.take_succ_eq_append_getElem h,List.foldl_append,List.getD_eq_getElem?_getD,List.getElem?_eq_getElem h];rfl
def Xr_:IR:=
(sq (kr [0,1] [oD 4 (.mov (.c (.int .u64 0))),
oD 5 (.mov cF)])
(sq (sq (.reg [oM 8 0,
oE 9 8,
oD 10 (.mov (cI 0))])
(.block 0
(.loop
(sq (kr [0,1,4,8,9,10] [oB 11 .lss 10 9])
(sq (.cond 11
.skip
(.exit 0))
(sq (.block 1
(sq (.reg [oI 12 1 8 10,
oL 13 12,
oM 7 13])
(kr [0,1,4,7,8,9,10] [oM 14 4,
oB 15 .shl 14 (.c (.int .u64 8)),
oM 16 7,
oD 17 (.conv .u64 16),
oB 18 .or 15 17,
oM 4 18])))
(kr [0,1,4,8,9,10] [oB 19 .add 10 (cI 1),
oM 10 19])))))))
(sq (kr [0,1,4] [oM 20 4,
oM 21 0,
oE 22 21,
oM 23 1,
oB 24 .eql 22 23,
oM 4 20,
oM 5 24])
.ret)))
def xP_:List RD:=[.tmp 4 true none,.tmp 5 true none]
theorem Xa_:zm_ Tryd.prog Tryd.f71 Xr_ xP_=true:=by kernel_rfl
def k5_:List AV->List Obj->Option (Prop × AV)
 | [.imm (.int .u8) b,.int .i64 z],[]=>some ((True,.tup [.int .u64 (uZ_ b),.bool (decide ((b.length:Int)=z))]))
 | _,_=>none
theorem WJ_:zf_ Tryd.prog 71 (RoF k5_).sum:=by
 refine zi_ Tryd.func71 Xa_ (ze_ _) fun args objs p v e=>?_
 unfold k5_ at e
 split at e
 ·rename_i b z
  cases e
  refine ⟨rfl,fun hw ho hp=>?_⟩
  change List Int at b
  have hl:b.length<=maxLen:=(hw (.imm (.int .u8) b) (by simp)).2
  unfold maxLen at hl
  clear hw ho
  repeat'(intro t ht;first|(cases t<;>first|(cases ht;done)|(try simp only[zg_]at ht))|((first|refine za_ ht ?_|refine ht ?_ ?_|refine ht.1 ?_ ?_|refine ht ?_)<;>clear ht))
  all_goals first
   | (intro r h1 h2;clear h1;refine h2 ⟨[0,1,4,8,9,10],Nat,(fun i=>i<=b.length),fun i=>[.imm (.int .u8) b,.int .i64 z,.int .u64 (uZ_ (b.take i)),.imm (.int .u8) b,.int .i64 b.length,.int .i64 i],fun _=>[],fun i=>b.length - i,⟨0,Nat.zero_le _,rfl,rfl⟩,?_⟩;clear h2)
  intro i hi
  repeat'(intro t ht;first|(cases t<;>first|(cases ht;done)|(try simp only[zg_]at ht))|((first|refine za_ ht ?_|refine ht ?_ ?_)<;>clear ht)|(refine ht.1 (by simp only[zp_];omega) ?_;clear ht)|(refine ht.2 ?_;clear ht)|(refine ht ?_;clear ht))
  all_goals first
   | exact True.intro
   | ((try simp only [zZ_,z0_,zp_] at*);omega)
   | (have hge:b.length<=i:=by omega
      rw [List.take_of_length_le hge];exact ⟨rfl,rfl⟩)
   | exact (by decide)
   | (refine ⟨i+1,by omega,by dsimp only;omega,?_,rfl⟩
      dsimp only
      rw [gO_ (by omega)];rfl)
 ·cases e
def W0_:IR:=
(sq (kr [0] [oD 2 (.mov cF)])
(sq (.reg [oM 3 0,
oB 4 .neq 3 (.c (.int .u8 0)),
oM 2 4])
.ret))
def WN_:List RD:=[.tmp 2 true none]
theorem WU_:zm_ Tryd.prog Tryd.f70 W0_ WN_=true:=by kernel_rfl
def Z4_:List AV->List Obj->Option (Prop × AV)
 | [.int .u8 b],[]=>some ((True,.bool (nzB b)))
 | _,_=>none
theorem QA_:zf_ Tryd.prog 70 (RoF Z4_).sum:=by
 refine zi_ Tryd.func70 WU_ (ze_ _) fun args objs p v e=>?_
 unfold Z4_ at e
 split at e
 ·rename_i b
  cases e
  refine ⟨rfl,fun hw ho hp=>?_⟩
  repeat'(intro t ht;first|(cases t<;>first|(cases ht;done)|(try simp only[zg_]at ht;try(exfalso;first|contradiction|omega)))|((first|refine za_ ht ?_|refine ht ?_ ?_|refine ht.1 ?_ ?_|refine ht ?_)<;>clear ht))
  all_goals first
   | exact True.intro
   | (refine ⟨congrArg AV.bool ?_,rfl⟩;unfold nzB;simp;done)
 ·cases e
def Q4_:IR:=
(sq (kr [0,1] [oD 4 (.mov (cI 0))])
(sq (sq (.reg [oM 6 0,
oE 7 6,
oD 8 (.mov (cI 0))])
(.block 0
(.loop
(sq (kr [0,1,7,8] [oB 9 .lss 8 7])
(sq (.cond 9
.skip
(.exit 0))
(sq (.block 1
(sq (.reg [oM 10 8,
oM 5 10])
(sq (kr [0,1,5,7,8] [oM 11 1,
oM 12 0,
oM 13 5,
oI 14 1 12 13,
oL 15 14,
oD 16 (.call false 11 [15])])
(.cond 16
(sq (kr [5] [oM 17 5,
oM 4 17])
.ret)
.skip))))
(kr [0,1,7,8] [oB 18 .add 8 (cI 1),
oM 8 18])))))))
(sq (kr [] [oD 4 (.mov (cI (-1)))])
.ret)))
def Q0_:List RD:=[.tmp 4 true none]
theorem Q2_:zm_ Tryd.prog Tryd.f83 Q4_ Q0_=true:=by kernel_rfl
def z5_:List AV->List Obj->Option (Prop × AV)
 | [.imm (.int .u8) l,.fn 70 [] []],[]=>some ((True,.int .i64 (ql_ nzB l 0)))
 | _,_=>none
theorem Qz_:zf_ Tryd.prog 83 (RoF z5_).sum:=by
 refine zi_ Tryd.func83 Q2_ (zb_ (s:=RoF Z4_) QA_ (ze_ _)) fun args objs p v e=>?_
 unfold z5_ at e
 split at e
 ·rename_i l
  cases e
  refine ⟨rfl,fun hw ho hp=>?_⟩
  change List Int at l
  have hl:l.length<=maxLen:=(hw (.imm (.int .u8) l) (by simp)).2
  unfold maxLen at hl
  clear hw ho
  repeat'(intro t ht;first|(cases t<;>first|(cases ht;done)|(try simp only[zg_]at ht))|((first|refine za_ ht ?_|refine ht ?_ ?_|refine ht.1 ?_ ?_|refine ht ?_)<;>clear ht))
  all_goals first
   | (intro r h1 h2;clear h1;refine h2 ⟨[0,1,7,8],Nat,(fun i=>i<=l.length/\ql_ nzB l 0=ql_ nzB (l.drop i) i),fun i=>[.imm (.int .u8) l,.fn 70 [] [],.int .i64 l.length,.int .i64 i],fun _=>[],fun i=>l.length - i,⟨0,⟨Nat.zero_le _,rfl⟩,rfl,rfl⟩,?_⟩;clear h2)
  rintro i ⟨hi,he⟩
  repeat'(intro t ht;first|(cases t<;>first|(cases ht;done)|(try simp only[zg_]at ht;try(exfalso;first|contradiction|omega)))|((first|refine za_ ht ?_|refine ht ?_ ?_|refine ht.1 ?_ ?_|refine ht ?_)<;>clear ht))
  all_goals first
   | exact True.intro
   | ((try simp only [zZ_,z0_,zp_] at*);omega)
   | (refine ⟨?_,rfl⟩;rw [he,Qc_ (by omega)];done)
   | (refine ⟨?_,rfl⟩;rw [he,km_ (d:=0) (by omega) (by assumption)];done)
   | exact ⟨i+1,⟨by omega,he.trans (kl_ (d:=0) (by omega) (by assumption))⟩,by dsimp only;omega,rfl,rfl⟩
 ·cases e
def Qb_:IR:=
(sq (kr [0,1] [oD 4 (.mov cF)])
(sq (kr [0,1] [oM 5 0,
oM 6 1,
oC 7 83 [5,6],
oB 8 .geq 7 (cI 0),
oM 4 8])
.ret))
def q3_:List RD:=[.tmp 4 true none]
theorem q6_:zm_ Tryd.prog Tryd.f69 Qb_ q3_=true:=by kernel_rfl
def zS_:List AV->List Obj->Option (Prop × AV)
 | [.imm (.int .u8) l,.fn 70 [] []],[]=>some ((True,.bool (l.any nzB)))
 | _,_=>none
theorem qT_:zf_ Tryd.prog 69 (RoF zS_).sum:=by
 refine zi_ Tryd.func69 q6_ (zb_ (s:=RoF Z4_) QA_ (zb_ (s:=RoF z5_) Qz_ (ze_ _))) fun args objs p v e=>?_
 unfold zS_ at e
 split at e
 ·rename_i l
  cases e
  refine ⟨rfl,fun hw ho hp=>?_⟩
  change List Int at l
  have h:=qy_ (p:=nzB) l 0 (Int.le_refl _)
  repeat'(intro t ht;first|(cases t<;>first|(cases ht;done)|(try simp only[zg_]at ht;try(exfalso;first|contradiction|omega)))|((first|refine za_ ht ?_|refine ht ?_ ?_|refine ht.1 ?_ ?_|refine ht ?_)<;>clear ht))
  all_goals first
   | exact True.intro
   | exact ⟨congrArg AV.bool h,rfl⟩
 ·cases e
def Q3_:IR:=
(sq (kr [0,1] [oD 4 (.mov (cI 0))])
(sq (sq (.reg [oM 6 0,
oE 7 6,
oD 8 (.mov (cI 0))])
(.block 0
(.loop
(sq (kr [0,1,7,8] [oB 9 .lss 8 7])
(sq (.cond 9
.skip
(.exit 0))
(sq (.block 1
(sq (.reg [oM 10 8,
oM 5 10])
(sq (kr [0,1,5,7,8] [oM 11 1,
oM 12 0,
oM 13 5,
oI 14 1 12 13,
oL 15 14,
oB 16 .eql 11 15])
(.cond 16
(sq (kr [5] [oM 17 5,
oM 4 17])
.ret)
.skip))))
(kr [0,1,7,8] [oB 18 .add 8 (cI 1),
oM 8 18])))))))
(sq (kr [] [oD 4 (.mov (cI (-1)))])
.ret)))
def QZ_:List RD:=[.tmp 4 true none]
theorem Q1_:zm_ Tryd.prog Tryd.f84 Q3_ QZ_=true:=by kernel_rfl
def z4_:List AV->List Obj->Option (Prop × AV)
 | [.imm (.int .u64) l,.int .u64 x],[]=>some ((True,.int .i64 (ql_ (fun y=>decide (x=y)) l 0)))
 | _,_=>none
theorem Qy_:zf_ Tryd.prog 84 (RoF z4_).sum:=by
 refine zi_ Tryd.func84 Q1_ (ze_ _) fun args objs p v e=>?_
 unfold z4_ at e
 split at e
 ·rename_i l x
  cases e
  refine ⟨rfl,fun hw ho hp=>?_⟩
  change List Int at l
  have hl:l.length<=maxLen:=(hw (.imm (.int .u64) l) (by simp)).2
  unfold maxLen at hl
  clear hw ho
  repeat'(intro t ht;first|(cases t<;>first|(cases ht;done)|(try simp only[zg_]at ht))|((first|refine za_ ht ?_|refine ht ?_ ?_|refine ht.1 ?_ ?_|refine ht ?_)<;>clear ht))
  all_goals first
   | (intro r h1 h2;clear h1;refine h2 ⟨[0,1,7,8],Nat,(fun i=>i<=l.length/\ql_ (fun y=>decide (x=y)) l 0=ql_ (fun y=>decide (x=y)) (l.drop i) i),fun i=>[.imm (.int .u64) l,.int .u64 x,.int .i64 l.length,.int .i64 i],fun _=>[],fun i=>l.length - i,⟨0,⟨Nat.zero_le _,rfl⟩,rfl,rfl⟩,?_⟩;clear h2)
  rintro i ⟨hi,he⟩
  repeat'(intro t ht;first|(cases t<;>first|(cases ht;done)|(try simp only[zg_]at ht;try(exfalso;first|contradiction|omega)))|((first|refine za_ ht ?_|refine ht ?_ ?_|refine ht.1 ?_ ?_|refine ht ?_)<;>clear ht))
  all_goals first
   | exact True.intro
   | ((try simp only [zZ_,z0_,zp_] at*);omega)
   | (refine ⟨?_,rfl⟩;rw [he,Qc_ (by omega)];done)
   | (refine ⟨?_,rfl⟩;rw [he,km_ (d:=0) (by omega) (show decide (x=l.getD i 0)=true from decide_eq_true (by assumption))];done)
   | exact ⟨i+1,⟨by omega,he.trans (kl_ (d:=0) (by omega) (show decide (x=l.getD i 0)=false from decide_eq_false (by assumption)))⟩,by dsimp only;omega,rfl,rfl⟩
 ·cases e
def Qa_:IR:=
(sq (kr [0,1] [oD 4 (.mov cF)])
(sq (kr [0,1] [oM 5 0,
oM 6 1,
oC 7 84 [5,6],
oB 8 .geq 7 (cI 0),
oM 4 8])
.ret))
def q2_:List RD:=[.tmp 4 true none]
theorem q5_:zm_ Tryd.prog Tryd.f72 Qa_ q2_=true:=by kernel_rfl
def zR_:List AV->List Obj->Option (Prop × AV)
 | [.imm (.int .u64) l,.int .u64 x],[]=>some ((True,.bool (l.any fun y=>decide (x=y))))
 | _,_=>none
theorem qS_:zf_ Tryd.prog 72 (RoF zR_).sum:=by
 refine zi_ Tryd.func72 q5_ (zb_ (s:=RoF z4_) Qy_ (ze_ _)) fun args objs p v e=>?_
 unfold zR_ at e
 split at e
 ·rename_i l x
  cases e
  refine ⟨rfl,fun hw ho hp=>?_⟩
  change List Int at l
  have h:=qy_ (p:=fun y=>decide (x=y)) l 0 (Int.le_refl _)
  repeat'(intro t ht;first|(cases t<;>first|(cases ht;done)|(try simp only[zg_]at ht;try(exfalso;first|contradiction|omega)))|((first|refine za_ ht ?_|refine ht ?_ ?_|refine ht.1 ?_ ?_|refine ht ?_)<;>clear ht))
  all_goals first
   | exact True.intro
   | exact ⟨congrArg AV.bool h,rfl⟩
 ·cases e
def VR_ (n:Int) (vals:List Int) (c f:Int) (h:Bool) (v:List Int):Bool:=decide (c=32768) && decide (f=n) && (if vals.length=0 then v.any nzB else decide ((v.length:Int)=jr_ n) && !h && vals.any fun y=>decide (uZ_ v=y))
def yT_:IR:=
(sq (kr [0,1] [oD 2 (.boxv 0),
oD 3 (.boxv 1),
oD 4 (.mov cF)])
(sq (sq (kr [2,3] [oA 9 0 2,
oL 10 9,
oB 11 .neq 10 (cI 32768),
oM 12 11,
oF 12 13 (.fieldAddr 1 2),
oF 12 14 (.load none 13),
oF 12 15 (.fieldAddr 3 3),
oF 12 16 (.load none 15),
oF 12 17 (.bin .neq 14 16),
oP 18 12 cT 17])
(.cond 18
(sq (kr [] [oD 4 (.mov cF)])
.ret)
.skip))
(sq (sq (kr [2,3] [oA 19 4 3,
oL 20 19,
oE 21 20,
oB 22 .eql 21 (cI 0)])
(.cond 22
(sq (.reg [oA 23 4 2,
oL 24 23,
oC 25 69 [24,.f 70],
oM 4 25])
.ret)
.skip))
(sq (kr [2,3] [oA 27 3 3,
oL 28 27,
oC 29 51 [28],
oM 26 29,
oX 30 26 0,
oX 31 26 1,
oD 5 (.box [.int .i64 0,.int .i64 0,.kb false,.int .i64 0,.imm (.int .u64) []]),
oS 5 5 30,
oM 6 31])
(sq (kr [2,3,5] [oA 33 4 2,
oL 34 33,
oA 35 1 5,
oL 36 35,
oC 37 71 [34,36],
oM 32 37,
oX 38 32 0,
oX 39 32 1,
oM 7 38,
oM 8 39])
(sq (kr [2,3,7,8] [oM 40 8,
oM 41 40,
oT 41 42 (.fieldAddr 2 2),
oT 41 43 (.load none 42),
oT 41 44 (.un .not 43),
oP 45 41 44 cF,
oM 46 45,
oT 46 47 (.fieldAddr 4 3),
oT 46 48 (.load none 47),
oT 46 49 (.mov 7),
oT 46 50 (.call false (.f 72) [48,49]),
oP 51 46 50 cF,
oM 4 51])
.ret))))))
def ym_:List RD:=[.tmp 4 true none]
theorem yB_:zm_ Tryd.prog Tryd.f57 yT_ ym_=true:=by kernel_rfl
def KN_:List AV->List Obj->Option (Prop × AV)
 | [.agg [.int .i64 c,.int .i64 f,.bool h,.int .u64 x,.imm (.int .u8) v,.imm (.int .u8) m],.agg [.int .i64 bits,.int .i64 size,.bool mk,.int .i64 nd,.imm (.int .u64) vals]],[]=>some ((True,.bool (VR_ nd vals c f h v)))
 | _,_=>none
theorem xz_:zf_ Tryd.prog 57 (RoF KN_).sum:=by
 refine zi_ Tryd.func57 yB_ (zb_ (s:=RoF zS_) qT_ (zb_ (s:=RoF Z4_) QA_ (zb_ (s:=RoF QM_) kh_ (zb_ (s:=RoF k5_) WJ_ (zb_ (s:=RoF zR_) qS_ (ze_ _)))))) fun args objs p v e=>?_
 unfold KN_ at e
 split at e
 ·rename_i c f h x v m bits size mk nd vals
  cases e
  refine ⟨rfl,fun hw ho hp=>?_⟩
  change List Int at v
  change List Int at m
  change List Int at vals
  clear hw ho
  by_cases h1:c=32768/\f=nd
  ·obtain ⟨rfl,rfl⟩:=h1
   have e:VR_ f vals 32768 f h v=if vals.length=0 then v.any nzB else decide ((v.length:Int)=jr_ f) && !h && vals.any fun y=>decide (uZ_ v=y):=by unfold VR_;simp
   rw [e]
   cases h<;>by_cases h2:vals.length=0<;>by_cases h3:(v.length:Int)=jr_ f
   all_goals repeat'(intro t ht;first|(cases t<;>first|(cases ht;done)|(try simp only[zg_]at ht;try(exfalso;first|contradiction|omega)))|((first|refine za_ ht ?_|refine ht ?_ ?_|refine ht.1 ?_ ?_|refine ht ?_)<;>clear ht))
   all_goals first
    | exact True.intro
    | (refine ⟨congrArg AV.bool ?_,rfl⟩;simp_all;done)
    | (exfalso;simp_all;done)
  ·have e:VR_ nd vals c f h v=false:=by unfold VR_;by_cases h2:c=32768<;>by_cases h3:f=nd<;>simp_all
   rw [e]
   cases h<;>by_cases h2:c=32768<;>by_cases h3:f=nd
   all_goals repeat'(intro t ht;first|(cases t<;>first|(cases ht;done)|(try simp only[zg_]at ht;try(exfalso;first|contradiction|omega)))|((first|refine za_ ht ?_|refine ht ?_ ?_|refine ht.1 ?_ ?_|refine ht ?_)<;>clear ht))
   all_goals first
    | exact True.intro
    | exact ⟨rfl,rfl⟩
    | (exfalso;omega)
    | (exfalso;simp_all;done)
 ·cases e
def yU_:IR:=
(sq (kr [0,1] [oD 2 (.boxv 0),
oD 3 (.mov cF)])
(sq (.reg [oK 4 6 2,
oK 5 5 1,
oC 6 57 [4,5],
oM 3 6])
.ret))
def yn_:List RD:=[.tmp 3 true none]
theorem yC_:zm_ Tryd.prog Tryd.f56 yU_ yn_=true:=by kernel_rfl
def qm_:List AV->List Obj->Option (Prop × AV)
 | [.agg [.int .i64 c,.int .i64 f,.bool h,.int .u64 x,.imm (.int .u8) v,.imm (.int .u8) m],.ptr 0 0],[.box [.int .i64 bits,.int .i64 size,.bool mk,.int .i64 nd,.imm (.int .u64) vals]]=>some ((True,.bool (VR_ nd vals c f h v)))
 | _,_=>none
theorem q0_:zf_ Tryd.prog 56 (RoF qm_).sum:=by
 refine zi_ Tryd.func56 yC_ (zb_ (s:=RoF KN_) xz_ (ze_ _)) fun args objs p v e=>?_
 unfold qm_ at e
 split at e
 ·rename_i c f h x v m bits size mk nd vals
  cases e
  refine ⟨rfl,fun hw ho hp=>?_⟩
  change List Int at v
  change List Int at m
  change List Int at vals
  clear hw ho
  repeat'(intro t ht;first|(cases t<;>first|(cases ht;done)|(try simp only[zg_]at ht;try(exfalso;first|contradiction|omega)))|((first|refine za_ ht ?_|refine ht ?_ ?_|refine ht.1 ?_ ?_|refine ht ?_)<;>clear ht))
  all_goals first
   | exact True.intro
   | exact ⟨rfl,rfl⟩
 ·cases e
def W1_:IR:=
(sq (kr [0,1] [oD 2 (.boxv 0),
oD 3 (.mov cF)])
(sq (.reg [oK 4 6 2,
oK 5 6 1,
oC 6 34 [4,5],
oM 3 6])
.ret))
def WO_:List RD:=[.tmp 3 true none]
theorem WV_:zm_ Tryd.prog Tryd.f33 W1_ WO_=true:=by kernel_rfl
def Zu_:List AV->List Obj->Option (Prop × AV)
 | [.agg [.int .i64 c,.int .i64 f,.bool h,.int .u64 x,.imm (.int .u8) v,.imm (.int .u8) m],.ptr 0 0],[.box [.int .i64 c',.int .i64 f',.bool h',.int .u64 x',.imm (.int .u8) v',.imm (.int .u8) m']]=>some ((True,.bool (decide (c=c') && decide (f=f') && decide (x=x'))))
 | _,_=>none
theorem Z9_:zf_ Tryd.prog 33 (RoF Zu_).sum:=by
 refine zi_ Tryd.func33 WV_ (zb_ (s:=RoF qP_) QQ_ (ze_ _)) fun args objs p v e=>?_
 unfold Zu_ at e
 split at e
 ·rename_i c f h x v m c' f' h' x' v' m'
  cases e
  refine ⟨rfl,fun hw ho hp=>?_⟩
  change List Int at v
  change List Int at m
  change List Int at v'
  change List Int at m'
  clear hw ho
  repeat'(intro t ht;first|(cases t<;>first|(cases ht;done)|(try simp only[zg_]at ht;try(exfalso;first|contradiction|omega)))|((first|refine za_ ht ?_|refine ht ?_ ?_|refine ht.1 ?_ ?_|refine ht ?_)<;>clear ht))
  all_goals first
   | exact True.intro
   | exact ⟨rfl,rfl⟩
 ·cases e
def rgO (o:OV):Bool:=qK_ o.1 o.2.1 o.2.2.1 o.2.2.2.1 o.2.2.2.2.1 o.2.2.2.2.2.1
def szO (o:OV):Int:=xJ_ o.1 o.2.1 o.2.2.1 o.2.2.2.1 o.2.2.2.2.1 o.2.2.2.2.2.1
def alO (x o:OV):Bool:=decide (x.1=o.1) && decide (x.2.1=o.2.1) && decide (x.2.2.2.1=o.2.2.2.1)
theorem BN_ {x o:OV} (h:(¬ x.1=o.1\/¬ x.2.1=o.2.1)\/¬ x.2.2.2.1=o.2.2.2.1):alO x o=false:=by
 unfold alO
 rcases h with (h | h) | h<;>simp [h]
theorem go_ {x o:OV} (h:(x.1=o.1/\x.2.1=o.2.1)/\x.2.2.2.1=o.2.2.2.1):alO x o=true:=by
 unfold alO;rw [h.1.1,h.1.2,h.2];simp
def mtO (n:Int) (vals:List Int) (o:OV):Bool:=VR_ n vals o.1 o.2.1 o.2.2.1 o.2.2.2.2.1
def bW_ (o:OV):Prop:=o.2.2.2.2.1.length<=100000/\o.2.2.2.2.2.1.length<=100000
theorem Ua_ {o:OV} (h:bW_ o):o.2.2.2.2.1.length<=1000000/\o.2.2.2.2.2.1.length<=1000000:=⟨Nat.le_trans h.1 (by decide),Nat.le_trans h.2 (by decide)⟩
structure allLen (l:List OV):Prop where
 h:∀ o ∈ l,bW_ o
def wR_:IR:=
(sq (kr [0] [oD 1 (.boxv 0),
oD 2 (.mov cF)])
(sq (.reg [oK 3 6 1,
oC 4 15 [3],
oD 5 (.un .not 4),
oM 2 5])
.ret))
def wz_:List RD:=[.tmp 2 true none]
theorem wI_:zm_ Tryd.prog Tryd.f14 wR_ wz_=true:=by kernel_rfl
def Zf_:List AV->List Obj->Option (Prop × AV)
 | [.agg [.int .i64 c,.int .i64 f,.bool h,.int .u64 x,.imm (.int .u8) v,.imm (.int .u8) m]],[]=>some ((v.length<=1000000/\m.length<=1000000,.bool (!qK_ c f h x v m)))
 | _,_=>none
theorem ZQ_:zf_ Tryd.prog 14 (RoF Zf_).sum:=by
 refine zi_ Tryd.func14 wI_ (zb_ (s:=RoF k0_) j3_ (ze_ _)) fun args objs p v e=>?_
 unfold Zf_ at e
 split at e
 ·rename_i c f h x v m
  cases e
  refine ⟨rfl,fun hw ho hp=>?_⟩
  change List Int at v
  change List Int at m
  clear hw ho
  repeat'(intro t ht;first|(cases t<;>first|(cases ht;done)|(try simp only[zg_]at ht;try(exfalso;first|contradiction|omega)))|((first|refine za_ ht ?_|refine ht ?_ ?_|refine ht.1 ?_ ?_|refine ht ?_)<;>clear ht))
  all_goals first
   | exact True.intro
   | exact hp
   | exact ⟨rfl,rfl⟩
 ·cases e
def qx_:IR:=
(sq (kr [0,1] [oD 4 (.mov (cI 0))])
(sq (sq (.reg [oM 6 0,
oE 7 6,
oD 8 (.mov (cI 0))])
(.block 0
(.loop
(sq (kr [0,1,7,8] [oB 9 .lss 8 7])
(sq (.cond 9
.skip
(.exit 0))
(sq (.block 1
(sq (.reg [oM 10 8,
oM 5 10])
(sq (kr [0,1,5,7,8] [oM 11 1,
oM 12 0,
oM 13 5,
oI 14 6 12 13,
oK 15 6 14,
oD 16 (.call false 11 [15])])
(.cond 16
(sq (kr [5] [oM 17 5,
oM 4 17])
.ret)
.skip))))
(kr [0,1,7,8] [oB 18 .add 8 (cI 1),
oM 8 18])))))))
(sq (kr [] [oD 4 (.mov (cI (-1)))])
.ret)))
def qu_:List RD:=[.tmp 4 true none]
theorem qv_:zm_ Tryd.prog Tryd.f30 qx_ qu_=true:=by kernel_rfl
def zK_:List AV->List Obj->Option (Prop × AV)
 | [.imm (.cons (.int .i64) (.cons (.int .i64) (.cons .bool (.cons (.int .u64) (.cons (.sl (.int .u8)) (.cons (.sl (.int .u8)) .nil)))))) l,.fn 56 [] [.ptr 0 0]],[.box [.int .i64 bits,.int .i64 size,.bool mk,.int .i64 nd,.imm (.int .u64) vals]]=>some ((True,.int .i64 (ql_ (α:=OV) (mtO nd vals) l 0)))
 | [.imm (.cons (.int .i64) (.cons (.int .i64) (.cons .bool (.cons (.int .u64) (.cons (.sl (.int .u8)) (.cons (.sl (.int .u8)) .nil)))))) l,.fn 33 [] [.ptr 0 0]],[.box [.int .i64 c',.int .i64 f',.bool h',.int .u64 x',.imm (.int .u8) v',.imm (.int .u8) m']]=>some ((True,.int .i64 (ql_ (α:=OV) (fun x=>alO x (c',f',h',x',v',m',())) l 0)))
 | [.imm (.cons (.int .i64) (.cons (.int .i64) (.cons .bool (.cons (.int .u64) (.cons (.sl (.int .u8)) (.cons (.sl (.int .u8)) .nil)))))) l,.fn 14 [] []],[]=>some ((allLen l,.int .i64 (ql_ (α:=OV) (fun o=>!rgO o) l 0)))
 | _,_=>none
theorem qq_:zf_ Tryd.prog 30 (RoF zK_).sum:=by
 refine zi_ Tryd.func30 qv_ (zb_ (s:=RoF Zf_) ZQ_ (zb_ (s:=RoF Zu_) Z9_ (zb_ (s:=RoF qm_) q0_ (ze_ _)))) fun args objs p v e=>?_
 unfold zK_ at e
 split at e
 ·rename_i l bits size mk nd vals
  cases e
  refine ⟨rfl,fun hw ho hp=>?_⟩
  change List Int at vals
  change List OV at l
  have hl:l.length<=maxLen:=(hw (.imm Y1 l) (by simp)).2
  unfold maxLen at hl
  clear hw ho
  repeat'(intro t ht;first|(cases t<;>first|(cases ht;done)|(try simp only[zg_]at ht))|((first|refine za_ ht ?_|refine ht ?_ ?_|refine ht.1 ?_ ?_|refine ht ?_)<;>clear ht))
  all_goals first
   | (intro r h1 h2;clear h1;refine h2 ⟨[0,1,7,8],Nat,(fun i=>i<=l.length/\ql_ (mtO nd vals) l 0=ql_ (mtO nd vals) (l.drop i) i),fun i=>[.imm Y1 l,.fn 56 [] [.ptr 0 0],.int .i64 l.length,.int .i64 i],fun _=>[.box [.int .i64 bits,.int .i64 size,.bool mk,.int .i64 nd,.imm (.int .u64) vals]],fun i=>l.length - i,⟨0,⟨Nat.zero_le _,rfl⟩,rfl,rfl⟩,?_⟩;clear h2)
  rintro i ⟨hi,he⟩
  repeat'(intro t ht;first|(cases t<;>first|(cases ht;done)|(try simp only[zg_]at ht;try(exfalso;first|contradiction|omega)))|((first|refine za_ ht ?_|refine ht ?_ ?_|refine ht.1 ?_ ?_|refine ht ?_)<;>clear ht))
  all_goals (try generalize (Ty.dflt Y1)=od at*)
  all_goals first
   | exact True.intro
   | ((try simp only [zZ_,z0_,zp_] at*);omega)
   | (refine ⟨?_,rfl⟩;rw [he,Qc_ (by omega)];done)
   | (refine ⟨?_,rfl⟩;rw [he,km_ (d:=od) (by omega) (by assumption)];done)
   | exact ⟨i+1,⟨by omega,he.trans (kl_ (d:=od) (by omega) (by assumption))⟩,by dsimp only;omega,rfl,rfl⟩
 ·rename_i l c' f' h' x' v' m'
  cases e
  refine ⟨rfl,fun hw ho hp=>?_⟩
  change List Int at v'
  change List Int at m'
  change List OV at l
  have hl:l.length<=maxLen:=(hw (.imm Y1 l) (by simp)).2
  unfold maxLen at hl
  clear hw ho
  repeat'(intro t ht;first|(cases t<;>first|(cases ht;done)|(try simp only[zg_]at ht))|((first|refine za_ ht ?_|refine ht ?_ ?_|refine ht.1 ?_ ?_|refine ht ?_)<;>clear ht))
  all_goals first
   | (intro r h1 h2;clear h1;refine h2 ⟨[0,1,7,8],Nat,(fun i=>i<=l.length/\ql_ (fun x=>alO x (c',f',h',x',v',m',())) l 0=ql_ (fun x=>alO x (c',f',h',x',v',m',())) (l.drop i) i),fun i=>[.imm Y1 l,.fn 33 [] [.ptr 0 0],.int .i64 l.length,.int .i64 i],fun _=>[.box [.int .i64 c',.int .i64 f',.bool h',.int .u64 x',.imm (.int .u8) v',.imm (.int .u8) m']],fun i=>l.length - i,⟨0,⟨Nat.zero_le _,rfl⟩,rfl,rfl⟩,?_⟩;clear h2)
  rintro i ⟨hi,he⟩
  repeat'(intro t ht;first|(cases t<;>first|(cases ht;done)|(try simp only[zg_]at ht;try(exfalso;first|contradiction|omega)))|((first|refine za_ ht ?_|refine ht ?_ ?_|refine ht.1 ?_ ?_|refine ht ?_)<;>clear ht))
  all_goals (try generalize (Ty.dflt Y1)=od at*)
  all_goals first
   | exact True.intro
   | ((try simp only [zZ_,z0_,zp_] at*);omega)
   | (refine ⟨?_,rfl⟩;rw [he,Qc_ (by omega)];done)
   | (refine ⟨?_,rfl⟩;rw [he,km_ (p:=fun x=>alO x (c',f',h',x',v',m',())) (d:=od) (by omega) (go_ ht)];done)
   | exact ⟨i+1,⟨by omega,he.trans (kl_ (p:=fun x=>alO x (c',f',h',x',v',m',())) (d:=od) (by omega) (BN_ ht))⟩,by dsimp only;omega,rfl,rfl⟩
 ·rename_i l
  cases e
  refine ⟨rfl,fun hw ho hp=>?_⟩
  change List OV at l
  have hl:l.length<=maxLen:=(hw (.imm Y1 l) (by simp)).2
  unfold maxLen at hl
  clear hw ho
  repeat'(intro t ht;first|(cases t<;>first|(cases ht;done)|(try simp only[zg_]at ht))|((first|refine za_ ht ?_|refine ht ?_ ?_|refine ht.1 ?_ ?_|refine ht ?_)<;>clear ht))
  all_goals first
   | (intro r h1 h2;clear h1;refine h2 ⟨[0,1,7,8],Nat,(fun i=>i<=l.length/\ql_ (fun o=>!rgO o) l 0=ql_ (fun o=>!rgO o) (l.drop i) i),fun i=>[.imm Y1 l,.fn 14 [] [],.int .i64 l.length,.int .i64 i],fun _=>[],fun i=>l.length - i,⟨0,⟨Nat.zero_le _,rfl⟩,rfl,rfl⟩,?_⟩;clear h2)
  rintro i ⟨hi,he⟩
  repeat'(intro t ht;first|(cases t<;>first|(cases ht;done)|(try simp only[zg_]at ht;try(exfalso;first|contradiction|omega)))|((first|refine za_ ht ?_|refine ht ?_ ?_|refine ht.1 ?_ ?_|refine ht ?_)<;>clear ht))
  all_goals (try generalize (Ty.dflt Y1)=od at*)
  all_goals first
   | exact True.intro
   | ((try simp only [zZ_,z0_,zp_] at*);omega)
   | exact Ua_ (hp.h _ (z1_ (by omega) od))
   | (refine ⟨?_,rfl⟩;rw [he,Qc_ (by omega)];done)
   | (refine ⟨?_,rfl⟩;rw [he,km_ (p:=fun o=>!rgO o) (d:=od) (by omega) (by (try dsimp only);unfold rgO;rw [ht];rfl)];done)
   | exact ⟨i+1,⟨by omega,he.trans (kl_ (p:=fun o=>!rgO o) (d:=od) (by omega) (by (try dsimp only);unfold rgO;rw [ht];rfl))⟩,by dsimp only;omega,rfl,rfl⟩
 ·cases e
def Z3_:IR:=
(sq (kr [0,1] [oD 4 (.mov cF)])
(sq (kr [0,1] [oM 5 0,
oM 6 1,
oC 7 30 [5,6],
oB 8 .geq 7 (cI 0),
oM 4 8])
.ret))
def ZX_:List RD:=[.tmp 4 true none]
theorem Z0_:zm_ Tryd.prog Tryd.f13 Z3_ ZX_=true:=by kernel_rfl
def zl_:List AV->List Obj->Option (Prop × AV)
 | [.imm (.cons (.int .i64) (.cons (.int .i64) (.cons .bool (.cons (.int .u64) (.cons (.sl (.int .u8)) (.cons (.sl (.int .u8)) .nil)))))) l,.fn 56 [] [.ptr 0 0]],[.box [.int .i64 bits,.int .i64 size,.bool mk,.int .i64 nd,.imm (.int .u64) vals]]=>some ((True,.bool ((l:List OV).any (mtO nd vals))))
 | [.imm (.cons (.int .i64) (.cons (.int .i64) (.cons .bool (.cons (.int .u64) (.cons (.sl (.int .u8)) (.cons (.sl (.int .u8)) .nil)))))) l,.fn 33 [] [.ptr 0 0]],[.box [.int .i64 c',.int .i64 f',.bool h',.int .u64 x',.imm (.int .u8) v',.imm (.int .u8) m']]=>some ((True,.bool ((l:List OV).any (fun x=>alO x (c',f',h',x',v',m',())))))
 | [.imm (.cons (.int .i64) (.cons (.int .i64) (.cons .bool (.cons (.int .u64) (.cons (.sl (.int .u8)) (.cons (.sl (.int .u8)) .nil)))))) l,.fn 14 [] []],[]=>some ((allLen l,.bool ((l:List OV).any (fun o=>!rgO o))))
 | _,_=>none
theorem zv_:zf_ Tryd.prog 13 (RoF zl_).sum:=by
 refine zi_ Tryd.func13 Z0_ (zb_ (s:=RoF zK_) qq_ (ze_ _)) fun args objs p v e=>?_
 unfold zl_ at e
 split at e
 ·rename_i l bits size mk nd vals
  cases e
  refine ⟨rfl,fun hw ho hp=>?_⟩
  change List Int at vals
  have h:=qy_ (p:=mtO nd vals) l 0 (Int.le_refl _)
  repeat'(intro t ht;first|(cases t<;>first|(cases ht;done)|(try simp only[zg_]at ht;try(exfalso;first|contradiction|omega)))|((first|refine za_ ht ?_|refine ht ?_ ?_|refine ht.1 ?_ ?_|refine ht ?_)<;>clear ht))
  all_goals first
   | exact True.intro
   | exact ⟨congrArg AV.bool h,rfl⟩
 ·rename_i l c' f' h' x' v' m'
  cases e
  refine ⟨rfl,fun hw ho hp=>?_⟩
  change List Int at v'
  change List Int at m'
  have h:=qy_ (p:=fun x=>alO x (c',f',h',x',v',m',())) l 0 (Int.le_refl _)
  repeat'(intro t ht;first|(cases t<;>first|(cases ht;done)|(try simp only[zg_]at ht;try(exfalso;first|contradiction|omega)))|((first|refine za_ ht ?_|refine ht ?_ ?_|refine ht.1 ?_ ?_|refine ht ?_)<;>clear ht))
  all_goals first
   | exact True.intro
   | exact ⟨congrArg AV.bool h,rfl⟩
 ·rename_i l
  cases e
  refine ⟨rfl,fun hw ho hp=>?_⟩
  have h:=qy_ (p:=fun o=>!rgO o) l 0 (Int.le_refl _)
  repeat'(intro t ht;first|(cases t<;>first|(cases ht;done)|(try simp only[zg_]at ht;try(exfalso;first|contradiction|omega)))|((first|refine za_ ht ?_|refine ht ?_ ?_|refine ht.1 ?_ ?_|refine ht ?_)<;>clear ht))
  all_goals first
   | exact True.intro
   | exact hp
   | exact ⟨congrArg AV.bool h,rfl⟩
 ·cases e
def hI (h:Bool):Int:=if h=true then 1 else 0
theorem mid {p v r:List Int} {A S:Int} (hA:A=p.length) (hS:S=v.length):((p++(v++r)).take (A+S).toNat).drop A.toNat=v:=by
 subst hA hS
 rw [show ((p.length:Int)+v.length).toNat=p.length+v.length by omega,Int.toNat_natCast,<- List.append_assoc,<- List.length_append,List.take_left,List.drop_left]
end Go.Eng
