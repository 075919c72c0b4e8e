/- Parts of the proof: H4, DC, Z1, F6, Z3, Z4, Z2, H5, H6, K1, H7, K3, K4, K5, K6, K7, K8, KA, P1, V1, V2, V3, V6, M4, M5, M6, M7, M8, X1. No condition. -/
import Derived.Test.YtimkdohmkfjfaaaGreatDoorProg
import Derived.Test.YtimkdohmkfjfaaaGreatDoorXJ11
import Derived.KernelRfl
import Derived.Test.YtimkdohmkfjfaaaGreatDoorXJ16
import Derived.Test.YtimkdohmkfjfaaaGreatDoorXJ15
import Derived.Test.YtimkdohmkfjfaaaGreatDoorXJ14
import Derived.Test.YtimkdohmkfjfaaaGreatDoorXJ13
namespace Go.Eng
open Go.Proofs
set_option linter.unusedVariables false
set_option linter.unusedSimpArgs false
set_option maxRecDepth 100000
set_option maxHeartbeats 1000000
def smA (a b:AC):Bool:=XX_ a.1 a.2.1 a.2.2.1 a.2.2.2.1.1 a.2.2.2.1.2.1 a.2.2.2.1.2.2.1 a.2.2.2.1.2.2.2.1 a.2.2.2.1.2.2.2.2.1 a.2.2.2.1.2.2.2.2.2.1 a.2.2.2.2.1 b.1 b.2.1 b.2.2.1 b.2.2.2.1.1 b.2.2.2.1.2.1 b.2.2.2.1.2.2.1 b.2.2.2.1.2.2.2.1 b.2.2.2.1.2.2.2.2.1 b.2.2.2.1.2.2.2.2.2.1 b.2.2.2.2.1
theorem zcW_ {a b:AC} (h:smA a b=true):a=b:=by
 obtain ⟨a1,a2,a3,⟨a4,a5,a6,a7,a8,a9,_⟩,a10,_⟩:=a
 obtain ⟨b1,b2,b3,⟨b4,b5,b6,b7,b8,b9,_⟩,b10,_⟩:=b
 unfold smA XX_ QQ_ at h
 simp only [Bool.and_eq_true,decide_eq_true_eq,beq_iff_eq] at h
 obtain ⟨⟨⟨⟨h1,h2⟩,h3⟩,⟨⟨⟨⟨⟨h4,h5⟩,h7⟩,h6⟩,h8⟩,h9⟩⟩,h10⟩:=h
 rw [h1,h2,h3,h4,h5,h6,h7,h8,h9,h10]
theorem zcX_ {a b:AC} (h:smA a b=false):¬ a=b:=fun e=>by
 rw [e] at h;unfold smA at h;rw [h5_] at h;cases h
def G7_:IR:=
(sq (kr [0,1] [oD 4 (.mov cF)])
(sq (sq (kr [0,1] [oM 6 0,
oE 7 6,
oM 8 1,
oE 9 8,
oB 10 .neq 7 9])
(.cond 10
(sq (.reg [oD 4 (.mov cF)])
.ret)
.skip))
(sq (sq (kr [0,1] [oD 5 (.mov (cI 0))])
(.block 0
(.loop
(sq (sq (kr [0,1,5] [oM 11 5,
oM 12 0,
oE 13 12,
oB 14 .lss 11 13])
(.cond 14
.skip
(.exit 0)))
(sq (.block 1
(sq (kd [0,1,5] [(oM 17 0,[]),
(oM 18 5,[0]),
(oI 19 10 17 18,[]),
(oK 20 10 19,[]),
(oM 21 1,[0,0,0,0]),
(oM 22 5,[0,0,0,0,0]),
(oI 23 10 21 22,[2,0,0,0]),
(oK 24 10 23,[3,0,0,0]),
(oC 25 112 [20,24],[]),
(oD 26 (.un .not 25),[])])
(.cond 26
(sq (kr [] [oD 4 (.mov cF)])
.ret)
.skip)))
(kr [0,1,5] [oM 15 5,
oB 16 .add 15 (cI 1),
oM 5 16]))))))
(sq (kr [] [oD 4 (.mov cT)])
.ret))))
def Gk_:List RD:=[.tmp 4 true none]
theorem GE_:zl_ Tryz.prog Tryz.f54 G7_ Gk_=true:=by kernel_rfl
def WQ_:List AV->List Obj->Option (Prop × AV)
 | [.imm ty0 a,.imm ty1 b],[]=>Zs_ ty0 Y2 a fun a=>Zs_ ty1 Y2 b fun b=>some ((True,.bool (decide ((a:List AC)=b))))
 | _,_=>none
theorem Ug_:zf_ Tryz.prog 54 (RoF WQ_).sum:=by
 refine zj_ Tryz.func54 GE_ (za_ (s:=RoF WR_) Uh_ (ze_ _)) fun args objs p v e=>?_
 unfold WQ_ at e
 split at e
 ·rename_i ty0 a ty1 b
  obtain rfl:=zv_ e
  replace e:=zw_ e
  obtain rfl:=zv_ e
  replace e:=zw_ e
  cases e
  refine ⟨rfl,fun hw ho hp=>?_⟩
  change List AC at a
  change List AC at b
  have hl:a.length<=maxLen:=(hw (.imm Y2 a) (by simp)).2
  unfold maxLen at hl
  clear hw ho
  repeat'(intro t ht;first|(cases t<;>first|(cases ht;done)|(try simp only[zh_]at ht))|((first|refine zb_ ht ?_|refine ht ?_ ?_|refine ht.1 ?_ ?_|refine ht ?_)<;>clear ht))
  all_goals first
   | (have hne:a ≠ b:=fun h=>(by assumption:¬ (a.length:Int)=b.length) (by rw [h])
      refine ⟨?_,rfl⟩;rw [decide_eq_false hne];done)
   | (intro r h1 h2;clear h1;refine h2 ⟨[],[0,1,5],Nat,(fun i=>i<=a.length/\a.take i=b.take i),fun i=>[.imm Y2 a,.imm Y2 b,.int .i64 i],fun _=>[],fun i=>a.length - i,⟨0,⟨Nat.zero_le _,rfl⟩,rfl,rfl⟩,?_⟩;clear h2)
  rintro i ⟨hi,he⟩
  have hl2:a.length=b.length:=by omega
  repeat'(intro t ht;first|(cases t<;>first|(cases ht;done)|(try simp only[zh_]at ht;try(exfalso;first|contradiction|omega)))|((first|refine zb_ ht ?_|refine ht ?_ ?_|refine ht.1 ?_ ?_|refine ht ?_)<;>clear ht))
  all_goals (try generalize (Ty.dflt Y2)=od at*)
  all_goals first
   | exact True.intro
   | ((try simp only [zn_,zo_,zm_] at*);omega)
   | (have e:=gY_ he (by omega) hl2
      refine ⟨?_,rfl⟩;rw [decide_eq_true e];done)
   | (have hs:smA (a.getD i od) (b.getD i od)=false:=by assumption
      have hne:a ≠ b:=B3_ (d:=od) (i:=i) (zcX_ hs)
      refine ⟨?_,rfl⟩;rw [decide_eq_false hne];done)
   | (have hs:smA (a.getD i od) (b.getD i od)=true:=by assumption
      exact ⟨i+1,⟨by omega,y9_ he (by omega) hl2 (d:=od) (zcW_ hs)⟩,by (try simp only [zn_,zo_,zm_] at*);omega,rfl,rfl⟩)
 ·cases e
def ZP_:IR:=
(sq (kr [0,1,2] [oD 6 (.mov cF)])
(sq (sq (kr [0,1,2] [oM 10 0,
oE 11 10,
oM 12 1,
oE 13 12,
oB 14 .neq 11 13])
(.cond 14
(sq (.reg [oD 6 (.mov cF)])
.ret)
.skip))
(sq (sq (kr [0,1,2] [oM 15 0,
oE 16 15,
oD 17 (.mov (cI 0))])
(.block 0
(.loop
(sq (kr [1,2,15,16,17] [oB 18 .lss 17 16])
(sq (.cond 18
.skip
(.exit 0))
(sq (.block 1
(sq (kr [1,2,15,16,17] [oM 19 17,
oI 20 10 15 17,
oK 21 10 20,
oD 8 (.box [.int .i64 0,.int .u64 0,.int .u64 0,.int .i64 0,.int .i64 0,.kb false,.int .u64 0,.imm (.int .u8) [],.imm (.int .u8) [],.imm (.int .u8) []]),
oM 7 19,
oS 10 8 21])
(sq (kr [1,2,7,8,15,16,17] [oM 22 1,
oM 23 7,
oI 24 10 22 23,
oK 25 10 24,
oD 9 (.box [.int .i64 0,.int .u64 0,.int .u64 0,.int .i64 0,.int .i64 0,.kb false,.int .u64 0,.imm (.int .u8) [],.imm (.int .u8) [],.imm (.int .u8) []]),
oS 10 9 25])
(sq (kr [1,2,8,9,15,16,17] [oM 26 2,
oK 27 10 8,
oK 28 10 9,
oD 29 (.call false 26 [27,28]),
oD 30 (.un .not 29)])
(.cond 30
(sq (.reg [oD 6 (.mov cF)])
.ret)
.skip)))))
(kr [1,2,15,16,17] [oB 31 .add 17 (cI 1),
oM 17 31])))))))
(sq (kr [] [oD 6 (.mov cT)])
.ret))))
def ZK_:List RD:=[.tmp 6 true none]
theorem ZM_:zl_ Tryz.prog Tryz.f114 ZP_ ZK_=true:=by kernel_rfl
def zy_:List AV->List Obj->Option (Prop × AV)
 | [.imm ty0 a,.imm ty1 b,.fn 115 [] []],[]=>Zs_ ty0 Y2 a fun a=>Zs_ ty1 Y2 b fun b=>some ((True,.bool (decide ((a:List AC)=b))))
 | _,_=>none
theorem ZB_:zf_ Tryz.prog 114 (RoF zy_).sum:=by
 refine zj_ Tryz.func114 ZM_ (za_ (s:=RoF kh_) j8_ (ze_ _)) fun args objs p v e=>?_
 unfold zy_ at e
 split at e
 ·rename_i ty0 a ty1 b
  obtain rfl:=zv_ e
  replace e:=zw_ e
  obtain rfl:=zv_ e
  replace e:=zw_ e
  cases e
  refine ⟨rfl,fun hw ho hp=>?_⟩
  change List AC at a
  change List AC at b
  have hl:a.length<=maxLen:=(hw (.imm Y2 a) (by simp)).2
  unfold maxLen at hl
  clear hw ho
  repeat'(intro t ht;first|(cases t<;>first|(cases ht;done)|(try simp only[zh_]at ht))|((first|refine zb_ ht ?_|refine ht ?_ ?_|refine ht.1 ?_ ?_|refine ht ?_)<;>clear ht))
  all_goals first
   | (have hne:a ≠ b:=fun h=>(by assumption:¬ (a.length:Int)=b.length) (by rw [h])
      refine ⟨?_,rfl⟩;rw [decide_eq_false hne];done)
   | (intro r h1 h2;clear h1;refine h2 ⟨[],[1,2,15,16,17],Nat,(fun i=>i<=a.length/\a.take i=b.take i),fun i=>[.imm Y2 b,.fn 115 [] [],.imm Y2 a,.int .i64 a.length,.int .i64 i],fun _=>[],fun i=>a.length - i,⟨0,⟨Nat.zero_le _,rfl⟩,rfl,rfl⟩,?_⟩;clear h2)
  rintro i ⟨hi,he⟩
  have hl2:a.length=b.length:=by omega
  repeat'(intro t ht;first|(cases t<;>first|(cases ht;done)|(try simp only[zh_]at ht;try(exfalso;first|contradiction|omega)))|((first|refine zb_ ht ?_|refine ht ?_ ?_|refine ht.1 ?_ ?_|refine ht ?_)<;>clear ht))
  all_goals (try generalize (Ty.dflt Y2)=od at*)
  all_goals first
   | exact True.intro
   | ((try simp only [zn_,zo_,zm_] at*);omega)
   | (have e:=gY_ he (by omega) hl2
      refine ⟨?_,rfl⟩;rw [decide_eq_true e];done)
   | (have hs:smA (a.getD i od) (b.getD i od)=false:=by assumption
      have hne:a ≠ b:=B3_ (d:=od) (i:=i) (zcX_ hs)
      refine ⟨?_,rfl⟩;rw [decide_eq_false hne];done)
   | (have hs:smA (a.getD i od) (b.getD i od)=true:=by assumption
      exact ⟨i+1,⟨by omega,y9_ he (by omega) hl2 (d:=od) (zcW_ hs)⟩,by (try simp only [zn_,zo_,zm_] at*);omega,rfl,rfl⟩)
 ·cases e
def gr_:IR:=
(sq (kr [0,1] [oD 4 (.mov cF)])
(sq (.reg [oM 5 0,
oM 6 1,
oC 7 114 [5,6,.f 115],
oM 4 7])
.ret))
def UJ_:List RD:=[.tmp 4 true none]
theorem U0_:zl_ Tryz.prog Tryz.f59 gr_ UJ_=true:=by kernel_rfl
def wQ_:List AV->List Obj->Option (Prop × AV)
 | [.imm ty0 a,.imm ty1 b],[]=>Zs_ ty0 Y2 a fun a=>Zs_ ty1 Y2 b fun b=>some ((True,.bool (decide ((a:List AC)=b))))
 | _,_=>none
theorem Vj_:zf_ Tryz.prog 59 (RoF wQ_).sum:=by
 refine zj_ Tryz.func59 U0_ (za_ (s:=RoF zy_) ZB_ (za_ (s:=RoF kh_) j8_ (ze_ _))) fun args objs p v e=>?_
 unfold wQ_ at e
 split at e
 ·rename_i ty0 a ty1 b
  obtain rfl:=zv_ e
  replace e:=zw_ e
  obtain rfl:=zv_ e
  replace e:=zw_ e
  cases e
  refine ⟨rfl,fun hw ho hp=>?_⟩
  repeat'(intro t ht;first|(cases t<;>first|(cases ht;done)|(try simp only[zh_]at ht;try(exfalso;first|contradiction|omega)))|((first|refine zb_ ht ?_|refine ht ?_ ?_|refine ht.1 ?_ ?_|refine ht ?_)<;>clear ht))
  all_goals first
   | exact True.intro
   | exact ⟨rfl,rfl⟩
   | exact rfl
 ·cases e
theorem KN_ {α:Type} {l:List α} {i:Nat} {d:α} (h:i < l.length):l.take i++[l.getD i d]=l.take (i+1):=by
 rw [List.take_succ_eq_append_getElem h,List.getD_eq_getElem?_getD,List.getElem?_eq_getElem h];rfl
def Xo_:IR:=
(sq (kr [0] [oD 1 (.boxv 0),
oD 2 (.box [.int .i64 0,.int .u64 0,.int .u64 0,.int .i64 0,.int .i64 0,.kb false,.int .u64 0,.imm (.int .u8) [],.imm (.int .u8) [],.imm (.int .u8) []])])
(sq (kr [1,2] [oA 4 9 1,
oL 5 4,
oE 6 5,
oD 7 (.mkrow (.int .u8) 1 (0:Int) 6 6),
oM 3 7])
(sq (.reg [oM 8 3,
oA 9 9 1,
oL 10 9,
oD 11 (.copy (.int .u8) 8 10)])
(sq (kr [1,2,3] [oM 12 3,
oA 13 3 1,
oK 14 6 13,
oC 15 42 [14],
oA 16 9 1,
oS 1 16 12,
oA 17 3 1,
oS 6 17 15])
(sq (.reg [oK 18 10 1,
oS 10 2 18])
.ret)))))
def x6_:List RD:=[.cell 2 (some 10) false []]
theorem Xe_:zl_ Tryz.prog Tryz.f113 Xo_ x6_=true:=by kernel_rfl
def kI_:List AV->List Obj->Option (Prop × AV × List Obj)
 | [.agg [.int .i64 q,.int .u64 a,.int .u64 b,.int .i64 c,.int .i64 f,.bool h,.int .u64 x,.jsl 0 (.int .u8) v,.jsl 0 (.int .u8) m,.jsl 0 (.int .u8) d]],[.reg false true]=>some ((d.length<=1000000/\v.length<=1000000/\m.length<=1000000,.agg [.int .i64 q,.int .u64 a,.int .u64 b,.int .i64 c,.int .i64 f,.bool h,.int .u64 x,.view 1 0 v.length,.view 1 v.length m.length,.own 2],[.reg false true,.row false (.int .u8) (v++m),.row false (.int .u8) d]))
 | _,_=>none
theorem xb_:zf_ Tryz.prog 113 (RwF kI_).sum:=by
 refine Qi_ Tryz.func113 Xe_ (za_ (s:=RwF jV_) Yi_ (ze_ _)) fun args objs p v o e=>?_
 unfold kI_ at e
 split at e
 ·rename_i q a b c f h x v m d
  cases e
  refine ⟨rfl,fun hw ho hp=>?_⟩
  change List Int at v
  change List Int at m
  change List Int at d
  clear hw ho
  have k1:(List.replicate d.length (0:Int)).length=d.length:=List.length_replicate
  have k2:d.take d.length=d:=List.take_length
  repeat'(intro t ht;first|(cases t<;>first|(cases ht;done)|(try simp only[zh_]at ht;try(exfalso;first|contradiction|omega)))|((first|refine zb_ ht ?_|refine ht ?_ ?_|refine ht.1 ?_ ?_|refine ht ?_)<;>clear ht))
  all_goals first
   | exact True.intro
   | exact hp.2
   | exact ⟨hp.2.1,hp.2.2⟩
   | omega
   | ((try simp only [zn_,zo_,zm_] at*);omega)
   | (simp only [Z8_,Int.toNat_natCast,k1,k2,List.drop_of_length_le (Nat.le_of_eq k1),List.append_nil,Nat.min_self];first | omega | exact ⟨rfl,by first | rfl | exact True.intro⟩)
 ·cases e
theorem g8_ {α:Type} {l:List α} {i:Nat} {d:α} (h:i < l.length):l.set i (l.getD i d)=l:=by
 rw [List.getD_eq_getElem?_getD,List.getElem?_eq_getElem h]
 exact List.set_getElem_self h
theorem zd2_ (a:AC):((a.1,a.2.1,a.2.2.1,(a.2.2.2.1.1,a.2.2.2.1.2.1,a.2.2.2.1.2.2.1,a.2.2.2.1.2.2.2.1,((a.2.2.2.1.2.2.2.2.1++a.2.2.2.1.2.2.2.2.2.1).drop 0).take a.2.2.2.1.2.2.2.2.1.length,((a.2.2.2.1.2.2.2.2.1++a.2.2.2.1.2.2.2.2.2.1).drop a.2.2.2.1.2.2.2.2.1.length).take a.2.2.2.1.2.2.2.2.2.1.length,()),a.2.2.2.2.1,()):AC)=a:=by
 rw [List.drop_zero,List.take_left,List.drop_left,List.take_length]
def vo_:IR:=
(sq (kr [0] [oD 2 (.mov (.c (.imm Y2 [])))])
(sq (.reg [oM 6 0,
oE 7 6,
oD 8 (.mkrow Y2 128 ((0:Int),((0:Int),((0:Int),(((0:Int),((0:Int),(false,((0:Int),(([]:List (Ty.den (.int .u8))),(([]:List (Ty.den (.int .u8))),())))))),(([]:List (Ty.den (.int .u8))),()))))) (cI 0) 7),
oM 3 8])
(sq (sq (.reg [oM 9 0,
oE 10 9,
oD 11 (.mov (cI 0))])
(.block 0
(.loop
(sq (kr [3,9,10,11] [oB 12 .lss 11 10])
(sq (.cond 12
.skip
(.exit 0))
(sq (.block 1
(sq (.reg [oI 13 10 9 11,
oK 14 10 13,
oD 5 (.box [.int .i64 0,.int .u64 0,.int .u64 0,.int .i64 0,.int .i64 0,.kb false,.int .u64 0,.imm (.int .u8) [],.imm (.int .u8) [],.imm (.int .u8) []]),
oS 10 5 14])
(kr [3,5,9,10,11] [oM 15 3,
oK 16 10 5,
oC 17 113 [16],
oD 18 (.sliceAll Y2 1 [(0,10,17)]),
oD 19 (.append Y2 128 15 18),
oM 3 19])))
(kr [3,9,10,11] [oB 20 .add 11 (cI 1),
oM 11 20])))))))
(sq (kr [3] [oM 21 3,
oM 2 21])
.ret))))
def YF_:List RD:=[.tmp 2 true (some Y2)]
theorem Y0_:zl_ Tryz.prog Tryz.f56 vo_ YF_=true:=by kernel_rfl
def KJ_:List AV->List Obj->Option (Prop × AV)
 | [.jsl 0 ty0 l],[.reg false true]=>Zs_ ty0 Y2 l fun l=>some ((okL l,.imm Y2 l))
 | _,_=>none
theorem ym_:zf_ Tryz.prog 56 (RoF KJ_).sum:=by
 refine zj_ Tryz.func56 Y0_ (za_ (s:=RwF kI_) xb_ (ze_ _)) fun args objs p v e=>?_
 unfold KJ_ at e
 split at e
 ·rename_i ty0 l
  obtain rfl:=zv_ e
  replace e:=zw_ e
  cases e
  refine ⟨rfl,fun hw ho hp=>?_⟩
  change List AC at l
  clear hw ho
  have hn:=hp.n
  repeat'(intro t ht;first|(cases t<;>first|(cases ht;done)|(try simp only[zh_]at ht))|((first|refine zb_ ht ?_|refine ht ?_ ?_|refine ht.1 ?_ ?_|refine ht ?_)<;>clear ht))
  all_goals first
   | exact True.intro
   | ((try simp only [zn_,zo_,zm_] at*);omega)
   | (intro r h1 h2;clear h1;refine h2 ⟨[],[3,9,10,11],Nat,(fun i=>i<=l.length),fun i=>[.own 1,.jsl 0 Y2 l,.int .i64 l.length,.int .i64 i],fun i=>[.reg false true,.row false Y2 (l.take i)],fun i=>l.length - i,⟨0,Nat.zero_le _,rfl,rfl⟩,?_⟩;clear h2)
  rintro i hi
  repeat'(intro t ht;first|(cases t<;>first|(cases ht;done)|(try simp only[zh_]at ht;try(exfalso;first|contradiction|omega)))|((first|refine zb_ ht ?_|refine ht ?_ ?_|refine ht.1 ?_ ?_|refine ht ?_)<;>clear ht))
  all_goals (try generalize (Ty.dflt Y2)=od at*)
  all_goals first
   | exact True.intro
   | ((try simp only [zn_,zo_,zm_] at*);omega)
   | (rw [List.take_of_length_le (show l.length<=i by omega)];exact ⟨rfl,rfl⟩)
   | (have hlt:i < l.length:=by omega
      have hln:=hp.a _ (zW_ hlt od)
      have htk:(l.take i).length=i:=B4_ hi
      first
       | exact ⟨Nat.le_trans hln.2.2 (by decide),Nat.le_trans hln.1 (by decide),Nat.le_trans hln.2.1 (by decide)⟩
       | (simp only [Z8_,List.length_cons,List.length_nil];constructor<;>omega)
       | (simp only [List.length_append,Int.toNat_natCast];omega)
       | (refine ⟨i+1,by omega,by dsimp only;omega,rfl,?_⟩
          dsimp only
          rw [<- KN_ (d:=od) hlt]
          simp only [Z8_,Int.toNat_natCast,zd2_]))
 ·cases e
end Go.Eng
namespace Go.Eng
open Go.Proofs
set_option linter.unusedVariables false
set_option linter.unusedSimpArgs false
set_option maxRecDepth 100000
set_option maxHeartbeats 1000000
set_option maxHeartbeats 8000000
end Go.Eng
namespace Go.Eng
open Go.Proofs
set_option linter.unusedVariables false
set_option linter.unusedSimpArgs false
set_option maxRecDepth 100000
set_option maxHeartbeats 1000000
def bysA (a:AC):Prop:=0<=a.2.2.2.1.2.2.2.1/\(∀ x ∈ a.2.2.2.1.2.2.2.2.1,0<=x/\x<=255)/\(∀ x ∈ a.2.2.2.1.2.2.2.2.2.1,0<=x/\x<=255)/\(∀ x ∈ a.2.2.2.2.1,0<=x/\x<=255)/\(0<=a.2.1/\a.2.1<=18446744073709551615)/\(0<=a.2.2.1/\a.2.2.1<=18446744073709551615)
theorem zeb_ {l:List AC} (h:Ty.wf (.sl Y2) l):∀ o ∈ l,bysA o:=fun o ho=>by
 obtain ⟨h1,h2,h3,⟨g1,g2,g3,g4,g5,g6,_⟩,h5,_⟩:=h.1 o ho
 have u8:∀ {v:List Int},Ty.wf (.sl (.int .u8)) v->∀ x ∈ v,0<=x/\x<=255:=fun {v} hv x hx=>by
  have:=hv.1 x hx;unfold Ty.wf inK at this;rw [zdI_,zdJ_] at this;exact this
 have u64:∀ {n:Int},Ty.wf (.int .u64) n->0<=n/\n<=18446744073709551615:=fun {n} hn=>by
  unfold Ty.wf inK at hn;rw [U5_,U6_] at hn;exact hn
 exact ⟨(u64 g4).1,u8 g5,u8 g6,u8 h5,u64 h2,u64 h3⟩
def atL (n:Int) (b:List Int) (p sh e:Int):List AC:=if qb_ n b p sh e=0 then adL (qV_ n b p sh e) else []
def atE (n:Int) (b:List Int) (p sh e:Int):Int:=if qb_ n b p sh e=0 then adE (qV_ n b p sh e) else qb_ n b p sh e
theorem b6_ {n:Int} {b:List Int} {p sh e:Int}:(qV_ n b p sh e).length<=b.length:=by
 unfold qV_;split
 ·rw [List.length_drop,List.length_take];omega
 ·simp
def gp_:IR:=
(sq (kr [0,1] [oD 4 (.mov (.c (.imm Y2 [])))])
(sq (.reg [oM 8 0,
oM 9 1,
oC 10 88 [8,9],
oM 5 10])
(sq (sq (.reg [oM 11 0,
oC 12 53 [11],
oB 13 .neq 12 (cI 0)])
(.cond 13
(sq (kr [] [oD 4 (.mov (.c (.imm Y2 [])))])
.ret)
.skip))
(sq (kr [0,5] [oM 15 5,
oC 16 152 [15],
oM 14 16,
oX 17 14 0,
oX 18 14 1,
oM 6 17,
oM 7 18])
(sq (kr [0,6,7] [oM 19 0,
oM 20 7,
oC 21 110 [19,20]])
(sq (.reg [oM 22 6,
oM 4 22])
.ret))))))
def UH_:List RD:=[.tmp 4 true (some Y2)]
theorem UY_:zl_ Tryz.prog Tryz.f126 gp_ UH_=true:=by kernel_rfl
def wO_:List AV->List Obj->Option (Prop × AV × List Obj)
 | [.ptr 0 0,.int .i64 n],[.box [.imm (.int .u8) b,.int .i64 p,.int .i64 sh,.int .i64 od,.int .i64 e,.bool true]]=>some ((0<=p/\p<=b.length/\b.length<=100000000/\sh ≠ 0,.imm Y2 (atL n b p sh e),[.box [.imm (.int .u8) b,.int .i64 (j5_ n b p sh e),.int .i64 sh,.int .i64 od,.int .i64 (atE n b p sh e),.bool true]]))
 | _,_=>none
theorem Vh_:zf_ Tryz.prog 126 (RwF wO_).sum:=by
 refine Qi_ Tryz.func126 UY_ (za_ (s:=RwF zZ_) Zw_ (za_ (s:=RoF zB_) zG_ (za_ (s:=RoF KI_) yl_ (za_ (s:=RwF zE_) zJ_ (ze_ _))))) fun args objs p v o e=>?_
 unfold wO_ at e
 split at e
 ·rename_i n b p sh od e
  cases e
  refine ⟨rfl,fun hw ho hp=>?_⟩
  change List Int at b
  clear hw ho
  obtain ⟨h1,h2,h3,h4⟩:=hp
  have hl:=b6_ (n:=n) (b:=b) (p:=p) (sh:=sh) (e:=e)
  by_cases he:qb_ n b p sh e=0
  ·have f0:∀ x,Zd_ 0 x=x:=fun x=>if_pos rfl
   have k1:atL n b p sh e=adL (qV_ n b p sh e):=if_pos he
   have k2:atE n b p sh e=adE (qV_ n b p sh e):=if_pos he
   rw [k1,k2]
   clear k1 k2
   repeat'(intro t ht;first|(cases t<;>first|(cases ht;done)|(try simp only[zh_]at ht))|((first|refine zb_ ht ?_|refine ht ?_ ?_|refine ht.1 ?_ ?_|refine ht ?_)<;>clear ht))
   all_goals (try simp only [he,f0] at*)
   all_goals first
    | exact True.intro
    | contradiction
    | exact ⟨h1,h2,by omega,h4⟩
    | omega
    | exact ⟨rfl,by first | rfl | exact True.intro⟩
    | exact ⟨True.intro,True.intro⟩
    | (exfalso;simp_all;done)
  ·repeat'(intro t ht;first|(cases t<;>first|(cases ht;done)|(try simp only[zh_]at ht;try(exfalso;first|contradiction|omega)))|((first|refine zb_ ht ?_|refine ht ?_ ?_|refine ht.1 ?_ ?_|refine ht ?_)<;>clear ht))
   all_goals first
    | exact True.intro
    | exact ⟨h1,h2,by omega,h4⟩
    | (unfold atL atE;rw [if_neg he,if_neg he];exact ⟨rfl,by first | rfl | exact True.intro⟩)
    | (exfalso;simp_all;done)
 ·cases e
abbrev BK:=Int × Int × Int × List AC × Unit
instance:DecidableEq (List AC × Unit):=inferInstance
instance:DecidableEq BK:=inferInstance
def w5:List Int:=[2,2,4,4,-4]
structure okB (l:List BK):Prop where
 a:∀ o ∈ l,okL o.2.2.2.1
 n:l.length<=1000000
theorem bg_ {α:Type} {x:α->List Int} {f:α->Int} {room:Int} (hr:room<=1000000):∀ (r:List α) (l:List Int) (e:Int),l.length<=1000000->(wrS x f room r l e).1.length<=1000000
 | [],l,e,h=>h
 | o :: r,l,e,h=>bg_ hr r _ _ (wC_ h hr)
theorem w3_ {e x:Int} (h:e ≠ 0):Zd_ e x ≠ 0:=by unfold Zd_;rw [if_neg h];exact h
theorem bS_ {x l:List Int} {room e:Int} (h:e ≠ 0):kV_ x l room e ≠ 0:=by unfold kV_;rw [if_neg h];exact h
theorem hW_ {α:Type} {x:α->List Int} {f:α->Int} {room:Int}:∀ (r:List α) (l:List Int) (e:Int),e ≠ 0->(wrS x f room r l e).2 ≠ 0
 | [],l,e,h=>h
 | o :: r,l,e,h=>hW_ r _ _ (bS_ (w3_ h))
theorem zd8_ {x:List AC} {l:List Int} {room e:Int} (h:e ≠ 0):apE x l room e ≠ 0:=by
 unfold apE;split
 ·exact hW_ _ _ _ h
 ·exact w3_ h
theorem hG_ {x l:List Int} {room:Int} (h:¬ (x.length:Int)<=room - l.length):kV_ x l room 0 ≠ 0:=by
 unfold kV_;rw [if_pos rfl,if_neg h];decide
theorem gV_ {room:Int}:∀ (r:List AC) (l:List Int),r.all rgA=true->(l.length:Int)<=room->¬ ((l.length:Int)+(boA r).length<=room)->(wrS exA eeA room r l 0).2 ≠ 0
 | [],l,_,h0,h1=>by exfalso;apply h1;show (l.length:Int)+0<=room;omega
 | o :: r,l,h,h0,h1=>by
   rw [List.all_cons,Bool.and_eq_true] at h
   obtain ⟨h2,h3⟩:=zc6_ h.1
   rw [Kg_,List.length_append] at h1
   have f0:Zd_ 0 0=0:=rfl
   unfold wrS
   rw [h2,h3,f0]
   by_cases hf:((ebA o).length:Int)<=room - l.length
   ·obtain ⟨b1,b2⟩:=XB_ hf
    rw [b1,b2]
    exact gV_ r _ h.2 (by rw [List.length_append];omega) (by rw [List.length_append];omega)
   ·exact hW_ _ _ _ (hG_ hf)
def bysU (a:AC):Prop:=0<=a.2.2.2.1.2.2.2.1/\(0<=a.2.1/\a.2.1<=18446744073709551615)/\(0<=a.2.2.1/\a.2.2.1<=18446744073709551615)
theorem zdf_ {a:AC} {rest:List Int} (hr:rgA a=true) (hu:bysU a):acE (ebA a++rest)=0/\vA (ebA a++rest)=a/\tN (ebA a++rest)=(ebA a).length:=by
 obtain ⟨E1,E2,E3,E4,E5,E6,E7,E8,E9,E10,E11,E12⟩:=zee_ (rest:=rest) (show ZW_ (zM_ a.2.2.2.1.1 a.2.2.2.1.2.1 a.2.2.2.1.2.2.1 a.2.2.2.1.2.2.2.1 a.2.2.2.1.2.2.2.2.1 a.2.2.2.1.2.2.2.2.2.1) a.1 a.2.1 a.2.2.1 a.2.2.2.1.1 a.2.2.2.1.2.1 a.2.2.2.1.2.2.1 a.2.2.2.1.2.2.2.1 a.2.2.2.1.2.2.2.2.1 a.2.2.2.1.2.2.2.2.2.1 a.2.2.2.2.1=true from hr) hu.2.1 hu.2.2 hu.1
 have hs:=Ya_ hr
 have e:szA a=4+((Z3_ a.1 a.2.1 a.2.2.1 (Zq_ a.2.2.2.1.1 a.2.2.2.1.2.1 a.2.2.2.1.2.2.1 a.2.2.2.1.2.2.2.1 a.2.2.2.1.2.2.2.2.1 a.2.2.2.1.2.2.2.2.2.1) a.2.2.2.2.1).length:Int):=(wX_ hr).1
 refine ⟨E1,?_,?_⟩
 ·show (tT _,acA _ 0,acA _ 1,(acS _ _,acS _ _,acH _,acS _ _,acV _ _,acV _ _,()),acD _,())=a
  unfold ebA
  rw [E2,E4,E5,E6,E7,E8,E9,E10,E11,E12]
 ·unfold ebA at hs ⊢
  rw [E3];omega
theorem bW_:∀ (r acc:List AC),r.all rgA=true->(∀ a ∈ r,bysU a)->acc.length+r.length<=64->alG acc (boA r)=(acc++r,0)
 | [],acc,_,_,_=>by rw [w8_ (by rfl),List.append_nil]
 | a :: r,acc,h,hu,hl=>by
   rw [List.all_cons,Bool.and_eq_true] at h
   obtain ⟨e1,e2,e3⟩:=zdf_ (rest:=boA r) h.1 (hu a (List.mem_cons_self ..))
   have hs:=Ya_ h.1
   rw [List.length_cons] at hl
   have ha:acc++a :: r=(acc++[a])++r:=by rw [List.append_assoc];rfl
   rw [Kg_,gG_ (by rw [List.length_append];omega) (by omega) e1 (by rw [e3];omega),e2,e3,Int.toNat_natCast,List.drop_left]
   rw [bW_ r (acc++[a]) h.2 (fun o ho=>hu o (List.mem_cons_of_mem _ ho)) (by rw [List.length_append,List.length_singleton];omega),<- ha]
theorem bX_:∀ (n:Nat) (y:List Int) (acc l:List AC),y.length<=n->(∀ x ∈ y,0<=x/\x<=255)->acc.length<=64->alG acc y=(l,0)->∃ r,l=acc++r/\r.all rgA=true/\boA r=y/\l.length<=64
 | 0,y,acc,l,hn,hb,ha,h=>by
   rw [w8_ (by omega)] at h
   cases h
   refine ⟨[],by rw [List.append_nil],rfl,?_,ha⟩
   rw [List.eq_nil_of_length_eq_zero (show y.length=0 by omega)];rfl
 | n+1,y,acc,l,hn,hb,ha,h=>by
   by_cases h0:y.length=0
   ·rw [w8_ h0] at h
    cases h
    refine ⟨[],by rw [List.append_nil],rfl,?_,ha⟩
    rw [List.eq_nil_of_length_eq_zero h0];rfl
   ·by_cases h1:acc.length=64
    ·rw [hM_ h0 h1] at h
     exact absurd (congrArg Prod.snd h) (show ¬ (520:Int)=0 by decide)
    ·by_cases h2:acE y=0
     ·obtain ⟨g1,g2,_⟩:=H8_ h2
      rw [gG_ h0 h1 h2 (by omega)] at h
      obtain ⟨r,e1,e2,e3,e4⟩:=bX_ n (y.drop (tN y).toNat) (acc++[vA y]) l (by rw [List.length_drop];omega) (fun x hx=>hb x (List.mem_of_mem_drop hx)) (by rw [List.length_append,List.length_singleton];omega) h
      obtain ⟨f1,f2,_,_⟩:=zef_ hb h2
      refine ⟨vA y :: r,?_,?_,?_,e4⟩
      ·rw [e1,List.append_assoc];rfl
      ·rw [List.all_cons,e2,Bool.and_true];exact f1
      ·rw [Kg_,e3]
       have:ebA (vA y)=y.take (tN y).toNat:=f2
       rw [this,List.take_append_drop]
     ·rw [gH_ h0 h1 h2] at h
      exact absurd (congrArg Prod.snd h) h2
theorem zbF_ {l:List AC} (h:rgL l=true) (hu:∀ a ∈ l,bysU a):adL (boA l)=l/\adE (boA l)=0:=by
 obtain ⟨h1,h2,h3,_⟩:=K0_ h
 have hg:=bW_ l [] h1 hu (by simpa using h2)
 rw [List.nil_append] at hg
 exact (XF_ hg).2 (by omega)
theorem zea_ {b:List Int} (hb:∀ x ∈ b,0<=x/\x<=255) (h:adE b=0):rgL (adL b)=true/\boA (adL b)=b/\b.length<=65528:=by
 have h1:(alG [] b).2=0:=Classical.byContradiction fun hn=>by
  unfold adE at h;rw [if_pos hn] at h;exact hn h
 have h2:¬ 65528 < b.length:=fun hl=>by
  unfold adE at h;rw [if_neg (not_not_intro h1),if_pos hl] at h;cases h
 have hL:adL b=(alG [] b).1:=if_pos h
 obtain ⟨r,e1,e2,e3,e4⟩:=bX_ b.length b [] (alG [] b).1 (Nat.le_refl _) hb (Nat.zero_le _) (Prod.ext rfl h1)
 rw [List.nil_append] at e1
 rw [hL]
 rw [<- e1] at e2 e3
 exact ⟨zdr_ e2 e4 (by rw [e3];omega),e3,by omega⟩
def pre (l:List BK) (i:Nat):Int:=((l.take i).map (·.1)).sum
structure smW (l:List BK):Prop where
 w:∀ o ∈ l,0<=o.1/\o.1<=11
 n:l.length<=12
abbrev P8:=Int × Int × Int × Int × Int × Int × Int × Int × Unit
abbrev PV:=Int × Int × List Int × P8 × Unit
instance:DecidableEq (Int × Int × Int × Int × Unit):=inferInstance
instance:DecidableEq P8:=inferInstance
instance:DecidableEq PV:=inferInstance
abbrev VIn:=Int × Int × Int × List AC × List Int × Unit
instance:DecidableEq (List Int × Unit):=inferInstance
instance:DecidableEq (List AC × List Int × Unit):=inferInstance
instance:DecidableEq (Int × List AC × List Int × Unit):=inferInstance
instance:DecidableEq (Int × Int × List AC × List Int × Unit):=inferInstance
instance:DecidableEq VIn:=inferInstance
theorem zdH_ {x y:VIn} (h:¬ (x.1=y.1/\x.2.1=y.2.1/\x.2.2.1=y.2.2.1/\x.2.2.2.1=y.2.2.2.1/\x.2.2.2.2.1=y.2.2.2.2.1)):¬ x=y:=fun e=>h (by rw [e];exact ⟨rfl,rfl,rfl,rfl,rfl⟩)
theorem zd1_ {x y:VIn} (h:x.1=y.1/\x.2.1=y.2.1/\x.2.2.1=y.2.2.1/\x.2.2.2.1=y.2.2.2.1/\x.2.2.2.2.1=y.2.2.2.2.1):x=y:=by
 obtain ⟨a0,a1,a2,a3,a4,_⟩:=x
 obtain ⟨b0,b1,b2,b3,b4,_⟩:=y
 simpa only [Prod.mk.injEq,and_true] using h
abbrev VBd:=Int × Int × Int × Int × List Int × Unit
instance:DecidableEq (List Int × Unit):=inferInstance
instance:DecidableEq (Int × List Int × Unit):=inferInstance
instance:DecidableEq (Int × Int × List Int × Unit):=inferInstance
instance:DecidableEq (Int × Int × Int × List Int × Unit):=inferInstance
instance:DecidableEq VBd:=inferInstance
abbrev VPr:=Int × Int × List Int × Unit
instance:DecidableEq (List Int × Unit):=inferInstance
instance:DecidableEq (Int × List Int × Unit):=inferInstance
instance:DecidableEq VPr:=inferInstance
abbrev VQu:=Int × Int × List VPr × Unit
instance:DecidableEq (List VPr × Unit):=inferInstance
instance:DecidableEq (Int × List VPr × Unit):=inferInstance
instance:DecidableEq VQu:=inferInstance
abbrev VFe:=Int × List Int × List Int × Unit
instance:DecidableEq (List Int × Unit):=inferInstance
instance:DecidableEq (List Int × List Int × Unit):=inferInstance
instance:DecidableEq VFe:=inferInstance
abbrev VTb:=Int × List Int × Int × Int × Int × Int × List VFe × Unit
instance:DecidableEq (List VFe × Unit):=inferInstance
instance:DecidableEq (Int × List VFe × Unit):=inferInstance
instance:DecidableEq (Int × Int × List VFe × Unit):=inferInstance
instance:DecidableEq (Int × Int × Int × List VFe × Unit):=inferInstance
instance:DecidableEq (Int × Int × Int × Int × List VFe × Unit):=inferInstance
instance:DecidableEq (List Int × Int × Int × Int × Int × List VFe × Unit):=inferInstance
instance:DecidableEq VTb:=inferInstance
abbrev VEl:=Int × List Int × Unit
instance:DecidableEq (List Int × Unit):=inferInstance
instance:DecidableEq VEl:=inferInstance
abbrev VPa:=List Int × List (List Int) × List OV × List VIn × List BK × List VBd × List (List Int) × List PV × List VTb × List Int × Unit
instance:DecidableEq (List Int × Unit):=inferInstance
instance:DecidableEq (List VTb × List Int × Unit):=inferInstance
instance:DecidableEq (List PV × List VTb × List Int × Unit):=inferInstance
instance:DecidableEq (List (List Int) × List PV × List VTb × List Int × Unit):=inferInstance
instance:DecidableEq (List VBd × List (List Int) × List PV × List VTb × List Int × Unit):=inferInstance
instance:DecidableEq (List BK × List VBd × List (List Int) × List PV × List VTb × List Int × Unit):=inferInstance
instance:DecidableEq (List VIn × List BK × List VBd × List (List Int) × List PV × List VTb × List Int × Unit):=inferInstance
instance:DecidableEq (List OV × List VIn × List BK × List VBd × List (List Int) × List PV × List VTb × List Int × Unit):=inferInstance
instance:DecidableEq (List (List Int) × List OV × List VIn × List BK × List VBd × List (List Int) × List PV × List VTb × List Int × Unit):=inferInstance
instance:DecidableEq VPa:=inferInstance
abbrev VMs:=Int × Int × List Int × List Int × List VEl × List OV × List AC × List VIn × List BK × List VBd × List VQu × List PV × Int × Int × List VPa × Unit
instance:DecidableEq (List VPa × Unit):=inferInstance
instance:DecidableEq (Int × List VPa × Unit):=inferInstance
instance:DecidableEq (Int × Int × List VPa × Unit):=inferInstance
instance:DecidableEq (List PV × Int × Int × List VPa × Unit):=inferInstance
instance:DecidableEq (List VQu × List PV × Int × Int × List VPa × Unit):=inferInstance
instance:DecidableEq (List VBd × List VQu × List PV × Int × Int × List VPa × Unit):=inferInstance
instance:DecidableEq (List BK × List VBd × List VQu × List PV × Int × Int × List VPa × Unit):=inferInstance
instance:DecidableEq (List VIn × List BK × List VBd × List VQu × List PV × Int × Int × List VPa × Unit):=inferInstance
instance:DecidableEq (List AC × List VIn × List BK × List VBd × List VQu × List PV × Int × Int × List VPa × Unit):=inferInstance
instance:DecidableEq (List OV × List AC × List VIn × List BK × List VBd × List VQu × List PV × Int × Int × List VPa × Unit):=inferInstance
instance:DecidableEq (List VEl × List OV × List AC × List VIn × List BK × List VBd × List VQu × List PV × Int × Int × List VPa × Unit):=inferInstance
instance:DecidableEq (List Int × List VEl × List OV × List AC × List VIn × List BK × List VBd × List VQu × List PV × Int × Int × List VPa × Unit):=inferInstance
instance:DecidableEq (List Int × List Int × List VEl × List OV × List AC × List VIn × List BK × List VBd × List VQu × List PV × Int × Int × List VPa × Unit):=inferInstance
instance:DecidableEq (Int × List Int × List Int × List VEl × List OV × List AC × List VIn × List BK × List VBd × List VQu × List PV × Int × Int × List VPa × Unit):=inferInstance
instance:DecidableEq VMs:=inferInstance
def G6_:IR:=
(sq (kr [0,1] [oD 4 (.mov cF)])
(sq (sq (kr [0,1] [oM 8 0,
oE 9 8,
oM 10 1,
oE 11 10,
oB 12 .neq 9 11])
(.cond 12
(sq (.reg [oD 4 (.mov cF)])
.ret)
.skip))
(sq (sq (kr [0,1] [oD 5 (.mov (cI 0))])
(.block 0
(.loop
(sq (sq (kr [0,1,5] [oM 13 5,
oM 14 0,
oE 15 14,
oB 16 .lss 13 15])
(.cond 16
.skip
(.exit 0)))
(sq (.block 1
(sq (kd [0,1,5] [(oM 19 0,[]),
(oM 20 5,[0]),
(oI 21 5 19 20,[]),
(oK 22 5 21,[]),
(oM 23 1,[0,0,0,0]),
(oM 24 5,[0,0,0,0,0]),
(oI 25 5 23 24,[2,0,0,0]),
(oK 26 5 25,[3,0,0,0]),
(oD 6 (.box [.int .i64 0,.int .u64 0,.int .u64 0,.imm Y2 [],.imm (.int .u8) []]),[0,0,0,0,0,0,0,0]),
(oD 7 (.box [.int .i64 0,.int .u64 0,.int .u64 0,.imm Y2 [],.imm (.int .u8) []]),[0,0,0,0,0,0,0,0,0]),
(oS 5 6 22,[2,0,0,0]),
(oS 5 7 26,[])])
(sq (kr [0,1,5,6,7] [oA 27 0 6,
oL 28 27,
oA 29 0 7,
oL 30 29,
oB 31 .neq 28 30,
oM 32 31,
oF 32 33 (.fieldAddr 1 6),
oF 32 34 (.load none 33),
oF 32 35 (.fieldAddr 1 7),
oF 32 36 (.load none 35),
oF 32 37 (.bin .neq 34 36),
oP 38 32 cT 37,
oM 39 38,
oF 39 40 (.fieldAddr 2 6),
oF 39 41 (.load none 40),
oF 39 42 (.fieldAddr 2 7),
oF 39 43 (.load none 42),
oF 39 44 (.bin .neq 41 43),
oP 45 39 cT 44,
oM 46 45,
oF 46 47 (.fieldAddr 3 6),
oF 46 48 (.load none 47),
oF 46 49 (.fieldAddr 3 7),
oF 46 50 (.load none 49),
oF 46 51 (.call false (.f 54) [48,50]),
oF 46 52 (.un .not 51),
oP 53 46 cT 52,
oM 54 53,
oF 54 55 (.fieldAddr 4 6),
oF 54 56 (.load none 55),
oF 54 57 (.fieldAddr 4 7),
oF 54 58 (.load none 57),
oF 54 59 (.call false (.f 20) [56,58]),
oF 54 60 (.un .not 59),
oP 61 54 cT 60])
(.cond 61
(sq (kr [] [oD 4 (.mov cF)])
.ret)
.skip))))
(kr [0,1,5] [oM 17 5,
oB 18 .add 17 (cI 1),
oM 5 18]))))))
(sq (kr [] [oD 4 (.mov cT)])
.ret))))
def Gj_:List RD:=[.tmp 4 true none]
theorem GD_:zl_ Tryz.prog Tryz.f25 G6_ Gj_=true:=by kernel_rfl
def WP_:List AV->List Obj->Option (Prop × AV)
 | [.imm ty0 a,.imm ty1 b],[]=>Zs_ ty0 Y3 a fun a=>Zs_ ty1 Y3 b fun b=>some ((True,.bool (decide ((a:List VIn)=b))))
 | _,_=>none
theorem Uf_:zf_ Tryz.prog 25 (RoF WP_).sum:=by
 refine zj_ Tryz.func25 GD_ (za_ (s:=RoF WQ_) Ug_ (za_ (s:=RoF qB_) qX_ (ze_ _))) fun args objs p v e=>?_
 unfold WP_ at e
 split at e
 ·rename_i ty0 a ty1 b
  obtain rfl:=zv_ e
  replace e:=zw_ e
  obtain rfl:=zv_ e
  replace e:=zw_ e
  cases e
  refine ⟨rfl,fun hw ho hp=>?_⟩
  change List VIn at a
  change List VIn at b
  have hl:a.length<=maxLen:=(hw (.imm Y3 a) (by simp)).2
  unfold maxLen at hl
  clear hw ho
  repeat'(intro t ht;first|(cases t<;>first|(cases ht;done)|(try simp only[zh_]at ht))|((first|refine zb_ ht ?_|refine ht ?_ ?_|refine ht.1 ?_ ?_|refine ht ?_)<;>clear ht))
  all_goals first
   | (have hne:a ≠ b:=fun h=>(by assumption:¬ (a.length:Int)=b.length) (by rw [h])
      refine ⟨?_,rfl⟩;rw [decide_eq_false hne];done)
   | (intro r h1 h2;clear h1;refine h2 ⟨[],[0,1,5],Nat,(fun i=>i<=a.length/\a.take i=b.take i),fun i=>[.imm Y3 a,.imm Y3 b,.int .i64 i],fun _=>[],fun i=>a.length - i,⟨0,⟨Nat.zero_le _,rfl⟩,rfl,rfl⟩,?_⟩;clear h2)
  rintro i ⟨hi,he⟩
  have hl2:a.length=b.length:=by omega
  repeat'(intro t ht;first|(cases t<;>first|(cases ht;done)|(try simp only[zh_]at ht;try(exfalso;first|contradiction|omega)))|((first|refine zb_ ht ?_|refine ht ?_ ?_|refine ht.1 ?_ ?_|refine ht ?_)<;>clear ht))
  all_goals (try generalize (Ty.dflt Y3)=od at*)
  all_goals first
   | exact True.intro
   | ((try simp only [zn_,zo_,zm_] at*);omega)
   | (have e:=gY_ he (by omega) hl2
      refine ⟨?_,rfl⟩;rw [decide_eq_true e];done)
   | (have hne:a ≠ b:=B3_ (d:=od) (i:=i) (zdH_ fun h=>by simp_all)
      refine ⟨?_,rfl⟩;rw [decide_eq_false hne];done)
   | exact ⟨i+1,⟨by omega,y9_ he (by omega) hl2 (d:=od) (zd1_ (by simp_all))⟩,by (try simp only [zn_,zo_,zm_] at*);omega,rfl,rfl⟩
   | skip
 ·cases e
def yH_:IR:=
(sq (kr [0,1] [oD 2 (.boxv 0),
oD 3 (.boxv 1),
oD 4 (.mov cF)])
(sq (kr [2,3] [oA 5 0 2,
oL 6 5,
oA 7 0 3,
oL 8 7,
oB 9 .eql 6 8,
oM 10 9,
oT 10 11 (.fieldAddr 1 2),
oT 10 12 (.load none 11),
oT 10 13 (.fieldAddr 1 3),
oT 10 14 (.load none 13),
oT 10 15 (.bin .eql 12 14),
oP 16 10 15 cF,
oM 17 16,
oT 17 18 (.fieldAddr 2 2),
oT 17 19 (.load none 18),
oT 17 20 (.fieldAddr 2 3),
oT 17 21 (.load none 20),
oT 17 22 (.bin .eql 19 21),
oP 23 17 22 cF,
oM 24 23,
oT 24 25 (.fieldAddr 3 2),
oT 24 26 (.load none 25),
oT 24 27 (.fieldAddr 3 3),
oT 24 28 (.load none 27),
oT 24 29 (.call false (.f 59) [26,28]),
oP 30 24 29 cF,
oM 31 30,
oT 31 32 (.fieldAddr 4 2),
oT 31 33 (.load none 32),
oT 31 34 (.fieldAddr 4 3),
oT 31 35 (.load none 34),
oT 31 36 (.call false (.f 71) [33,35]),
oP 37 31 36 cF,
oM 4 37])
.ret))
def yp_:List RD:=[.tmp 4 true none]
theorem yy_:zl_ Tryz.prog Tryz.f70 yH_ yp_=true:=by kernel_rfl
def QG_:List AV->List Obj->Option (Prop × AV)
 | [.agg [.int .i64 a0,.int .u64 a1,.int .u64 a2,.imm ty0 a3,.imm (.int .u8) a4],.agg [.int .i64 b0,.int .u64 b1,.int .u64 b2,.imm ty1 b3,.imm (.int .u8) b4]],[]=>Zs_ ty0 Y2 a3 fun a3=>Zs_ ty1 Y2 b3 fun b3=>some ((True,.bool (decide (((a0,a1,a2,a3,a4,()):VIn)=(b0,b1,b2,b3,b4,())))))
 | _,_=>none
theorem KQ_:zf_ Tryz.prog 70 (RoF QG_).sum:=by
 refine zj_ Tryz.func70 yy_ (za_ (s:=RoF wQ_) Vj_ (za_ (s:=RoF q7_) kx_ (ze_ _))) fun args objs p v e=>?_
 unfold QG_ at e
 split at e
 ·rename_i a0 a1 a2 ty0 a3 a4 b0 b1 b2 ty1 b3 b4
  obtain rfl:=zv_ e
  replace e:=zw_ e
  obtain rfl:=zv_ e
  replace e:=zw_ e
  cases e
  refine ⟨rfl,fun hw ho hp=>?_⟩
  change List Int at a4
  change List Int at b4
  clear hw ho
  repeat'(intro t ht;first|(cases t<;>first|(cases ht;done)|(try simp only[zh_]at ht;try(exfalso;first|contradiction|omega)))|((first|refine zb_ ht ?_|refine ht ?_ ?_|refine ht.1 ?_ ?_|refine ht ?_)<;>clear ht))
  all_goals first
   | exact True.intro
   | (refine ⟨congrArg AV.bool ?_,rfl⟩;rw [Bool.eq_iff_iff];simp only [Bool.and_eq_true,decide_eq_true_eq,beq_iff_eq,Prod.mk.injEq,and_true,and_assoc];done)
   | (refine ⟨congrArg AV.bool ?_,rfl⟩;simp_all [Bool.and_assoc];done)
   | (refine ⟨congrArg AV.bool ?_,rfl⟩;rw [Bool.eq_iff_iff];simp_all [and_assoc];done)
   | skip
 ·cases e
def ZO_:IR:=
(sq (kr [0,1,2] [oD 6 (.mov cF)])
(sq (sq (kr [0,1,2] [oM 10 0,
oE 11 10,
oM 12 1,
oE 13 12,
oB 14 .neq 11 13])
(.cond 14
(sq (.reg [oD 6 (.mov cF)])
.ret)
.skip))
(sq (sq (kr [0,1,2] [oM 15 0,
oE 16 15,
oD 17 (.mov (cI 0))])
(.block 0
(.loop
(sq (kr [1,2,15,16,17] [oB 18 .lss 17 16])
(sq (.cond 18
.skip
(.exit 0))
(sq (.block 1
(sq (kr [1,2,15,16,17] [oM 19 17,
oI 20 5 15 17,
oK 21 5 20,
oD 8 (.box [.int .i64 0,.int .u64 0,.int .u64 0,.imm Y2 [],.imm (.int .u8) []]),
oM 7 19,
oS 5 8 21])
(sq (kr [1,2,7,8,15,16,17] [oM 22 1,
oM 23 7,
oI 24 5 22 23,
oK 25 5 24,
oD 9 (.box [.int .i64 0,.int .u64 0,.int .u64 0,.imm Y2 [],.imm (.int .u8) []]),
oS 5 9 25])
(sq (kr [1,2,8,9,15,16,17] [oM 26 2,
oK 27 5 8,
oK 28 5 9,
oD 29 (.call false 26 [27,28]),
oD 30 (.un .not 29)])
(.cond 30
(sq (.reg [oD 6 (.mov cF)])
.ret)
.skip)))))
(kr [1,2,15,16,17] [oB 31 .add 17 (cI 1),
oM 17 31])))))))
(sq (kr [] [oD 6 (.mov cT)])
.ret))))
def ZJ_:List RD:=[.tmp 6 true none]
theorem ZL_:zl_ Tryz.prog Tryz.f69 ZO_ ZJ_=true:=by kernel_rfl
def zx_:List AV->List Obj->Option (Prop × AV)
 | [.imm ty0 a,.imm ty1 b,.fn 70 [] []],[]=>Zs_ ty0 Y3 a fun a=>Zs_ ty1 Y3 b fun b=>some ((True,.bool (decide ((a:List VIn)=b))))
 | _,_=>none
theorem ZA_:zf_ Tryz.prog 69 (RoF zx_).sum:=by
 refine zj_ Tryz.func69 ZL_ (za_ (s:=RoF QG_) KQ_ (ze_ _)) fun args objs p v e=>?_
 unfold zx_ at e
 split at e
 ·rename_i ty0 a ty1 b
  obtain rfl:=zv_ e
  replace e:=zw_ e
  obtain rfl:=zv_ e
  replace e:=zw_ e
  cases e
  refine ⟨rfl,fun hw ho hp=>?_⟩
  change List VIn at a
  change List VIn at b
  have hl:a.length<=maxLen:=(hw (.imm Y3 a) (by simp)).2
  unfold maxLen at hl
  clear hw ho
  repeat'(intro t ht;first|(cases t<;>first|(cases ht;done)|(try simp only[zh_]at ht))|((first|refine zb_ ht ?_|refine ht ?_ ?_|refine ht.1 ?_ ?_|refine ht ?_)<;>clear ht))
  all_goals first
   | (have hne:a ≠ b:=fun h=>(by assumption:¬ (a.length:Int)=b.length) (by rw [h])
      refine ⟨?_,rfl⟩;rw [decide_eq_false hne];done)
   | (intro r h1 h2;clear h1;refine h2 ⟨[],[1,2,15,16,17],Nat,(fun i=>i<=a.length/\a.take i=b.take i),fun i=>[.imm Y3 b,.fn 70 [] [],.imm Y3 a,.int .i64 a.length,.int .i64 i],fun _=>[],fun i=>a.length - i,⟨0,⟨Nat.zero_le _,rfl⟩,rfl,rfl⟩,?_⟩;clear h2)
  rintro i ⟨hi,he⟩
  have hl2:a.length=b.length:=by omega
  repeat'(intro t ht;first|(cases t<;>first|(cases ht;done)|(try simp only[zh_]at ht;try(exfalso;first|contradiction|omega)))|((first|refine zb_ ht ?_|refine ht ?_ ?_|refine ht.1 ?_ ?_|refine ht ?_)<;>clear ht))
  all_goals (try generalize (Ty.dflt Y3)=od at*)
  all_goals first
   | exact True.intro
   | ((try simp only [zn_,zo_,zm_] at*);omega)
   | (have e:=gY_ he (by omega) hl2
      refine ⟨?_,rfl⟩;rw [decide_eq_true e];done)
   | (have hne:a ≠ b:=B3_ (d:=od) (i:=i) (by assumption)
      refine ⟨?_,rfl⟩;rw [decide_eq_false hne];done)
   | exact ⟨i+1,⟨by omega,y9_ he (by omega) hl2 (d:=od) (by assumption)⟩,by (try simp only [zn_,zo_,zm_] at*);omega,rfl,rfl⟩
   | skip
 ·cases e
def V7_:IR:=
(sq (kr [0,1] [oD 4 (.mov cF)])
(sq (.reg [oM 5 0,
oM 6 1,
oC 7 69 [5,6,.f 70],
oM 4 7])
.ret))
def Vt_:List RD:=[.tmp 4 true none]
theorem VM_:zl_ Tryz.prog Tryz.f27 V7_ Vt_=true:=by kernel_rfl
def jY_:List AV->List Obj->Option (Prop × AV)
 | [.imm ty0 a,.imm ty1 b],[]=>Zs_ ty0 Y3 a fun a=>Zs_ ty1 Y3 b fun b=>some ((True,.bool (decide ((a:List VIn)=b))))
 | _,_=>none
theorem Yl_:zf_ Tryz.prog 27 (RoF jY_).sum:=by
 refine zj_ Tryz.func27 VM_ (za_ (s:=RoF zx_) ZA_ (za_ (s:=RoF QG_) KQ_ (ze_ _))) fun args objs p v e=>?_
 unfold jY_ at e
 split at e
 ·rename_i ty0 a ty1 b
  obtain rfl:=zv_ e
  replace e:=zw_ e
  obtain rfl:=zv_ e
  replace e:=zw_ e
  cases e
  refine ⟨rfl,fun hw ho hp=>?_⟩
  clear hw ho
  repeat'(intro t ht;first|(cases t<;>first|(cases ht;done)|(try simp only[zh_]at ht;try(exfalso;first|contradiction|omega)))|((first|refine zb_ ht ?_|refine ht ?_ ?_|refine ht.1 ?_ ?_|refine ht ?_)<;>clear ht))
  all_goals first
   | exact True.intro
   | exact ⟨rfl,rfl⟩
   | exact rfl
 ·cases e
def HL_ (x:VIn):Bool:=HO_ x.2.2.2.1 && decide (x.2.2.2.2.1.length<=500)
def KE_ (l:List VIn):Bool:=l.all HL_ && decide (l.length<=20)
def HF_:IR:=
(sq (kr [0] [oD 2 (.mov cF)])
(sq (sq (.reg [oD 3 (.mov (cI 0))])
(.block 0
(.loop
(sq (sq (kr [0,3] [oM 4 3,
oM 5 0,
oE 6 5,
oB 7 .lss 4 6])
(.cond 7
.skip
(.exit 0)))
(sq (.block 1
(sq (kr [0,3] [oM 10 0,
oM 11 3,
oI 12 5 10 11,
oA 13 3 12,
oL 14 13,
oC 15 46 [14],
oD 16 (.un .not 15),
oM 17 16,
oF 17 18 (.mov 0),
oF 17 19 (.mov 3),
oF 17 20 (.indexSl 5 18 19),
oF 17 21 (.fieldAddr 4 20),
oF 17 22 (.load none 21),
oF 17 23 (.len 22),
oF 17 24 (.bin .gtr 23 (cI 500)),
oP 25 17 cT 24])
(.cond 25
(sq (kr [] [oD 2 (.mov cF)])
.ret)
.skip)))
(kr [0,3] [oM 8 3,
oB 9 .add 8 (cI 1),
oM 3 9]))))))
(sq (kr [0] [oM 26 0,
oE 27 26,
oB 28 .leq 27 (cI 20),
oM 2 28])
.ret)))
def Hd_:List RD:=[.tmp 2 true none]
theorem Hm_:zl_ Tryz.prog Tryz.f21 HF_ Hd_=true:=by kernel_rfl
def XI_:List AV->List Obj->Option (Prop × AV)
 | [.imm ty0 l],[]=>Zs_ ty0 Y3 l fun l=>some ((True,.bool (KE_ l)))
 | _,_=>none
theorem g3_:zf_ Tryz.prog 21 (RoF XI_).sum:=by
 refine zj_ Tryz.func21 Hm_ (za_ (s:=RoF XJ_) g4_ (ze_ _)) fun args objs p v e=>?_
 unfold XI_ at e
 split at e
 ·rename_i ty0 l
  obtain rfl:=zv_ e
  replace e:=zw_ e
  cases e
  refine ⟨rfl,fun hw ho hp=>?_⟩
  change List VIn at l
  have hl:l.length<=maxLen:=(hw (.imm Y3 l) (by simp)).2
  unfold maxLen at hl
  clear hw ho
  repeat'(intro t ht;first|(cases t<;>first|(cases ht;done)|(try simp only[zh_]at ht))|((first|refine zb_ ht ?_|refine ht ?_ ?_|refine ht.1 ?_ ?_|refine ht ?_)<;>clear ht))
  all_goals first
   | (intro r h1 h2;clear h1;refine h2 ⟨[],[0,3],Nat,(fun i=>i<=l.length/\(l.take i).all HL_=true),fun i=>[.imm Y3 l,.int .i64 i],fun _=>[],fun i=>l.length - i,⟨0,⟨Nat.zero_le _,rfl⟩,rfl,rfl⟩,?_⟩;clear h2)
  rintro i ⟨hi,he⟩
  repeat'(intro t ht;first|(cases t<;>first|(cases ht;done)|(try simp only[zh_]at ht;try(exfalso;first|contradiction|omega)))|((first|refine zb_ ht ?_|refine ht ?_ ?_|refine ht.1 ?_ ?_|refine ht ?_)<;>clear ht))
  all_goals (try generalize (Ty.dflt Y3)=od at*)
  all_goals first
   | exact True.intro
   | ((try simp only [zn_,zo_,zm_] at*);omega)
   | (have h:=v3_ (by omega) he
      refine ⟨?_,rfl⟩;unfold KE_;rw [h,Bool.true_and];congr 1;exact decide_eq_decide.2 (by omega))
   | (have hf:HL_ (l.getD i od)=true:=by unfold HL_;simp only [Bool.and_eq_true,decide_eq_true_eq];exact ⟨by assumption,by omega⟩
      exact ⟨i+1,⟨by omega,XD_ (d:=od) (by omega) he hf⟩,by dsimp only;omega,rfl,rfl⟩)
   | (have hf:HL_ (l.getD i od)=false:=by unfold HL_;simp only [Bool.and_eq_false_iff,decide_eq_false_iff_not];first | omega | (left;assumption) | (right;omega) | (left;left;assumption) | (left;right;omega) | (left;omega)
      have h:KE_ l=false:=by unfold KE_;rw [v2_ (d:=od) (show i < l.length by omega) hf,Bool.false_and]
      refine ⟨?_,rfl⟩;rw [h];done)
   | skip
 ·cases e
structure WrOk (room:Int) (f:List Int->Int->List Int × Int) (v:Option (List Int)):Prop where
 ok:∀ y,v=some y->∀ l:List Int,(l.length:Int)+y.length<=room->f l 0=(l++y,0)
 full:∀ y,v=some y->∀ l:List Int,(l.length:Int)<=room->¬ (l.length:Int)+y.length<=room->(f l 0).2 ≠ 0
 bad:v=none->∀ l:List Int,(f l 0).2 ≠ 0
 ne:∀ (l:List Int) (e:Int),e ≠ 0->(f l e).2 ≠ 0
def BV_ (a b:Option (List Int)):Option (List Int):=match a,b with | some x,some y=>some (x++y) | _,_=>none
theorem WrOk.seq {room:Int} {f g:List Int->Int->List Int × Int} {v w:Option (List Int)} (hf:WrOk room f v) (hg:WrOk room g w):WrOk room (fun l e=>g (f l e).1 (f l e).2) (BV_ v w):=by
 cases v with
 | none=>exact ⟨fun y h=>(by cases h),fun y h=>(by cases h),fun _ l=>hg.ne _ _ (hf.bad rfl l),fun l e h=>hg.ne _ _ (hf.ne l e h)⟩
 | some x=>
   cases w with
   | none=>
     refine ⟨fun y h=>(by cases h),fun y h=>(by cases h),fun _ l=>?_,fun l e h=>hg.ne _ _ (hf.ne l e h)⟩
     show (g (f l 0).1 (f l 0).2).2 ≠ 0
     by_cases h0:(f l 0).2=0
     ·rw [h0];exact hg.bad rfl _
     ·exact hg.ne _ _ h0
   | some z=>
     refine ⟨fun y h l hl=>?_,fun y h l h0 hl=>?_,fun h=>(by cases h),fun l e h=>hg.ne _ _ (hf.ne l e h)⟩
     ·cases h
      rw [List.length_append] at hl
      show g (f l 0).1 (f l 0).2=_
      rw [hf.ok x rfl l (by omega)]
      show g (l++x) 0=_
      rw [hg.ok z rfl _ (by rw [List.length_append];omega),List.append_assoc]
     ·cases h
      rw [List.length_append] at hl
      show (g (f l 0).1 (f l 0).2).2 ≠ 0
      by_cases c:(l.length:Int)+x.length<=room
      ·rw [hf.ok x rfl l c]
       exact hg.full z rfl _ (by rw [List.length_append];omega) (by rw [List.length_append];omega)
      ·exact hg.ne _ _ (hf.full x rfl l h0 c)
theorem WrOk.fin {room:Int} {f:List Int->Int->List Int × Int} {v:Option (List Int)} (h:WrOk room f v) (h0:0<=room):(∀ y,v=some y->(y.length:Int)<=room->f [] 0=(y,0))/\((∀ y,v=some y->room < (y.length:Int))->(f [] 0).2 ≠ 0):=by
 refine ⟨fun y e hl=>h.ok y e [] (by simpa using hl),fun hy=>?_⟩
 cases v with
 | none=>exact h.bad rfl []
 | some y=>have:=hy y rfl;exact h.full y rfl [] (by simpa using h0) (by simp;omega)
theorem gT_ (room:Int) (x:List Int):WrOk room (fun l e=>(Kf_ x l room e,kV_ x l room e)) (some x):=
 ⟨fun y h l hl=>by cases h;obtain ⟨a,b⟩:=QE_ (x:=x) (l:=l) (room:=room) (by omega);rw [a,b],fun y h l _ hl=>by cases h;exact hG_ (by omega),fun h=>(by cases h),fun l e h=>bS_ h⟩
def Bd_ (w xs:List Int):Option (List Int):=if Qc_ w xs=true then some (ZZ_ w xs) else none
theorem zdc_ (room:Int) (w xs:List Int):WrOk room (fun l e=>(kk_ w xs l room e,Ka_ w xs l room e)) (Bd_ w xs):=by
 unfold Bd_
 by_cases hk:Qc_ w xs=true
 ·have h:=gT_ room (ZZ_ w xs)
  rw [if_pos hk]
  unfold kk_ Ka_
  simp only [if_pos hk]
  exact h
 ·rw [if_neg hk]
  unfold kk_ Ka_
  simp only [if_neg hk]
  exact ⟨fun y h=>(by cases h),fun y h=>(by cases h),fun _ l=>by show (10001:Int) ≠ 0;decide,fun l e h=>w3_ h⟩
def BR_ (x:List AC):Option (List Int):=if rgL x=true then some (boA x) else none
theorem zbR_ (room:Int) (x:List AC):WrOk room (fun l e=>(apB x l room e,apE x l room e)) (BR_ x):=by
 unfold BR_
 cases hr:rgL x with
 | false=>
   rw [if_neg (by decide)]
   refine ⟨fun y h=>(by cases h),fun y h=>(by cases h),fun _ l=>?_,fun l e h=>?_⟩
   ·show apE x l room 0 ≠ 0;rw [(zbC_ hr).2];decide
   ·show apE x l room e ≠ 0;rw [(zbC_ hr).2];exact w3_ h
 | true=>
   rw [if_pos rfl]
   refine ⟨fun y h l hl=>?_,fun y h l h0 hl=>?_,fun h=>(by cases h),fun l e h=>zd8_ h⟩
   ·cases h
    obtain ⟨a,b⟩:=zeQ_ (l:=l) hr hl
    show (apB x l room 0,apE x l room 0)=_;rw [a,b]
   ·cases h
    show apE x l room 0 ≠ 0
    unfold apE;rw [if_pos hr]
    exact gV_ _ _ (K0_ hr).1 h0 hl
theorem Bc_ {w n y:List Int} (h:Bd_ w n=some y):Qc_ w n=true/\ZZ_ w n=y:=by
 unfold Bd_ at h;split at h
 ·cases h;exact ⟨by assumption,rfl⟩
 ·cases h
theorem uq_ {a b:Option (List Int)} {y:List Int} (h:BV_ a b=some y):∃ p q,a=some p/\b=some q/\y=p++q:=by
 cases a with
 | none=>cases h
 | some p=>cases b with
   | none=>cases h
   | some q=>cases h;exact ⟨p,q,rfl,rfl,rfl⟩
theorem bh_ {a b:List Int}:BV_ (some a) (some b)=some (a++b):=rfl
theorem BQ_ {a:List AC} {y:List Int} (h:BR_ a=some y):rgL a=true/\boA a=y:=by
 unfold BR_ at h;split at h
 ·cases h;exact ⟨by assumption,rfl⟩
 ·cases h
theorem zcL_ {x:List AC} {l:List Int} {room e:Int} (h:l.length<=1000000) (hr:room<=1000000):(apB x l room e).length<=1000000:=by
 unfold apB;split
 ·exact bg_ hr _ _ _ h
 ·exact h
end Go.Eng
