/- Parts of the proof: M3, A3, A4, A6, A7, A8. No condition. -/
import Derived.Test.YteihcoggfaenaaaGreatDoorProg
import Derived.Test.YteihcoggfaenaaaGreatDoorWH10
import Derived.KernelRfl
import Derived.Test.YteihcoggfaenaaaGreatDoorWH14
import Derived.Test.YteihcoggfaenaaaGreatDoorWH13
namespace Go.Eng
open Go.Proofs
set_option linter.unusedVariables false
set_option linter.unusedSimpArgs false
set_option maxRecDepth 100000
set_option maxHeartbeats 1000000
def fwO (o:OV):Bool:=decide (o.2.2.2.2.1.length<=300) && decide (o.2.2.2.2.2.1.length<=300)
theorem zk2_ {o:OV} (h:o.2.2.2.2.1.length<=300/\o.2.2.2.2.2.1.length<=300):fwO o=true:=by unfold fwO;simp [h.1,h.2]
theorem zk3_ {o:OV} (h:¬ o.2.2.2.2.1.length<=300\/¬ o.2.2.2.2.2.1.length<=300):fwO o=false:=by unfold fwO;rcases h with h | h<;>simp [h]
def fewO (l:List OV):Bool:=l.all fwO && decide (l.length<=60)
def smO (a b:OV):Bool:=QH_ a.1 a.2.1 a.2.2.1 a.2.2.2.1 a.2.2.2.2.1 a.2.2.2.2.2.1 b.1 b.2.1 b.2.2.1 b.2.2.2.1 b.2.2.2.2.1 b.2.2.2.2.2.1
theorem zkz_ {a b:OV} (h:smO a b=true):a=b:=by
 obtain ⟨a1,a2,a3,a4,a5,a6,_⟩:=a
 obtain ⟨b1,b2,b3,b4,b5,b6,_⟩:=b
 unfold smO QH_ at h
 simp only [Bool.and_eq_true,decide_eq_true_eq,beq_iff_eq] at h
 obtain ⟨⟨⟨⟨⟨h1,h2⟩,h3⟩,h4⟩,h5⟩,h6⟩:=h
 rw [h1,h2,h3,h4,h5,h6]
theorem zkA_ {a b:OV} (h:smO a b=false):¬ a=b:=fun e=>by
 rw [e] at h;unfold smO at h;rw [YF_] at h;cases h
structure okM (l:List OV):Prop where
 a:allLen l
 n:l.length<=100000
theorem zj2_ {l:List OV} (h:fewO l=true):okM l/\l.length<=60:=by
 unfold fewO at h
 simp only [Bool.and_eq_true,decide_eq_true_eq] at h
 refine ⟨⟨⟨fun o ho=>?_⟩,by omega⟩,h.2⟩
 have:=List.all_eq_true.1 h.1 o ho
 unfold fwO at this
 simp only [Bool.and_eq_true,decide_eq_true_eq] at this
 exact ⟨by omega,by omega⟩
def zcZ_:IR:=
(sq (kr [0] [oD 2 (.mov cF)])
(sq (sq (.reg [oD 3 (.mov (cI 0))])
(.block 0
(.loop
(sq (sq (kr [0,3] [oM 4 3,
oM 5 0,
oE 6 5,
oB 7 .lss 4 6])
(.cond 7
.skip
(.exit 0)))
(sq (.block 1
(sq (kr [0,3] [oM 10 0,
oM 11 3,
oI 12 6 10 11,
oK 13 6 12,
oC 14 62 [13],
oD 15 (.un .not 14)])
(.cond 15
(sq (kr [] [oD 2 (.mov cF)])
.ret)
.skip)))
(kr [0,3] [oM 8 3,
oB 9 .add 8 (cI 1),
oM 3 9]))))))
(sq (kr [0] [oM 16 0,
oE 17 16,
oB 18 .leq 17 (cI 60),
oM 2 18])
.ret)))
def zb8_:List RD:=[.tmp 2 true none]
theorem zcs_:zj_ Tryz.prog Tryz.f18 zcZ_ zb8_=true:=by kernel_rfl
def Xm_:List AV->List Obj->Option (Prop × AV)
 | [.imm (.cons (.int .i64) (.cons (.int .i64) (.cons .bool (.cons (.int .u64) (.cons (.sl (.int .u8)) (.cons (.sl (.int .u8)) .nil)))))) l],[]=>some ((True,.bool (fewO l)))
 | _,_=>none
theorem vJ_:zd_ Tryz.prog 18 (RoF Xm_).sum:=by
 refine zi_ Tryz.func18 zcs_ (za_ (s:=RoF Xn_) vK_ (zc_ _)) fun args objs p v e=>?_
 unfold Xm_ at e
 split at e
 ·rename_i l
  cases e
  refine ⟨rfl,fun hw ho hp=>?_⟩
  change List OV at l
  have hl:l.length<=maxLen:=(hw (.imm Y1 l) (by simp)).2
  unfold maxLen at hl
  clear hw ho
  repeat'(intro t ht;first|(cases t<;>first|(cases ht;done)|(try simp only[zg_]at ht))|((first|refine zb_ ht ?_|refine ht ?_ ?_|refine ht.1 ?_ ?_|refine ht ?_)<;>clear ht))
  all_goals first
   | (intro r h1 h2;clear h1;refine h2 ⟨[0,3],Nat,(fun i=>i<=l.length/\(l.take i).all fwO=true),fun i=>[.imm Y1 l,.int .i64 i],fun _=>[],fun i=>l.length - i,⟨0,⟨Nat.zero_le _,rfl⟩,rfl,rfl⟩,?_⟩;clear h2)
  rintro i ⟨hi,he⟩
  repeat'(intro t ht;first|(cases t<;>first|(cases ht;done)|(try simp only[zg_]at ht;try(exfalso;first|contradiction|omega)))|((first|refine zb_ ht ?_|refine ht ?_ ?_|refine ht.1 ?_ ?_|refine ht ?_)<;>clear ht))
  all_goals (try generalize (Ty.dflt Y1)=od at*)
  all_goals first
   | ((try simp only [zm_,zn_,zl_] at*);omega)
   | (have h:=Z0_ (by omega) he
      refine ⟨?_,rfl⟩;unfold fewO;rw [h,Bool.true_and];congr 1;exact decide_eq_decide.2 (by omega))
   | exact True.intro
   | (have hf:=zk2_ ht
      exact ⟨i+1,⟨by omega,Zv_ (d:=od) (by omega) he hf⟩,by dsimp only;omega,rfl,rfl⟩)
   | (have hf:=zk3_ ht
      have h:fewO l=false:=by unfold fewO;rw [ZF_ (d:=od) (show i < l.length by omega) hf,Bool.false_and]
      refine ⟨?_,rfl⟩;rw [h];done)
 ·cases e
def zaJ_:IR:=
(sq (kr [0,1] [oD 4 (.mov cF)])
(sq (sq (kr [0,1] [oM 6 0,
oE 7 6,
oM 8 1,
oE 9 8,
oB 10 .neq 7 9])
(.cond 10
(sq (.reg [oD 4 (.mov cF)])
.ret)
.skip))
(sq (sq (kr [0,1] [oD 5 (.mov (cI 0))])
(.block 0
(.loop
(sq (sq (kr [0,1,5] [oM 11 5,
oM 12 0,
oE 13 12,
oB 14 .lss 11 13])
(.cond 14
.skip
(.exit 0)))
(sq (.block 1
(sq (kd [0,1,5] [(oM 17 0,[]),
(oM 18 5,[0]),
(oI 19 6 17 18,[]),
(oK 20 6 19,[]),
(oM 21 1,[0,0,0,0]),
(oM 22 5,[0,0,0,0,0]),
(oI 23 6 21 22,[2,0,0,0]),
(oK 24 6 23,[3,0,0,0]),
(oC 25 110 [20,24],[]),
(oD 26 (.un .not 25),[])])
(.cond 26
(sq (kr [] [oD 4 (.mov cF)])
.ret)
.skip)))
(kr [0,1,5] [oM 15 5,
oB 16 .add 15 (cI 1),
oM 5 16]))))))
(sq (kr [] [oD 4 (.mov cT)])
.ret))))
def Bt_:List RD:=[.tmp 4 true none]
theorem B0_:zj_ Tryz.prog Tryz.f54 zaJ_ Bt_=true:=by kernel_rfl
def ww_:List AV->List Obj->Option (Prop × AV)
 | [.imm (.cons (.int .i64) (.cons (.int .i64) (.cons .bool (.cons (.int .u64) (.cons (.sl (.int .u8)) (.cons (.sl (.int .u8)) .nil)))))) a,.imm (.cons (.int .i64) (.cons (.int .i64) (.cons .bool (.cons (.int .u64) (.cons (.sl (.int .u8)) (.cons (.sl (.int .u8)) .nil)))))) b],[]=>some ((True,.bool (decide ((a:List OV)=b))))
 | _,_=>none
theorem yB_:zd_ Tryz.prog 54 (RoF ww_).sum:=by
 refine zi_ Tryz.func54 B0_ (za_ (s:=RoF wx_) yC_ (zc_ _)) fun args objs p v e=>?_
 unfold ww_ at e
 split at e
 ·rename_i a b
  cases e
  refine ⟨rfl,fun hw ho hp=>?_⟩
  change List OV at a
  change List OV at b
  have hl:a.length<=maxLen:=(hw (.imm Y1 a) (by simp)).2
  unfold maxLen at hl
  clear hw ho
  repeat'(intro t ht;first|(cases t<;>first|(cases ht;done)|(try simp only[zg_]at ht))|((first|refine zb_ ht ?_|refine ht ?_ ?_|refine ht.1 ?_ ?_|refine ht ?_)<;>clear ht))
  all_goals first
   | (have hne:a ≠ b:=fun h=>(by assumption:¬ (a.length:Int)=b.length) (by rw [h])
      refine ⟨?_,rfl⟩;rw [decide_eq_false hne];done)
   | (intro r h1 h2;clear h1;refine h2 ⟨[0,1,5],Nat,(fun i=>i<=a.length/\a.take i=b.take i),fun i=>[.imm Y1 a,.imm Y1 b,.int .i64 i],fun _=>[],fun i=>a.length - i,⟨0,⟨Nat.zero_le _,rfl⟩,rfl,rfl⟩,?_⟩;clear h2)
  rintro i ⟨hi,he⟩
  have hl2:a.length=b.length:=by omega
  repeat'(intro t ht;first|(cases t<;>first|(cases ht;done)|(try simp only[zg_]at ht;try(exfalso;first|contradiction|omega)))|((first|refine zb_ ht ?_|refine ht ?_ ?_|refine ht.1 ?_ ?_|refine ht ?_)<;>clear ht))
  all_goals (try generalize (Ty.dflt Y1)=od at*)
  all_goals first
   | exact True.intro
   | ((try simp only [zm_,zn_,zl_] at*);omega)
   | (have e:=Km_ he (by omega) hl2
      refine ⟨?_,rfl⟩;rw [decide_eq_true e];done)
   | (have hs:smO (a.getD i od) (b.getD i od)=false:=by assumption
      have hne:a ≠ b:=Xr_ (d:=od) (i:=i) (zkA_ hs)
      refine ⟨?_,rfl⟩;rw [decide_eq_false hne];done)
   | (have hs:smO (a.getD i od) (b.getD i od)=true:=by assumption
      exact ⟨i+1,⟨by omega,Qf_ he (by omega) hl2 (d:=od) (zkz_ hs)⟩,by (try simp only [zm_,zn_,zl_] at*);omega,rfl,rfl⟩)
 ·cases e
def lgT (l:List OV) (i:Nat):Int:=4+((l.take i).map szO).sum
def qc_ (l:List OV):Int:=4+(l.map szO).sum
theorem zak_ {l:List OV} {i:Nat} {d:OV} (h:i < l.length):lgT l (i+1)=lgT l i+szO (l.getD i d):=by
 unfold lgT
 rw [List.take_succ_eq_append_getElem h,List.map_append,List.sum_append,List.getD_eq_getElem?_getD,List.getElem?_eq_getElem h]
 simp only [List.map_cons,List.map_nil,List.sum_cons,List.sum_nil,Option.getD_some];omega
theorem zd2_ {l:List OV} {i:Nat} (h:l.length<=i):lgT l i=qc_ l:=by unfold lgT qc_;rw [List.take_of_length_le h]
theorem zfE_ {o:OV} (h:lenO o):0<=szO o/\szO o<=3000000:=by
 unfold szO;exact Ba_ (lenM h).1 (lenM h).2
theorem zgo_ {l:List OV} (h:allLen l) (i:Nat) (hi:i<=l.length):4<=lgT l i/\lgT l i<=4+3000000*i:=by
 induction i with
 | zero=>unfold lgT;simp
 | succ i ih=>
   have:=ih (by omega)
   have d:OV:=(0,0,false,0,[],[],())
   have hs:=zfE_ (h.h _ (zU_ (show i < l.length by omega) d))
   rw [zak_ (d:=d) (by omega)];omega
theorem zgm_ {l:List OV} (h:okM l):4<=qc_ l/\qc_ l<=300000000004:=by
 have:=zgo_ h.a l.length (Nat.le_refl _)
 rw [zd2_ (Nat.le_refl _)] at this
 have hn:=h.n
 omega
def GK_:IR:=
(sq (kr [0] [oD 2 (.mov (cI 0))])
(sq (.reg [oD 3 (.mov (cI 4))])
(sq (sq (.reg [oM 6 0,
oE 7 6,
oD 8 (.mov (cI 0))])
(.block 0
(.loop
(sq (kr [3,6,7,8] [oB 9 .lss 8 7])
(sq (.cond 9
.skip
(.exit 0))
(sq (.block 1
(sq (.reg [oI 10 6 6 8,
oK 11 6 10,
oD 5 (.box [.int .i64 0,.int .i64 0,.kb false,.int .u64 0,.imm (.int .u8) [],.imm (.int .u8) []]),
oS 6 5 11])
(kr [3,5,6,7,8] [oM 12 3,
oK 13 6 5,
oC 14 120 [13],
oB 15 .add 12 14,
oM 3 15])))
(kr [3,6,7,8] [oB 16 .add 8 (cI 1),
oM 8 16])))))))
(sq (kr [3] [oM 17 3,
oM 2 17])
.ret))))
def gR_:List RD:=[.tmp 2 true none]
theorem Gh_:zj_ Tryz.prog Tryz.f70 GK_ gR_=true:=by kernel_rfl
def KE_:List AV->List Obj->Option (Prop × AV)
 | [.imm (.cons (.int .i64) (.cons (.int .i64) (.cons .bool (.cons (.int .u64) (.cons (.sl (.int .u8)) (.cons (.sl (.int .u8)) .nil)))))) l],[]=>some ((okM l,.int .i64 (qc_ l)))
 | _,_=>none
theorem WP_:zd_ Tryz.prog 70 (RoF KE_).sum:=by
 refine zi_ Tryz.func70 Gh_ (za_ (s:=RoF K7_) JB_ (zc_ _)) fun args objs p v e=>?_
 unfold KE_ at e
 split at e
 ·rename_i l
  cases e
  refine ⟨rfl,fun hw ho hp=>?_⟩
  change List OV at l
  clear hw ho
  have hn:=hp.n
  repeat'(intro t ht;first|(cases t<;>first|(cases ht;done)|(try simp only[zg_]at ht))|((first|refine zb_ ht ?_|refine ht ?_ ?_|refine ht.1 ?_ ?_|refine ht ?_)<;>clear ht))
  all_goals first
   | exact True.intro
   | (intro r h1 h2;clear h1;refine h2 ⟨[3,6,7,8],Nat,(fun i=>i<=l.length),fun i=>[.int .i64 (lgT l i),.imm Y1 l,.int .i64 l.length,.int .i64 i],fun _=>[],fun i=>l.length - i,⟨0,Nat.zero_le _,rfl,rfl⟩,?_⟩;clear h2)
  intro i hi
  repeat'(intro t ht;first|(cases t<;>first|(cases ht;done)|(try simp only[zg_]at ht;try(exfalso;first|contradiction|omega)))|((first|refine zb_ ht ?_|refine ht ?_ ?_|refine ht.1 ?_ ?_|refine ht ?_)<;>clear ht))
  all_goals (try generalize (Ty.dflt Y1)=od at*)
  all_goals first
   | exact True.intro
   | ((try simp only [zm_,zn_,zl_] at*);omega)
   | (rw [zd2_ (by omega)];exact ⟨rfl,rfl⟩)
   | (have hs:=hp.a.h _ (zU_ (show i < l.length by omega) od)
      first
       | exact lenM hs
       | (have h1:=zgo_ hp.a i (by omega)
          have h2:0<=szO (l.getD i od)/\szO (l.getD i od)<=3000000:=zfE_ hs
          unfold szO at h2
          simp only [zdX_,zd0_,Int.toNat_natCast];omega)
       | (refine ⟨i+1,by omega,by dsimp only;omega,?_,rfl⟩
          dsimp only
          rw [zak_ (d:=od) (by omega)];rfl))
 ·cases e
def rgM (l:List OV):Bool:=l.all rgO && decide ((ckS [] l).2=0) && decide (qc_ l<=65528)
theorem ziC_ {l:List OV}:(l.any fun o=>!rgO o)=!l.all rgO:=by
 rw [List.not_all_eq_any_not]
def UL_:IR:=
(sq (kr [0] [oD 2 (.mov cF)])
(sq (sq (.reg [oM 5 0,
oC 6 116 [5,.f 117]])
(.cond 6
(sq (.reg [oD 2 (.mov cF)])
.ret)
.skip))
(sq (kr [0] [oM 8 0,
oC 9 119 [8],
oM 7 9,
oX 10 7 0,
oX 11 7 1,
oM 3 10,
oM 4 11])
(sq (kr [0,4] [oM 12 4,
oB 13 .eql 12 (cI 0),
oM 14 13,
oT 14 15 (.mov 0),
oT 14 16 (.call false (.f 70) [15]),
oT 14 17 (.bin .leq 16 (cI 65528)),
oP 18 14 17 cF,
oM 2 18])
.ret))))
def uS_:List RD:=[.tmp 2 true none]
theorem Ul_:zj_ Tryz.prog Tryz.f69 UL_ uS_=true:=by kernel_rfl
def jQ_:List AV->List Obj->Option (Prop × AV)
 | [.imm (.cons (.int .i64) (.cons (.int .i64) (.cons .bool (.cons (.int .u64) (.cons (.sl (.int .u8)) (.cons (.sl (.int .u8)) .nil)))))) l],[]=>some ((okM l,.bool (rgM l)))
 | _,_=>none
theorem Vg_:zd_ Tryz.prog 69 (RoF jQ_).sum:=by
 refine zi_ Tryz.func69 Ul_ (za_ (s:=RoF zA_) zX_ (za_ (s:=RoF QC_) jp_ (za_ (s:=RoF KD_) WO_ (za_ (s:=RoF KE_) WP_ (zc_ _))))) fun args objs p v e=>?_
 unfold jQ_ at e
 split at e
 ·rename_i l
  cases e
  refine ⟨rfl,fun hw ho hp=>?_⟩
  change List OV at l
  clear hw ho
  have hA:=hp.a
  have hN:=ziC_ (l:=l)
  repeat'(intro t ht;first|(cases t<;>first|(cases ht;done)|(try simp only[zg_]at ht;try(exfalso;first|contradiction|omega)))|((first|refine zb_ ht ?_|refine ht ?_ ?_|refine ht.1 ?_ ?_|refine ht ?_)<;>clear ht))
  all_goals first
   | exact True.intro
   | exact hA
   | exact hp
   | (have ha:l.all rgO=false:=by rw [ht] at hN;cases h:l.all rgO<;>simp_all
      refine ⟨congrArg AV.bool ?_,rfl⟩;unfold rgM;rw [ha];rfl)
   | (refine ⟨congrArg AV.bool ?_,rfl⟩;unfold rgM;simp_all;done)
 ·cases e
def pz (n:Int):Int:=(8 - n.tmod 8).tmod 8
theorem vO_ {n:Int} (h:0<=n):pz n=(8 - n % 8) % 8/\0<=pz n/\pz n<=7:=by
 unfold pz
 rw [Int.tmod_eq_emod_of_nonneg h,Int.tmod_eq_emod_of_nonneg (by omega)];omega
def UK_:IR:=
(sq (kr [0] [oD 2 (.mov (cI 0))])
(sq (kr [0] [oM 3 0,
oB 4 .rem 3 (cI 8),
oB 5 .sub (cI 8) 4,
oB 6 .rem 5 (cI 8),
oM 2 6])
.ret))
def uR_:List RD:=[.tmp 2 true none]
theorem Uk_:zj_ Tryz.prog Tryz.f72 UK_ uR_=true:=by kernel_rfl
def kR_:List AV->List Obj->Option (Prop × AV)
 | [.int .i64 n],[]=>some ((0<=n,.int .i64 (pz n)))
 | _,_=>none
theorem wK_:zd_ Tryz.prog 72 (RoF kR_).sum:=by
 refine zi_ Tryz.func72 Uk_ (zc_ _) fun args objs p v e=>?_
 unfold kR_ at e
 split at e
 ·rename_i n
  cases e
  refine ⟨rfl,fun hw ho hp=>?_⟩
  clear hw ho
  have h1:=V3_ (a:=n) (s:=8) hp (by decide)
  repeat'(intro t ht;first|(cases t<;>first|(cases ht;done)|(try simp only[zg_]at ht;try(exfalso;first|contradiction|omega)))|((first|refine zb_ ht ?_|refine ht ?_ ?_|refine ht.1 ?_ ?_|refine ht ?_)<;>clear ht))
  all_goals first
   | exact True.intro
   | exact ⟨rfl,rfl⟩
   | ((try simp only [zm_,zn_,zl_] at*);omega)
 ·cases e
section
variable {I:Nat->Prop} {w:World} {mm:M}
end
theorem zkX_ (b:List Int):ZE_ [2,2] b=if b.length < 4 then ([],1) else ([Zx_ (b.take 2),Zx_ ((b.drop 2).take 2)],0):=by
 have hr:Zw_ [2,2]=true:=by decide
 unfold ZE_
 rw [if_pos hr]
 have a2:zv_ 2=2:=by decide
 have t2:Int.toNat 2=2:=rfl
 have p2:(0:Int) < 2:=by decide
 simp only [Zy_,a2,t2,if_pos p2,List.length_drop]
 by_cases h:b.length < 4
 ·rw [if_pos h]
  by_cases h2:(b.length:Int) < 2
  ·rw [if_pos h2]
  ·rw [if_neg h2,if_pos (by omega)]
 ·rw [if_neg h,if_neg (by omega),if_neg (by omega)];rfl
def tT (b:List Int):Int:=Zx_ (b.take 2)
def tN (b:List Int):Int:=Zx_ ((b.drop 2).take 2)
def tlE (b:List Int) (least step bad:Int):Int:=if b.length < 4 then bad else if tN b < least\/¬ (tN b).tmod step=0 then bad else if (b.length:Int) < tN b then bad else 0
def tlI (b:List Int) (least step bad x:Int):Int:=if tlE b least step bad=0 then x else 0
def tlR (b:List Int) (least step bad:Int):List Int:=if tlE b least step bad=0 then (b.take (tN b).toNat).drop 4 else []
theorem kO_ {b:List Int} {a:Nat} (hb:∀ x ∈ b,0<=x/\x<=255):0<=Zx_ ((b.drop a).take 2)/\Zx_ ((b.drop a).take 2)<=65535:=by
 have h:=yZ_ ((b.drop a).take 2) fun x hx=>hb x (List.mem_of_mem_drop (List.mem_of_mem_take hx))
 have hl:((b.drop a).take 2).length<=2:=by rw [List.length_take];omega
 have hp:∀ k ≤ 2,(256:Int) ^ k<=65536:=by decide
 have:=hp _ hl
 omega
def bd (b:List Int):List Int:=(b.take (tN b).toNat).drop 4
theorem zbx_ {b:List Int} (hb:∀ x ∈ b,0<=x/\x<=255):(bd b).length<=65535:=by
 have:=kO_ (a:=2) hb
 unfold bd tN;rw [List.length_drop,List.length_take];omega
theorem zk8_ {b:List Int} {sh od:Int}:QR_ [2,2] b 0 0=(if b.length < 4 then [] else [tT b,tN b])/\ky_ [2,2] b 0 0=(if b.length < 4 then 0 else 4)/\k8_ [2,2] b 0 sh od 0=(if b.length < 4 then sh else 0):=by
 have e:ZE_ [2,2] (b.drop (0:Int).toNat)=if b.length < 4 then ([],1) else ([tT b,tN b],0):=by
  rw [show (0:Int).toNat=0 from rfl,List.drop_zero,zkX_];rfl
 have es:zG_ [2,2]=4:=by decide
 unfold QR_ ky_ k8_ zP_ zZ_
 rw [e,es]
 by_cases h:b.length < 4
 ·simp only [if_pos h];exact ⟨rfl,rfl,rfl⟩
 ·simp only [if_neg h];exact ⟨rfl,rfl,rfl⟩
def Y0_:IR:=
(sq (kr [0] [oD 1 (.boxv 0),
oD 2 (.mov cF)])
(sq (kr [1] [oA 3 0 1,
oL 4 3,
oB 5 .geq 4 (cI 4),
oM 6 5,
oT 6 7 (.fieldAddr 0 1),
oT 6 8 (.load none 7),
oT 6 9 (.bin .leq 8 (cI 60000)),
oP 10 6 9 cF,
oM 11 10,
oT 11 12 (.fieldAddr 1 1),
oT 11 13 (.load none 12),
oT 11 14 (.bin .geq 13 (cI 1)),
oP 15 11 14 cF,
oM 16 15,
oT 16 17 (.fieldAddr 1 1),
oT 16 18 (.load none 17),
oT 16 19 (.bin .leq 18 (cI 64)),
oP 20 16 19 cF,
oM 21 20,
oT 21 22 (.fieldAddr 3 1),
oT 21 23 (.load none 22),
oT 21 24 (.bin .neq 23 (cI 0)),
oP 25 21 24 cF,
oM 26 25,
oT 26 27 (.fieldAddr 4 1),
oT 26 28 (.load none 27),
oT 26 29 (.bin .neq 28 (cI 0)),
oP 30 26 29 cF,
oM 2 30])
.ret))
def YH_:List RD:=[.tmp 2 true none]
theorem YO_:zj_ Tryz.prog Tryz.f154 Y0_ YH_=true:=by kernel_rfl
def QB_:List AV->List Obj->Option (Prop × AV)
 | [.agg [.int .i64 least,.int .i64 step,.bool pad,.int .i64 bad,.int .i64 odd]],[]=>some ((4<=least/\least<=60000/\1<=step/\step<=64/\bad ≠ 0/\odd ≠ 0,.bool true))
 | _,_=>none
theorem jn_:zd_ Tryz.prog 154 (RoF QB_).sum:=by
 refine zi_ Tryz.func154 YO_ (zc_ _) fun args objs p v e=>?_
 unfold QB_ at e
 split at e
 ·rename_i least step pad bad odd
  cases e
  refine ⟨rfl,fun hw ho hp=>?_⟩
  clear hw ho
  obtain ⟨h1,h2,h3,h4,h5,h6⟩:=hp
  repeat'(intro t ht;first|(cases t<;>first|(cases ht;done)|(try simp only[zg_]at ht;try(exfalso;first|contradiction|omega)))|((first|refine zb_ ht ?_|refine ht ?_ ?_|refine ht.1 ?_ ?_|refine ht ?_)<;>clear ht))
  all_goals first
   | exact True.intro
   | exact ⟨rfl,rfl⟩
   | (exfalso;omega)
   | (refine ⟨congrArg AV.bool ?_,rfl⟩;simp;omega)
 ·cases e
def y5_:IR:=
(sq (kr [0,1] [oD 2 (.boxv 0),
oD 4 (.mov cF)])
(sq (kr [1,2] [oM 5 1,
oA 6 0 2,
oL 7 6,
oB 8 .geq 5 7,
oM 9 8,
oT 9 10 (.fieldAddr 2 2),
oT 9 11 (.load none 10),
oT 9 12 (.mov 11),
oF 12 13 (.mov 1),
oF 12 14 (.fieldAddr 1 2),
oF 12 15 (.load none 14),
oF 12 16 (.bin .rem 13 15),
oF 12 17 (.bin .eql 16 (cI 0)),
oT 9 18 (.pick 12 cT 17),
oP 19 9 18 cF,
oM 4 19])
.ret))
def yL_:List RD:=[.tmp 4 true none]
theorem yU_:zj_ Tryz.prog Tryz.f155 y5_ yL_=true:=by kernel_rfl
def q8_:List AV->List Obj->Option (Prop × AV)
 | [.agg [.int .i64 least,.int .i64 step,.bool pad,.int .i64 bad,.int .i64 odd],.int .i64 n],[]=>some ((pad=false/\1<=step,.bool (decide (least<=n) && decide (n.tmod step=0))))
 | _,_=>none
theorem KU_:zd_ Tryz.prog 155 (RoF q8_).sum:=by
 refine zi_ Tryz.func155 yU_ (zc_ _) fun args objs p v e=>?_
 unfold q8_ at e
 split at e
 ·rename_i least step pad bad odd n
  cases e
  refine ⟨rfl,fun hw ho hp=>?_⟩
  clear hw ho
  obtain ⟨rfl,h1⟩:=hp
  repeat'(intro t ht;first|(cases t<;>first|(cases ht;done)|(try simp only[zg_]at ht;try(exfalso;first|contradiction|omega)))|((first|refine zb_ ht ?_|refine ht ?_ ?_|refine ht.1 ?_ ?_|refine ht ?_)<;>clear ht))
  all_goals first
   | exact True.intro
   | omega
   | (refine ⟨congrArg AV.bool ?_,rfl⟩;simp_all;done)
   | (refine ⟨congrArg AV.bool ?_,rfl⟩;rw [decide_eq_false (by omega)];rfl)
 ·cases e
def X1_:IR:=
(sq (kr [0,1] [oD 2 (.boxv 0),
oD 4 (.mov (cI 0))])
(sq (sq (.reg [oA 5 2 2,
oL 6 5,
oD 7 (.un .not 6)])
(.cond 7
(sq (.reg [oD 4 (.mov (cI 0))])
.ret)
.skip))
(sq (kd [1,2] [(oA 8 1 2,[]),
(oL 9 8,[]),
(oM 10 1,[0,0]),
(oA 11 1 2,[0,0,0]),
(oL 12 11,[1,0,0]),
(oB 13 .rem 10 12,[3,0]),
(oB 14 .sub 9 13,[]),
(oA 15 1 2,[0,0,0,0,0,0,0]),
(oL 16 15,[1,0,0,0,0,0,0]),
(oB 17 .rem 14 16,[]),
(oM 4 17,[])])
.ret)))
def XP_:List RD:=[.tmp 4 true none]
theorem XU_:zj_ Tryz.prog Tryz.f156 X1_ XP_=true:=by kernel_rfl
def qF_:List AV->List Obj->Option (Prop × AV)
 | [.agg [.int .i64 least,.int .i64 step,.bool pad,.int .i64 bad,.int .i64 odd],.int .i64 n],[]=>some ((pad=false,.int .i64 0))
 | _,_=>none
theorem Kn_:zd_ Tryz.prog 156 (RoF qF_).sum:=by
 refine zi_ Tryz.func156 XU_ (zc_ _) fun args objs p v e=>?_
 unfold qF_ at e
 split at e
 ·rename_i least step pad bad odd n
  cases e
  refine ⟨rfl,fun hw ho hp=>?_⟩
  clear hw ho
  subst hp
  repeat'(intro t ht;first|(cases t<;>first|(cases ht;done)|(try simp only[zg_]at ht;try(exfalso;first|contradiction|omega)))|((first|refine zb_ ht ?_|refine ht ?_ ?_|refine ht.1 ?_ ?_|refine ht ?_)<;>clear ht))
  all_goals first
   | exact True.intro
   | exact ⟨rfl,rfl⟩
 ·cases e
def zcM_:IR:=
(sq (kr [0,1] [oD 2 (.boxv 0),
oD 4 (.box [.int .i64 0,.imm (.int .u8) []]),
oD 5 (.mov (cI 0)),
oD 6 (.mov (cI 0))])
(sq (sq (.reg [oK 13 5 2,
oC 14 154 [13],
oD 15 (.un .not 14)])
(.cond 15
(sq (kr [4] [oD 16 (.build [.int .i64 0,.imm (.int .u8) []] []),
oS 2 4 16,
oD 5 (.mov (cI 0)),
oD 6 (.mov (cI 10001))])
.ret)
.skip))
(sq (kr [1,2,4] [oM 17 1,
oA 18 3 2,
oL 19 18,
oA 20 4 2,
oL 21 20,
oC 22 41 [17,19,21],
oM 7 22])
(sq (kr [1,2,4,7] [oM 23 7,
oD 24 (.sliceAll (.int .i64) 2 [(0,1,(cI 2)),(1,1,(cI 2))]),
oC 25 42 [23,24],
oM 8 25])
(sq (sq (.reg [oM 26 8,
oE 27 26,
oB 28 .eql 27 (cI 0)])
(.cond 28
(sq (kr [4,7] [oD 29 (.build [.int .i64 0,.imm (.int .u8) []] []),
oM 30 7,
oC 31 43 [30],
oS 2 4 29,
oD 5 (.mov (cI 0)),
oM 6 31])
.ret)
.skip))
(sq (kr [1,2,4,7,8] [oM 32 8,
oD 33 (.indexSl 1 32 (cI 1)),
oL 34 33,
oD 35 (.conv .i64 34),
oM 9 35])
(sq (sq (kr [1,2,4,7,8,9] [oK 36 5 2,
oM 37 9,
oC 38 155 [36,37],
oD 39 (.un .not 38),
oM 40 39,
oF 40 41 (.mov 9),
oF 40 42 (.load (some 5) 2),
oF 40 43 (.mov 9),
oF 40 44 (.call false (.f 156) [42,43]),
oF 40 45 (.bin .add 41 44),
oF 40 46 (.mov 1),
oF 40 47 (.len 46),
oF 40 48 (.bin .gtr 45 47),
oP 49 40 cT 48])
(.cond 49
(sq (kd [2,4] [(oD 50 (.build [.int .i64 0,.imm (.int .u8) []] []),[]),
(oA 51 3 2,[0]),
(oL 52 51,[1]),
(oS 2 4 50,[0,0]),
(oD 5 (.mov (cI 0)),[1,0]),
(oM 6 52,[])])
.ret)
.skip))
(sq (kd [2,4,7,8,9] [(oM 53 8,[]),
(oD 54 (.indexSl 1 53 (cI 0)),[]),
(oL 55 54,[]),
(oD 56 (.conv .i64 55),[]),
(oM 57 7,[0,0,0,0]),
(oM 58 9,[0,0,0,0,0]),
(oB 59 .sub 58 (cI 4),[1,0,0,0,0]),
(oC 60 98 [57,59],[3,0,0,0]),
(oD 61 (.buildAll 2 [(0,1,56),(1,1,60)]),[]),
(oD 10 (.box [.int .i64 0,.imm (.int .u8) []]),[0,0,0,0,0,0,0,0,0]),
(oS 2 10 61,[])])
(sq (sq (kr [2,4,7,9,10] [oK 62 5 2,
oM 63 9,
oC 64 156 [62,63],
oM 11 64])
(sq (.reg [oM 65 11,
oB 66 .gtr 65 (cI 0)])
(.cond 66
(kr [4,7,10,11] [oM 67 7,
oM 68 11,
oD 69 (.un .neg 68),
oD 70 (.sliceAll (.int .i64) 1 [(0,1,69)]),
oC 71 42 [67,70]])
.skip)))
(sq (sq (kr [4,7,10] [oM 72 7,
oC 73 43 [72],
oM 12 73])
(sq (.reg [oM 74 12,
oB 75 .neq 74 (cI 0)])
(.cond 75
(sq (.reg [oD 76 (.build [.int .i64 0,.imm (.int .u8) []] []),
oM 77 12,
oS 2 4 76,
oD 5 (.mov (cI 0)),
oM 6 77])
.ret)
.skip)))
(sq (kd [4,7,10] [(oK 78 2 10,[]),
(oM 79 7,[0]),
(oC 80 133 [79],[1]),
(oS 2 4 78,[]),
(oM 5 80,[]),
(oD 6 (.mov (cI 0)),[])])
.ret)))))))))))
def zbV_:List RD:=[.cell 4 (some 2) true [],.tmp 5 true none,.tmp 6 true none]
theorem zcf_:zj_ Tryz.prog Tryz.f136 zcM_ zbV_=true:=by kernel_rfl
def KQ_:List AV->List Obj->Option (Prop × AV)
 | [.agg [.int .i64 least,.int .i64 step,.bool pad,.int .i64 bad,.int .i64 odd],.imm (.int .u8) b],[]=>some ((pad=false/\(4<=least/\least<=60000/\1<=step/\step<=64/\bad ≠ 0/\odd ≠ 0)/\b.length<=140737488355328,.tup [.agg [.int .i64 (tlI b least step bad (tT b)),.imm (.int .u8) (tlR b least step bad)],.int .i64 (tlI b least step bad (tN b)),.int .i64 (tlE b least step bad)]))
 | _,_=>none
theorem jo_:zd_ Tryz.prog 136 (RoF KQ_).sum:=by
 refine zi_ Tryz.func136 zcf_ (za_ (s:=RoF QB_) jn_ (za_ (s:=RwF ZJ_) ZN_ (za_ (s:=RwF zW_) z5_ (za_ (s:=RoF zp_) zq_ (za_ (s:=RoF q8_) KU_ (za_ (s:=RoF qF_) Kn_ (za_ (s:=RwF zK_) zY_ (za_ (s:=RoF ZR_) qH_ (zc_ _))))))))) fun args objs p v e=>?_
 unfold KQ_ at e
 split at e
 ·rename_i least step pad bad odd b
  cases e
  refine ⟨rfl,fun hw ho hp=>?_⟩
  change List Int at b
  have hb:∀ x ∈ (b:List Int),(0:Int)<=x/\x<=255:=fun x hx=>(hw _ (by simp:AV.imm (.int .u8) b ∈ _)).1 x hx
  clear hw ho
  obtain ⟨rfl,hs,hl⟩:=hp
  have hs':=hs
  obtain ⟨h1,h2,h3,h4',h5,h6⟩:=hs'
  have hT:0<=tT b/\tT b<=65535:=kO_ (a:=0) hb
  have hN:0<=tN b/\tN b<=65535:=kO_ (a:=2) hb
  obtain ⟨c1,c2,c3⟩:=zk8_ (b:=b) (sh:=bad) (od:=odd)
  have hm:=V3_ (a:=tN b) (s:=step) hN.1 h3
  by_cases h4:b.length < 4
  ·rw [if_pos h4] at c1 c2 c3
   have hE:tlE b least step bad=bad:=if_pos h4
   repeat'(intro t ht;first|(cases t<;>first|(cases ht;done)|(try simp only[zg_]at ht;try(exfalso;first|contradiction|omega)))|((first|refine zb_ ht ?_|refine ht ?_ ?_|refine ht.1 ?_ ?_|refine ht ?_)<;>clear ht))
   all_goals (try simp only [c1,c2,c3,List.length_nil,not_true_eq_false] at*)
   all_goals first
    | exact True.intro
    | exact ⟨rfl,hs⟩
    | exact hs
    | omega
    | exact ⟨by omega,by omega,by omega⟩
    | (unfold tlI tlR;simp only [hE,if_neg h5];first | done | exact ⟨rfl,by first | rfl | exact True.intro⟩ | exact ⟨trivial,trivial⟩)
    | (exfalso;omega)
  ·rw [if_neg h4] at c1 c2 c3
   have g0:∀ d:Int,[tT b,tN b].getD (Int.toNat 0) d=tT b:=fun _=>rfl
   have g1:∀ d:Int,[tT b,tN b].getD (Int.toNat 1) d=tN b:=fun _=>rfl
   have hok:4<=tN b->tN b<=b.length->ZW_ (tN b - 4) b 4 bad 0=0/\Ql_ (tN b - 4) b 4 bad 0=(b.take (tN b).toNat).drop 4/\jm_ (tN b - 4) b 4 bad 0=tN b:=fun q1 q2=>by
    have e:ZW_ (tN b - 4) b 4 bad 0=0:=by unfold ZW_;rw [if_neg (by omega),if_neg (by omega)]
    refine ⟨e,?_,?_⟩
    ·unfold Ql_;rw [if_pos e];congr 2;omega
    ·unfold jm_;rw [if_pos e];omega
   repeat'(intro t ht;first|(cases t<;>first|(cases ht;done)|(try simp only[zg_]at ht;try(exfalso;first|contradiction|omega)))|((first|refine zb_ ht ?_|refine ht ?_ ?_|refine ht.1 ?_ ?_|refine ht ?_)<;>clear ht))
   all_goals (try simp only [c1,c2,c3,g0,g1,List.length_cons,List.length_nil,not_true_eq_false] at*)
   all_goals first
    | exact True.intro
    | exact ⟨True.intro,h3⟩
    | exact hs
    | omega
    | exact ⟨by omega,by omega,by omega⟩
    | exact ⟨by omega,by omega,by omega,h5⟩
    | ((try simp only [zm_,zn_,zl_] at*);omega)
    | (exfalso;omega)
    | (have hE:tlE b least step bad=bad:=by
        unfold tlE;rw [if_neg h4]
        first
         | exact if_pos (by omega)
         | (by_cases hq:tN b < least\/¬ (tN b).tmod step=0
            ·exact if_pos hq
            ·rw [if_neg hq];exact if_pos (by omega))
       unfold tlI tlR;simp only [hE,if_neg h5];first | done | exact ⟨rfl,by first | rfl | exact True.intro⟩ | exact ⟨trivial,trivial⟩)
    | (obtain ⟨q1,q2,q3⟩:=hok (by omega) (by omega)
       first
        | exact absurd q1 (by assumption)
        | (have hE:tlE b least step bad=0:=by
            unfold tlE;rw [if_neg h4,if_neg (by omega)];exact if_neg (by omega)
           unfold tlI tlR;simp only [hE,q2,q3,if_true];first | done | exact ⟨rfl,by first | rfl | exact True.intro⟩ | exact ⟨trivial,trivial⟩))
 ·cases e
def Vm_ (b:List Int):Int:=if zQ_ b=0 then (if ¬ (zC_ b=32768/\vL_ (zT_ b)=true) then 526 else if Zu_ b=true then 528 else if Zg_ b+8<=b.length then 527 else if ZB_ (b.drop (Zg_ b).toNat)=true then 0 else 528) else if zQ_ b=1026 then 527 else if zQ_ b=1031 then 526 else 528
def plE (t:Int) (y:List Int):Int:=if ¬ t=65535/\¬ (y.length:Int)=zG_ (zD_ t) then 514 else if zZ_ (zD_ t) y=1 then 514 else if zZ_ (zD_ t) y=2 then 518 else askF t ((zP_ (zD_ t) y).getD 0 0)
def acE (b:List Int):Int:=if ¬ tlE b 8 8 514=0 then tlE b 8 8 514 else if tT b=25 then Vm_ (bd b) else if Hb_ (tT b)=true then plE (tT b) (bd b) else 513
def acI (b:List Int) (x:Int):Int:=if acE b=0 then x else 0
def acA (b:List Int) (k:Nat):Int:=acI b (if tT b=25 then 0 else (zP_ (zD_ (tT b)) (bd b)).getD k 0)
def acS (b:List Int) (x:Int):Int:=acI b (if tT b=25 then x else 0)
def acH (b:List Int):Bool:=decide (acE b=0) && decide (tT b=25) && Zu_ (bd b)
def acV (b l:List Int):List Int:=if acE b=0 then (if tT b=25 then l else []) else []
def acD (b:List Int):List Int:=if acE b=0 then (if tT b=25 then [] else (bd b).drop (zG_ (zD_ (tT b))).toNat) else []
theorem Y8_:∀ (w b o:List Int),(Zy_ w b o).2=0\/(Zy_ w b o).2=1\/(Zy_ w b o).2=2
 | [],b,o=>.inl rfl
 | n :: r,b,o=>by
   simp only [Zy_]
   split
   ·exact .inr (.inl rfl)
   ·split
    ·exact Y8_ r _ _
    ·split
     ·exact Y8_ r _ _
     ·exact .inr (.inr rfl)
theorem wk_ (w b:List Int):zZ_ w b=0\/zZ_ w b=1\/zZ_ w b=2:=by
 unfold zZ_ ZE_;split
 ·exact Y8_ w b []
 ·exact .inr (.inr rfl)
theorem zf4_ {t a b:Int} (h2:2<=zB_ (zD_ t)\/b=0) (h1:1<=zB_ (zD_ t)\/a=0):(Ko_ t a b).getD 0 0=a/\(Ko_ t a b).getD 1 0=b:=by
 have hc:=ge_ t
 unfold Ko_
 generalize zB_ (zD_ t)=n at*
 have:n=0\/n=1\/n=2:=by omega
 rcases this with rfl | rfl | rfl
 ·have ha:a=0:=by omega
  have hb:b=0:=by omega
  subst ha;subst hb;exact ⟨rfl,rfl⟩
 ·have hb:b=0:=by omega
  subst hb;exact ⟨rfl,rfl⟩
 ·exact ⟨rfl,rfl⟩
theorem zhV_ {t:Int} {l:List Int} (h:(l.length:Int)=zB_ (zD_ t)):Ko_ t (l.getD 0 0) (l.getD 1 0)=l/\(2<=zB_ (zD_ t)\/l.getD 1 0=0)/\(1<=zB_ (zD_ t)\/l.getD 0 0=0):=by
 have hc:=ge_ t
 unfold Ko_
 rw [<- h,Int.toNat_natCast]
 rcases l with _ | ⟨p,_ | ⟨q,_ | ⟨r,s⟩⟩⟩
 ·exact ⟨rfl,.inr rfl,.inr rfl⟩
 ·exact ⟨rfl,.inr rfl,.inl (by simp)⟩
 ·exact ⟨rfl,.inl (by simp),.inl (by simp)⟩
 ·simp only [List.length_cons] at h;omega
theorem hf_ {c f:Int} {h:Bool} {x:Int} {v m:List Int} (hs:QH_ c f h x v m 0 0 false 0 [] []=true):c=0/\f=0/\h=false/\x=0/\v=[]/\m=[]:=by
 unfold QH_ at hs
 simp only [Bool.and_eq_true,decide_eq_true_eq,beq_iff_eq] at hs
 obtain ⟨⟨⟨⟨⟨h1,h2⟩,h3⟩,h4⟩,h5⟩,h6⟩:=hs
 exact ⟨h1,h2,h4,h3,h5,h6⟩
theorem zaZ_ {t N:Int} {body rest:List Int} (ht:0<=t/\t<=65535) (hN:N=4+body.length) (h8:8<=N) (hm:(4+body.length) % 8=0) (hN2:N<=65535):
 tT (ze_ t 2++ze_ N 2++body++rest)=t/\tN (ze_ t 2++ze_ N 2++body++rest)=N/\tlE (ze_ t 2++ze_ N 2++body++rest) 8 8 514=0/\bd (ze_ t 2++ze_ N 2++body++rest)=body:=by
 have l2:(ze_ t 2).length=2:=by have:=zk_ (n:=t) (w:=2) (by decide);omega
 have l3:(ze_ N 2).length=2:=by have:=zk_ (n:=N) (w:=2) (by decide);omega
 have e1:tT (ze_ t 2++ze_ N 2++body++rest)=t:=by
  unfold tT;rw [List.append_assoc,List.append_assoc,List.take_left' l2];exact num2 ht
 have e2:tN (ze_ t 2++ze_ N 2++body++rest)=N:=by
  unfold tN;rw [List.append_assoc,List.append_assoc,List.drop_left' l2,List.take_left' l3];exact num2 (by omega)
 have hl:(ze_ t 2++ze_ N 2++body++rest).length=4+body.length+rest.length:=by simp only [List.length_append];omega
 refine ⟨e1,e2,?_,?_⟩
 ·unfold tlE
  rw [e2,hl,if_neg (by omega),if_neg (by rw [Int.tmod_eq_emod_of_nonneg (by omega)];omega),if_neg (by omega)]
 ·unfold bd
  rw [e2,List.take_left' (by simp only [List.length_append];omega)]
  exact List.drop_left' (by rw [List.length_append];omega)
theorem zkq_ {t a b c f:Int} {h:Bool} {x:Int} {v m d rest:List Int} (hr:ZT_ (zL_ c f h x v m) t a b c f h x v m d=true) (ha:0<=a/\a<=18446744073709551615) (hb:0<=b/\b<=18446744073709551615) (hx:0<=x):
 (let y:=Yd_ t a b (Zq_ c f h x v m) d++rest
  acE y=0/\tT y=t/\tN y=4+(Z6_ t a b (Zq_ c f h x v m) d).length/\acA y 0=a/\acA y 1=b/\acS y (zC_ (bd y))=c/\acS y (zT_ (bd y))=f/\acH y=h/\acS y (q6_ (bd y))=x/\acV y (Z7_ (bd y))=v/\acV y (Z4_ (bd y))=m/\acD y=d):=by
 obtain ⟨_,s1,s2,s3⟩:=xZ_ hr
 have htt:0<=t/\t<=65535:=by
  by_cases h25:t=25
  ·omega
  ·exact hU_ (.inl (KX_ h25 hr).1)
 have hd:Yd_ t a b (Zq_ c f h x v m) d++rest=ze_ t 2++ze_ (4+(Z6_ t a b (Zq_ c f h x v m) d).length) 2++Z6_ t a b (Zq_ c f h x v m) d++rest:=rfl
 obtain ⟨e1,e2,e3,e4⟩:=zaZ_ (rest:=rest) htt rfl (by omega) s2 (by omega)
 dsimp only
 rw [hd]
 generalize ze_ t 2++ze_ (4+(Z6_ t a b (Zq_ c f h x v m) d).length) 2++Z6_ t a b (Zq_ c f h x v m) d++rest=y at*
 by_cases h25:t=25
 ·obtain ⟨rfl,rfl,rfl,rfl,rfl,k6,k7⟩:=x1_ h25 hr
  have hB:Z6_ t 0 0 (Zq_ 32768 f false x v m) []=Qh_ 32768 f false x v m++List.replicate ((8 - (4+(Zq_ 32768 f false x v m).length) % 8) % 8) 0:=by unfold Z6_;rw [if_pos h25,ue_ k7]
  obtain ⟨D1,D2,D3,D4,D5,D6,D7,D8⟩:=zef_ (b:=List.replicate ((8 - (4+(Zq_ 32768 f false x v m).length) % 8) % 8) (0:Int)) k7 hx
  rw [<- hB,<- e4] at D1 D2 D3 D4 D5 D6 D7 D8
  have hbl:(bd y).length=(Qh_ 32768 f false x v m).length+(8 - (4+(Zq_ 32768 f false x v m).length) % 8) % 8:=by rw [e4,hB,List.length_append,List.length_replicate]
  have hdz:ZB_ ((bd y).drop (Zg_ (bd y)).toNat)=true:=by
   rw [D8,e4,hB,Int.toNat_natCast,List.drop_left];exact Yv_ _
  have hs:Vm_ (bd y)=0:=by
   unfold Vm_
   rw [if_pos D1,D2,D3,D4,if_neg (not_not_intro ⟨rfl,k6⟩),if_neg (by decide),if_neg (by rw [D8,hbl];omega),if_pos hdz]
  have hE:acE y=0:=by unfold acE;rw [if_neg (not_not_intro e3),e1,if_pos h25];exact hs
  unfold acA acS acH acV acD acI
  rw [hE,e1,D2,D3,D4,D5,D6,D7]
  simp only [if_pos h25,if_true]
  exact ⟨trivial,trivial,e2,trivial,trivial,trivial,trivial,by simp,trivial,trivial,trivial,trivial⟩
 ·obtain ⟨k1,k2,k3,k4,k5,k6,k7⟩:=KX_ h25 hr
  obtain ⟨rfl,rfl,rfl,rfl,rfl,rfl⟩:=hf_ k2
  have hB:Z6_ t a b (Zq_ 0 0 false 0 [] []) d=Zn_ (zD_ t) (Ko_ t a b)++d:=if_neg h25
  have hn64:∀ z ∈ Ko_ t a b,0<=z/\z<=18446744073709551615:=fun z hz=>by
   have:=List.mem_of_mem_take hz
   simp only [List.mem_cons,List.not_mem_nil,or_false] at this
   rcases this with rfl | rfl<;>assumption
  obtain ⟨g1,g2⟩:=YM_ d hn64 k4
  rw [<- hB,<- e4] at g1
  have gL:zP_ (zD_ t) (bd y)=Ko_ t a b:=congrArg Prod.fst g1
  have gK:zZ_ (zD_ t) (bd y)=0:=congrArg Prod.snd g1
  obtain ⟨n1,n2⟩:=zf4_ k5 k6
  have hz:=uG_ t
  have hbl:((bd y).length:Int)=zG_ (zD_ t)+d.length:=by rw [e4,hB,List.length_append];omega
  have hs:plE t (bd y)=0:=by
   unfold plE
   rw [gK,gL,n1,if_neg (by
    rintro ⟨q1,q2⟩
    rcases k7 with ⟨q3,_⟩ | ⟨_,rfl⟩
    ·exact q1 q3
    ·simp only [List.length_nil] at hbl;omega),if_neg (by decide),if_neg (by decide)]
   exact k3
  have hE:acE y=0:=by unfold acE;rw [if_neg (not_not_intro e3),e1,if_neg h25,if_pos k1];exact hs
  have hdd:(bd y).drop (zG_ (zD_ t)).toNat=d:=by rw [e4,hB];exact List.drop_left' (by omega)
  unfold acA acS acH acV acD acI
  rw [hE,e1,gL,n1,n2,hdd]
  simp only [if_neg h25,if_true]
  exact ⟨trivial,trivial,e2,trivial,trivial,trivial,trivial,by simp [h25],trivial,trivial,trivial,trivial⟩
theorem zkr_ {b:List Int} (hb:∀ x ∈ b,0<=x/\x<=255) (h0:acE b=0):
 ZT_ (zL_ (acS b (zC_ (bd b))) (acS b (zT_ (bd b))) (acH b) (acS b (q6_ (bd b))) (acV b (Z7_ (bd b))) (acV b (Z4_ (bd b)))) (tT b) (acA b 0) (acA b 1) (acS b (zC_ (bd b))) (acS b (zT_ (bd b))) (acH b) (acS b (q6_ (bd b))) (acV b (Z7_ (bd b))) (acV b (Z4_ (bd b))) (acD b)=true/\
 Yd_ (tT b) (acA b 0) (acA b 1) (Zq_ (acS b (zC_ (bd b))) (acS b (zT_ (bd b))) (acH b) (acS b (q6_ (bd b))) (acV b (Z7_ (bd b))) (acV b (Z4_ (bd b)))) (acD b)=b.take (tN b).toNat/\0<=tN b/\tN b<=b.length:=by
 have hT:tlE b 8 8 514=0:=Classical.byContradiction fun h=>by
  unfold acE at h0;rw [if_pos h] at h0;exact h h0
 have hN0:0<=tN b/\tN b<=65535:=kO_ (a:=2) hb
 have hT0:0<=tT b/\tT b<=65535:=kO_ (a:=0) hb
 have hc:4<=b.length/\8<=tN b/\tN b % 8=0/\tN b<=b.length:=by
  unfold tlE at hT
  by_cases h1:b.length < 4
  ·rw [if_pos h1] at hT;cases hT
  ·rw [if_neg h1] at hT
   by_cases h2:tN b < 8\/¬ (tN b).tmod 8=0
   ·rw [if_pos h2] at hT;cases hT
   ·rw [if_neg h2] at hT
    by_cases h3:(b.length:Int) < tN b
    ·rw [if_pos h3] at hT;cases hT
    ·rw [Int.tmod_eq_emod_of_nonneg hN0.1] at h2;omega
 obtain ⟨c1,c2,c3,c4⟩:=hc
 have hbl:(bd b).length=(tN b).toNat - 4:=by unfold bd;rw [List.length_drop,List.length_take];omega
 have hbb:∀ x ∈ bd b,0<=x/\x<=255:=fun x hx=>hb x (List.mem_of_mem_take (List.mem_of_mem_drop hx))
 have b1:ze_ (tT b) 2=b.take 2:=qh_ 2 (b.take 2) (by decide) (by rw [List.length_take];omega) fun x hx=>hb x (List.mem_of_mem_take hx)
 have b2:ze_ (tN b) 2=(b.drop 2).take 2:=qh_ 2 ((b.drop 2).take 2) (by decide) (by rw [List.length_take,List.length_drop];omega) fun x hx=>hb x (List.mem_of_mem_drop (List.mem_of_mem_take hx))
 have hsplit:b.take (tN b).toNat=b.take 2++(b.drop 2).take 2++bd b:=by
  have e1:b.take 4=b.take 2++(b.drop 2).take 2:=by rw [<- List.take_add]
  rw [<- e1]
  unfold bd
  have e2:b.take 4=(b.take (tN b).toNat).take 4:=by rw [List.take_take,Nat.min_eq_left (by omega)]
  rw [e2,List.take_append_drop]
 have key:∀ {a' b':Int} {E d:List Int},Z6_ (tT b) a' b' E d=bd b->Yd_ (tT b) a' b' E d=b.take (tN b).toNat:=fun {a' b' E d} hB=>by
  unfold Yd_
  rw [hB,hbl,show (4+(((tN b).toNat - 4:Nat):Int))=tN b by omega,b1,b2,hsplit]
 have aI:∀ x,acI b x=x:=fun x=>if_pos h0
 by_cases h25:tT b=25
 ·have hs:Vm_ (bd b)=0:=by have:=h0;unfold acE at this;rw [if_neg (not_not_intro hT),if_pos h25] at this;exact this
  have D0:zQ_ (bd b)=0:=Classical.byContradiction fun h=>by
   unfold Vm_ at hs;rw [if_neg h] at hs
   split at hs
   ·cases hs
   ·split at hs<;>cases hs
  unfold Vm_ at hs
  rw [if_pos D0] at hs
  have q1:zC_ (bd b)=32768/\vL_ (zT_ (bd b))=true:=Classical.byContradiction fun h=>by rw [if_pos h] at hs;cases hs
  rw [if_neg (not_not_intro q1)] at hs
  have q2:Zu_ (bd b)=false:=by
   cases hh:Zu_ (bd b) with
   | false=>rfl
   | true=>rw [if_pos hh] at hs;cases hs
  rw [if_neg (by rw [q2];decide)] at hs
  have q3:¬ Zg_ (bd b)+8<=(bd b).length:=fun h=>by rw [if_pos h] at hs;cases hs
  rw [if_neg q3] at hs
  have q4:ZB_ ((bd b).drop (Zg_ (bd b)).toNat)=true:=Classical.byContradiction fun h=>by rw [if_neg h] at hs;cases hs
  obtain ⟨E1,E2,E3,E4⟩:=uf_ hbb D0
  have aS:∀ x,acS b x=x:=fun x=>by unfold acS;rw [aI,if_pos h25]
  have aV:∀ l,acV b l=l:=fun l=>by unfold acV;rw [if_pos h0,if_pos h25]
  have aA:∀ k,acA b k=0:=fun k=>by unfold acA;rw [aI,if_pos h25]
  have aH:acH b=Zu_ (bd b):=by unfold acH;rw [decide_eq_true h0,decide_eq_true h25];rfl
  have aD:acD b=[]:=by unfold acD;rw [if_pos h0,if_pos h25]
  simp only [aS,aV,aA,aH,aD]
  refine ⟨?_,key ?_,hN0.1,c4⟩
  ·unfold ZT_;rw [if_pos h25,E1,q1.1,q1.2,q2];rfl
  ·unfold Z6_;rw [if_pos h25,ue_ E1,E2]
   have hd:=um_ q4
   rw [List.length_drop] at hd
   have hk:(8 - (4+((bd b).take (Zg_ (bd b)).toNat).length) % 8) % 8=(bd b).length - (Zg_ (bd b)).toNat:=by rw [List.length_take];omega
   rw [hk,<- hd,List.take_append_drop]
 ·have hK:Hb_ (tT b)=true:=Classical.byContradiction fun h=>by
   have:=h0;unfold acE at this;rw [if_neg (not_not_intro hT),if_neg h25,if_neg h] at this;cases this
  have hs:plE (tT b) (bd b)=0:=by have:=h0;unfold acE at this;rw [if_neg (not_not_intro hT),if_neg h25,if_pos hK] at this;exact this
  unfold plE at hs
  have q1:¬ (¬ tT b=65535/\¬ ((bd b).length:Int)=zG_ (zD_ (tT b))):=fun h=>by rw [if_pos h] at hs;cases hs
  rw [if_neg q1] at hs
  have q2:¬ zZ_ (zD_ (tT b)) (bd b)=1:=fun h=>by rw [if_pos h] at hs;cases hs
  rw [if_neg q2] at hs
  have q3:¬ zZ_ (zD_ (tT b)) (bd b)=2:=fun h=>by rw [if_pos h] at hs;cases hs
  rw [if_neg q3] at hs
  have hF:ZE_ (zD_ (tT b)) (bd b)=(zP_ (zD_ (tT b)) (bd b),0):=by
   have h:=wk_ (zD_ (tT b)) (bd b)
   exact Prod.ext rfl (show zZ_ (zD_ (tT b)) (bd b)=0 by omega)
  obtain ⟨p1,p2,p3⟩:=kw_ hbb hF
  have hcl:((zP_ (zD_ (tT b)) (bd b)).length:Int)=zB_ (zD_ (tT b)):=by
   unfold ZX_ at p1
   obtain ⟨r,hr⟩:=Option.isSome_iff_exists.1 p1
   unfold k2_ at hr
   split at hr
   ·rename_i h;exact h.2.symm
   ·cases hr
  obtain ⟨n1,n2,n3⟩:=zhV_ hcl
  have hz:=uG_ (tT b)
  have aS:∀ x,acS b x=0:=fun x=>by unfold acS;rw [aI,if_neg h25]
  have aV:∀ l,acV b l=[]:=fun l=>by unfold acV;rw [if_pos h0,if_neg h25]
  have aA:∀ k,acA b k=(zP_ (zD_ (tT b)) (bd b)).getD k 0:=fun k=>by unfold acA;rw [aI,if_neg h25]
  have aH:acH b=false:=by unfold acH;rw [decide_eq_false h25];simp
  have aD:acD b=(bd b).drop (zG_ (zD_ (tT b))).toNat:=by unfold acD;rw [if_pos h0,if_neg h25]
  simp only [aS,aV,aA,aH,aD]
  have hdl:((bd b).drop (zG_ (zD_ (tT b))).toNat).length=(bd b).length - (zG_ (zD_ (tT b))).toNat:=List.length_drop
  refine ⟨?_,key ?_,hN0.1,c4⟩
  ·unfold ZT_
   rw [if_neg h25,hK,n1,p1,hs]
   have hself:QH_ 0 0 false 0 [] [] 0 0 false 0 [] []=true:=YF_ _ _ _ _ _ _
   rw [hself]
   have d2:(decide (2<=zB_ (zD_ (tT b))) || decide ((zP_ (zD_ (tT b)) (bd b)).getD 1 0=0))=true:=by simpa using n2
   have d1:(decide (1<=zB_ (zD_ (tT b))) || decide ((zP_ (zD_ (tT b)) (bd b)).getD 0 0=0))=true:=by simpa using n3
   rw [d1,d2]
   by_cases hx:tT b=65535
   ·have h4:zG_ (zD_ (tT b))=4:=by rw [hx];decide
    have d8:decide ((((bd b).length - (4:Int).toNat:Nat):Int).tmod 8=0)=true:=decide_eq_true (by rw [Int.tmod_eq_emod_of_nonneg (by omega)];omega)
    have d9:decide ((((bd b).length - (4:Int).toNat:Nat):Int)<=65520)=true:=decide_eq_true (by omega)
    rw [if_pos hx,hdl,h4,d8,d9];rfl
   ·have d10:decide ((bd b).length - (zG_ (zD_ (tT b))).toNat=0)=true:=decide_eq_true (by omega)
    rw [if_neg hx,hdl,d10];rfl
  ·unfold Z6_;rw [if_neg h25,n1,p2,List.take_append_drop]
def Ww_:IR:=
(sq (kr [0] [oD 2 (.mov (.c (.imm (.int .u8) [])))])
(sq (kr [0] [oM 3 0,
oM 4 0,
oC 5 47 [4],
oC 6 98 [3,5],
oM 2 6])
.ret))
def w1_:List RD:=[.tmp 2 true (some (.int .u8))]
theorem Wh_:zj_ Tryz.prog Tryz.f99 Ww_ w1_=true:=by kernel_rfl
def Zd_:List AV->List Obj->Option (Prop × AV × List Obj)
 | [.ptr 0 0],[.box [.imm (.int .u8) b,.int .i64 p,.int .i64 sh,.int .i64 od,.int .i64 e,.bool true]]=>some ((0<=p/\p<=b.length/\b.length<=140737488355328/\sh ≠ 0,.imm (.int .u8) (if e=0 then b.drop p.toNat else []),[.box [.imm (.int .u8) b,.int .i64 ((if e=0 then (b.length:Int) else p)),.int .i64 sh,.int .i64 od,.int .i64 e,.bool true]]))
 | _,_=>none
theorem ZG_:zd_ Tryz.prog 99 (RwF Zd_).sum:=by
 refine qg_ Tryz.func99 Wh_ (za_ (s:=RoF zS_) z3_ (za_ (s:=RwF zK_) zY_ (zc_ _))) fun args objs p v o e=>?_
 unfold Zd_ at e
 split at e
 ·rename_i b p sh od e
  cases e
  refine ⟨rfl,fun hw ho hp=>?_⟩
  change List Int at b
  clear hw ho
  obtain ⟨h1,h2,h3,h4⟩:=hp
  have hE:ZW_ ((b.length:Int) - p) b p sh e=e:=by unfold ZW_;rw [if_neg (by omega),if_neg (by omega)]
  have hL:Ql_ ((b.length:Int) - p) b p sh e=if e=0 then b.drop p.toNat else []:=by
   unfold Ql_;rw [hE,show (p+((b.length:Int) - p)).toNat=b.length by omega,List.take_length]
  have hP:jm_ ((b.length:Int) - p) b p sh e=if e=0 then (b.length:Int) else p:=by
   unfold jm_;rw [hE,show p+((b.length:Int) - p)=b.length by omega]
  repeat'(intro t ht;first|(cases t<;>first|(cases ht;done)|(try simp only[zg_]at ht))|((first|refine zb_ ht ?_|refine ht ?_ ?_|refine ht.1 ?_ ?_|refine ht ?_)<;>clear ht))
  all_goals first
   | exact True.intro
   | exact ⟨h1,h2⟩
   | exact ⟨h1,h2,h3,h4⟩
   | (rw [hE,hL,hP];exact ⟨rfl,rfl⟩)
 ·cases e
def G3_:IR:=
(sq (kr [0] [oD 2 (.box [.int .i64 0,.int .i64 0,.kb false,.int .u64 0,.imm (.int .u8) [],.imm (.int .u8) []]),
oD 3 (.mov (cI 0))])
(sq (kr [0,2] [oM 8 0,
oC 9 181 [8],
oM 7 9,
oX 10 7 0,
oX 11 7 1,
oX 12 7 2,
oD 4 (.box [.int .i64 0,.int .i64 0,.kb false,.int .u64 0,.imm (.int .u8) [],.imm (.int .u8) []]),
oS 6 4 10,
oM 5 11,
oM 6 12])
(sq (sq (kr [0,2,4,5,6] [oM 13 6])
(.block 0
(sq (.reg [oB 16 .eql 13 (cI 0),
oM 15 16])
(.cond 15
.skip
(sq (.reg [oB 18 .eql 13 (cI 1026),
oM 17 18])
(.cond 17
(sq (kr [2,4] [oK 19 6 4,
oS 6 2 19,
oD 3 (.mov (cI 527))])
.ret)
(sq (kr [2,4,13] [oB 21 .eql 13 (cI 1031),
oM 20 21])
(.cond 20
(sq (.reg [oK 22 6 4,
oS 6 2 22,
oD 3 (.mov (cI 526))])
.ret)
(sq (.reg [oK 14 6 4,
oS 6 2 14,
oD 3 (.mov (cI 528))])
.ret)))))))))
(sq (.block 1
(sq (kr [0,2,4,5] [oA 24 0 4,
oL 25 24,
oB 26 .neq 25 (cI 32768),
oM 27 26,
oF 27 28 (.fieldAddr 1 4),
oF 27 29 (.load none 28),
oF 27 30 (.call false (.f 227) [29]),
oF 27 31 (.un .not 30),
oP 32 27 cT 31,
oM 23 32])
(.cond 23
(sq (kr [2,4] [oK 33 6 4,
oS 6 2 33,
oD 3 (.mov (cI 526))])
.ret)
(sq (kr [0,2,4,5] [oA 35 2 4,
oL 36 35,
oM 34 36])
(.cond 34
(sq (.reg [oK 37 6 4,
oS 6 2 37,
oD 3 (.mov (cI 528))])
.ret)
(sq (kr [0,2,4,5] [oM 39 0,
oE 40 39,
oM 41 5,
oB 42 .add 41 (cI 8),
oB 43 .geq 40 42,
oM 38 43])
(.cond 38
(sq (kr [2,4] [oK 44 6 4,
oS 6 2 44,
oD 3 (.mov (cI 527))])
.ret)
(sq (kr [0,2,4,5] [oM 46 0,
oM 47 5,
oD 48 (.slice 1 46 (some 47) none none),
oC 49 189 [48,(.c (.str [0]))],
oE 50 49,
oB 51 .gtr 50 (cI 0),
oM 45 51])
(.cond 45
(sq (kr [2,4] [oK 52 6 4,
oS 6 2 52,
oD 3 (.mov (cI 528))])
.ret)
.skip)))))))))
(sq (kr [2,4] [oK 53 6 4,
oS 6 2 53,
oD 3 (.mov (cI 0))])
.ret)))))
def Ga_:List RD:=[.cell 2 (some 6) true [],.tmp 3 true none]
theorem GA_:zj_ Tryz.prog Tryz.f223 G3_ Ga_=true:=by kernel_rfl
def wJ_:List AV->List Obj->Option (Prop × AV)
 | [.imm (.int .u8) b],[]=>some ((b.length<=140737488355328,.tup [.agg [.int .i64 (Zr_ b (zC_ b)),.int .i64 (Zr_ b (zT_ b)),.bool ((if zQ_ b=0 then Zu_ b else false)),.int .u64 (Zr_ b (q6_ b)),.imm (.int .u8) (Z8_ b (Z7_ b)),.imm (.int .u8) (Z8_ b (Z4_ b))],.int .i64 (Vm_ b)]))
 | _,_=>none
theorem uF_:zd_ Tryz.prog 223 (RoF wJ_).sum:=by
 refine zi_ Tryz.func223 GA_ (za_ (s:=RoF KB_) WM_ (za_ (s:=RoF Qa_) KW_ (za_ (s:=RoF KK_) WV_ (zc_ _)))) fun args objs p v e=>?_
 unfold wJ_ at e
 split at e
 ·rename_i b
  cases e
  refine ⟨rfl,fun hw ho hp=>?_⟩
  change List Int at b
  have hb:∀ x ∈ (b:List Int),(0:Int)<=x/\x<=255:=fun x hx=>(hw (.imm (.int .u8) b) (by simp)).1 x hx
  clear hw ho
  by_cases h0:zQ_ b=0
  ·obtain ⟨E1,E2,E3,E4⟩:=uf_ hb h0
   have htz:=hb_ (b.drop (Zg_ b).toNat)
   have hS:Vm_ b=if ¬ (zC_ b=32768/\vL_ (zT_ b)=true) then 526 else if Zu_ b=true then 528 else if Zg_ b+8<=b.length then 527 else if ZB_ (b.drop (Zg_ b).toNat)=true then 0 else 528:=if_pos h0
   repeat'(intro t ht;first|(cases t<;>first|(cases ht;done)|(try simp only[zg_]at ht;try(exfalso;first|contradiction|omega)))|((first|refine zb_ ht ?_|refine ht ?_ ?_|refine ht.1 ?_ ?_|refine ht ?_)<;>clear ht))
   all_goals (try simp only [Zr_,h0,if_true] at*)
   all_goals first
    | exact True.intro
    | exact hp
    | omega
    | ((try simp only [zm_,zn_,zl_] at*);omega)
    | (rw [List.length_drop];omega)
    | (exfalso;simp_all;done)
    | (refine ⟨congrArg (fun z=>AV.tup [_,AV.int .i64 z]) ?_,by first | rfl | exact True.intro⟩;rw [hS];clear hS;simp_all;done)
    | (refine ⟨?_,by first | rfl | exact True.intro⟩;rw [hS];clear hS;simp_all;done)
    | (have hz:ZB_ (b.drop (Zg_ b).toNat)=true:=by rw [<- htz];exact decide_eq_true (by omega)
       refine ⟨?_,by first | rfl | exact True.intro⟩;rw [hS];clear hS;simp_all;done)
    | (have hz:ZB_ (b.drop (Zg_ b).toNat)=false:=by rw [<- htz];exact decide_eq_false (by omega)
       refine ⟨?_,by first | rfl | exact True.intro⟩;rw [hS];clear hS;simp_all;done)
  ·have hS:Vm_ b=if zQ_ b=1026 then 527 else if zQ_ b=1031 then 526 else 528:=if_neg h0
   repeat'(intro t ht;first|(cases t<;>first|(cases ht;done)|(try simp only[zg_]at ht;try(exfalso;first|contradiction|omega)))|((first|refine zb_ ht ?_|refine ht ?_ ?_|refine ht.1 ?_ ?_|refine ht ?_)<;>clear ht))
   all_goals first
    | exact True.intro
    | exact hp
    | (exfalso;omega)
    | (refine ⟨congrArg (fun z=>AV.tup [_,AV.int .i64 z]) ?_,by first | rfl | exact True.intro⟩;rw [hS];clear hS;simp_all;done)
 ·cases e
def hg_ (q a b c f:Int) (h:Bool) (x:Int) (v m d:List Int) (q' a' b' c' f':Int) (h':Bool) (x':Int) (v' m' d':List Int):Bool:=decide (q=q') && decide (a=a') && decide (b=b') && QH_ c f h x v m c' f' h' x' v' m' && decide (d=d')
theorem zbR_ (q a b c f:Int) (h:Bool) (x:Int) (v m d:List Int):hg_ q a b c f h x v m d q a b c f h x v m d=true:=by unfold hg_;rw [YF_];simp
theorem U6_:∀ (w b o:List Int),(Zy_ w b o).2 ≠ 0->(Zy_ w b o).1=[]
 | [],b,o,h=>absurd rfl h
 | n :: r,b,o,h=>by
   simp only [Zy_] at h ⊢
   split at h
   ·rename_i c;rw [if_pos c]
   ·rename_i c
    rw [if_neg c]
    split at h
    ·rename_i c2;rw [if_pos c2];exact U6_ r _ _ h
    ·rename_i c2
     rw [if_neg c2]
     split at h
     ·rename_i c3;rw [if_pos c3];exact U6_ r _ _ h
     ·rename_i c3;rw [if_neg c3]
theorem U2_ {w b:List Int} (h:zZ_ w b ≠ 0):zP_ w b=[]:=by
 unfold zZ_ ZE_ at h;unfold zP_ ZE_
 split at h
 ·rename_i c;rw [if_pos c];exact U6_ _ _ _ h
 ·rename_i c;rw [if_neg c]
theorem zgH_ {w b:List Int} (hb:∀ x ∈ b,0<=x/\x<=255) (h:zZ_ w b=0):((zP_ w b).length:Int)=zB_ w:=by
 obtain ⟨p1,_,_⟩:=kw_ hb (show ZE_ w b=(zP_ w b,0) from Prod.ext rfl h)
 unfold ZX_ at p1
 obtain ⟨r,hr⟩:=Option.isSome_iff_exists.1 p1
 unfold k2_ at hr
 split at hr
 ·rename_i h;exact h.2.symm
 ·cases hr
def plA (q:Int) (y:List Int) (k:Nat):Int:=if ¬ q=65535/\¬ (y.length:Int)=zG_ (zD_ q) then 0 else (zP_ (zD_ q) y).getD k 0
def plD (q:Int) (y:List Int):List Int:=if plE q y=0 then y.drop (zG_ (zD_ q)).toNat else []
def VV_:IR:=
(sq (kr [0,1,2] [oD 3 (.boxv 0),
oD 6 (.box [.int .i64 0,.int .u64 0,.int .u64 0,.int .i64 0,.int .i64 0,.kb false,.int .u64 0,.imm (.int .u8) [],.imm (.int .u8) [],.imm (.int .u8) []]),
oD 7 (.mov (cI 0))])
(sq (sq (kr [1,2,3,6] [oA 11 0 3,
oL 12 11,
oB 13 .neq 12 (cI 65535),
oM 14 13,
oT 14 15 (.mov 2),
oT 14 16 (.len 15),
oT 14 17 (.mov 1),
oT 14 18 (.call false (.f 94) [17]),
oT 14 19 (.bin .neq 16 18),
oP 20 14 19 cF])
(.cond 20
(sq (kr [3,6] [oK 21 10 3,
oS 10 6 21,
oD 7 (.mov (cI 514))])
.ret)
.skip))
(sq (kr [1,2,3,6] [oM 22 2,
oC 23 41 [22,(cI 514),(cI 518)],
oM 8 23])
(sq (sq (kr [1,3,6,8] [oM 24 8,
oM 25 1,
oC 26 42 [24,25],
oE 27 26,
oD 28 (.mov (cI 0))])
(.block 0
(.loop
(sq (kr [3,6,8,26,27,28] [oB 29 .lss 28 27])
(sq (.cond 29
.skip
(.exit 0))
(sq (.block 1
(sq (kr [3,6,8,26,27,28] [oM 30 28,
oI 31 1 26 28,
oL 32 31,
oM 9 30,
oM 10 32])
(sq (.reg [oM 33 9,
oB 34 .eql 33 (cI 0)])
(.cond 34
(kr [3,6,8,10,26,27,28] [oM 35 10,
oA 36 1 3,
oS 1 36 35])
(kr [3,6,8,10,26,27,28] [oM 37 10,
oA 38 2 3,
oS 1 38 37])))))
(kr [3,6,8,26,27,28] [oB 39 .add 28 (cI 1),
oM 28 39])))))))
(sq (kr [3,6,8] [oM 40 8,
oA 41 0 3,
oL 42 41,
oA 43 1 3,
oL 44 43,
oC 45 221 [42,44],
oC 46 44 [40,45]])
(sq (kr [3,6,8] [oM 47 8,
oC 48 99 [47],
oA 49 9 3,
oS 1 49 48])
(sq (.regD [(oK 50 10 3,[]),
(oM 51 8,[0]),
(oC 52 43 [51],[1]),
(oS 10 6 50,[]),
(oM 7 52,[])])
.ret)))))))
def Vw_:List RD:=[.cell 6 (some 10) true [],.tmp 7 true none]
theorem VI_:zj_ Tryz.prog Tryz.f224 VV_ Vw_=true:=by kernel_rfl
def jh_:List AV->List Obj->Option (Prop × AV)
 | [.agg [.int .i64 q,.int .u64 0,.int .u64 0,.int .i64 c,.int .i64 f,.bool h,.int .u64 x,.imm (.int .u8) v,.imm (.int .u8) m,.imm (.int .u8) ([])],.imm (.int .i64) w,.imm (.int .u8) y],[]=>some ((w=zD_ q/\y.length<=1000000,.tup [.agg [.int .i64 q,.int .u64 (plA q y 0),.int .u64 (plA q y 1),.int .i64 c,.int .i64 f,.bool h,.int .u64 x,.imm (.int .u8) v,.imm (.int .u8) m,.imm (.int .u8) (plD q y)],.int .i64 (plE q y)]))
 | _,_=>none
theorem YE_:zd_ Tryz.prog 224 (RoF jh_).sum:=by
 refine zi_ Tryz.func224 VI_ (za_ (s:=RoF QD_) QU_ (za_ (s:=RwF ZJ_) ZN_ (za_ (s:=RwF zW_) z5_ (za_ (s:=RoF kf_) j5_ (za_ (s:=RwF zr_) zs_ (za_ (s:=RwF Zd_) ZG_ (za_ (s:=RoF zp_) zq_ (zc_ _)))))))) fun args objs p v e=>?_
 unfold jh_ at e
 split at e
 ·rename_i q c f h x v m w y
  cases e
  refine ⟨rfl,fun hw ho hp=>?_⟩
  change List Int at v
  change List Int at m
  change List Int at w
  change List Int at y
  have hyb:∀ x ∈ (y:List Int),(0:Int)<=x/\x<=255:=fun x hx=>(hw (.imm (.int .u8) y) (by simp)).1 x hx
  clear hw ho
  obtain ⟨rfl,hy⟩:=hp
  have hz:=uG_ q
  have hcn:=ge_ q
  have hd0:y.drop (0:Int).toNat=y:=rfl
  have hf0:∀ e,zt_ 0 e=e:=fun e=>if_pos rfl
  by_cases hm:¬ q=65535/\¬ (y.length:Int)=zG_ (zD_ q)
  ·have e1:plE q y=514:=if_pos hm
   have e2:∀ k,plA q y k=0:=fun k=>if_pos hm
   have e3:plD q y=[]:=by unfold plD;rw [e1];rfl
   rw [e1,e2,e2,e3]
   repeat'(intro t ht;first|(cases t<;>first|(cases ht;done)|(try simp only[zg_]at ht;try(exfalso;first|contradiction|omega)))|((first|refine zb_ ht ?_|refine ht ?_ ?_|refine ht.1 ?_ ?_|refine ht ?_)<;>clear ht))
   all_goals first
    | exact True.intro
    | omega
    | exact ⟨rfl,rfl⟩
  ·have e2:∀ k,plA q y k=(zP_ (zD_ q) y).getD k 0:=fun k=>if_neg hm
   have e1:plE q y=if zZ_ (zD_ q) y=1 then 514 else if zZ_ (zD_ q) y=2 then 518 else askF q ((zP_ (zD_ q) y).getD 0 0):=if_neg hm
   have hcL:QR_ (zD_ q) y 0 0=zP_ (zD_ q) y:=by unfold QR_;rw [if_pos rfl,hd0]
   have hcE:k8_ (zD_ q) y 0 514 518 0=if zZ_ (zD_ q) y=1 then 514 else if zZ_ (zD_ q) y=2 then 518 else 0:=by unfold k8_;rw [if_pos rfl,hd0]
   have hcP:ky_ (zD_ q) y 0 0=if zZ_ (zD_ q) y=1 then 0 else if zZ_ (zD_ q) y=2 then 0 else 0+zG_ (zD_ q):=by unfold ky_;rw [if_pos rfl,hd0]
   by_cases hK0:zZ_ (zD_ q) y=0
   ·have hl:=zgH_ hyb hK0
    rw [hK0,if_neg (by decide),if_neg (by decide)] at hcE hcP e1
    unfold plD
    rw [e1,e2,e2]
    have hsz:zG_ (zD_ q)<=y.length:=by
     have hpf:=kw_ hyb (show ZE_ (zD_ q) y=(zP_ (zD_ q) y,0) from Prod.ext rfl hK0)
     have:=KO_ hpf.1
     rw [hpf.2.1,List.length_take] at this
     omega
    rcases hL:zP_ (zD_ q) y with _ | ⟨u,_ | ⟨w,_ | ⟨w2,r2⟩⟩⟩
    ·rw [hL] at hcL hl e1
     repeat'(intro t ht;first|(cases t<;>first|(cases ht;done)|(try simp only[zg_]at ht;try(exfalso;first|contradiction|omega)))|((first|refine zb_ ht ?_|refine ht ?_ ?_|refine ht.1 ?_ ?_|refine ht ?_)<;>clear ht))
     all_goals (try simp only [hcL,hcE,hcP] at*)
     all_goals first
      | exact True.intro
      | omega
      | exact ⟨by omega,by omega,by omega⟩
      | (intro r h1 h2;refine h1 ⟨1,?_⟩;clear h1 h2)
     all_goals repeat'(intro t ht;first|(cases t<;>first|(cases ht;done)|(try simp only[zg_]at ht;try(exfalso;first|contradiction|omega)))|((first|refine zb_ ht ?_|refine ht ?_ ?_|refine ht.1 ?_ ?_|refine ht ?_)<;>clear ht))
     all_goals (try simp only [hcL,hcE,hcP,List.getD_cons_zero,List.getD_cons_succ,List.getD_nil] at*)
     all_goals first
      | exact True.intro
      | omega
      | ((try simp only [zm_,zn_,zl_] at*);omega)
      | exact ⟨by omega,by omega,by omega,by decide⟩
      | (refine ⟨?_,by first | rfl | exact True.intro⟩;simp only [hf0,Int.zero_add];rfl)
    ·rw [hL] at hcL hl e1
     repeat'(intro t ht;first|(cases t<;>first|(cases ht;done)|(try simp only[zg_]at ht;try(exfalso;first|contradiction|omega)))|((first|refine zb_ ht ?_|refine ht ?_ ?_|refine ht.1 ?_ ?_|refine ht ?_)<;>clear ht))
     all_goals (try simp only [hcL,hcE,hcP] at*)
     all_goals first
      | exact True.intro
      | omega
      | exact ⟨by omega,by omega,by omega⟩
      | (intro r h1 h2;refine h1 ⟨2,?_⟩;clear h1 h2)
     all_goals repeat'(intro t ht;first|(cases t<;>first|(cases ht;done)|(try simp only[zg_]at ht;try(exfalso;first|contradiction|omega)))|((first|refine zb_ ht ?_|refine ht ?_ ?_|refine ht.1 ?_ ?_|refine ht ?_)<;>clear ht))
     all_goals (try simp only [hcL,hcE,hcP,List.getD_cons_zero,List.getD_cons_succ,List.getD_nil] at*)
     all_goals first
      | exact True.intro
      | omega
      | ((try simp only [zm_,zn_,zl_] at*);omega)
      | exact ⟨by omega,by omega,by omega,by decide⟩
      | (refine ⟨?_,by first | rfl | exact True.intro⟩;simp only [hf0,Int.zero_add];rfl)
    ·rw [hL] at hcL hl e1
     repeat'(intro t ht;first|(cases t<;>first|(cases ht;done)|(try simp only[zg_]at ht;try(exfalso;first|contradiction|omega)))|((first|refine zb_ ht ?_|refine ht ?_ ?_|refine ht.1 ?_ ?_|refine ht ?_)<;>clear ht))
     all_goals (try simp only [hcL,hcE,hcP] at*)
     all_goals first
      | exact True.intro
      | omega
      | exact ⟨by omega,by omega,by omega⟩
      | (intro r h1 h2;refine h1 ⟨3,?_⟩;clear h1 h2)
     all_goals repeat'(intro t ht;first|(cases t<;>first|(cases ht;done)|(try simp only[zg_]at ht;try(exfalso;first|contradiction|omega)))|((first|refine zb_ ht ?_|refine ht ?_ ?_|refine ht.1 ?_ ?_|refine ht ?_)<;>clear ht))
     all_goals (try simp only [hcL,hcE,hcP,List.getD_cons_zero,List.getD_cons_succ,List.getD_nil] at*)
     all_goals first
      | exact True.intro
      | omega
      | ((try simp only [zm_,zn_,zl_] at*);omega)
      | exact ⟨by omega,by omega,by omega,by decide⟩
      | (refine ⟨?_,by first | rfl | exact True.intro⟩;simp only [hf0,Int.zero_add];rfl)
    ·rw [hL] at hl;simp only [List.length_cons] at hl;omega
   ·have hL:=U2_ hK0
    have hE:∃ e,e ≠ 0/\(if zZ_ (zD_ q) y=1 then (514:Int) else if zZ_ (zD_ q) y=2 then 518 else 0)=e/\(if zZ_ (zD_ q) y=1 then (514:Int) else if zZ_ (zD_ q) y=2 then 518 else askF q (([]:List Int).getD 0 0))=e:=by
     rcases wk_ (zD_ q) y with h | h | h
     ·exact absurd h hK0
     ·rw [h];exact ⟨514,by decide,rfl,rfl⟩
     ·rw [h];exact ⟨518,by decide,rfl,rfl⟩
    obtain ⟨e,he,h1,h2⟩:=hE
    rw [h1] at hcE;rw [hL] at hcL e1;rw [h2] at e1
    unfold plD
    rw [e1,e2,e2,hL,if_neg he]
    repeat'(intro t ht;first|(cases t<;>first|(cases ht;done)|(try simp only[zg_]at ht;try(exfalso;first|contradiction|omega)))|((first|refine zb_ ht ?_|refine ht ?_ ?_|refine ht.1 ?_ ?_|refine ht ?_)<;>clear ht))
    all_goals (try simp only [hcL,hcE] at*)
    all_goals first
     | exact True.intro
     | omega
     | exact ⟨by omega,by omega,by omega⟩
     | (intro r h1 h2;refine h1 ⟨1,?_⟩;clear h1 h2)
    all_goals repeat'(intro t ht;first|(cases t<;>first|(cases ht;done)|(try simp only[zg_]at ht;try(exfalso;first|contradiction|omega)))|((first|refine zb_ ht ?_|refine ht ?_ ?_|refine ht.1 ?_ ?_|refine ht ?_)<;>clear ht))
    all_goals (try simp only [hcL,hcE] at*)
    all_goals first
     | exact True.intro
     | omega
     | ((try simp only [zm_,zn_,zl_] at*);omega)
     | (refine ⟨?_,by first | rfl | exact True.intro⟩;simp only [zt_,if_neg he];done)
     | (refine ⟨?_,by first | rfl | exact True.intro⟩;simp only [zt_,if_neg he];rfl)
 ·cases e
end Go.Eng
