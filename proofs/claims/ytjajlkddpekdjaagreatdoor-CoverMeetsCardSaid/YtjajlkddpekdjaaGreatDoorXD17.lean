/- Parts of the proof: N9, P1, P2, P3, P4, P5, P6, PB. No condition. -/
import Derived.Test.YtjajlkddpekdjaaGreatDoorProg
import Derived.Test.YtjajlkddpekdjaaGreatDoorXD10
import Derived.KernelRfl
import Derived.Test.YtjajlkddpekdjaaGreatDoorXD16
namespace Go.Eng
open Go.Proofs
set_option linter.unusedVariables false
set_option linter.unusedSimpArgs false
set_option maxRecDepth 100000
set_option maxHeartbeats 1000000
def qo_:IR:=
(sq (kr [0,1] [oD 4 (.mov (cI 0))])
(sq (sq (.reg [oM 6 0,
oE 7 6,
oD 8 (.mov (cI 0))])
(.block 0
(.loop
(sq (kr [0,1,7,8] [oB 9 .lss 8 7])
(sq (.cond 9
.skip
(.exit 0))
(sq (.block 1
(sq (.reg [oM 10 8,
oM 5 10])
(sq (kr [0,1,5,7,8] [oM 11 1,
oM 12 0,
oM 13 5,
oI 14 6 12 13,
oK 15 6 14,
oD 16 (.call false 11 [15])])
(.cond 16
(sq (kr [5] [oM 17 5,
oM 4 17])
.ret)
.skip))))
(kr [0,1,7,8] [oB 18 .add 8 (cI 1),
oM 8 18])))))))
(sq (kr [] [oD 4 (.mov (cI (-1)))])
.ret)))
def qh_:List RD:=[.tmp 4 false none]
theorem qj_:zl_ Tryz.prog Tryz.f56 qo_ qh_=true:=by kernel_rfl
def zM_:List AV->List Obj->Option (Prop × AV)
 | [.imm (.cons (.int .i64) (.cons (.int .i64) (.cons .bool (.cons (.int .u64) (.cons (.sl (.int .u8)) (.cons (.sl (.int .u8)) .nil)))))) l,.fn 37 [] [.ptr 0 0]],[.box [.imm (.cons (.int .i64) (.cons (.int .i64) (.cons .bool (.cons (.int .u64) (.cons (.sl (.int .u8)) (.cons (.sl (.int .u8)) .nil)))))) q]]=>some ((allLen l,.int .i64 (qp_ (α:=OV) (fun z=>(q:List OV).any (zv_ z)) l 0)))
 | _,_=>none
theorem ZX_:zf_ Tryz.prog 56 (RoF zM_).sum:=by
 refine zh_ Tryz.func56 qj_ (zb_ (s:=RoF qO_) k6_ (zb_ (s:=RoF Zs_) qy_ (zb_ (s:=RoF ZI_) Qc_ (zb_ (s:=RoF Zy_) qQ_ (zb_ (s:=RoF Zk_) ZU_ (zb_ (s:=RoF Zw_) qd_ (zb_ (s:=RoF qr_) Qb_ (zd_ _)))))))) fun args objs p v e=>?_
 unfold zM_ at e
 split at e
 ·rename_i l q
  cases e
  refine ⟨rfl,fun hw ho hp=>?_⟩
  change List OV at l
  have hl:l.length<=maxLen:=(hw (.imm Y1 l) (by simp)).2
  unfold maxLen at hl
  clear hw ho
  repeat'(intro t ht;first|(cases t<;>first|(cases ht;done)|(try simp only[zg_]at ht))|((first|refine za_ ht ?_|refine ht ?_ ?_|refine ht.1 ?_ ?_|refine ht ?_)<;>clear ht))
  all_goals first
   | (intro r h1 h2;clear h1;refine h2 ⟨[0,1,7,8],Nat,(fun i=>i<=l.length/\qp_ (fun z=>(q:List OV).any (zv_ z)) l 0=qp_ (fun z=>(q:List OV).any (zv_ z)) (l.drop i) i),fun i=>[.imm Y1 l,.fn 37 [] [.ptr 0 0],.int .i64 l.length,.int .i64 i],fun _=>[.box [.imm Y1 q]],fun i=>l.length - i,⟨0,⟨Nat.zero_le _,rfl⟩,rfl,rfl⟩,?_⟩;clear h2)
  rintro i ⟨hi,he⟩
  repeat'(intro t ht;first|(cases t<;>first|(cases ht;done)|(try simp only[zg_]at ht;try(exfalso;first|contradiction|omega)))|((first|refine za_ ht ?_|refine ht ?_ ?_|refine ht.1 ?_ ?_|refine ht ?_)<;>clear ht))
  all_goals (try generalize (Ty.dflt Y1)=od at*)
  all_goals first
   | exact True.intro
   | ((try simp only [zq_,zr_,zj_] at*);omega)
   | exact (ub_ (hp.h _ (zu_ (by omega) od))).1
   | (refine ⟨?_,rfl⟩;rw [he,Qm_ (by omega)];done)
   | (refine ⟨?_,rfl⟩;rw [he,kA_ (p:=fun z=>(q:List OV).any (zv_ z)) (d:=od) (by omega) ht];done)
   | exact ⟨i+1,⟨by omega,he.trans (kz_ (p:=fun z=>(q:List OV).any (zv_ z)) (d:=od) (by omega) ht)⟩,by dsimp only;omega,rfl,rfl⟩
 ·cases e
def ZR_:IR:=
(sq (kr [0,1] [oD 4 (.mov cF)])
(sq (kr [0,1] [oM 5 0,
oM 6 1,
oC 7 56 [5,6],
oB 8 .geq 7 (cI 0),
oM 4 8])
.ret))
def ZL_:List RD:=[.tmp 4 false none]
theorem ZO_:zl_ Tryz.prog Tryz.f27 ZR_ ZL_=true:=by kernel_rfl
def zF_:List AV->List Obj->Option (Prop × AV)
 | [.imm (.cons (.int .i64) (.cons (.int .i64) (.cons .bool (.cons (.int .u64) (.cons (.sl (.int .u8)) (.cons (.sl (.int .u8)) .nil)))))) l,.fn 37 [] [.ptr 0 0]],[.box [.imm (.cons (.int .i64) (.cons (.int .i64) (.cons .bool (.cons (.int .u64) (.cons (.sl (.int .u8)) (.cons (.sl (.int .u8)) .nil)))))) q]]=>some ((allLen l,.bool ((l:List OV).any (fun z=>(q:List OV).any (zv_ z)))))
 | _,_=>none
theorem ZE_:zf_ Tryz.prog 27 (RoF zF_).sum:=by
 refine zh_ Tryz.func27 ZO_ (zb_ (s:=RoF zM_) ZX_ (zd_ _)) fun args objs p v e=>?_
 unfold zF_ at e
 split at e
 ·rename_i l q
  cases e
  refine ⟨rfl,fun hw ho hp=>?_⟩
  have h9:=qG_ (p:=fun z=>(q:List OV).any (zv_ z)) l 0 (Int.le_refl _)
  repeat'(intro t ht;first|(cases t<;>first|(cases ht;done)|(try simp only[zg_]at ht;try(exfalso;first|contradiction|omega)))|((first|refine za_ ht ?_|refine ht ?_ ?_|refine ht.1 ?_ ?_|refine ht ?_)<;>clear ht))
  all_goals first
   | exact True.intro
   | exact hp
   | exact ⟨congrArg AV.bool h9,rfl⟩
 ·cases e
def yv_:IR:=
(sq (kr [0,1] [oD 3 (.boxv 1),
oD 4 (.mov cF)])
(sq (.reg [oM 5 0,
oD 6 (.mkfn 37 [] [3]),
oC 7 27 [5,6],
oM 4 7])
.ret))
def XU_:List RD:=[.tmp 4 true none]
theorem ye_:zl_ Tryz.prog Tryz.f14 yv_ XU_=true:=by kernel_rfl
def Q6_:List AV->List Obj->Option (Prop × AV)
 | [.imm (.cons (.int .i64) (.cons (.int .i64) (.cons .bool (.cons (.int .u64) (.cons (.sl (.int .u8)) (.cons (.sl (.int .u8)) .nil)))))) a,.imm (.cons (.int .i64) (.cons (.int .i64) (.cons .bool (.cons (.int .u64) (.cons (.sl (.int .u8)) (.cons (.sl (.int .u8)) .nil)))))) b],[]=>some ((allLen a,.bool (qc_ a b)))
 | _,_=>none
theorem jm_:zf_ Tryz.prog 14 (RoF Q6_).sum:=by
 refine zh_ Tryz.func14 ye_ (zb_ (s:=RoF qO_) k6_ (zb_ (s:=RoF zF_) ZE_ (zd_ _))) fun args objs p v e=>?_
 unfold Q6_ at e
 split at e
 ·rename_i a b
  cases e
  refine ⟨rfl,fun hw ho hp=>?_⟩
  repeat'(intro t ht;first|(cases t<;>first|(cases ht;done)|(try simp only[zg_]at ht;try(exfalso;first|contradiction|omega)))|((first|refine za_ ht ?_|refine ht ?_ ?_|refine ht.1 ?_ ?_|refine ht ?_)<;>clear ht))
  all_goals first
   | exact True.intro
   | exact hp
   | exact ⟨rfl,by first | rfl | exact True.intro⟩
 ·cases e
def yu_:IR:=
(sq (kr [0,1] [oD 4 (.mov cF)])
(sq (sq (.reg [oM 7 0,
oE 8 7,
oD 9 (.mov (cI 0))])
(.block 0
(.loop
(sq (kr [1,7,8,9] [oB 10 .lss 9 8])
(sq (.cond 10
.skip
(.exit 0))
(sq (.block 1
(sq (.reg [oI 11 6 7 9,
oK 12 6 11,
oD 6 (.box [.int .i64 0,.int .i64 0,.kb false,.int .u64 0,.imm (.int .u8) [],.imm (.int .u8) []]),
oS 6 6 12])
(sq (.reg [oM 13 1,
oD 14 (.mkfn 33 [] [6]),
oC 15 27 [13,14],
oD 16 (.un .not 15)])
(.cond 16
(sq (kr [] [oD 4 (.mov cF)])
.ret)
.skip))))
(kr [1,7,8,9] [oB 17 .add 9 (cI 1),
oM 9 17])))))))
(sq (kr [] [oD 4 (.mov cT)])
.ret)))
def XT_:List RD:=[.tmp 4 true none]
theorem yd_:zl_ Tryz.prog Tryz.f12 yu_ XT_=true:=by kernel_rfl
def Ks_:List AV->List Obj->Option (Prop × AV)
 | [.imm (.cons (.int .i64) (.cons (.int .i64) (.cons .bool (.cons (.int .u64) (.cons (.sl (.int .u8)) (.cons (.sl (.int .u8)) .nil)))))) a,.imm (.cons (.int .i64) (.cons (.int .i64) (.cons .bool (.cons (.int .u64) (.cons (.sl (.int .u8)) (.cons (.sl (.int .u8)) .nil)))))) b],[]=>some ((allLen a,.bool (uJ_ a b)))
 | _,_=>none
theorem xD_:zf_ Tryz.prog 12 (RoF Ks_).sum:=by
 refine zh_ Tryz.func12 yd_ (zb_ (s:=RoF ZI_) Qc_ (zb_ (s:=RoF zm_) zw_ (zd_ _))) fun args objs p v e=>?_
 unfold Ks_ at e
 split at e
 ·rename_i a b
  cases e
  refine ⟨rfl,fun hw ho hp=>?_⟩
  change List OV at a
  change List OV at b
  have hl:a.length<=maxLen:=(hw (.imm Y1 a) (by simp)).2
  unfold maxLen at hl
  clear hw ho
  unfold uJ_
  repeat'(intro t ht;first|(cases t<;>first|(cases ht;done)|(try simp only[zg_]at ht;try(exfalso;first|contradiction|omega)))|((first|refine za_ ht ?_|refine ht ?_ ?_|refine ht.1 ?_ ?_|refine ht ?_)<;>clear ht))
  all_goals first
   | exact True.intro
   | (intro r h1 h2;clear h1;refine h2 ⟨[1,7,8,9],Nat,(fun i=>i<=a.length/\(a.take i).all (fun o=>b.any fun x=>Zu_ o x)=true),fun i=>[.imm Y1 b,.imm Y1 a,.int .i64 a.length,.int .i64 i],fun _=>[],fun i=>a.length - i,⟨0,⟨Nat.zero_le _,rfl⟩,rfl,rfl⟩,?_⟩;clear h2)
  rintro i ⟨hi,hJ⟩
  repeat'(intro t ht;first|(cases t<;>first|(cases ht;done)|(try simp only[zg_]at ht;try(exfalso;first|contradiction|omega)))|((first|refine za_ ht ?_|refine ht ?_ ?_|refine ht.1 ?_ ?_|refine ht ?_)<;>clear ht))
  all_goals (try simp only [Int.toNat_natCast] at ht ⊢)
  all_goals (try generalize (Ty.dflt Y1)=od at*)
  all_goals first
   | exact True.intro
   | omega
   | ((try dsimp only);simp only [zj_];omega)
   | exact (ub_ (hp.h _ (zu_ (by omega) od))).1
   | (rw [w7_ (by omega) hJ];exact ⟨rfl,by first | rfl | exact True.intro⟩)
   | (rw [w6_ (f:=fun o=>b.any fun x=>Zu_ o x) (d:=od) (by omega) ht];exact ⟨rfl,by first | rfl | exact True.intro⟩)
   | (refine ⟨i+1,⟨by omega,Jp_ (d:=od) (by omega) hJ ht⟩,?_,rfl,by first | rfl | exact True.intro⟩
      (try dsimp only);omega)
 ·cases e
def xX_:IR:=
(sq (kr [0,1] [oD 4 (.mov cF)])
(sq (sq (.reg [oM 7 1,
oE 8 7,
oD 9 (.mov (cI 0))])
(.block 0
(.loop
(sq (kr [0,7,8,9] [oB 10 .lss 9 8])
(sq (.cond 10
.skip
(.exit 0))
(sq (.block 1
(sq (.reg [oI 11 6 7 9,
oK 12 6 11,
oD 6 (.box [.int .i64 0,.int .i64 0,.kb false,.int .u64 0,.imm (.int .u8) [],.imm (.int .u8) []]),
oS 6 6 12])
(sq (.reg [oM 13 0,
oD 14 (.mkfn 35 [] [6]),
oC 15 27 [13,14],
oD 16 (.un .not 15)])
(.cond 16
(sq (kr [] [oD 4 (.mov cF)])
.ret)
.skip))))
(kr [0,7,8,9] [oB 17 .add 9 (cI 1),
oM 9 17])))))))
(sq (kr [] [oD 4 (.mov cT)])
.ret)))
def xJ_:List RD:=[.tmp 4 true none]
theorem xP_:zl_ Tryz.prog Tryz.f13 xX_ xJ_=true:=by kernel_rfl
def kZ_:List AV->List Obj->Option (Prop × AV)
 | [.imm (.cons (.int .i64) (.cons (.int .i64) (.cons .bool (.cons (.int .u64) (.cons (.sl (.int .u8)) (.cons (.sl (.int .u8)) .nil)))))) a,.imm (.cons (.int .i64) (.cons (.int .i64) (.cons .bool (.cons (.int .u64) (.cons (.sl (.int .u8)) (.cons (.sl (.int .u8)) .nil)))))) b],[]=>some ((allLen a,.bool (Xi_ a b)))
 | _,_=>none
theorem Wk_:zf_ Tryz.prog 13 (RoF kZ_).sum:=by
 refine zh_ Tryz.func13 xP_ (zb_ (s:=RoF Zy_) qQ_ (zb_ (s:=RoF zm_) zw_ (zd_ _))) fun args objs p v e=>?_
 unfold kZ_ at e
 split at e
 ·rename_i a b
  cases e
  refine ⟨rfl,fun hw ho hp=>?_⟩
  change List OV at a
  change List OV at b
  have hl:b.length<=maxLen:=(hw (.imm Y1 b) (by simp)).2
  unfold maxLen at hl
  clear hw ho
  unfold Xi_
  repeat'(intro t ht;first|(cases t<;>first|(cases ht;done)|(try simp only[zg_]at ht;try(exfalso;first|contradiction|omega)))|((first|refine za_ ht ?_|refine ht ?_ ?_|refine ht.1 ?_ ?_|refine ht ?_)<;>clear ht))
  all_goals first
   | exact True.intro
   | (intro r h1 h2;clear h1;refine h2 ⟨[0,7,8,9],Nat,(fun i=>i<=b.length/\(b.take i).all (fun y=>a.any fun x=>Zh_ x y)=true),fun i=>[.imm Y1 a,.imm Y1 b,.int .i64 b.length,.int .i64 i],fun _=>[],fun i=>b.length - i,⟨0,⟨Nat.zero_le _,rfl⟩,rfl,rfl⟩,?_⟩;clear h2)
  rintro i ⟨hi,hJ⟩
  repeat'(intro t ht;first|(cases t<;>first|(cases ht;done)|(try simp only[zg_]at ht;try(exfalso;first|contradiction|omega)))|((first|refine za_ ht ?_|refine ht ?_ ?_|refine ht.1 ?_ ?_|refine ht ?_)<;>clear ht))
  all_goals (try simp only [Int.toNat_natCast] at ht ⊢)
  all_goals (try generalize (Ty.dflt Y1)=od at*)
  all_goals first
   | exact True.intro
   | omega
   | ((try dsimp only);simp only [zj_];omega)
   | exact hp
   | (rw [w7_ (by omega) hJ];exact ⟨rfl,by first | rfl | exact True.intro⟩)
   | (rw [w6_ (f:=fun y=>a.any fun x=>Zh_ x y) (d:=od) (by omega) ht];exact ⟨rfl,by first | rfl | exact True.intro⟩)
   | (refine ⟨i+1,⟨by omega,Jp_ (d:=od) (by omega) hJ ht⟩,?_,rfl,by first | rfl | exact True.intro⟩
      (try dsimp only);omega)
 ·cases e
def V0_ (c f:Int) (ms:List Int) (t:Nat):Prop:=zk_ .and .u8 (ms.getD (ms.length - 1 - t) 0) (wB_ (wdM c f ms.length - 8*(t:Int)))=wB_ (wdM c f ms.length - 8*(t:Int))
theorem zaA_ {c f:Int} {ms:List Int} (h:∀ t:Nat,t < ms.length->V0_ c f ms t):JD_ c f ms=true:=by
 unfold JD_
 refine List.all_eq_true.2 fun i hi=>decide_eq_true ?_
 have hi:=List.mem_range.1 hi
 have h1:=h (ms.length - 1 - i) (by omega)
 unfold V0_ at h1
 have e1:ms.length - 1 - (ms.length - 1 - i)=i:=by omega
 have e2:((ms.length - 1 - i:Nat):Int)=(ms.length:Int) - 1 - i:=by omega
 rw [e1,e2] at h1
 exact h1
theorem hp_ {c f:Int} {ms:List Int} {t:Nat} (ht:t < ms.length) (h:¬ V0_ c f ms t):JD_ c f ms=false:=by
 unfold JD_
 rw [List.all_eq_false]
 refine ⟨ms.length - 1 - t,List.mem_range.2 (by omega),fun k=>h ?_⟩
 have e2:(ms.length:Int) - 1 - ((ms.length - 1 - t:Nat):Int)=t:=by omega
 have k:=of_decide_eq_true k
 rw [e2] at k
 exact k
theorem B8_ {l:Int} (h:l < 8):wB_ l=2 ^ (if l < 0 then 0 else l).toNat - 1:=if_pos h
theorem B9_ {l:Int} (h:¬ l < 8):wB_ l=255:=if_neg h
theorem B7_ {l:Int} (h:l < 8):(0<=(1:Int)*2 ^ (min (if 0 > l then 0 else l).toNat 8)/\(1:Int)*2 ^ (min (if 0 > l then 0 else l).toNat 8)<=255)/\(0<=(1:Int)*2 ^ (min (if 0 > l then 0 else l).toNat 8) - 1/\(1:Int)*2 ^ (min (if 0 > l then 0 else l).toNat 8) - 1<=255)/\(1:Int)*2 ^ (min (if 0 > l then 0 else l).toNat 8) - 1=wB_ l:=by
 rw [B8_ h]
 have hcase:l < 0\/l=0\/l=1\/l=2\/l=3\/l=4\/l=5\/l=6\/l=7:=by omega
 rcases hcase with h | rfl | rfl | rfl | rfl | rfl | rfl | rfl | rfl
 ·rw [if_pos (show (0:Int) > l from h)];decide
 all_goals decide
theorem zbz_ {c f:Int} {m:List Int} {j:Nat} (h:0<=(m.length:Int) - 1 - j):V0_ c f m j ↔ zk_ .and .u8 (m.getD ((m.length:Int) - 1 - j).toNat 0) (wB_ (wdM c f m.length - 8*(j:Int)))=wB_ (wdM c f m.length - 8*(j:Int)):=by
 unfold V0_
 rw [show ((m.length:Int) - 1 - j).toNat=m.length - 1 - j by omega]
theorem G5_ {c f:Int} {m:List Int} {j:Nat} (h:∀ t:Nat,t < j->V0_ c f m t) (k:V0_ c f m j):∀ t:Nat,t < j+1->V0_ c f m t:=fun t ht=>by
 by_cases e:t=j
 ·rw [e];exact k
 ·exact h t (by omega)
def Y7_:IR:=
(sq (kr [0] [oD 1 (.boxv 0),
oD 2 (.mov cF)])
(sq (kr [1] [oA 8 5 1,
oL 9 8,
oE 10 9,
oB 11 .mul (cI 8) 10,
oM 3 11])
(sq (sq (kr [1,3] [oA 13 1 1,
oL 14 13,
oC 15 69 [14],
oM 12 15,
oX 16 12 0,
oX 17 12 1,
oD 4 (.box [.int .i64 0,.int .i64 0,.kb false,.int .i64 0,.imm (.int .u64) []]),
oS 5 4 16,
oM 5 17])
(sq (kr [1,3,4,5] [oM 18 5,
oM 19 18,
oT 19 20 (.fieldAddr 0 1),
oT 19 21 (.load none 20),
oT 19 22 (.bin .eql 21 (cI 32768)),
oP 23 19 22 cF])
(.cond 23
(kr [1,4] [oA 24 0 4,
oL 25 24,
oM 3 25])
.skip)))
(sq (sq (kr [1,3] [oA 26 5 1,
oL 27 26,
oE 28 27,
oB 29 .sub 28 (cI 1),
oM 6 29])
(.block 0
(.loop
(sq (sq (kr [1,3,6] [oM 30 6,
oB 31 .geq 30 (cI 0)])
(.cond 31
.skip
(.exit 0)))
(sq (.block 1
(sq (.reg [oD 7 (.mov (.c (.int .u8 255)))])
(sq (sq (.reg [oM 34 3,
oB 35 .lss 34 (cI 8)])
(.cond 35
(kr [1,3,6] [oM 36 3,
oD 37 (.minmax true 36 (cI 0)),
oB 38 .shl (.c (.int .u8 1)) 37,
oB 39 .sub 38 (.c (.int .u8 1)),
oM 7 39])
.skip))
(sq (sq (kr [1,3,6,7] [oA 40 5 1,
oL 41 40,
oM 42 6,
oI 43 1 41 42,
oL 44 43,
oM 45 7,
oB 46 .and 44 45,
oM 47 7,
oB 48 .neq 46 47])
(.cond 48
(sq (kr [] [oD 2 (.mov cF)])
.ret)
.skip))
(kr [1,3,6] [oM 49 3,
oB 50 .sub 49 (cI 8),
oM 3 50])))))
(kr [1,3,6] [oM 32 6,
oB 33 .sub 32 (cI 1),
oM 6 33]))))))
(sq (kr [] [oD 2 (.mov cT)])
.ret)))))
def Yz_:List RD:=[.tmp 2 true none]
theorem YP_:zl_ Tryz.prog Tryz.f43 Y7_ Yz_=true:=by kernel_rfl
def ji_:List AV->List Obj->Option (Prop × AV)
 | [.agg [.int .i64 c,.int .i64 f,.bool h,.int .u64 x,.imm (.int .u8) v,.imm (.int .u8) m]],[]=>some ((m.length<=1000000,.bool (JD_ c f m)))
 | _,_=>none
theorem XC_:zf_ Tryz.prog 43 (RoF ji_).sum:=by
 refine zh_ Tryz.func43 YP_ (zb_ (s:=RoF QX_) kv_ (zd_ _)) fun args objs p v e=>?_
 unfold ji_ at e
 split at e
 ·rename_i c f h x v m
  cases e
  refine ⟨rfl,fun hw ho hp=>?_⟩
  change List Int at v
  change List Int at m
  clear hw ho
  have hb:=f_le f
  have hK:(c=32768/\fIs f=true/\wdM c f m.length=Zz_ f)\/(c ≠ 32768/\wdM c f m.length=8*(m.length:Int))\/(fIs f=false/\wdM c f m.length=8*(m.length:Int)):=by
   unfold wdM
   by_cases e:c=32768
   ·cases e2:fIs f
    ·exact .inr (.inr ⟨rfl,if_neg fun k=>Bool.noConfusion k.2⟩)
    ·exact .inl ⟨e,rfl,if_pos ⟨e,rfl⟩⟩
   ·exact .inr (.inl ⟨e,if_neg fun k=>e k.1⟩)
  have hw:0<=wdM c f m.length/\wdM c f m.length<=8000001:=by omega
  rcases hK with ⟨k1,k2,k3⟩ | ⟨k1,k3⟩ | ⟨k2,k3⟩
  all_goals repeat'(intro t ht;first|(cases t<;>first|(cases ht;done)|(try simp only[zg_]at ht;try(exfalso;first|contradiction|omega)))|((first|refine za_ ht ?_|refine ht ?_ ?_|refine ht.1 ?_ ?_|refine ht ?_)<;>clear ht))
  all_goals first
   | exact True.intro
   | omega
   | (exfalso;exact absurd (‹fIs f=true›) (by rw [k2];decide))
   | (exfalso;exact absurd (‹fIs f=false›) (by rw [k2];decide))
   | ((try dsimp only);simp only [zj_];omega)
   | (intro r h1 h2;clear h1;refine h2 ⟨[1,3,6],Nat,(fun j=>j<=m.length/\∀ t:Nat,t < j->V0_ c f m t),fun j=>[.ptr 0 0,.int .i64 (wdM c f m.length - 8*(j:Int)),.int .i64 ((m.length:Int) - 1 - (j:Int))],fun _=>[.box [.int .i64 c,.int .i64 f,.bool h,.int .u64 x,.imm (.int .u8) v,.imm (.int .u8) m]],fun j=>m.length - j,⟨0,⟨Nat.zero_le _,fun t ht=>absurd ht (Nat.not_lt_zero t)⟩,(by dsimp only;refine List.cons_eq_cons.2 ⟨rfl,List.cons_eq_cons.2 ⟨congrArg (AV.int _) ?_,List.cons_eq_cons.2 ⟨congrArg (AV.int _) ?_,rfl⟩⟩⟩<;>omega),rfl⟩,?_⟩;clear h2)
  all_goals rintro j ⟨hj,hJ⟩
  all_goals have hO:=fun h=>zbz_ (c:=c) (f:=f) (m:=m) (j:=j) h
  all_goals have hG:=fun h=>B9_ (l:=wdM c f m.length - 8*(j:Int)) h
  all_goals have hR:=fun h=>B7_ (l:=wdM c f m.length - 8*(j:Int)) h
  all_goals repeat'(intro t ht;first|(cases t<;>first|(cases ht;done)|(try simp only[zg_]at ht;try(exfalso;first|contradiction|omega)))|((first|refine za_ ht ?_|refine ht ?_ ?_|refine ht.1 ?_ ?_|refine ht ?_)<;>clear ht))
  all_goals first
   | exact True.intro
   | omega
   | ((try dsimp only);simp only [zj_];omega)
   | (refine ⟨?_,?_⟩<;>omega)
   | (refine ⟨?_,?_,?_⟩<;>omega)
   | (show (0:Int)<=if 0 > _ then 0 else _;split<;>omega)
   | exact (hR (by assumption)).1
   | exact (hR (by assumption)).2.1
   | exact ⟨congrArg AV.bool (zaA_ fun t h=>hJ t (by omega)).symm,rfl⟩
   | exact ⟨congrArg AV.bool (hp_ (t:=j) (by omega) fun k=>ht (by
      have h1:=(hO (by omega)).1 k
      rw [hG (by assumption)] at h1;exact h1)).symm,rfl⟩
   | exact ⟨congrArg AV.bool (hp_ (t:=j) (by omega) fun k=>ht (by
      have h1:=(hO (by omega)).1 k
      rw [<- (hR (by assumption)).2.2] at h1;exact h1)).symm,rfl⟩
   | exact ⟨j+1,⟨by omega,G5_ hJ ((hO (by omega)).2 (by rw [hG (by assumption)];exact ht))⟩,by dsimp only;omega,by dsimp only;refine List.cons_eq_cons.2 ⟨rfl,List.cons_eq_cons.2 ⟨congrArg (AV.int _) ?_,List.cons_eq_cons.2 ⟨congrArg (AV.int _) ?_,rfl⟩⟩⟩<;>omega,rfl⟩
   | exact ⟨j+1,⟨by omega,G5_ hJ ((hO (by omega)).2 (by rw [<- (hR (by assumption)).2.2];exact ht))⟩,by dsimp only;omega,by dsimp only;refine List.cons_eq_cons.2 ⟨rfl,List.cons_eq_cons.2 ⟨congrArg (AV.int _) ?_,List.cons_eq_cons.2 ⟨congrArg (AV.int _) ?_,rfl⟩⟩⟩<;>omega,rfl⟩
 ·cases e
theorem H3_ {l r:List Int} {i:Nat} {x:Int} (hi:i < l.length) (hx:x=l.getD i 0) (hr:0 < r.length):(l.take i++r).set i x=l.take (i+1)++r.drop 1:=by
 have h1:(l.take i).length=i:=List.length_take_of_le (by omega)
 rw [List.set_append_right _ _ (by omega),h1,Nat.sub_self]
 obtain ⟨y,r',rfl⟩:∃ y r',r=y :: r':=by
  cases r with
  | nil=>exact absurd hr (by decide)
  | cons y r'=>exact ⟨y,r',rfl⟩
 have h2:l.take (i+1)=l.take i++[x]:=by
  rw [hx,List.take_add_one,List.getD_eq_getElem?_getD,List.getElem?_eq_getElem hi];rfl
 rw [h2];simp
theorem setA {l v m w:List Int} {i:Nat} (hi:i < v.length) (hl:l.length=v.length) (e:l.getD i 0=zk_ .or .u8 (v.getD i 0) (w.getD i 0)):(l.take i++(v.drop i++m)).set (0+(i:Int).toNat) (zk_ .or .u8 ((l.take i++(v.drop i++m)).getD (0+(i:Int).toNat) 0) (w.getD (i:Int).toNat 0))=l.take (i+1)++(v.drop (i+1)++m):=by
 rw [Int.toNat_natCast,Nat.zero_add]
 have h1:(l.take i).length=i:=List.length_take_of_le (by omega)
 have h2:(l.take i++(v.drop i++m)).getD i 0=v.getD i 0:=by
  rw [List.getD_eq_getElem?_getD,List.getElem?_append_right (by omega),h1,Nat.sub_self,List.getElem?_append_left (by rw [List.length_drop];omega),List.getElem?_drop,Nat.add_zero,<- List.getD_eq_getElem?_getD]
 rw [h2,<- e,H3_ (by omega) rfl (by rw [List.length_append,List.length_drop];omega),List.drop_append_of_le_length (by rw [List.length_drop];omega),List.drop_drop]
theorem setB {l:List Int} {i n:Nat} {y:Int} (hi:i < n) (hl:l.length=n) (e:l.getD i 0=y):(l.take i++List.replicate (n - i) 0).set (i:Int).toNat y=l.take (i+1)++List.replicate (n - (i+1)) 0:=by
 rw [Int.toNat_natCast,H3_ (by omega) e.symm (by rw [List.length_replicate];omega),List.drop_replicate]
 rw [show n - i - 1=n - (i+1) by omega]
theorem endA {l v m:List Int} (h:l.length=v.length):(((l.take v.length++(v.drop v.length++m)).drop 0).take v.length)=l:=by
 rw [List.drop_zero,<- h,List.take_length,List.take_left]
theorem endB {l:List Int} {n:Nat} (h:l.length=n):l.take n++List.replicate (n - n) 0=l:=by
 rw [<- h,List.take_length,Nat.sub_self,List.replicate_zero,List.append_nil]
theorem lenA {l v m:List Int} {i:Nat} (hi:i<=v.length) (h:l.length=v.length):(l.take i++(v.drop i++m)).length=v.length+m.length:=by
 rw [List.length_append,List.length_append,List.length_drop,List.length_take];omega
theorem lenB {l:List Int} {i n:Nat} (hi:i<=n) (h:l.length=n):(l.take i++List.replicate (n - i) (0:Int)).length=n:=by
 rw [List.length_append,List.length_replicate,List.length_take];omega
def Y8_:IR:=
(sq (kr [0,1] [oD 2 (.boxv 0),
oD 3 (.boxv 1),
oD 4 (.box [.int .i64 0,.int .i64 0,.kb false,.int .u64 0,.imm (.int .u8) [],.imm (.int .u8) []])])
(sq (.reg [oK 7 6 2,
oC 8 19 [7],
oD 5 (.box [.int .i64 0,.int .i64 0,.kb false,.int .u64 0,.imm (.int .u8) [],.imm (.int .u8) []]),
oS 6 5 8])
(sq (kr [2,3,4,5] [oA 9 4 2,
oL 10 9,
oE 11 10,
oD 12 (.mkrow (.int .u8) 1 (0:Int) 11 11),
oA 13 5 5,
oS 1 13 12])
(sq (sq (.reg [oA 14 4 5,
oL 15 14,
oE 16 15,
oD 17 (.mov (cI 0))])
(.block 0
(.loop
(sq (kr [2,3,4,5,16,17] [oB 18 .lss 17 16])
(sq (.cond 18
.skip
(.exit 0))
(sq (.block 1
(sq (.reg [oM 19 17,
oM 6 19])
(sq (kd [2,3,4,5,6,16,17] [(oA 20 4 5,[]),
(oL 21 20,[]),
(oM 22 6,[0,0]),
(oI 23 1 21 22,[]),
(oL 24 23,[]),
(oA 25 4 3,[0,0,0,0,0]),
(oL 26 25,[1,0,0,0,0]),
(oM 27 6,[0,0,0,0,0,0,0]),
(oI 28 1 26 27,[3,0,0,0,0]),
(oL 29 28,[4,0,0,0,0]),
(oB 30 .or 24 29,[]),
(oI 31 1 21 22,[]),
(oS 1 31 30,[])])
(kd [2,3,4,5,6,16,17] [(oA 32 5 5,[]),
(oL 33 32,[]),
(oM 34 6,[0,0]),
(oK 35 6 2,[0,0,0]),
(oM 36 6,[0,0,0,0]),
(oC 37 42 [35,36],[2,0,0]),
(oK 38 6 3,[0,0,0,0,0,0]),
(oM 39 6,[0,0,0,0,0,0,0]),
(oC 40 42 [38,39],[5,0,0]),
(oB 41 .or 37 40,[6,0,0]),
(oI 42 1 33 34,[]),
(oS 1 42 41,[])]))))
(kr [2,3,4,5,16,17] [oB 43 .add 17 (cI 1),
oM 17 43])))))))
(sq (kr [2,3,4,5] [oA 44 2 2,
oL 45 44,
oM 46 45,
oT 46 47 (.fieldAddr 2 3),
oT 46 48 (.load none 47),
oP 49 46 48 cF,
oM 50 49,
oT 50 51 (.load (some 6) 5),
oT 50 52 (.call false (.f 43) [51]),
oT 50 53 (.un .not 52),
oP 54 50 53 cF,
oA 55 2 5,
oS 1 55 54])
(sq (sq (kr [4,5] [oA 56 2 5,
oL 57 56,
oD 58 (.un .not 57)])
(.cond 58
(.reg [oA 59 5 5,
oN (.store 1 59 (.c (.imm (.int .u8) [])))])
.skip))
(sq (.reg [oK 60 6 5,
oS 6 4 60])
.ret)))))))
def YA_:List RD:=[.cell 4 (some 6) true []]
theorem YQ_:zl_ Tryz.prog Tryz.f18 Y8_ YA_=true:=by kernel_rfl
def jj_:List AV->List Obj->Option (Prop × AV)
 | [.agg [.int .i64 c,.int .i64 f,.bool h,.int .u64 x,.imm (.int .u8) v,.imm (.int .u8) m],.agg [.int .i64 c',.int .i64 f',.bool h',.int .u64 x',.imm (.int .u8) v',.imm (.int .u8) m']],[]=>some ((v.length=v'.length/\v.length<=1000/\m.length<=1000,.agg [.int .i64 c,.int .i64 f,.bool (vc_ (c,f,h,x,v,m,()) (c',f',h',x',v',m',())),.int .u64 x,.imm (.int .u8) (orV (c,f,h,x,v,m,()) (c',f',h',x',v',m',())),.imm (.int .u8) (if vc_ (c,f,h,x,v,m,()) (c',f',h',x',v',m',())=true then orM (c,f,h,x,v,m,()) (c',f',h',x',v',m',()) else [])]))
 | _,_=>none
theorem XD_:zf_ Tryz.prog 18 (RoF jj_).sum:=by
 refine zh_ Tryz.func18 YQ_ (zb_ (s:=RwF kW_) KK_ (zb_ (s:=RoF Zx_) qe_ (zb_ (s:=RoF ji_) XC_ (zd_ _)))) fun args objs p v e=>?_
 unfold jj_ at e
 split at e
 ·rename_i c f h x v m c' f' h' x' v' m'
  cases e
  refine ⟨rfl,fun hw ho hp=>?_⟩
  change List Int at v
  change List Int at m
  change List Int at v'
  change List Int at m'
  clear hw ho
  obtain ⟨p1,p2,p3⟩:=hp
  repeat'(intro t ht;first|(cases t<;>first|(cases ht;done)|(try simp only[zg_]at ht;try(exfalso;first|contradiction|omega)))|((first|refine za_ ht ?_|refine ht ?_ ?_|refine ht.1 ?_ ?_|refine ht ?_)<;>clear ht))
  all_goals first
   | exact True.intro
   | omega
   | ((try dsimp only);simp only [zj_];omega)
   | (refine ⟨?_,?_⟩<;>omega)
   | (intro r h1 h2;clear h1;refine h2 ⟨[2,3,4,5,16,17],Nat,(fun i=>i<=v.length/\True),fun i=>[.ptr 0 0,.ptr 1 0,.ptr 2 0,.ptr 3 0,.int .i64 v.length,.int .i64 i],fun i=>[.box [.int .i64 c,.int .i64 f,.bool h,.int .u64 x,.imm (.int .u8) v,.imm (.int .u8) m],.box [.int .i64 c',.int .i64 f',.bool h',.int .u64 x',.imm (.int .u8) v',.imm (.int .u8) m'],.box [.int .i64 0,.int .i64 0,.bool false,.int .u64 0,.imm (.int .u8) ([]),.imm (.int .u8) ([])],.box [.int .i64 c,.int .i64 f,.bool h,.int .u64 x,.view 4 0 v.length,.own 5],.row false (.int .u8) ((orV (c,f,h,x,v,m,()) (c',f',h',x',v',m',())).take i++(v.drop i++m)),.row false (.int .u8) ((orM (c,f,h,x,v,m,()) (c',f',h',x',v',m',())).take i++List.replicate (v.length - i) 0)],fun i=>v.length - i,⟨0,⟨Nat.zero_le _,True.intro⟩,rfl,rfl⟩,?_⟩;clear h2)
  rintro i ⟨hi,-⟩
  have oV:(orV (c,f,h,x,v,m,()) (c',f',h',x',v',m',())).length=v.length:=by unfold orV;rw [List.length_map,List.length_range];rfl
  have oM:(orM (c,f,h,x,v,m,()) (c',f',h',x',v',m',())).length=v.length:=x8_ _ _
  have lA:=lenA (m:=m) hi oV
  have lB:=lenB hi oM
  repeat'(intro t ht;first|(cases t<;>first|(cases ht;done)|(try simp only[zg_]at ht;try(exfalso;first|contradiction|omega)))|((first|refine za_ ht ?_|refine ht ?_ ?_|refine ht.1 ?_ ?_|refine ht ?_)<;>clear ht))
  all_goals first
   | exact True.intro
   | omega
   | ((try dsimp only);simp only [zj_];omega)
   | (refine ⟨?_,?_⟩<;>omega)
   | (have e:i=v.length:=by omega
      subst e
      refine ⟨?_,rfl⟩
      rw [endA oV]
      cases h<;>cases h'<;>first | contradiction | rfl | fail)
   | (have e:i=v.length:=by omega
      subst e
      refine ⟨?_,rfl⟩
      rw [endB oM] at ht
      (try rw [endB oM])
      rw [endA oV]
      cases h<;>cases h'<;>first | contradiction | (unfold vc_;dsimp only;rw [ht];rfl) | fail)
   | (refine ⟨i+1,⟨by omega,True.intro⟩,by dsimp only;omega,rfl,?_⟩
      have hi2:i < v.length:=by omega
      have s1:=setA (m:=m) (w:=v') (l:=orV (c,f,h,x,v,m,()) (c',f',h',x',v',m',())) hi2 oV (wv_ hi2)
      have s2:=setB (l:=orM (c,f,h,x,v,m,()) (c',f',h',x',v',m',())) hi2 oM (wv_ hi2)
      dsimp only
      rw [<- s1,<- s2]
      rfl)
 ·cases e
abbrev KTY:Ty:=.cons (.int .i64) (.cons (.int .i64) (.cons (.int .u64) .nil))
def kyO (o:OV):KTY.den:=(o.1,o.2.1,o.2.2.2.1,())
def odO:OV:=(0,0,false,0,[],[],())
theorem bL_ {x y:OV}:alO x y=true ↔ kyO x=kyO y:=by
 rw [Kd_]
 unfold kyO
 constructor
 ·rintro ⟨h1,h2,h3⟩;rw [h1,h2,h3]
 ·intro h
  have h1:=congrArg Prod.fst h
  have h2:x.2.1=y.2.1:=congrArg (fun z:Int × Int × Int × Unit=>z.2.1) h
  have h3:x.2.2.2.1=y.2.2.2.1:=congrArg (fun z:Int × Int × Int × Unit=>z.2.2.1) h
  exact ⟨h1,h2,h3⟩
abbrev MPO:=List (KTY.den × (Ty.int .i64).den)
theorem bD_ {α β:Type} [DecidableEq α]:∀ (m:List (α × β)) (k:α) (v:β) (z:α),zS_ (YU_ m k v) z=if k=z then some v else zS_ m z
 | [],k,v,z=>by simp only [YU_,zS_]
 | (a,b) :: r,k,v,z=>by
   unfold YU_
   by_cases c:a=k
   ·rw [if_pos c];subst c
    simp only [zS_]
    split<;>rfl
   ·rw [if_neg c]
    simp only [zS_,bD_ r k v z]
    by_cases d:a=z
    ·rw [if_pos d,if_pos d,if_neg (fun e=>c (d.trans e.symm))]
    ·rw [if_neg d,if_neg d]
abbrev WS:=List OV × MPO
def stp (s:WS) (o:OV):WS:=match zS_ s.2 (kyO o) with
 | some i=>(s.1.set (Int.toNat i) (KB_ (s.1.getD (Int.toNat i) odO) o),s.2)
 | none=>(s.1++[o],YU_ s.2 (kyO o) (s.1.length:Int))
def uO_ (s:WS):Prop:=∀ (k:KTY.den) (i:Int),zS_ s.2 k=some i ↔ ∃ n:Nat,n < s.1.length/\i=(n:Int)/\kyO (s.1.getD n odO)=k
theorem zay_:uO_ ([],[]):=fun k i=>⟨fun h=>(nomatch h),fun ⟨n,h,_⟩=>absurd h (Nat.not_lt_zero n)⟩
theorem hi_ (a b:OV):kyO (KB_ a b)=kyO a:=rfl
theorem zax_ {s:WS} (h:uO_ s) (o:OV):uO_ (stp s o):=by
 unfold stp
 split
 ·rename_i i e
  obtain ⟨n,hn,rfl,hk⟩:=(h _ i).1 e
  intro k j
  rw [h k j]
  simp only [Int.toNat_natCast,List.length_set]
  constructor
  ·rintro ⟨n2,h1,h2,h3⟩
   refine ⟨n2,h1,h2,?_⟩
   rw [List.getD_eq_getElem?_getD,List.getElem?_set]
   split
   ·rename_i e2;subst e2
    show kyO (KB_ _ _)=k
    rw [hi_];exact h3
   ·rw [<- List.getD_eq_getElem?_getD];exact h3
  ·rintro ⟨n2,h1,h2,h3⟩
   refine ⟨n2,h1,h2,?_⟩
   rw [List.getD_eq_getElem?_getD,List.getElem?_set] at h3
   split at h3
   ·rename_i e2;subst e2
    have h3:kyO (KB_ _ _)=k:=h3
    rw [hi_] at h3;exact h3
   ·rw [<- List.getD_eq_getElem?_getD] at h3;exact h3
 ·rename_i e
  intro k j
  show zS_ (YU_ s.2 (kyO o) (s.1.length:Int)) k=some j ↔ _
  rw [bD_]
  simp only [List.length_append,List.length_singleton]
  by_cases c:kyO o=k
  ·rw [if_pos c]
   constructor
   ·intro h1
    cases h1
    refine ⟨s.1.length,by omega,rfl,?_⟩
    rw [List.getD_eq_getElem?_getD,List.getElem?_append_right (Nat.le_refl _),Nat.sub_self];exact c
   ·rintro ⟨n,h1,h2,h3⟩
    by_cases d:n=s.1.length
    ·rw [h2,d]
    ·rw [List.getD_eq_getElem?_getD,List.getElem?_append_left (by omega),<- List.getD_eq_getElem?_getD] at h3
     have:=(h k n).2 ⟨n,by omega,rfl,h3⟩
     rw [<- c,e] at this;cases this
  ·rw [if_neg c,h k j]
   constructor
   ·rintro ⟨n,h1,h2,h3⟩
    refine ⟨n,by omega,h2,?_⟩
    rw [List.getD_eq_getElem?_getD,List.getElem?_append_left h1,<- List.getD_eq_getElem?_getD];exact h3
   ·rintro ⟨n,h1,h2,h3⟩
    by_cases d:n=s.1.length
    ·subst d
     rw [List.getD_eq_getElem?_getD,List.getElem?_append_right (Nat.le_refl _),Nat.sub_self] at h3
     exact absurd h3 c
    ·rw [List.getD_eq_getElem?_getD,List.getElem?_append_left (by omega),<- List.getD_eq_getElem?_getD] at h3
     exact ⟨n,by omega,h2,h3⟩
def wkO (l:List OV):WS:=l.foldl stp ([],[])
theorem x2_ (l:List OV) (o:OV):wkO (l++[o])=stp (wkO l) o:=by unfold wkO;rw [List.foldl_append];rfl
theorem U6_:∀ (l:List OV) (s:WS),uO_ s->uO_ (l.foldl stp s)
 | [],_,h=>h
 | o :: r,s,h=>U6_ r _ (zax_ h o)
theorem uu_ (l:List OV):uO_ (wkO l):=U6_ l _ zay_
theorem GX_ {s:WS} (h:uO_ s) {o:OV} (k:∀ z ∈ s.1,alO z o=false):(stp s o).1=s.1++[o]:=by
 unfold stp
 split
 ·rename_i i e
  obtain ⟨n,hn,rfl,hk⟩:=(h _ i).1 e
  have h1:s.1.getD n odO ∈ s.1:=zu_ hn odO
  have h2:=k _ h1
  rw [bL_.2 hk] at h2;cases h2
 ·rfl
theorem BT_ {s:WS} (h:uO_ s) {o:OV} {n:Nat} (hn:n < s.1.length) (k:alO (s.1.getD n odO) o=true):(stp s o).1=s.1.set n (KB_ (s.1.getD n odO) o):=by
 have e:=(h (kyO o) n).2 ⟨n,hn,rfl,bL_.1 k⟩
 unfold stp
 rw [e]
 rfl
theorem HY_ {P:List OV->Prop} (h0:P []) (h1:∀ l o,P l->P (l++[o])) (l:List OV):P l:=by
 rw [<- List.reverse_reverse l]
 generalize l.reverse=r
 induction r with
 | nil=>exact h0
 | cons o r ih=>rw [List.reverse_cons];exact h1 _ _ ih
theorem Ku_ {l:List OV} {o:OV} (h:Sep (l++[o])):Sep l/\∀ z ∈ l,alO z o=false:=by
 have:=List.pairwise_append.1 h
 exact ⟨this.1,fun z hz=>this.2.2 z hz o (List.mem_singleton.2 rfl)⟩
theorem wk_a:∀ (a:List OV),Sep a->(wkO a).1=a:=HY_ (P:=fun a=>Sep a->(wkO a).1=a) (fun _=>rfl) fun l o ih h=>by
 obtain ⟨h1,h2⟩:=Ku_ h
 rw [x2_,GX_ (uu_ l) (by rw [ih h1];exact h2),ih h1]
theorem UH_ {b:List OV} {y o:OV} (h:alO o y=false):mgO (b++[y]) o=mgO b o:=by
 unfold mgO
 rw [List.find?_append]
 have:[y].find? (fun y=>alO o y)=none:=by rw [List.find?_cons,h];rfl
 rw [this]
 cases b.find? (fun y=>alO o y)<;>rfl
theorem zam_ {a b:List OV} {y:OV} (h:∀ x ∈ a,alO x y=false):mrg a (b++[y])=mrg a b++[y]:=by
 unfold mrg
 have h1:a.map (mgO (b++[y]))=a.map (mgO b):=List.map_congr_left fun x hx=>UH_ (h x hx)
 have h2:a.any (fun x=>alO x y)=false:=by
  rw [List.any_eq_false];intro x hx;rw [h x hx];decide
 rw [h1,List.filter_append,List.append_assoc]
 congr 2
 rw [List.filter_cons,h2];rfl
theorem zal_ {a b:List OV} {y:OV} (ha:Sep a) (hb:Sep (b++[y])) {n:Nat} (hn:n < a.length) (h:alO (a.getD n odO) y=true):
 (mrg a b).getD n odO=a.getD n odO/\mrg a (b++[y])=(mrg a b).set n (KB_ (a.getD n odO) y):=by
 obtain ⟨hb1,hb2⟩:=Ku_ hb
 have hg:a.getD n odO=a[n]:=by rw [List.getD_eq_getElem?_getD,List.getElem?_eq_getElem hn];rfl
 rw [hg] at h ⊢
 have h0:mgO b a[n]=a[n]:=wR_ fun z hz=>Bool.eq_false_iff.2 fun k=>by
  have:=hb2 z hz
  rw [W0_ (W1_ k) h] at this;cases this
 refine ⟨?_,?_⟩
 ·unfold mrg
  rw [List.getD_eq_getElem?_getD,List.getElem?_append_left (by rw [List.length_map];exact hn),List.getElem?_map,List.getElem?_eq_getElem hn]
  exact h0
 ·unfold mrg
  have h2:a.any (fun x=>alO x y)=true:=List.any_eq_true.2 ⟨a[n],List.getElem_mem hn,h⟩
  have h3:[y].filter (fun y=>!a.any fun x=>alO x y)=[]:=by rw [List.filter_cons,h2];rfl
  rw [List.filter_append,h3,List.append_nil,List.set_append_left _ _ (by rw [List.length_map];exact hn)]
  congr 1
  refine List.ext_getElem? fun i=>?_
  rw [List.getElem?_map,List.getElem?_set,List.length_map,List.getElem?_map]
  by_cases c:n=i
  ·subst c
   rw [if_pos rfl,if_pos hn,List.getElem?_eq_getElem hn]
   show some _=some _
   rw [wQ_ hb (List.mem_append_right _ (List.mem_singleton.2 rfl)) h]
  ·rw [if_neg c]
   cases e:a[i]? with
   | none=>rfl
   | some x=>
     show some _=some _
     rw [UH_ (Bool.eq_false_iff.2 fun k=>?_)]
     obtain ⟨hi,rfl⟩:=List.getElem?_eq_some_iff.1 e
     have hp:=List.pairwise_iff_getElem.1 ha
     by_cases d:n < i
     ·have:=hp n i hn hi d
      rw [W0_ h (W1_ k)] at this;cases this
     ·have:=hp i n hi hn (by omega)
      rw [W0_ k (W1_ h)] at this;cases this
theorem za0_ {a:List OV} (ha:Sep a):∀ (b:List OV),Sep b->(wkO (a++b)).1=mrg a b:=HY_ (P:=fun b=>Sep b->(wkO (a++b)).1=mrg a b) (fun _=>by
 rw [List.append_nil,wk_a a ha]
 unfold mrg
 rw [List.filter_nil,List.append_nil]
 have:a.map (mgO [])=a.map id:=List.map_congr_left fun x _=>rfl
 rw [this,List.map_id]) fun b y ih h=>by
 obtain ⟨h1,h2⟩:=Ku_ h
 rw [<- List.append_assoc,x2_]
 by_cases c:∃ x ∈ a,alO x y=true
 ·obtain ⟨x,hx,hxy⟩:=c
  obtain ⟨n,hn,rfl⟩:=List.mem_iff_getElem.1 hx
  have hg:a.getD n odO=a[n]:=by rw [List.getD_eq_getElem?_getD,List.getElem?_eq_getElem hn];rfl
  obtain ⟨m1,m2⟩:=zal_ ha h hn (by rw [hg];exact hxy)
  have hl:n < (wkO (a++b)).1.length:=by
   rw [ih h1];unfold mrg;rw [List.length_append,List.length_map];omega
  rw [BT_ (uu_ _) hl (by rw [ih h1,m1,hg];exact hxy),ih h1,m1,m2]
 ·have c:∀ x ∈ a,alO x y=false:=fun x hx=>Bool.eq_false_iff.2 fun k=>c ⟨x,hx,k⟩
  rw [GX_ (uu_ _) (fun z hz=>?_),ih h1,zam_ c]
  rw [ih h1] at hz
  rcases (V6_ h1 z).1 hz with ⟨x,hx,w,hw,k1,rfl⟩ | ⟨k1,k2⟩ | ⟨k1,k2⟩
  ·exact c x hx
  ·exact c z k1
  ·exact h2 z k1
theorem za9_ (l:List OV):(wkO l).1.length<=l.length:=HY_ (P:=fun l=>(wkO l).1.length<=l.length) (Nat.le_refl 0) (fun l o ih=>by
 rw [x2_];unfold stp
 split
 ·rw [List.length_set,List.length_append];exact Nat.le_trans ih (Nat.le_add_right _ _)
 ·rw [List.length_append,List.length_append];exact Nat.add_le_add_right ih _) l
theorem BK_ {l:List OV} {j:Nat} (hj:j < l.length):wkO (l.take (j+1))=stp (wkO (l.take j)) (l.getD j odO):=by
 have:l.take (j+1)=l.take j++[l.getD j odO]:=by
  rw [List.take_add_one,List.getD_eq_getElem?_getD,List.getElem?_eq_getElem hj];rfl
 rw [this,x2_]
theorem zbD_ {s:WS} (hI:uO_ s) {o:OV} (h:(zS_ s.2 (kyO o)).isSome=true):
 (0<=((zS_ s.2 (kyO o)).getD 0:Int)/\((zS_ s.2 (kyO o)).getD 0:Int) < s.1.length)/\Int.toNat ((zS_ s.2 (kyO o)).getD 0) < s.1.length/\alO (s.1.getD (Int.toNat ((zS_ s.2 (kyO o)).getD 0)) odO) o=true/\stp s o=(s.1.set (Int.toNat ((zS_ s.2 (kyO o)).getD 0)) (KB_ (s.1.getD (Int.toNat ((zS_ s.2 (kyO o)).getD 0)) odO) o),s.2):=by
 unfold stp
 cases e:zS_ s.2 (kyO o) with
 | none=>rw [e] at h;cases h
 | some i=>
   obtain ⟨n,hn,rfl,hk⟩:=(hI _ i).1 e
   have e2:(((some (n:Int):Option Int).getD 0:Int))=(n:Int):=rfl
   refine ⟨⟨?_,?_⟩,?_,?_,rfl⟩
   ·show (0:Int)<=(n:Int);omega
   ·show (n:Int) < s.1.length;omega
   ·exact hn
   ·exact bL_.2 hk
theorem zbE_ {s:WS} {o:OV} (h:(zS_ s.2 (kyO o)).isSome=false):stp s o=(s.1++[o],YU_ s.2 (kyO o) (s.1.length:Int)):=by
 unfold stp
 cases e:zS_ s.2 (kyO o) with
 | none=>rfl
 | some i=>rw [e] at h;cases h
theorem gS_ {l:List OV} (h:rgM l=true):∀ o ∈ l,rgO o=true:=by
 unfold rgM at h
 rw [Bool.and_eq_true,Bool.and_eq_true,decide_eq_true_eq,List.all_eq_true] at h
 exact h.1.1
theorem WQ_ {a b:List OV} (ra:rgM a=true) (rb:rgM b=true) {o:OV} (h:o ∈ a++b):o.2.2.2.2.1.length<=100/\o.2.2.2.2.2.1.length<=100:=by
 have:rgO o=true:=by
  rcases List.mem_append.1 h with h | h
  ·exact gS_ ra o h
  ·exact gS_ rb o h
 unfold rgO at this
 have h1:=Kv_ this
 have h2:=G6_ o.1 o.2.1
 cases e:o.2.2.1
 ·have:=h1.2.2.1 e
  constructor<;>omega
 ·have:=h1.2.1 e
  constructor<;>omega
theorem zbF_ {a b:List OV} (ra:rgM a=true) (rb:rgM b=true) (ba:∀ o ∈ a,qV_ o) (bb:∀ o ∈ b,qV_ o) (ap:qc_ a b=false) {j:Nat} (hj:j < (a++b).length) {z:OV} (hz:z ∈ (wkO ((a++b).take j)).1) (al:alO z ((a++b).getD j odO)=true):
 z.2.2.2.2.1.length=((a++b).getD j odO).2.2.2.2.1.length/\z.2.2.2.2.1.length<=1000/\z.2.2.2.2.2.1.length<=1000:=by
 have ma:=xl_ ra ba
 have mb:=xl_ rb bb
 have hg:(a++b).getD j odO=(a++b)[j]:=by rw [List.getD_eq_getElem?_getD,List.getElem?_eq_getElem hj];rfl
 by_cases c:j < a.length
 ·exfalso
  have h1:(a++b).take j=a.take j:=List.take_append_of_le_length (by omega)
  have h2:Sep (a.take (j+1)):=ma.sp.sublist (List.take_sublist _ _)
  have h3:a.take (j+1)=a.take j++[(a++b).getD j odO]:=by
   rw [hg,List.take_add_one,List.getElem?_eq_getElem c,List.getElem_append_left c];rfl
  rw [h3] at h2
  obtain ⟨s1,s2⟩:=Ku_ h2
  rw [h1,wk_a _ s1] at hz
  have:=s2 z hz
  rw [al] at this;cases this
 ·have h1:(a++b).take j=a++b.take (j - a.length):=by
   rw [List.take_append]
   congr 1
   exact List.take_of_length_le (by omega)
  have hj2:j - a.length < b.length:=by rw [List.length_append] at hj;omega
  have h2:Sep (b.take (j - a.length+1)):=mb.sp.sublist (List.take_sublist _ _)
  have hg2:(a++b)[j]=b[j - a.length]:=List.getElem_append_right (by omega)
  have h3:b.take (j - a.length+1)=b.take (j - a.length)++[(a++b).getD j odO]:=by
   rw [hg,hg2,List.take_add_one,List.getElem?_eq_getElem hj2];rfl
  rw [h3] at h2
  obtain ⟨s1,s2⟩:=Ku_ h2
  rw [h1,za0_ ma.sp _ s1] at hz
  have ob:(a++b).getD j odO ∈ b:=by rw [hg,hg2];exact List.getElem_mem hj2
  rcases (V6_ s1 z).1 hz with ⟨x,hx,w,hw,k1,rfl⟩ | ⟨k1,k2⟩ | ⟨k1,k2⟩
  ·exfalso
   have:=s2 w hw
   rw [W0_ (W1_ k1) al] at this;cases this
  ·have P:=hz_ ma mb ap k1 ob al
   have:=WQ_ ra rb (List.mem_append_left b k1)
   exact ⟨P.ln,by omega,by omega⟩
  ·exfalso
   have:=s2 z k1
   rw [al] at this;cases this
theorem hc_ {a b:List OV} (ra:rgM a=true) (rb:rgM b=true) (ba:∀ o ∈ a,qV_ o) (bb:∀ o ∈ b,qV_ o):allLen (mrg a b):=⟨fun z hz=>by
 have mb:=xl_ rb bb
 rcases (V6_ mb.sp z).1 hz with ⟨x,hx,w,hw,k1,rfl⟩ | ⟨k1,k2⟩ | ⟨k1,k2⟩
 ·have h1:=WQ_ ra rb (List.mem_append_left b hx)
  have h2:=Bn_ x w
  have h3:=x8_ x w
  unfold lnV at h2 h3
  refine ⟨by omega,?_⟩
  show (if vc_ x w=true then orM x w else []).length<=100000
  split
  ·omega
  ·exact Nat.zero_le _
 ·have h1:=WQ_ ra rb (List.mem_append_left b k1)
  exact ⟨by omega,by omega⟩
 ·have h1:=WQ_ ra rb (List.mem_append_right a k1)
  exact ⟨by omega,by omega⟩⟩
theorem zba_ {a b:List OV} (ra:rgM a=true) (rb:rgM b=true) (ba:∀ o ∈ a,qV_ o) (bb:∀ o ∈ b,qV_ o) {j:Nat} (hj:(a++b).length<=j):(wkO ((a++b).take j)).1=mrg a b:=by
 rw [List.take_of_length_le hj]
 exact za0_ (xl_ ra ba).sp b (xl_ rb bb).sp
theorem zcr_ (o:OV):((o.1,o.2.1,o.2.2.1,o.2.2.2.1,List.take (List.length o.2.2.2.2.1) (List.drop 0 (o.2.2.2.2.1++o.2.2.2.2.2.1)),List.take (List.length o.2.2.2.2.2.1) (List.drop (List.length o.2.2.2.2.1) (o.2.2.2.2.1++o.2.2.2.2.2.1)),()):OV)=o:=by
 have h1:List.take (List.length o.2.2.2.2.1) (List.drop 0 (o.2.2.2.2.1++o.2.2.2.2.2.1))=o.2.2.2.2.1:=List.take_left
 have h2:List.take (List.length o.2.2.2.2.2.1) (List.drop (List.length o.2.2.2.2.1) (o.2.2.2.2.1++o.2.2.2.2.2.1))=o.2.2.2.2.2.1:=by
  rw [List.drop_left];exact List.take_length
 rw [h1,h2]
def qz_ (a b:List OV):Bool:=rgM a && rgM b && !qc_ a b && rgM (isG ltO (mrg a b))
def wT_ (a b:List OV):List OV:=if qz_ a b=true then isG ltO (mrg a b) else []
def QD_:IR:=
(sq (kr [0] [oD 2 (.nilrow Y1)])
(sq (sq (.reg [oM 3 0,
oD 4 (.isnil false 3)])
(.cond 4
(sq (.reg [oD 2 (.nilrow Y1)])
.ret)
.skip))
(sq (.reg [oD 5 (.slice0 Y1),
oM 6 0,
oD 7 (.append Y1 80 5 6),
oM 2 7])
.ret)))
def Qw_:List RD:=[.tmp 2 false none]
theorem Qz_:zl_ Tryz.prog Tryz.f17 QD_ Qw_=true:=by kernel_rfl
def z5_:List AV->List Obj->Option (Prop × AV × List Obj)
 | [.imm (.cons (.int .i64) (.cons (.int .i64) (.cons .bool (.cons (.int .u64) (.cons (.sl (.int .u8)) (.cons (.sl (.int .u8)) .nil)))))) l],[]=>some ((l.length<=1000000,.own 0,[.row false Y1 l]))
 | _,_=>none
theorem Qa_:zf_ Tryz.prog 17 (RwF z5_).sum:=by
 refine wu_ Tryz.func17 Qz_ (zd_ _) fun args objs p v o e=>?_
 unfold z5_ at e
 split at e
 ·rename_i l
  cases e
  refine ⟨rfl,fun hw ho hp=>?_⟩
  repeat'(intro t ht;first|(cases t<;>first|(cases ht;done)|(try simp only[zg_]at ht;try(exfalso;first|contradiction|omega)))|((first|refine za_ ht ?_|refine ht ?_ ?_|refine ht.1 ?_ ?_|refine ht ?_)<;>clear ht))
  all_goals first
   | exact True.intro
   | (have hl:l=[]:=by first | assumption | (apply_assumption;rfl) | simp_all
      subst hl;exact ⟨rfl,rfl⟩)
   | exact ⟨rfl,rfl⟩
   | (simp only [yM_,List.length_nil,Nat.zero_add];omega)
 ·cases e
def Y9_:IR:=
(sq (kr [0,1] [oD 4 (.nilrow Y1),
oD 5 (.mov cF)])
(sq (sq (kr [0,1] [oM 13 0,
oC 14 10 [13],
oD 15 (.un .not 14),
oM 16 15,
oF 16 17 (.mov 1),
oF 16 18 (.call false (.f 10) [17]),
oF 16 19 (.un .not 18),
oP 20 16 cT 19,
oM 21 20,
oF 21 22 (.mov 0),
oF 21 23 (.mov 1),
oF 21 24 (.call false (.f 14) [22,23]),
oP 25 21 cT 24])
(.cond 25
(sq (kr [] [oD 4 (.nilrow Y1),
oD 5 (.mov cF)])
.ret)
.skip))
(sq (kr [0,1] [oD 26 (.mkmap (.cons (.int .i64) (.cons (.int .i64) (.cons (.int .u64) .nil))) (.int .i64)),
oM 6 26])
(sq (.reg [oD 7 (.nilrow Y1)])
(sq (sq (kr [0,1,6,7] [oM 27 0,
oC 28 17 [27],
oM 29 1,
oD 30 (.append Y1 80 28 29),
oE 31 30,
oD 32 (.mov (cI 0))])
(.block 0
(.loop
(sq (kr [6,7,30,31,32] [oB 33 .lss 32 31])
(sq (.cond 33
.skip
(.exit 0))
(sq (.block 1
(sq (.reg [oI 34 6 30 32,
oK 35 6 34,
oD 9 (.box [.int .i64 0,.int .i64 0,.kb false,.int .u64 0,.imm (.int .u8) [],.imm (.int .u8) []]),
oS 6 9 35])
(sq (kr [6,7,9,30,31,32] [oA 36 0 9,
oL 37 36,
oA 38 1 9,
oL 39 38,
oA 40 3 9,
oL 41 40,
oD 42 (.buildAll 3 [(0,1,37),(1,1,39),(2,1,41)]),
oD 10 (.box [.int .i64 0,.int .i64 0,.int .u64 0]),
oS 3 10 42])
(sq (sq (kr [6,7,9,10,30,31,32] [oM 44 6,
oK 45 3 10,
oD 46 (.mget (.cons (.int .i64) (.cons (.int .i64) (.cons (.int .u64) .nil))) (.int .i64) (0:Int) true 44 45),
oM 43 46,
oX 47 43 0,
oX 48 43 1,
oM 11 47,
oM 12 48])
(sq (kr [6,7,9,10,11,12,30,31,32] [oM 49 12])
(.cond 49
(sq (kd [6,7,9,11,30,31,32] [(oM 50 7,[]),
(oM 51 11,[0]),
(oM 52 7,[0,0]),
(oM 53 11,[0,0,0]),
(oI 54 6 52 53,[2,0]),
(oK 55 6 54,[3,0]),
(oK 56 6 9,[0,0,0,0,0,0]),
(oC 57 18 [55,56],[5,0]),
(oI 58 6 50 51,[]),
(oS 6 58 57,[])])
(.exit 1))
.skip)))
(sq (kr [6,7,9,10,30,31,32] [oM 59 6,
oK 60 3 10,
oM 61 7,
oE 62 61,
oN (.mput (.cons (.int .i64) (.cons (.int .i64) (.cons (.int .u64) .nil))) (.int .i64) 59 60 62)])
(kr [6,7,9,30,31,32] [oM 63 7,
oK 64 6 9,
oC 65 19 [64],
oD 66 (.sliceAll Y1 1 [(0,6,65)]),
oD 67 (.append Y1 80 63 66),
oM 7 67]))))))
(kr [6,7,30,31,32] [oB 68 .add 32 (cI 1),
oM 32 68])))))))
(sq (sq (kr [7] [oM 69 7,
oC 70 20 [69],
oM 7 70])
(sq (.reg [oM 71 7,
oC 72 10 [71],
oD 73 (.un .not 72)])
(.cond 73
(sq (kr [] [oD 4 (.nilrow Y1),
oD 5 (.mov cF)])
.ret)
.skip)))
(sq (kr [7] [oM 74 7,
oM 4 74,
oD 5 (.mov cT)])
.ret)))))))
def YB_:List RD:=[.tmp 4 true (some Y1),.tmp 5 true none]
theorem YR_:zl_ Tryz.prog Tryz.f7 Y9_ YB_=true:=by kernel_rfl
def kD_:List AV->List Obj->Option (Prop × AV)
 | [.imm (.cons (.int .i64) (.cons (.int .i64) (.cons .bool (.cons (.int .u64) (.cons (.sl (.int .u8)) (.cons (.sl (.int .u8)) .nil)))))) a,.imm (.cons (.int .i64) (.cons (.int .i64) (.cons .bool (.cons (.int .u64) (.cons (.sl (.int .u8)) (.cons (.sl (.int .u8)) .nil)))))) b],[]=>some ((okM a/\okM b/\a.length<=60/\b.length<=60/\(∀ o ∈ (a:List OV),qV_ o)/\(∀ o ∈ (b:List OV),qV_ o),.tup [.imm Y1 (wT_ a b),.bool (qz_ a b)]))
 | _,_=>none
theorem jC_:zf_ Tryz.prog 7 (RoF kD_).sum:=by
 refine zh_ Tryz.func7 YR_ (zb_ (s:=RoF Kp_) xA_ (zb_ (s:=RoF Q6_) jm_ (zb_ (s:=RwF z5_) Qa_ (zb_ (s:=RoF jj_) XD_ (zb_ (s:=RwF kW_) KK_ (zb_ (s:=RoF j9_) Ym_ (zd_ _))))))) fun args objs p v e=>?_
 unfold kD_ at e
 split at e
 ·rename_i a b
  cases e
  refine ⟨rfl,fun hw ho hp=>?_⟩
  change List OV at a
  change List OV at b
  clear hw ho
  obtain ⟨oa,ob,la,lb,ba,bb⟩:=hp
  have aa:=oa.a
  repeat'(intro t ht;first|(cases t<;>first|(cases ht;done)|(try simp only[zg_]at ht;try(exfalso;first|contradiction|omega)))|((first|refine za_ ht ?_|refine ht ?_ ?_|refine ht.1 ?_ ?_|refine ht ?_)<;>clear ht))
  all_goals first
   | exact True.intro
   | assumption
   | omega
   | (refine ⟨?_,rfl⟩
      have e:qz_ a b=false:=by
       unfold qz_
       first
        | (rw [‹rgM a=false›];rfl)
        | (rw [‹rgM b=false›];simp)
        | (rw [‹qc_ a b=true›];simp)
      unfold wT_
      rw [e];rfl)
   | (intro r h1 h2;clear h1;refine h2 ⟨[6,7,30,31,32],Nat,(fun j=>j<=(a++b).length/\True),fun j=>[.mapv 0,.own 1,.own 2,.int .i64 (a++b).length,.int .i64 j],fun j=>[.map true KTY (.int .i64) (wkO ((a++b).take j)).2,.row false Y1 (wkO ((a++b).take j)).1,.row false Y1 (a++b)],fun j=>(a++b).length - j,⟨0,⟨Nat.zero_le _,True.intro⟩,rfl,rfl⟩,?_⟩;clear h2)
  rintro j ⟨hj,-⟩
  have hab:(a++b).length<=120:=by rw [List.length_append];omega
  have hI:=uu_ ((a++b).take j)
  have hn:(wkO ((a++b).take j)).1.length<=j:=Nat.le_trans (za9_ _) (by rw [List.length_take];omega)
  have ra:rgM a=true:=by assumption
  have rb:rgM b=true:=by assumption
  have ap:qc_ a b=false:=by assumption
  have hL:=fun h:j < (a++b).length=>WQ_ ra rb (zu_ h odO)
  have hF:=fun h=>zbD_ hI (o:=(a++b).getD j odO) h
  have hN:=fun h=>zbE_ (s:=wkO ((a++b).take j)) (o:=(a++b).getD j odO) h
  have hS:=fun h:j < (a++b).length=>BK_ h
  have hC:=fun (h:j < (a++b).length) z=>zbF_ (z:=z) ra rb ba bb ap h
  have hE:=fun h:(a++b).length<=j=>zba_ ra rb ba bb h
  have hA:=hc_ ra rb ba bb
  repeat'(intro t ht;first|(cases t<;>first|(cases ht;done)|(try simp only[zg_]at ht;try(exfalso;first|contradiction|omega)))|((first|refine za_ ht ?_|refine ht ?_ ?_|refine ht.1 ?_ ?_|refine ht ?_)<;>clear ht))
  all_goals first
   | exact True.intro
   | assumption
   | omega
   | ((try dsimp only);simp only [zj_];omega)
   | (rw [hE (by omega)] at hn ⊢;exact ⟨by omega,hA⟩)
   | (rw [hE (by omega)] at hn ⊢;exact ⟨bP_ hA,by rw [(ym_ _).length_eq];omega⟩)
   | (rw [hE (by omega)] at ht
      refine ⟨?_,rfl⟩
      have e:qz_ a b=true:=by unfold qz_;rw [ra,rb,ap,ht];rfl
      unfold wT_
      rw [e,hE (by omega)];rfl)
   | (rw [hE (by omega)] at ht
      refine ⟨?_,rfl⟩
      have e:qz_ a b=false:=by unfold qz_;rw [ra,rb,ap,ht];rfl
      unfold wT_
      rw [e];rfl)
   | (have h1:=hL (by omega)
      exact ⟨Nat.le_trans h1.1 (by decide),Nat.le_trans h1.2 (by decide)⟩)
   | (rw [List.length_append];omega)
   | (constructor<;>(simp only [List.length_cons,List.length_nil];omega))
   | exact (hF ht).1
   | exact (hF ht).2.1
   | exact hC (by omega) _ (zu_ (hF ht).2.1 odO) (hF ht).2.2.1
   | (refine ⟨j+1,⟨by omega,True.intro⟩,by dsimp only;omega,rfl,?_⟩
      have e1:=(hS (by omega)).trans (hN ht)
      have e2:=zcr_ ((a++b).getD j odO)
      dsimp only
      rw [e1]
      exact List.cons_eq_cons.2 ⟨rfl,List.cons_eq_cons.2 ⟨congrArg (Obj.row false Y1) (congrArg (fun z=>(wkO ((a++b).take j)).1++[z]) e2),rfl⟩⟩)
   | (refine ⟨j+1,⟨by omega,True.intro⟩,by dsimp only;omega,rfl,?_⟩
      have e1:=(hS (by omega)).trans (hF ht).2.2.2
      dsimp only
      rw [e1]
      rfl)
 ·cases e
theorem zbC_ {a b:List OV} (ha:xY_ a=true) (hb:xY_ b=true) (ba:∀ o ∈ a,qV_ o) (bb:∀ o ∈ b,qV_ o):okM a/\okM b/\a.length<=60/\b.length<=60/\(∀ o ∈ a,qV_ o)/\(∀ o ∈ b,qV_ o):=⟨(jR_ ha).1,(jR_ hb).1,(jR_ ha).2,(jR_ hb).2,ba,bb⟩
def Yb_:List OV:=[(32768,5,false,0,[8,0],[],()),(32768,11,true,0,[10,0,0,0],[255,0,0,0],())]
def x0_:List OV:=[(32768,5,false,0,[8,0],[],()),(32768,11,true,0,[10,1,0,0],[255,255,0,0],())]
def L11p:List OV:=[(32768,5,false,0,[8,0],[],()),(32768,11,false,0,[10,2,3,4],[],())]
theorem s11:qz_ Yb_ x0_=true/\wT_ Yb_ x0_=x0_/\Xi_ x0_ Yb_=true/\Xi_ Yb_ x0_=false/\uJ_ Yb_ L11p=true/\uJ_ x0_ L11p=false/\qc_ Yb_ x0_=false:=by decide+kernel
theorem s11a:okM Yb_/\Yb_.length<=60:=jR_ (by decide)
theorem s11b:okM x0_/\x0_.length<=60:=jR_ (by decide)
theorem s11c:∀ o ∈ Yb_,qV_ o:=by
 show ∀ o ∈ Yb_,(0<=o.2.2.2.1/\(∀ x ∈ o.2.2.2.2.1,0<=x/\x<=255)/\(∀ x ∈ o.2.2.2.2.2.1,0<=x/\x<=255))
 decide
theorem s11d:∀ o ∈ x0_,qV_ o:=by
 show ∀ o ∈ x0_,(0<=o.2.2.2.1/\(∀ x ∈ o.2.2.2.2.1,0<=x/\x<=255)/\(∀ x ∈ o.2.2.2.2.2.1,0<=x/\x<=255))
 decide
def U3_:IR:=
(sq (kr [] [oD 0 (.mov cF)])
(sq (.reg [oD 7 (.sliceAll (.int .u8) 2 [(0,1,(.c (.int .u8 8))),(1,1,(.c (.int .u8 0)))]),
oD 8 (.build [.int .i64 0,.int .i64 0,.kb false,.int .u64 0,.imm (.int .u8) [],.imm (.int .u8) []] [(0,1,(cI 32768)),(1,1,(cI 5)),(4,1,7)]),
oD 1 (.box [.int .i64 0,.int .i64 0,.kb false,.int .u64 0,.imm (.int .u8) [],.imm (.int .u8) []]),
oS 6 1 8])
(sq (kr [1] [oK 9 6 1,
oD 10 (.sliceAll (.int .u8) 4 [(0,1,(.c (.int .u8 10))),(1,1,(.c (.int .u8 0))),(2,1,(.c (.int .u8 0))),(3,1,(.c (.int .u8 0)))]),
oD 11 (.sliceAll (.int .u8) 4 [(0,1,(.c (.int .u8 255))),(1,1,(.c (.int .u8 0))),(2,1,(.c (.int .u8 0))),(3,1,(.c (.int .u8 0)))]),
oD 12 (.build [.int .i64 0,.int .i64 0,.kb false,.int .u64 0,.imm (.int .u8) [],.imm (.int .u8) []] [(0,1,(cI 32768)),(1,1,(cI 11)),(2,1,cT),(4,1,10),(5,1,11)]),
oD 13 (.sliceAll Y1 2 [(0,6,9),(6,6,12)]),
oM 2 13])
(sq (kr [1,2] [oK 14 6 1,
oD 15 (.sliceAll (.int .u8) 4 [(0,1,(.c (.int .u8 10))),(1,1,(.c (.int .u8 1))),(2,1,(.c (.int .u8 0))),(3,1,(.c (.int .u8 0)))]),
oD 16 (.sliceAll (.int .u8) 4 [(0,1,(.c (.int .u8 255))),(1,1,(.c (.int .u8 255))),(2,1,(.c (.int .u8 0))),(3,1,(.c (.int .u8 0)))]),
oD 17 (.build [.int .i64 0,.int .i64 0,.kb false,.int .u64 0,.imm (.int .u8) [],.imm (.int .u8) []] [(0,1,(cI 32768)),(1,1,(cI 11)),(2,1,cT),(4,1,15),(5,1,16)]),
oD 18 (.sliceAll Y1 2 [(0,6,14),(6,6,17)]),
oM 3 18])
(sq (kr [1,2,3] [oM 20 2,
oM 21 3,
oC 22 7 [20,21],
oM 19 22,
oX 23 19 0,
oX 24 19 1,
oM 4 23,
oM 5 24])
(sq (kr [1,2,3,4,5] [oK 25 6 1,
oD 26 (.sliceAll (.int .u8) 4 [(0,1,(.c (.int .u8 10))),(1,1,(.c (.int .u8 2))),(2,1,(.c (.int .u8 3))),(3,1,(.c (.int .u8 4)))]),
oD 27 (.build [.int .i64 0,.int .i64 0,.kb false,.int .u64 0,.imm (.int .u8) [],.imm (.int .u8) []] [(0,1,(cI 32768)),(1,1,(cI 11)),(4,1,26)]),
oD 28 (.sliceAll Y1 2 [(0,6,25),(6,6,27)]),
oM 6 28])
(sq (kr [2,3,4,5,6] [oM 29 5,
oM 30 29,
oT 30 31 (.mov 4),
oT 30 32 (.mov 3),
oT 30 33 (.call false (.f 9) [31,32]),
oP 34 30 33 cF,
oM 35 34,
oT 35 36 (.mov 3),
oT 35 37 (.mov 2),
oT 35 38 (.call false (.f 13) [36,37]),
oP 39 35 38 cF,
oM 40 39,
oT 40 41 (.mov 2),
oT 40 42 (.mov 3),
oT 40 43 (.call false (.f 13) [41,42]),
oT 40 44 (.un .not 43),
oP 45 40 44 cF,
oM 46 45,
oT 46 47 (.mov 2),
oT 46 48 (.mov 6),
oT 46 49 (.call false (.f 12) [47,48]),
oP 50 46 49 cF,
oM 51 50,
oT 51 52 (.mov 3),
oT 51 53 (.mov 6),
oT 51 54 (.call false (.f 12) [52,53]),
oT 51 55 (.un .not 54),
oP 56 51 55 cF,
oM 57 56,
oT 57 58 (.mov 2),
oT 57 59 (.mov 3),
oT 57 60 (.call false (.f 14) [58,59]),
oT 57 61 (.un .not 60),
oP 62 57 61 cF,
oM 0 62])
.ret)))))))
def Uh_:List RD:=[.tmp 0 true none]
theorem Uz_:zl_ Tryz.prog Tryz.f6 U3_ Uh_=true:=by kernel_rfl
def wf_:List AV->List Obj->Option (Prop × AV)
 | [],[]=>some ((True,.bool true))
 | _,_=>none
theorem Vl_:zf_ Tryz.prog 6 (RoF wf_).sum:=by
 refine zh_ Tryz.func6 Uz_ (zb_ (s:=RoF kD_) jC_ (zb_ (s:=RoF K9_) wq_ (zb_ (s:=RoF kZ_) Wk_ (zb_ (s:=RoF Ks_) xD_ (zb_ (s:=RoF Q6_) jm_ (zd_ _)))))) fun args objs p v e=>?_
 unfold wf_ at e
 split at e
 ·cases e
  refine ⟨rfl,fun hw ho hp=>?_⟩
  clear hw ho
  have z:=s11
  have za:=s11a
  have zb:=s11b
  have zc:=s11c
  have zd:=s11d
  unfold Yb_ x0_ L11p at*
  obtain ⟨z1,z2,z3,z4,z5,z6,z7⟩:=z
  repeat'(intro t ht;first|(cases t<;>first|(cases ht;done)|(try simp only[zg_]at ht;try(exfalso;first|contradiction|omega)))|((first|refine za_ ht ?_|refine ht ?_ ?_|refine ht.1 ?_ ?_|refine ht ?_)<;>clear ht))
  all_goals first
   | exact True.intro
   | exact ⟨za.1,zb.1,za.2,zb.2,zc,zd⟩
   | exact za.1.a
   | exact zb.1.a
   | exact ⟨rfl,by first | rfl | exact True.intro⟩
 ·cases e
def mkL (h:Bool) (v m:List Int):List Int:=if h=true then m else List.replicate v.length 255
def mkO (o:OV):List Int:=mkL o.2.2.1 o.2.2.2.2.1 o.2.2.2.2.2.1
theorem hd_ {o:OV} {i:Nat} (h:i < lnV o):(mkO o).getD i 0=mB o i:=by
 unfold mkO mkL
 cases e:o.2.2.1 with
 | true=>rw [if_pos rfl,V9_ e]
 | false=>
   rw [if_neg (by decide),zch_ e,List.getD_eq_getElem?_getD,List.getElem?_replicate,if_pos (show i < o.2.2.2.2.1.length from h)];rfl
theorem zbR_ {a b:OV} {i:Nat} (al:alO a b=true) (h:i < lnV a) (k:¬ zk_ .and .u8 (zk_ .and .u8 (zk_ .xor .u8 (vB a i) (vB b i)) (mB a i)) (mB b i)=0):zv_ a b=true:=by
 have:(List.range (lnV a)).all (clA a b)=false:=Xh_ h (decide_eq_false k)
 show (alO a b && (!decide (lnV a=lnV b) || !(List.range (lnV a)).all (clA a b)))=true
 rw [al,this];simp
theorem zcy_ {a b:OV} (al:alO a b=true) (h:¬ lnV a=lnV b):zv_ a b=true:=by
 show (alO a b && (!decide (lnV a=lnV b) || !(List.range (lnV a)).all (clA a b)))=true
 rw [al,decide_eq_false h];rfl
theorem zcz_ {a b:OV} (al:alO a b=false):zv_ a b=false:=by
 show (alO a b && (!decide (lnV a=lnV b) || !(List.range (lnV a)).all (clA a b)))=false
 rw [al];rfl
theorem zcx_ {a b:OV} (h:lnV a=lnV b) (k:(List.range (lnV a)).all (clA a b)=true):zv_ a b=false:=by
 show (alO a b && (!decide (lnV a=lnV b) || !(List.range (lnV a)).all (clA a b)))=false
 rw [k,decide_eq_true h];simp
theorem zbV_ {a b:List OV} {i k:Nat} (hi:i < a.length) (hk:k < b.length) (h:zv_ (a.getD i odO) (b.getD k odO)=true):qc_ a b=true:=
 K6_ (p:=fun x=>b.any fun y=>zv_ x y) (d:=odO) hi (K6_ (p:=zv_ (a.getD i odO)) (d:=odO) hk h)
theorem zaN_ {a b:List OV} {i:Nat} (hi:i < a.length) (h:qc_ (a.take i) b=false) (k:b.any (zv_ (a.getD i odO))=false):qc_ (a.take (i+1)) b=false:=
 qq_ (p:=fun x=>b.any fun y=>zv_ x y) (d:=odO) hi h k
def US_:IR:=
(sq (kr [0] [oD 1 (.boxv 0),
oD 2 (.mov (.c (.imm (.int .u8) [])))])
(sq (sq (.reg [oA 5 2 1,
oL 6 5])
(.cond 6
(sq (.reg [oA 7 5 1,
oL 8 7,
oM 2 8])
.ret)
.skip))
(sq (kr [1] [oA 9 4 1,
oL 10 9,
oE 11 10,
oD 12 (.mkrow (.int .u8) 1 (0:Int) 11 11),
oM 3 12])
(sq (sq (.reg [oD 4 (.mov (cI 0))])
(.block 0
(.loop
(sq (sq (kr [3,4] [oM 13 4,
oM 14 3,
oE 15 14,
oB 16 .lss 13 15])
(.cond 16
.skip
(.exit 0)))
(sq (.block 1
(.reg [oM 19 3,
oM 20 4,
oI 21 1 19 20,
oN (.store 1 21 (.c (.int .u8 255)))]))
(kr [3,4] [oM 17 4,
oB 18 .add 17 (cI 1),
oM 4 18]))))))
(sq (kr [3] [oM 22 3,
oM 2 22])
.ret)))))
def u6_:List RD:=[.tmp 2 true (some (.int .u8))]
theorem Uo_:zl_ Tryz.prog Tryz.f52 US_ u6_=true:=by kernel_rfl
def K7_:List AV->List Obj->Option (Prop × AV)
 | [.agg [.int .i64 c,.int .i64 f,.bool h,.int .u64 x,.imm (.int .u8) v,.imm (.int .u8) m]],[]=>some ((v.length<=1000000,.imm (.int .u8) (mkL h v m)))
 | _,_=>none
theorem wp_:zf_ Tryz.prog 52 (RoF K7_).sum:=by
 refine zh_ Tryz.func52 Uo_ (zd_ _) fun args objs p v e=>?_
 unfold K7_ at e
 split at e
 ·rename_i c f h x v m
  cases e
  refine ⟨rfl,fun hw ho hp=>?_⟩
  change List Int at v
  change List Int at m
  clear hw ho
  cases h with
  | true=>
    repeat'(intro t ht;first|(cases t<;>first|(cases ht;done)|(try simp only[zg_]at ht;try(exfalso;first|contradiction|omega)))|((first|refine za_ ht ?_|refine ht ?_ ?_|refine ht.1 ?_ ?_|refine ht ?_)<;>clear ht))
    all_goals first
     | exact True.intro
     | exact ⟨rfl,by first | rfl | exact True.intro⟩
  | false=>
    repeat'(intro t ht;first|(cases t<;>first|(cases ht;done)|(try simp only[zg_]at ht;try(exfalso;first|contradiction|omega)))|((first|refine za_ ht ?_|refine ht ?_ ?_|refine ht.1 ?_ ?_|refine ht ?_)<;>clear ht))
    all_goals first
     | exact True.intro
     | (constructor<;>omega)
     | (intro r h1 h2;clear h1;refine h2 ⟨[3,4],Nat,(fun i=>i<=v.length/\True),fun i=>[.own 0,.int .i64 i],fun i=>[.row false (.int .u8) ((List.replicate v.length 255).take i++List.replicate (v.length - i) 0)],fun i=>v.length - i,⟨0,⟨Nat.zero_le _,True.intro⟩,rfl,rfl⟩,?_⟩;clear h2)
    rintro i ⟨hi,-⟩
    have lB:=lenB (l:=List.replicate v.length (255:Int)) hi List.length_replicate
    repeat'(intro t ht;first|(cases t<;>first|(cases ht;done)|(try simp only[zg_]at ht;try(exfalso;first|contradiction|omega)))|((first|refine za_ ht ?_|refine ht ?_ ?_|refine ht.1 ?_ ?_|refine ht ?_)<;>clear ht))
    all_goals first
     | exact True.intro
     | omega
     | ((try dsimp only);simp only [zj_];omega)
     | (have e:i=v.length:=by omega
        refine ⟨congrArg (AV.imm (.int .u8)) ?_,rfl⟩
        rw [e,endB List.length_replicate];rfl)
     | (have hi2:i < v.length:=by omega
        have s2:=setB (l:=List.replicate v.length (255:Int)) (y:=255) hi2 List.length_replicate (by rw [List.getD_eq_getElem?_getD,List.getElem?_replicate,if_pos hi2];rfl)
        refine ⟨i+1,⟨by omega,True.intro⟩,by dsimp only;omega,rfl,?_⟩
        dsimp only
        rw [<- s2])
 ·cases e
def Hi_:IR:=
(sq (kr [0,1] [oD 4 (.mov (.c (.int .u8 0)))])
(sq (sq (.reg [oM 5 1,
oM 6 0,
oE 7 6,
oB 8 .lss 5 7])
(.cond 8
(sq (kr [0,1] [oM 9 0,
oM 10 1,
oI 11 1 9 10,
oL 12 11,
oM 4 12])
.ret)
.skip))
(sq (.reg [oD 4 (.mov (.c (.int .u8 0)))])
.ret)))
def hW_:List RD:=[.tmp 4 true none]
theorem h1_:zl_ Tryz.prog Tryz.f75 Hi_ hW_=true:=by kernel_rfl
def y3_:List AV->List Obj->Option (Prop × AV)
 | [.imm (.int .u8) m,.int .i64 i],[]=>some ((0<=i,.int .u8 (m.getD i.toNat 0)))
 | _,_=>none
theorem gM_:zf_ Tryz.prog 75 (RoF y3_).sum:=by
 refine zh_ Tryz.func75 h1_ (zd_ _) fun args objs p v e=>?_
 unfold y3_ at e
 split at e
 ·rename_i m i
  cases e
  refine ⟨rfl,fun hw ho hp=>?_⟩
  change List Int at m
  clear hw ho
  have e1:¬ i < m.length->(0:Int)=m.getD i.toNat 0:=fun h=>by
   rw [List.getD_eq_getElem?_getD,List.getElem?_eq_none (by omega)];rfl
  repeat'(intro t ht;first|(cases t<;>first|(cases ht;done)|(try simp only[zg_]at ht;try(exfalso;first|contradiction|omega)))|((first|refine za_ ht ?_|refine ht ?_ ?_|refine ht.1 ?_ ?_|refine ht ?_)<;>clear ht))
  all_goals first
   | exact True.intro
   | omega
   | exact ⟨rfl,by first | rfl | exact True.intro⟩
   | exact ⟨congrArg (AV.int _) (e1 (by omega)),by first | rfl | exact True.intro⟩
 ·cases e
def uf_:IR:=
(sq (kr [0,1] [oD 2 (.boxv 0),
oD 3 (.boxv 1),
oD 4 (.mov cF)])
(sq (sq (.reg [oK 8 6 2,
oK 9 6 3,
oC 10 23 [8,9],
oD 11 (.un .not 10)])
(.cond 11
(sq (kr [] [oD 4 (.mov cF)])
.ret)
.skip))
(sq (sq (kr [2,3] [oA 12 4 2,
oL 13 12,
oE 14 13,
oA 15 4 3,
oL 16 15,
oE 17 16,
oB 18 .neq 14 17])
(.cond 18
(sq (kr [] [oD 4 (.mov cT)])
.ret)
.skip))
(sq (kd [2,3] [(oK 19 6 2,[]),
(oC 20 52 [19],[]),
(oK 21 6 3,[0,0]),
(oC 22 52 [21],[]),
(oM 5 20,[]),
(oM 6 22,[])])
(sq (sq (.reg [oD 7 (.mov (cI 0))])
(.block 0
(.loop
(sq (sq (kr [2,3,5,6,7] [oM 23 7,
oA 24 4 2,
oL 25 24,
oE 26 25,
oB 27 .lss 23 26])
(.cond 27
.skip
(.exit 0)))
(sq (.block 1
(sq (kd [2,3,5,6,7] [(oA 30 4 2,[]),
(oL 31 30,[]),
(oM 32 7,[0,0]),
(oI 33 1 31 32,[]),
(oL 34 33,[]),
(oA 35 4 3,[0,0,0,0,0]),
(oL 36 35,[1,0,0,0,0]),
(oM 37 7,[0,0,0,0,0,0,0]),
(oI 38 1 36 37,[3,0,0,0,0]),
(oL 39 38,[4,0,0,0,0]),
(oB 40 .xor 34 39,[]),
(oM 41 5,[0,0,0,0,0,0,0,0,0,0,0]),
(oM 42 7,[0,0,0,0,0,0,0,0,0,0,0,0]),
(oC 43 75 [41,42],[2,0,0,0,0,0,0,0,0,0,0]),
(oB 44 .and 40 43,[]),
(oM 45 6,[0,0,0,0,0,0,0,0,0,0,0,0,0,0,0]),
(oM 46 7,[0,0,0,0,0,0,0,0,0,0,0,0,0,0,0,0]),
(oC 47 75 [45,46],[2,3,0,0,0,0,0,0,0,0,0,0]),
(oB 48 .and 44 47,[]),
(oB 49 .neq 48 (.c (.int .u8 0)),[])])
(.cond 49
(sq (kr [] [oD 4 (.mov cT)])
.ret)
.skip)))
(kr [2,3,5,6,7] [oM 28 7,
oB 29 .add 28 (cI 1),
oM 7 29]))))))
(sq (kr [] [oD 4 (.mov cF)])
.ret))))))
def Vs_:List RD:=[.tmp 4 true none]
theorem VL_:zl_ Tryz.prog Tryz.f51 uf_ Vs_=true:=by kernel_rfl
def jZ_:List AV->List Obj->Option (Prop × AV)
 | [.agg [.int .i64 c,.int .i64 f,.bool h,.int .u64 x,.imm (.int .u8) v,.imm (.int .u8) m],.agg [.int .i64 c',.int .i64 f',.bool h',.int .u64 x',.imm (.int .u8) v',.imm (.int .u8) m']],[]=>some ((v.length<=1000000/\v'.length<=1000000,.bool (zv_ (c,f,h,x,v,m,()) (c',f',h',x',v',m',()))))
 | _,_=>none
theorem Yc_:zf_ Tryz.prog 51 (RoF jZ_).sum:=by
 refine zh_ Tryz.func51 VL_ (zb_ (s:=RoF qZ_) Q1_ (zb_ (s:=RoF K7_) wp_ (zb_ (s:=RoF y3_) gM_ (zd_ _)))) fun args objs p v e=>?_
 unfold jZ_ at e
 split at e
 ·rename_i c f h x v m c' f' h' x' v' m'
  cases e
  refine ⟨rfl,fun hw ho hp=>?_⟩
  change List Int at v
  change List Int at m
  change List Int at v'
  change List Int at m'
  clear hw ho
  obtain ⟨p1,p2⟩:=hp
  repeat'(intro t ht;first|(cases t<;>first|(cases ht;done)|(try simp only[zg_]at ht;try(exfalso;first|contradiction|omega)))|((first|refine za_ ht ?_|refine ht ?_ ?_|refine ht.1 ?_ ?_|refine ht ?_)<;>clear ht))
  all_goals first
   | exact True.intro
   | omega
   | exact ⟨congrArg AV.bool (zcz_ (hA_ ht)).symm,rfl⟩
   | exact ⟨congrArg AV.bool (zcy_ (w8_ ‹(c=c'/\f=f')/\x=x'›) (fun e=>by have e:v.length=v'.length:=e;omega)).symm,rfl⟩
   | (intro r h1 h2;clear h1;refine h2 ⟨[2,3,5,6,7],Nat,(fun i=>i<=v.length/\(List.range i).all (clA (c,f,h,x,v,m,()) (c',f',h',x',v',m',()))=true),fun i=>[.ptr 0 0,.ptr 1 0,.imm (.int .u8) (mkL h v m),.imm (.int .u8) (mkL h' v' m'),.int .i64 i],fun _=>[.box [.int .i64 c,.int .i64 f,.bool h,.int .u64 x,.imm (.int .u8) v,.imm (.int .u8) m],.box [.int .i64 c',.int .i64 f',.bool h',.int .u64 x',.imm (.int .u8) v',.imm (.int .u8) m']],fun i=>v.length - i,⟨0,⟨Nat.zero_le _,rfl⟩,rfl,rfl⟩,?_⟩;clear h2)
  rintro i ⟨hi,hJ⟩
  have al:alO (c,f,h,x,v,m,()) (c',f',h',x',v',m',())=true:=w8_ ‹(c=c'/\f=f')/\x=x'›
  have ln:lnV (c,f,h,x,v,m,())=lnV (c',f',h',x',v',m',()):=by show v.length=v'.length;omega
  have q1:i < v.length->(mkL h v m).getD i 0=mB (c,f,h,x,v,m,()) i:=fun k=>hd_ (o:=(c,f,h,x,v,m,())) k
  have q2:i < v'.length->(mkL h' v' m').getD i 0=mB (c',f',h',x',v',m',()) i:=fun k=>hd_ (o:=(c',f',h',x',v',m',())) k
  repeat'(intro t ht;first|(cases t<;>first|(cases ht;done)|(try simp only[zg_]at ht;try(exfalso;first|contradiction|omega)))|((first|refine za_ ht ?_|refine ht ?_ ?_|refine ht.1 ?_ ?_|refine ht ?_)<;>clear ht))
  all_goals first
   | exact True.intro
   | omega
   | ((try dsimp only);simp only [zj_];omega)
   | (have e:i=v.length:=by omega
      exact ⟨congrArg AV.bool (zcx_ ln (by rw [e] at hJ;exact hJ)).symm,rfl⟩)
   | (rw [q1 (by omega),q2 (by omega)] at ht
      first
       | exact ⟨congrArg AV.bool (zbR_ al (show i < lnV (c,f,h,x,v,m,()) by show i < v.length;omega) ht).symm,rfl⟩
       | exact ⟨i+1,⟨by omega,Jq_ hJ (decide_eq_true ht)⟩,by dsimp only;omega,rfl,rfl⟩)
 ·cases e
def ug_:IR:=
(sq (kr [0,1] [oD 4 (.mov cF)])
(sq (sq (.reg [oD 5 (.mov (cI 0))])
(.block 0
(.loop
(sq (sq (kr [0,1,5] [oM 7 5,
oM 8 0,
oE 9 8,
oB 10 .lss 7 9])
(.cond 10
.skip
(.exit 0)))
(sq (.block 1
(sq (.reg [oD 6 (.mov (cI 0))])
(.block 2
(.loop
(sq (sq (kr [0,1,5,6] [oM 13 6,
oM 14 1,
oE 15 14,
oB 16 .lss 13 15])
(.cond 16
.skip
(.exit 2)))
(sq (.block 3
(sq (kd [0,1,5,6] [(oM 19 0,[]),
(oM 20 5,[0]),
(oI 21 6 19 20,[]),
(oK 22 6 21,[]),
(oM 23 1,[0,0,0,0]),
(oM 24 6,[0,0,0,0,0]),
(oI 25 6 23 24,[2,0,0,0]),
(oK 26 6 25,[3,0,0,0]),
(oC 27 51 [22,26],[])])
(.cond 27
(sq (kr [] [oD 4 (.mov cT)])
.ret)
.skip)))
(kr [0,1,5,6] [oM 17 6,
oB 18 .add 17 (cI 1),
oM 6 18])))))))
(kr [0,1,5] [oM 11 5,
oB 12 .add 11 (cI 1),
oM 5 12]))))))
(sq (kr [] [oD 4 (.mov cF)])
.ret)))
def Vt_:List RD:=[.tmp 4 true none]
theorem VM_:zl_ Tryz.prog Tryz.f22 ug_ Vt_=true:=by kernel_rfl
def j0_:List AV->List Obj->Option (Prop × AV)
 | [.imm (.cons (.int .i64) (.cons (.int .i64) (.cons .bool (.cons (.int .u64) (.cons (.sl (.int .u8)) (.cons (.sl (.int .u8)) .nil)))))) a,.imm (.cons (.int .i64) (.cons (.int .i64) (.cons .bool (.cons (.int .u64) (.cons (.sl (.int .u8)) (.cons (.sl (.int .u8)) .nil)))))) b],[]=>some ((allLen a/\allLen b,.bool (qc_ a b)))
 | _,_=>none
theorem Yd_:zf_ Tryz.prog 22 (RoF j0_).sum:=by
 refine zh_ Tryz.func22 VM_ (zb_ (s:=RoF jZ_) Yc_ (zd_ _)) fun args objs p v e=>?_
 unfold j0_ at e
 split at e
 ·rename_i a b
  cases e
  refine ⟨rfl,fun hw ho hp=>?_⟩
  change List OV at a
  change List OV at b
  have hla:a.length<=maxLen:=(hw (.imm Y1 a) (by simp)).2
  have hlb:b.length<=maxLen:=(hw (.imm Y1 b) (by simp)).2
  unfold maxLen at hla hlb
  clear hw ho
  obtain ⟨pa,pb⟩:=hp
  repeat'(intro t ht;first|(cases t<;>first|(cases ht;done)|(try simp only[zg_]at ht;try(exfalso;first|contradiction|omega)))|((first|refine za_ ht ?_|refine ht ?_ ?_|refine ht.1 ?_ ?_|refine ht ?_)<;>clear ht))
  all_goals first
   | exact True.intro
   | (intro r h1 h2;clear h1;refine h2 ⟨[0,1,5],Nat,(fun i=>i<=a.length/\qc_ (a.take i) b=false),fun i=>[.imm Y1 a,.imm Y1 b,.int .i64 i],fun _=>[],fun i=>a.length - i,⟨0,⟨Nat.zero_le _,rfl⟩,rfl,rfl⟩,?_⟩;clear h2)
  rintro i ⟨hi,hJ⟩
  repeat'(intro t ht;first|(cases t<;>first|(cases ht;done)|(try simp only[zg_]at ht;try(exfalso;first|contradiction|omega)))|((first|refine za_ ht ?_|refine ht ?_ ?_|refine ht.1 ?_ ?_|refine ht ?_)<;>clear ht))
  all_goals first
   | exact True.intro
   | omega
   | (have e:i=a.length:=by omega
      rw [e,List.take_length] at hJ
      exact ⟨congrArg AV.bool hJ.symm,rfl⟩)
   | (intro r h1 h2;clear h1;refine h2 ⟨[0,1,5,6],Nat,(fun k=>k<=b.length/\(b.take k).any (zv_ (a.getD i odO))=false),fun k=>[.imm Y1 a,.imm Y1 b,.int .i64 i,.int .i64 k],fun _=>[],fun k=>b.length - k,⟨0,⟨Nat.zero_le _,rfl⟩,rfl,rfl⟩,?_⟩;clear h2)
  rintro k ⟨hk,hK⟩
  have l1:=fun h:i < a.length=>ub_ (pa.h _ (zu_ h odO))
  have l2:=fun h:k < b.length=>ub_ (pb.h _ (zu_ h odO))
  have e1:=fun h1 h2 h3=>zbV_ (a:=a) (b:=b) (i:=i) (k:=k) h1 h2 h3
  have e2:i < a.length->b.length<=k->qc_ (a.take (i+1)) b=false:=fun h1 h2=>zaN_ h1 hJ (by rw [List.take_of_length_le h2] at hK;exact hK)
  have e3:=fun h1 h2=>qq_ (p:=zv_ (a.getD i odO)) (l:=b) (i:=k) (d:=odO) h1 hK h2
  repeat'(intro t ht;first|(cases t<;>first|(cases ht;done)|(try simp only[zg_]at ht;try(exfalso;first|contradiction|omega)))|((first|refine za_ ht ?_|refine ht ?_ ?_|refine ht.1 ?_ ?_|refine ht ?_)<;>clear ht))
  all_goals first
   | exact True.intro
   | omega
   | ((try dsimp only);simp only [zj_];omega)
   | exact ⟨(l1 (by omega)).1,(l2 (by omega)).1⟩
   | exact ⟨congrArg AV.bool (e1 (by omega) (by omega) ht).symm,rfl⟩
   | exact ⟨i+1,⟨by omega,e2 (by omega) (by omega)⟩,by dsimp only;omega,rfl,rfl⟩
   | exact ⟨k+1,⟨by omega,e3 (by omega) ht⟩,by dsimp only;omega,rfl,rfl⟩
 ·cases e
end Go.Eng
