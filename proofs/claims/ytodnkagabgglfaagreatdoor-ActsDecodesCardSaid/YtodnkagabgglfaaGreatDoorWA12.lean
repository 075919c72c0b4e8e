/- Parts of the proof: B1, F2, F4. No condition. -/
import Derived.Test.YtodnkagabgglfaaGreatDoorProg
import Derived.Test.YtodnkagabgglfaaGreatDoorWA10
import Derived.KernelRfl
import Derived.Test.YtodnkagabgglfaaGreatDoorWA11
namespace Go.Eng
open Go.Proofs
set_option linter.unusedVariables false
set_option linter.unusedSimpArgs false
set_option maxRecDepth 100000
set_option maxHeartbeats 1000000
def Jh_:IR:=
(sq (kr [0] [oD 2 (.mov cF)])
(sq (kr [0] [oM 3 0,
oD 4 (.eqp false 3 (.c (.nilp))),
oM 5 4,
oF 5 6 (.mov 0),
oF 5 7 (.nilck 6),
oF 5 8 (.fieldAddr 2 7),
oF 5 9 (.load none 8),
oF 5 10 (.eqn false 9 (.c (.nilm))),
oP 11 5 cT 10,
oM 2 11])
.ret))
def jU_:List RD:=[.tmp 2 true none]
theorem j6_:zn_ Tryz.prog Tryz.f33 Jh_ jU_=true:=by kernel_rfl
def z2_:List AV->List Obj->Option (Prop × AV)
 | [.ptr 0 0],[.box [.own 1,.int .i64 room,.mapv 2,.int .i64 e],.row false (.int .u8) l,.map sq (.int .i64) (.int .i64) h]=>some ((True,.bool false))
 | _,_=>none
theorem Zy_:ze_ Tryz.prog 33 (RoF z2_).sum:=by
 refine zm_ Tryz.func33 j6_ (zd_ _) fun args objs p v e=>?_
 unfold z2_ at e
 split at e
 ·rename_i room e l sq h
  cases e
  refine ⟨rfl,fun hw ho hp=>?_⟩
  change List Int at l
  repeat'(intro t ht;first|(cases t<;>first|(cases ht;done)|(try simp only[zh_]at ht))|((first|refine za_ ht ?_|refine ht ?_ ?_|refine ht.1 ?_ ?_|refine ht ?_)<;>clear ht))
  all_goals exact ⟨rfl,rfl⟩
 ·cases e
def XI_ (n:Int):Int:=if 1000000 < (if 0 > n then 0 else n) then 1000000 else (if 0 > n then 0 else n)
def Vz_:IR:=
(sq (kr [0] [oD 2 (.mov (.c (.nilp)))])
(sq (kr [0] [oM 3 0,
oD 4 (.minmax true 3 (cI 0)),
oD 5 (.minmax false 4 (cI 1000000)),
oD 6 (.mkmap (.int .i64) (.int .i64)),
oD 7 (.build [.nils,.int .i64 0,.nilm,.int .i64 0] [(1,1,5),(2,1,6)]),
oD 8 (.boxv 7),
oM 2 8])
.ret))
def vX_:List RD:=[.tmp 2 true none]
theorem Vg_:zn_ Tryz.prog Tryz.f11 Vz_ vX_=true:=by kernel_rfl
def xy_:List AV->List Obj->Option (Prop × AV × List Obj)
 | [.int .i64 n],[]=>some (True,.ptr 0 0,[.box [.nils,.int .i64 (XI_ n),.mapv 1,.int .i64 0],.map true (.int .i64) (.int .i64) ([])])
 | _,_=>none
def Qp_:List AV->List Obj->Option (Prop × AV × List Obj)
 | [.int .i64 n],[]=>some (True,.ptr 0 0,[.box [.own 2,.int .i64 (XI_ n),.mapv 1,.int .i64 0],.map true (.int .i64) (.int .i64) ([]),.row false (.int .u8) ([])])
 | _,_=>none
theorem kM_:ze_ Tryz.prog 11 (RwF Qp_).sum:=by
 have h0:ze_ Tryz.prog 11 (RwF xy_).sum:=by
  refine qS_ Tryz.func11 Vg_ (zd_ _) fun args objs p v o e=>?_
  unfold xy_ at e
  split at e
  ·rename_i n
   cases e
   refine ⟨rfl,fun hw ho hp=>?_⟩
   repeat'(intro t ht;first|(cases t<;>first|(cases ht;done)|(try simp only[zh_]at ht))|((first|refine za_ ht ?_|refine ht ?_ ?_|refine ht.1 ?_ ?_|refine ht ?_)<;>clear ht))
   all_goals exact ⟨rfl,rfl⟩
  ·cases e
 refine Gf_ (t:=.int .u8) h0 fun args objs p v o e=>?_
 unfold Qp_ at e
 split at e
 ·rename_i n
  cases e
  exact ⟨0,[],[.int .i64 (XI_ n),.mapv 1,.int .i64 0],_,rfl,rfl,rfl⟩
 ·cases e
def Ji_:IR:=
(sq (kr [0,1] [oM 4 0,
oC 5 33 [4],
oD 6 (.un .not 5),
oM 7 6,
oT 7 8 (.mov 0),
oT 7 9 (.nilck 8),
oT 7 10 (.fieldAddr 3 9),
oT 7 11 (.load none 10),
oT 7 12 (.bin .eql 11 (cI 0)),
oP 13 7 12 cF])
(.cond 13
(kr [0,1] [oM 14 0,
oM 15 1,
oD 16 (.nilck 14),
oA 17 3 16,
oS 1 17 15])
.skip))
def jV_:List RD:=[]
theorem j7_:zn_ Tryz.prog Tryz.f34 Ji_ jV_=true:=by kernel_rfl
def zO_:List AV->List Obj->Option (Prop × AV × List Obj)
 | [.ptr 0 0,.int .i64 x],[.box [.own 1,.int .i64 room,.mapv 2,.int .i64 e],.row false (.int .u8) l,.map sq (.int .i64) (.int .i64) h]=>some ((True,.tup [],[.box [.own 1,.int .i64 room,.mapv 2,.int .i64 (Ze_ e x)],.row false (.int .u8) l,.map sq (.int .i64) (.int .i64) h]))
 | _,_=>none
theorem z7_:ze_ Tryz.prog 34 (RwF zO_).sum:=by
 refine qS_ Tryz.func34 j7_ (zb_ (s:=RoF z2_) Zy_ (zd_ _)) fun args objs p v o e=>?_
 unfold zO_ at e
 split at e
 ·rename_i x room e l sq h
  cases e
  refine ⟨rfl,fun hw ho hp=>?_⟩
  change List Int at l
  repeat'(intro t ht;first|(cases t<;>first|(cases ht;done)|(try simp only[zh_]at ht))|((first|refine za_ ht ?_|refine ht ?_ ?_|refine ht.1 ?_ ?_|refine ht ?_)<;>clear ht))
  all_goals first
   | exact True.intro
   | (unfold Ze_;simp_all;done)
 ·cases e
def KH_ (x l:List Int) (room e:Int):Bool:=decide (e=0) && decide ((x.length:Int)<=room - l.length)
def ji_ (x l:List Int) (room e:Int):List Int:=if KH_ x l room e=true then l++x else l
def wS_ (x l:List Int) (room e:Int):Int:=if e=0 then (if (x.length:Int)<=room - l.length then 0 else 10003) else e
def jc_:IR:=
(.block 0
(sq (kr [0,1] [oM 14 0,
oC 15 33 [14],
oM 16 15,
oF 16 17 (.mov 0),
oF 16 18 (.nilck 17),
oF 16 19 (.fieldAddr 3 18),
oF 16 20 (.load none 19),
oF 16 21 (.bin .neq 20 (cI 0)),
oP 22 16 cT 21,
oM 13 22])
(.cond 13
.skip
(sq (kd [0,1] [(oM 24 1,[]),
(oE 25 24,[]),
(oM 26 0,[0,0]),
(oD 27 (.nilck 26),[1,0]),
(oA 28 1 27,[2,0]),
(oL 29 28,[3,0]),
(oM 30 0,[0,0,0,0,0,0]),
(oD 31 (.nilck 30),[1,0,0,0,0,0]),
(oA 32 0 31,[2,0,0,0,0,0]),
(oL 33 32,[3,0,0,0,0,0]),
(oE 34 33,[4,0,0,0,0,0]),
(oB 35 .sub 29 34,[9,0]),
(oB 36 .gtr 25 35,[]),
(oM 23 36,[])])
(.cond 23
(kr [0] [oM 37 0,
oC 38 34 [37,(cI 10003)]])
(kr [0,1] [oM 4 0,
oM 5 0,
oD 6 (.nilck 5),
oA 7 0 6,
oL 8 7,
oM 9 1,
oD 10 (.append (.int .u8) 1 8 9),
oD 11 (.nilck 4),
oA 12 0 11,
oS 1 12 10]))))))
def K0_:List RD:=[]
theorem K5_:zn_ Tryz.prog Tryz.f12 jc_ K0_=true:=by kernel_rfl
def Qz_:List AV->List Obj->Option (Prop × Res)
 | [.ptr 0 0,.imm (.int .u8) x],[.box [.own 1,.int .i64 room,.mapv 2,.int .i64 e],.row false (.int .u8) l,.map sq (.int .i64) (.int .i64) h]=>some (0<=room/\room<=1000000/\l.length<=1000000/\x.length<=1000000,.br (KH_ x l room e) (.one (.tup []) [.box [.own 3,.int .i64 room,.mapv 2,.int .i64 e],.dead,.map sq (.int .i64) (.int .i64) h,.row false (.int .u8) (ji_ x l room e)]) (.one (.tup []) [.box [.own 1,.int .i64 room,.mapv 2,.int .i64 (wS_ x l room e)],.row false (.int .u8) l,.map sq (.int .i64) (.int .i64) h]))
 | _,_=>none
def zK_:List AV->List Obj->Option (Prop × AV × List Obj)
 | [.ptr 0 0,.imm (.int .u8) x],[.box [.own 1,.int .i64 room,.mapv 2,.int .i64 e],.row false (.int .u8) l,.map sq (.int .i64) (.int .i64) h]=>some (0<=room/\room<=1000000/\l.length<=1000000/\x.length<=1000000,.tup [],[.box [.own 3,.int .i64 room,.mapv 2,.int .i64 (wS_ x l room e)],.dead,.map sq (.int .i64) (.int .i64) h,.row false (.int .u8) (ji_ x l room e)])
 | _,_=>none
theorem Kt_:ze_ Tryz.prog 12 (RcF Qz_).sum:=by
 refine Ge_ Tryz.func12 K5_ (zb_ (s:=RoF z2_) Zy_ (zb_ (s:=RwF zO_) z7_ (zd_ _))) fun args objs p v e=>?_
 unfold Qz_ at e
 split at e
 ·rename_i x room e l sq h
  cases e
  change List Int at x
  change List Int at l
  refine ⟨rfl,fun hw ho hp=>?_⟩
  repeat'(intro t ht;first|(cases t<;>first|(cases ht;done)|(try simp only[zh_]at ht))|((first|refine za_ ht ?_|refine ht ?_ ?_|refine ht.1 ?_ ?_|refine ht ?_)<;>clear ht))
  all_goals first
   | exact True.intro
   | ((try simp only [zk_,zl_,zi_] at*);omega)
   | (simp only [zA_];omega)
   | (have hb:KH_ x l room e=true:=by unfold KH_;simp only [Bool.and_eq_true,decide_eq_true_eq];omega
      have hbb:ji_ x l room e=l++x:=by unfold ji_;rw [hb];rfl
      rw [K1_ hb,hbb];exact ⟨rfl,rfl⟩)
   | (have hb:KH_ x l room e=false:=by unfold KH_;simp only [Bool.and_eq_false_iff,decide_eq_false_iff_not];omega
      rw [K2_ hb]
      unfold wS_
      first
       | (rw [if_neg (by assumption)];exact ⟨rfl,rfl⟩)
       | (have h0:e=0:=by assumption
          have h1:¬ (x.length:Int)<=room - l.length:=by omega
          rw [if_pos h0,if_neg h1]
          refine ⟨rfl,?_⟩;unfold Ze_;rw [if_pos h0];rfl))
 ·cases e
theorem z0_:ze_ Tryz.prog 12 (RwF zK_).sum:=by
 refine yw_ Kt_ fun args objs p v o e=>?_
 unfold zK_ at e
 split at e
 ·rename_i x room e l sq h
  cases e
  cases hb:KH_ x l room e with
  | true=>
    have h1:e=0:=by unfold KH_ at hb;simp_all
    have h2:(x.length:Int)<=room - l.length:=by unfold KH_ at hb;simp_all
    refine ⟨_,_,rfl,K1_ hb,.inl ?_⟩
    unfold wS_;rw [if_pos h1,if_pos h2,h1]
  | false=>
    refine ⟨_,_,rfl,K2_ hb,.inr ⟨0,1,[],[.int .i64 room,.mapv 2,.int .i64 (wS_ x l room e)],.int .u8,l,rfl,rfl,?_⟩⟩
    have hbb:ji_ x l room e=l:=by unfold ji_;rw [hb];rfl
    rw [hbb];rfl
 ·cases e
theorem W3_:∀ (w xs b r:List Int),(∀ n ∈ w,n ≠ 0/\n<=8/\-64<=n)->qL_ w xs b=some r->(r.length:Int)=b.length+(w.map zr_).sum
 | [],xs,b,r,_,h=>by simp only [qL_,Option.some.injEq] at h;subst h;simp
 | n :: w,xs,b,r,hw,h=>by
   have hn:=hw n (by simp)
   have hw':∀ n ∈ w,n ≠ 0/\n<=8/\-64<=n:=fun m hm=>hw m (by simp [hm])
   simp only [qL_] at h
   split at h
   ·have ih:=W3_ w _ _ r hw' h
    have hl:=zo_ (n:=0) (w:=0 - n) (by omega)
    rw [List.length_append] at ih
    rw [List.map_cons,List.sum_cons,Qj_ (by assumption)];omega
   ·cases xs with
    | nil=>cases h
    | cons x ys=>
      simp only at h
      split at h
      ·cases h
      ·have ih:=W3_ w _ _ r hw' h
       have hl:=zo_ (n:=x) (w:=n) (by omega)
       rw [List.length_append] at ih
       rw [List.map_cons,List.sum_cons,Kb_ (by assumption)];omega
theorem zak_ (w xs:List Int):(qK_ w xs).length<=4096:=by
 unfold qK_ KA_
 split
 ·rename_i h
  cases hp:qL_ w xs [] with
  | none=>simp
  | some r=>
    have h1:=W3_ w xs [] r (Zl_.1 h.1).2 hp
    have h2:=yZ_ w
    unfold zF_ at h2;rw [if_pos h.1] at h2
    simp at h1 ⊢;omega
 ·simp
def vI_ (w xs l:List Int) (room e:Int):List Int:=if kb_ w xs=true then ji_ (qK_ w xs) l room e else l
def vH_ (w xs l:List Int) (room e:Int):Int:=if kb_ w xs=true then wS_ (qK_ w xs) l room e else Ze_ e 10001
def JQ_:IR:=
(sq (kr [0,1,2] [oM 9 1,
oM 10 2,
oC 11 82 [9,10],
oM 8 11,
oX 12 8 0,
oX 13 8 1,
oM 6 12,
oM 7 13])
(sq (sq (kr [0,6,7] [oM 14 7,
oD 15 (.un .not 14)])
(.cond 15
(sq (.reg [oM 16 0,
oC 17 34 [16,(cI 10001)]])
.ret)
.skip))
(.reg [oM 18 0,
oM 19 6,
oC 20 12 [18,19]])))
def Jx_:List RD:=[]
theorem JE_:zn_ Tryz.prog Tryz.f52 JQ_ Jx_=true:=by kernel_rfl
def kr_:List AV->List Obj->Option (Prop × Res)
 | [.ptr 0 0,.imm (.int .i64) w,.imm (.int .u64) xs],[.box [.own 1,.int .i64 room,.mapv 2,.int .i64 e],.row false (.int .u8) l,.map sq (.int .i64) (.int .i64) h]=>some (0<=room/\room<=1000000/\l.length<=1000000,.br (kb_ w xs) (.one (.tup []) [.box [.own 3,.int .i64 room,.mapv 2,.int .i64 (wS_ (qK_ w xs) l room e)],.dead,.map sq (.int .i64) (.int .i64) h,.row false (.int .u8) (ji_ (qK_ w xs) l room e)]) (.one (.tup []) [.box [.own 1,.int .i64 room,.mapv 2,.int .i64 (Ze_ e 10001)],.row false (.int .u8) l,.map sq (.int .i64) (.int .i64) h]))
 | _,_=>none
def Zv_:List AV->List Obj->Option (Prop × AV × List Obj)
 | [.ptr 0 0,.imm (.int .i64) w,.imm (.int .u64) xs],[.box [.own 1,.int .i64 room,.mapv 2,.int .i64 e],.row false (.int .u8) l,.map sq (.int .i64) (.int .i64) h]=>some (0<=room/\room<=1000000/\l.length<=1000000,.tup [],[.box [.own 3,.int .i64 room,.mapv 2,.int .i64 (vH_ w xs l room e)],.dead,.map sq (.int .i64) (.int .i64) h,.row false (.int .u8) (vI_ w xs l room e)])
 | _,_=>none
theorem jI_:ze_ Tryz.prog 52 (RcF kr_).sum:=by
 refine Ge_ Tryz.func52 JE_ (zb_ (s:=RoF wD_) XF_ (zb_ (s:=RwF zO_) z7_ (zb_ (s:=RwF zK_) z0_ (zd_ _)))) fun args objs p v e=>?_
 unfold kr_ at e
 split at e
 ·rename_i w xs room e l sq h
  cases e
  refine ⟨rfl,fun hw ho hp=>?_⟩
  have hz:=zak_ w xs
  repeat'(intro t ht;first|(cases t<;>first|(cases ht;done)|(try simp only[zh_]at ht))|((first|refine za_ ht ?_|refine ht ?_ ?_|refine ht.1 ?_ ?_|refine ht ?_)<;>clear ht))
  all_goals first
   | exact True.intro
   | exact ⟨hp.1,hp.2.1,hp.2.2,by omega⟩
   | (rw [K1_ (by assumption)];exact ⟨rfl,rfl⟩)
   | (rw [K2_ (by assumption)];exact ⟨rfl,rfl⟩)
 ·cases e
theorem qd_:ze_ Tryz.prog 52 (RwF Zv_).sum:=by
 refine yw_ jI_ fun args objs p v o e=>?_
 unfold Zv_ at e
 split at e
 ·rename_i w xs room e l sq h
  cases e
  cases hb:kb_ w xs with
  | true=>
    refine ⟨_,_,rfl,K1_ hb,.inl ?_⟩
    unfold vH_ vI_;rw [if_pos hb,if_pos hb]
  | false=>
    refine ⟨_,_,rfl,K2_ hb,.inr ⟨0,1,[],[.int .i64 room,.mapv 2,.int .i64 (Ze_ e 10001)],.int .u8,l,rfl,rfl,?_⟩⟩
    unfold vH_ vI_;rw [hb];rfl
 ·cases e
def Ku_ (w:Int):Bool:=decide (1<=w) && decide (w<=8)
def wT_ (w e:Int):Int:=if Ku_ w=true then e else Ze_ e 10001
def Jg_:IR:=
(sq (kr [0,1] [oD 4 (.mov cF)])
(sq (kr [0,1] [oM 6 1,
oB 7 .geq 6 (cI 1),
oM 8 7,
oT 8 9 (.mov 1),
oT 8 10 (.bin .leq 9 (cI 8)),
oP 11 8 10 cF,
oM 5 11])
(sq (sq (kr [0,5] [oM 12 5,
oD 13 (.un .not 12)])
(.cond 13
(.reg [oM 14 0,
oC 15 34 [14,(cI 10001)]])
.skip))
(sq (.reg [oM 16 5,
oM 4 16])
.ret))))
def jT_:List RD:=[.tmp 4 true none]
theorem j5_:zn_ Tryz.prog Tryz.f117 Jg_ jT_=true:=by kernel_rfl
def qt_:List AV->List Obj->Option (Prop × AV × List Obj)
 | [.ptr 0 0,.int .i64 w],[.box [.own 1,.int .i64 room,.mapv 2,.int .i64 e],.row false (.int .u8) l,.map sq (.int .i64) (.int .i64) h]=>some ((True,.bool (Ku_ w),[.box [.own 1,.int .i64 room,.mapv 2,.int .i64 (wT_ w e)],.row false (.int .u8) l,.map sq (.int .i64) (.int .i64) h]))
 | _,_=>none
theorem KV_:ze_ Tryz.prog 117 (RwF qt_).sum:=by
 refine qS_ Tryz.func117 j5_ (zb_ (s:=RwF zO_) z7_ (zd_ _)) fun args objs p v o e=>?_
 unfold qt_ at e
 split at e
 ·rename_i w room e l sq h
  cases e
  refine ⟨rfl,fun hw ho hp=>?_⟩
  change List Int at l
  repeat'(intro t ht;first|(cases t<;>first|(cases ht;done)|(try simp only[zh_]at ht))|((first|refine za_ ht ?_|refine ht ?_ ?_|refine ht.1 ?_ ?_|refine ht ?_)<;>clear ht))
  all_goals first
   | exact True.intro
   | (have hb:Ku_ w=true:=by unfold Ku_;simp_all
      have h8:decide (w<=8)=true:=decide_eq_true (by assumption)
      unfold wT_;rw [hb,h8];exact ⟨rfl,rfl⟩)
   | (have hb:Ku_ w=false:=by unfold Ku_;simp_all
      have h8:decide (w<=8)=false:=decide_eq_false (by assumption)
      unfold wT_;rw [hb,h8];exact ⟨rfl,rfl⟩)
   | (have hb:Ku_ w=false:=by unfold Ku_;simp only [Bool.and_eq_false_iff,decide_eq_false_iff_not];omega
      unfold wT_;rw [hb];exact ⟨rfl,rfl⟩)
 ·cases e
def nmB (w n:Int) (l:List Int) (room e:Int):List Int:=if Ku_ w=true then vI_ [w] [n] l room e else l
def nmE (w n:Int) (l:List Int) (room e:Int):Int:=if Ku_ w=true then vH_ [w] [n] l room e else Ze_ e 10001
def JR_:IR:=
(sq (kr [0,1,2] [oM 6 0,
oM 7 1,
oC 8 117 [6,7]])
(.cond 8
(kr [0,1,2] [oM 9 0,
oM 10 1,
oD 11 (.sliceAll (.int .i64) 1 [(0,1,10)]),
oM 12 2,
oD 13 (.sliceAll (.int .u64) 1 [(0,1,12)]),
oC 14 52 [9,11,13]])
.skip))
def Jy_:List RD:=[]
theorem JF_:zn_ Tryz.prog Tryz.f85 JR_ Jy_=true:=by kernel_rfl
def ks_:List AV->List Obj->Option (Prop × Res)
 | [.ptr 0 0,.int .i64 w,.int .u64 n],[.box [.own 1,.int .i64 room,.mapv 2,.int .i64 e],.row false (.int .u8) l,.map sq (.int .i64) (.int .i64) h]=>some (0<=room/\room<=1000000/\l.length<=1000000,.br (Ku_ w) (.one (.tup []) [.box [.own 3,.int .i64 room,.mapv 2,.int .i64 (vH_ [w] [n] l room (wT_ w e))],.dead,.map sq (.int .i64) (.int .i64) h,.row false (.int .u8) (vI_ [w] [n] l room (wT_ w e))]) (.one (.tup []) [.box [.own 1,.int .i64 room,.mapv 2,.int .i64 (wT_ w e)],.row false (.int .u8) l,.map sq (.int .i64) (.int .i64) h]))
 | _,_=>none
def qP_:List AV->List Obj->Option (Prop × AV × List Obj)
 | [.ptr 0 0,.int .i64 w,.int .u64 n],[.box [.own 1,.int .i64 room,.mapv 2,.int .i64 e],.row false (.int .u8) l,.map sq (.int .i64) (.int .i64) h]=>some (0<=room/\room<=1000000/\l.length<=1000000,.tup [],[.box [.own 3,.int .i64 room,.mapv 2,.int .i64 (nmE w n l room e)],.dead,.map sq (.int .i64) (.int .i64) h,.row false (.int .u8) (nmB w n l room e)])
 | _,_=>none
theorem jJ_:ze_ Tryz.prog 85 (RcF ks_).sum:=by
 refine Ge_ Tryz.func85 JF_ (zb_ (s:=RwF qt_) KV_ (zb_ (s:=RwF Zv_) qd_ (zd_ _))) fun args objs p v e=>?_
 unfold ks_ at e
 split at e
 ·rename_i w n room e l sq h
  cases e
  refine ⟨rfl,fun hw ho hp=>?_⟩
  repeat'(intro t ht;first|(cases t<;>first|(cases ht;done)|(try simp only[zh_]at ht))|((first|refine za_ ht ?_|refine ht ?_ ?_|refine ht.1 ?_ ?_|refine ht ?_)<;>clear ht))
  all_goals first
   | exact True.intro
   | exact hp
   | (rw [K1_ (by assumption)];exact ⟨rfl,rfl⟩)
   | (rw [K2_ (by assumption)];exact ⟨rfl,rfl⟩)
 ·cases e
theorem jL_:ze_ Tryz.prog 85 (RwF qP_).sum:=by
 refine yw_ jJ_ fun args objs p v o e=>?_
 unfold qP_ at e
 split at e
 ·rename_i w n room e l sq h
  cases e
  cases hb:Ku_ w with
  | true=>
    refine ⟨_,_,rfl,K1_ hb,.inl ?_⟩
    unfold nmE nmB wT_;rw [hb];rfl
  | false=>
    refine ⟨_,_,rfl,K2_ hb,.inr ⟨0,1,[],[.int .i64 room,.mapv 2,.int .i64 (wT_ w e)],.int .u8,l,rfl,rfl,?_⟩⟩
    unfold nmE nmB wT_;rw [hb];rfl
 ·cases e
def J0_ (h:List (Int × Int)) (e:Int):Bool:=decide (e=0) && decide (h.length=0)
def XT_ (l:List Int) (h:List (Int × Int)) (e:Int):List Int:=if J0_ h e=true then l else []
def Y5_ (h:List (Int × Int)) (e:Int):Int:=if e=0 then (if h.length=0 then 0 else 10001) else e
def Jk_:IR:=
(sq (kr [0] [oD 2 (.mov (.c (.imm (.int .u8) []))),
oD 3 (.mov (cI 0))])
(sq (.block 0
(sq (.reg [oM 5 0,
oC 6 33 [5],
oM 4 6])
(.cond 4
(sq (.reg [oD 2 (.mov (.c (.imm (.int .u8) []))),
oD 3 (.mov (cI 10001))])
.ret)
(sq (kr [0] [oM 8 0,
oD 9 (.nilck 8),
oA 10 3 9,
oL 11 10,
oB 12 .neq 11 (cI 0),
oM 7 12])
(.cond 7
(sq (kd [0] [(oM 13 0,[]),
(oD 14 (.nilck 13),[]),
(oA 15 3 14,[]),
(oL 16 15,[]),
(oD 2 (.mov (.c (.imm (.int .u8) []))),[0,0,0,0]),
(oM 3 16,[])])
.ret)
(sq (kr [0] [oM 18 0,
oD 19 (.nilck 18),
oA 20 2 19,
oL 21 20,
oD 22 (.mlen 21),
oB 23 .gtr 22 (cI 0),
oM 17 23])
(.cond 17
(sq (kr [] [oD 2 (.mov (.c (.imm (.int .u8) []))),
oD 3 (.mov (cI 10001))])
.ret)
.skip)))))))
(sq (kr [0] [oM 24 0,
oD 25 (.nilck 24),
oA 26 0 25,
oL 27 26,
oC 28 36 [27],
oM 2 28,
oD 3 (.mov (cI 0))])
.ret)))
def jX_:List RD:=[.tmp 2 true (some (.int .u8)),.tmp 3 true none]
theorem j9_:zn_ Tryz.prog Tryz.f14 Jk_ jX_=true:=by kernel_rfl
def Q3_:List AV->List Obj->Option (Prop × Res)
 | [.ptr 0 0],[.box [.own 1,.int .i64 room,.mapv 2,.int .i64 e],.row false (.int .u8) l,.map sq (.int .i64) (.int .i64) h]=>some (l.length<=140737488355328/\h.length<=140737488355328,.br (J0_ h e) (.one (.tup [.imm (.int .u8) l,.int .i64 0]) [.box [.own 1,.int .i64 room,.mapv 2,.int .i64 e],.row true (.int .u8) l,.map sq (.int .i64) (.int .i64) h]) (.one (.tup [.imm (.int .u8) [],.int .i64 (Y5_ h e)]) [.box [.own 1,.int .i64 room,.mapv 2,.int .i64 e],.row false (.int .u8) l,.map sq (.int .i64) (.int .i64) h]))
 | _,_=>none
def Zo_:List AV->List Obj->Option (Prop × AV × List Obj)
 | [.ptr 0 0],[.box [.own 1,.int .i64 room,.mapv 2,.int .i64 e],.row false (.int .u8) l,.map sq (.int .i64) (.int .i64) h]=>some (l.length<=140737488355328/\h.length<=140737488355328,.tup [.imm (.int .u8) (XT_ l h e),.int .i64 (Y5_ h e)],[.box [.own 1,.int .i64 room,.mapv 2,.int .i64 e],.dead,.map sq (.int .i64) (.int .i64) h])
 | _,_=>none
theorem KM_:ze_ Tryz.prog 14 (RcF Q3_).sum:=by
 refine Ge_ Tryz.func14 j9_ (zb_ (s:=RoF z2_) Zy_ (zb_ (s:=RoF qX_) Q9_ (zd_ _))) fun args objs p v e=>?_
 unfold Q3_ at e
 split at e
 ·rename_i room e l sq h
  cases e
  change List (Int × Int) at h
  refine ⟨rfl,fun hw ho hp=>?_⟩
  repeat'(intro t ht;first|(cases t<;>first|(cases ht;done)|(try simp only[zh_]at ht))|((first|refine za_ ht ?_|refine ht ?_ ?_|refine ht.1 ?_ ?_|refine ht ?_)<;>clear ht))
  all_goals first
   | exact True.intro
   | exact hp.1
   | exact hp.2
   | (have hb:J0_ h e=true:=by unfold J0_;simp only [Bool.and_eq_true,decide_eq_true_eq];omega
      rw [K1_ hb];exact ⟨rfl,rfl⟩)
   | (have hb:J0_ h e=false:=by unfold J0_;simp only [Bool.and_eq_false_iff,decide_eq_false_iff_not];omega
      rw [K2_ hb]
      unfold Y5_
      first
       | (rw [if_neg (by assumption)];exact ⟨rfl,rfl⟩)
       | (have h0:e=0:=by assumption
          have h1:¬ h.length=0:=by omega
          rw [if_pos h0,if_neg h1];exact ⟨rfl,rfl⟩))
 ·cases e
theorem Z0_:ze_ Tryz.prog 14 (RwF Zo_).sum:=by
 refine zb4_ KM_ fun args objs p v o e=>?_
 unfold Zo_ at e
 split at e
 ·rename_i room e l sq h
  cases e
  change List (Int × Int) at h
  cases hb:J0_ h e with
  | true=>
    have h1:e=0:=by unfold J0_ at hb;simp_all
    have h2:h.length=0:=by unfold J0_ at hb;simp_all
    refine ⟨_,[.box [.own 1,.int .i64 room,.mapv 2,.int .i64 e],.row true (.int .u8) l,.map sq (.int .i64) (.int .i64) h],1,rfl,?_,by simp,rfl⟩
    rw [K1_ hb];unfold XT_ Y5_;rw [if_pos hb,if_pos h1,if_pos h2];rfl
  | false=>
    refine ⟨_,[.box [.own 1,.int .i64 room,.mapv 2,.int .i64 e],.row false (.int .u8) l,.map sq (.int .i64) (.int .i64) h],1,rfl,?_,by simp,rfl⟩
    rw [K2_ hb];unfold XT_;rw [hb];rfl
 ·cases e
def fIs (n:Int):Bool:=decide (0<=n) && decide (n < 40)
theorem Z7_ {n:Int}:fIs n=true ↔ 0<=n/\n < 40:=by unfold fIs;simp
theorem k8_ {n:Int}:fIs n=false ↔ ¬ (0<=n/\n < 40):=by rw [<- Z7_];simp
def G4_:IR:=
(sq (kr [0] [oD 2 (.mov cF)])
(sq (kr [0] [oM 3 0,
oB 4 .geq 3 (cI 0),
oM 5 4,
oT 5 6 (.mov 0),
oT 5 7 (.bin .lss 6 (cI 40)),
oP 8 5 7 cF,
oM 2 8])
.ret))
def Gb_:List RD:=[.tmp 2 true none]
theorem Gx_:zn_ Tryz.prog Tryz.f136 G4_ Gb_=true:=by kernel_rfl
def kY_:List AV->List Obj->Option (Prop × AV)
 | [.int .i64 n],[]=>some ((True,.bool (fIs n)))
 | _,_=>none
theorem KR_:ze_ Tryz.prog 136 (RoF kY_).sum:=by
 refine zm_ Tryz.func136 Gx_ (zd_ _) fun args objs p v e=>?_
 unfold kY_ at e
 split at e
 ·rename_i n
  cases e
  refine ⟨rfl,fun hw ho hp=>?_⟩
  repeat'(intro t ht;first|(cases t<;>first|(cases ht;done)|(try simp only[zh_]at ht))|((first|refine za_ ht ?_|refine ht ?_ ?_|refine ht.1 ?_ ?_|refine ht ?_)<;>clear ht))
  all_goals refine ⟨?_,rfl⟩
  all_goals unfold fIs
  all_goals first | (congr 1;simp_all;done) | (congr 1;simp_all;omega)
 ·cases e
def kq_:List Int:=[32,32,64,48,48,16,13,3,6,2,8,32,32,16,16,16,16,16,16,8,8,16,32,32,48,48,128,128,20,8,8,128,48,48,20,3,1,24,64,9]
def Vv_:IR:=
(sq (kr [0] [oD 2 (.mov (cI 0))])
(sq (.reg [oD 4 (.buildAll 40 [(0,1,(cI 32)),(1,1,(cI 32)),(2,1,(cI 64)),(3,1,(cI 48)),(4,1,(cI 48)),(5,1,(cI 16)),(6,1,(cI 13)),(7,1,(cI 3)),(8,1,(cI 6)),(9,1,(cI 2)),(10,1,(cI 8)),(11,1,(cI 32)),(12,1,(cI 32)),(13,1,(cI 16)),(14,1,(cI 16)),(15,1,(cI 16)),(16,1,(cI 16)),(17,1,(cI 16)),(18,1,(cI 16)),(19,1,(cI 8)),(20,1,(cI 8)),(21,1,(cI 16)),(22,1,(cI 32)),(23,1,(cI 32)),(24,1,(cI 48)),(25,1,(cI 48)),(26,1,(cI 128)),(27,1,(cI 128)),(28,1,(cI 20)),(29,1,(cI 8)),(30,1,(cI 8)),(31,1,(cI 128)),(32,1,(cI 48)),(33,1,(cI 48)),(34,1,(cI 20)),(35,1,(cI 3)),(36,1,(cI 1)),(37,1,(cI 24)),(38,1,(cI 64)),(39,1,(cI 9))]),
oD 3 (.box [.int .i64 0,.int .i64 0,.int .i64 0,.int .i64 0,.int .i64 0,.int .i64 0,.int .i64 0,.int .i64 0,.int .i64 0,.int .i64 0,.int .i64 0,.int .i64 0,.int .i64 0,.int .i64 0,.int .i64 0,.int .i64 0,.int .i64 0,.int .i64 0,.int .i64 0,.int .i64 0,.int .i64 0,.int .i64 0,.int .i64 0,.int .i64 0,.int .i64 0,.int .i64 0,.int .i64 0,.int .i64 0,.int .i64 0,.int .i64 0,.int .i64 0,.int .i64 0,.int .i64 0,.int .i64 0,.int .i64 0,.int .i64 0,.int .i64 0,.int .i64 0,.int .i64 0,.int .i64 0]),
oS 40 3 4])
(sq (.reg [oM 5 0,
oD 6 (.indexArr 1 40 3 5),
oD 7 (.loadI .i64 6),
oM 2 7])
.ret)))
def vT_:List RD:=[.tmp 2 true none]
theorem Vc_:zn_ Tryz.prog Tryz.f153 Vv_ vT_=true:=by kernel_rfl
def Qo_:List AV->List Obj->Option (Prop × AV)
 | [.int .i64 n],[]=>some (0<=n/\n < 40,.int .i64 (kq_.getD n.toNat 0))
 | _,_=>none
theorem kK_:ze_ Tryz.prog 153 (RoF Qo_).sum:=by
 refine zm_ Tryz.func153 Vc_ (zd_ _) fun args objs p v e=>?_
 unfold Qo_ at e
 split at e
 ·rename_i n
  cases e
  refine ⟨rfl,fun hw _ hp=>?_⟩
  repeat'(intro t ht;first|(cases t<;>first|(cases ht;done)|(try simp only[zh_]at ht))|((first|refine za_ ht ?_|refine ht ?_ ?_|refine ht.1 ?_ ?_|refine ht ?_)<;>clear ht))
  ·exact hp
  ·show 0+n.toNat*1 < 40;omega
  ·exact ⟨by simp [kq_],rfl⟩
 ·cases e
theorem go_:∀ k < 40,1<=kq_.getD k 0/\kq_.getD k 0<=128:=by decide
def kO_ (n:Int):Int:=if n=28\/n=34 then 4 else (kq_.getD n.toNat 0+7) / 8
def Vs_:IR:=
(sq (kr [0] [oD 2 (.mov (cI 0))])
(sq (sq (.reg [oM 3 0])
(.block 0
(sq (sq (.reg [oB 5 .eql 3 (cI 28),
oM 4 5])
(.cond 4
.skip
(.reg [oB 6 .eql 3 (cI 34),
oM 4 6])))
(.cond 4
(sq (kr [] [oD 2 (.mov (cI 4))])
.ret)
.skip))))
(sq (kr [0] [oM 7 0,
oC 8 153 [7],
oB 9 .add 8 (cI 8),
oB 10 .sub 9 (cI 1),
oB 11 .quo 10 (cI 8),
oM 2 11])
.ret)))
def vQ_:List RD:=[.tmp 2 true none]
theorem v9_:zn_ Tryz.prog Tryz.f154 Vs_ vQ_=true:=by kernel_rfl
def kC_:List AV->List Obj->Option (Prop × AV)
 | [.int .i64 n],[]=>some (0<=n/\n < 40,.int .i64 (kO_ n))
 | _,_=>none
theorem Jo_:ze_ Tryz.prog 154 (RoF kC_).sum:=by
 refine zm_ Tryz.func154 v9_ (zb_ (s:=RoF Qo_) kK_ (zd_ _)) fun args objs p v e=>?_
 unfold kC_ at e
 split at e
 ·rename_i n
  cases e
  refine ⟨rfl,fun hw _ hp=>?_⟩
  repeat'(intro t ht;first|(cases t<;>first|(cases ht;done)|(try simp only[zh_]at ht))|((first|refine za_ ht ?_|refine ht ?_ ?_|refine ht.1 ?_ ?_|refine ht ?_)<;>clear ht))
  all_goals have hb:=go_ n.toNat (by omega)
  all_goals generalize hB:kq_.getD n.toNat 0=B at*
  all_goals first
   | exact hp
   | exact (by decide)
   | (exfalso;(try simp only [zk_,zl_,zi_] at*);omega)
   | ((try simp only [zk_,zl_,zi_] at*);omega)
   | ((try simp only [zk_,zl_,zi_] at*);rw [Zw_ (by omega)];omega)
   | (refine ⟨?_,rfl⟩;unfold kO_;rw [Zw_ (by omega),hB,if_neg (by (try simp only [zk_,zl_,zi_] at*);omega)];congr 2;omega)
   | (refine ⟨?_,rfl⟩;unfold kO_;rw [if_pos (by (try simp only [zk_,zl_,zi_] at*);omega)])
 ·cases e
def UM_ (n:Int):Bool:=[2,3,4,6,11,12,37,38,39,22,23,24,25,26,27,28].contains n
def yk_:IR:=
(sq (kr [0] [oD 2 (.mov cF)])
(sq (sq (.reg [oM 3 0])
(.block 0
(sq (.block 2
(.block 1
(sq (sq (sq (sq (.reg [oB 5 .eql 3 (cI 2),
oM 4 5])
(.cond 4
.skip
(sq (.reg [oB 6 .eql 3 (cI 3),
oM 4 6])
(.cond 4
.skip
(sq (kr [3] [oB 7 .eql 3 (cI 4),
oM 4 7])
(.cond 4
.skip
(sq (.reg [oB 8 .eql 3 (cI 6),
oM 4 8])
(.cond 4
.skip
(sq (.reg [oB 9 .eql 3 (cI 11),
oM 4 9])
(.cond 4
.skip
(sq (kr [3] [oB 10 .eql 3 (cI 12),
oM 4 10])
(.cond 4
.skip
(sq (.reg [oB 11 .eql 3 (cI 37),
oM 4 11])
(.cond 4
.skip
(sq (.reg [oB 12 .eql 3 (cI 38),
oM 4 12])
(.cond 4
.skip
(kr [3] [oB 13 .eql 3 (cI 39),
oM 4 13])))))))))))))))))
(.cond 4
(.exit 1)
.skip))
(sq (sq (kr [3] [oB 15 .eql 3 (cI 22),
oM 14 15])
(.cond 14
.skip
(sq (.reg [oB 16 .eql 3 (cI 23),
oM 14 16])
(.cond 14
.skip
(sq (.reg [oB 17 .eql 3 (cI 24),
oM 14 17])
(.cond 14
.skip
(sq (kr [3] [oB 18 .eql 3 (cI 25),
oM 14 18])
(.cond 14
.skip
(sq (.reg [oB 19 .eql 3 (cI 26),
oM 14 19])
(.cond 14
.skip
(sq (.reg [oB 20 .eql 3 (cI 27),
oM 14 20])
(.cond 14
.skip
(kr [3] [oB 21 .eql 3 (cI 28),
oM 14 21])))))))))))))
(.cond 14
(.exit 2)
.skip)))
(.exit 0))))
(sq (sq (kr [] [oD 2 (.mov cT)])
.ret)
(.exit 0)))))
(sq (kr [] [oD 2 (.mov cF)])
.ret)))
def X8_:List RD:=[.tmp 2 true none]
theorem ye_:zn_ Tryz.prog Tryz.f155 yk_ X8_=true:=by kernel_rfl
def kX_:List AV->List Obj->Option (Prop × AV)
 | [.int .i64 n],[]=>some (True,.bool (UM_ n))
 | _,_=>none
theorem xE_:ze_ Tryz.prog 155 (RoF kX_).sum:=by
 refine zm_ Tryz.func155 ye_ (zd_ _) fun args objs p v e=>?_
 unfold kX_ at e
 split at e
 ·rename_i n
  cases e
  refine ⟨rfl,fun hw _ hp=>?_⟩
  repeat'(intro t ht;first|(cases t<;>first|(cases ht;done)|(try simp only[zh_]at ht))|((first|refine za_ ht ?_|refine ht ?_ ?_|refine ht.1 ?_ ?_|refine ht ?_)<;>clear ht))
  all_goals refine ⟨?_,rfl⟩
  all_goals (congr 1;simp_all [UM_];done)
 ·cases e
def bM_ (n:Int):Int × List Int:=
 if n=13\/n=14 then (10,[6]) else if n=15\/n=16 then (10,[17]) else if n=17\/n=18 then (10,[132]) else if n=19\/n=20 then (10,[1])
 else if n=29\/n=30 then (10,[58]) else if n=31 then (29,[135,136]) else if n=32 then (29,[135]) else if n=33 then (29,[136]) else (-1,[])
def Vu_:IR:=
(sq (kr [0] [oD 2 (.mov (cI 0)),
oD 3 (.mov (.c (.imm (.int .u64) [])))])
(sq (sq (.reg [oM 4 0])
(.block 0
(sq (sq (.reg [oB 6 .eql 4 (cI 13),
oM 5 6])
(.cond 5
.skip
(.reg [oB 7 .eql 4 (cI 14),
oM 5 7])))
(.cond 5
(sq (kr [] [oD 8 (.sliceAll (.int .u64) 1 [(0,1,(.c (.int .u64 6)))]),
oD 2 (.mov (cI 10)),
oM 3 8])
.ret)
(sq (sq (kr [0,4] [oB 10 .eql 4 (cI 15),
oM 9 10])
(.cond 9
.skip
(.reg [oB 11 .eql 4 (cI 16),
oM 9 11])))
(.cond 9
(sq (.reg [oD 12 (.sliceAll (.int .u64) 1 [(0,1,(.c (.int .u64 17)))]),
oD 2 (.mov (cI 10)),
oM 3 12])
.ret)
(sq (sq (.reg [oB 14 .eql 4 (cI 17),
oM 13 14])
(.cond 13
.skip
(kr [0,4] [oB 15 .eql 4 (cI 18),
oM 13 15])))
(.cond 13
(sq (kr [] [oD 16 (.sliceAll (.int .u64) 1 [(0,1,(.c (.int .u64 132)))]),
oD 2 (.mov (cI 10)),
oM 3 16])
.ret)
(sq (sq (kr [0,4] [oB 18 .eql 4 (cI 19),
oM 17 18])
(.cond 17
.skip
(.reg [oB 19 .eql 4 (cI 20),
oM 17 19])))
(.cond 17
(sq (.reg [oD 20 (.sliceAll (.int .u64) 1 [(0,1,(.c (.int .u64 1)))]),
oD 2 (.mov (cI 10)),
oM 3 20])
.ret)
(sq (sq (.reg [oB 22 .eql 4 (cI 29),
oM 21 22])
(.cond 21
.skip
(kr [0,4] [oB 23 .eql 4 (cI 30),
oM 21 23])))
(.cond 21
(sq (kr [] [oD 24 (.sliceAll (.int .u64) 1 [(0,1,(.c (.int .u64 58)))]),
oD 2 (.mov (cI 10)),
oM 3 24])
.ret)
(sq (kr [0,4] [oB 26 .eql 4 (cI 31),
oM 25 26])
(.cond 25
(sq (.reg [oD 27 (.sliceAll (.int .u64) 2 [(0,1,(.c (.int .u64 135))),(1,1,(.c (.int .u64 136)))]),
oD 2 (.mov (cI 29)),
oM 3 27])
.ret)
(sq (sq (.reg [oB 29 .eql 4 (cI 32),
oM 28 29])
(.cond 28
.skip
(.reg [oB 30 .eql 4 (cI 33),
oM 28 30])))
(.cond 28
(sq (kr [0] [oM 31 0,
oD 32 (.conv .u64 31),
oB 33 .add 32 (.c (.int .u64 103)),
oD 34 (.sliceAll (.int .u64) 1 [(0,1,33)]),
oD 2 (.mov (cI 29)),
oM 3 34])
.ret)
.skip))))))))))))))))
(sq (kr [] [oD 2 (.mov (cI (-1))),
oD 3 (.mov (.c (.imm (.int .u64) [])))])
.ret)))
def vS_:List RD:=[.tmp 2 true none,.tmp 3 true (some (.int .u64))]
theorem Vb_:zn_ Tryz.prog Tryz.f163 Vu_ vS_=true:=by kernel_rfl
def jx_:List AV->List Obj->Option (Prop × AV)
 | [.int .i64 n],[]=>some (True,.tup [.int .i64 (bM_ n).1,.imm (.int .u64) (bM_ n).2])
 | _,_=>none
theorem yV_:ze_ Tryz.prog 163 (RoF jx_).sum:=by
 refine zm_ Tryz.func163 Vb_ (zd_ _) fun args objs p v e=>?_
 unfold jx_ at e
 split at e
 ·rename_i n
  cases e
  refine ⟨rfl,fun hw _ hp=>?_⟩
  repeat'(intro t ht;first|(cases t<;>first|(cases ht;done)|(try simp only[zh_]at ht))|((first|refine za_ ht ?_|refine ht ?_ ?_|refine ht.1 ?_ ?_|refine ht ?_)<;>clear ht))
  all_goals first
   | (exfalso;(try simp only [zk_,zl_,zi_] at*);omega)
   | (refine ⟨?_,rfl⟩;simp_all [bM_];done)
   | ((try simp only [zk_,zl_,zi_] at*);omega)
   | ((try simp only [zk_,zl_,zi_] at*);subst_vars;exact ⟨rfl,rfl⟩)
   | ((try simp only [zk_,zl_,zi_] at*);have hn:n=32\/n=33:=by omega
      rcases hn with rfl | rfl<;>exact ⟨rfl,rfl⟩)
 ·cases e
def qV_ (n:Int):Int × List Int:=
 if n=1 then (0,[]) else if n=7 then (6,[]) else if n=8\/n=9\/n=10 then (5,[2048,34525]) else if n=11\/n=12 then (5,[2048])
 else if n=21\/n=22\/n=23\/n=24\/n=25 then (5,[2054]) else if n=26\/n=27\/n=28\/n=39 then (5,[34525])
 else if n=34\/n=35\/n=36 then (5,[34887,34888]) else if n=37 then (5,[35047]) else bM_ n
def Vt_:IR:=
(sq (kr [0] [oD 2 (.mov (cI 0)),
oD 3 (.mov (.c (.imm (.int .u64) [])))])
(sq (sq (.reg [oM 4 0])
(.block 0
(sq (.reg [oB 6 .eql 4 (cI 1),
oM 5 6])
(.cond 5
(sq (.reg [oD 2 (.mov (cI 0)),
oD 3 (.mov (.c (.imm (.int .u64) [])))])
.ret)
(sq (.reg [oB 8 .eql 4 (cI 7),
oM 7 8])
(.cond 7
(sq (kr [] [oD 2 (.mov (cI 6)),
oD 3 (.mov (.c (.imm (.int .u64) [])))])
.ret)
(sq (sq (kr [0,4] [oB 10 .eql 4 (cI 8),
oM 9 10])
(.cond 9
.skip
(sq (.reg [oB 11 .eql 4 (cI 9),
oM 9 11])
(.cond 9
.skip
(.reg [oB 12 .eql 4 (cI 10),
oM 9 12])))))
(.cond 9
(sq (kr [] [oD 13 (.sliceAll (.int .u64) 2 [(0,1,(.c (.int .u64 2048))),(1,1,(.c (.int .u64 34525)))]),
oD 2 (.mov (cI 5)),
oM 3 13])
.ret)
(sq (sq (kr [0,4] [oB 15 .eql 4 (cI 11),
oM 14 15])
(.cond 14
.skip
(.reg [oB 16 .eql 4 (cI 12),
oM 14 16])))
(.cond 14
(sq (.reg [oD 17 (.sliceAll (.int .u64) 1 [(0,1,(.c (.int .u64 2048)))]),
oD 2 (.mov (cI 5)),
oM 3 17])
.ret)
(sq (sq (.reg [oB 19 .eql 4 (cI 21),
oM 18 19])
(.cond 18
.skip
(sq (kr [0,4] [oB 20 .eql 4 (cI 22),
oM 18 20])
(.cond 18
.skip
(sq (.reg [oB 21 .eql 4 (cI 23),
oM 18 21])
(.cond 18
.skip
(sq (.reg [oB 22 .eql 4 (cI 24),
oM 18 22])
(.cond 18
.skip
(kr [0,4] [oB 23 .eql 4 (cI 25),
oM 18 23])))))))))
(.cond 18
(sq (kr [] [oD 24 (.sliceAll (.int .u64) 1 [(0,1,(.c (.int .u64 2054)))]),
oD 2 (.mov (cI 5)),
oM 3 24])
.ret)
(sq (sq (kr [0,4] [oB 26 .eql 4 (cI 26),
oM 25 26])
(.cond 25
.skip
(sq (.reg [oB 27 .eql 4 (cI 27),
oM 25 27])
(.cond 25
.skip
(sq (.reg [oB 28 .eql 4 (cI 28),
oM 25 28])
(.cond 25
.skip
(kr [0,4] [oB 29 .eql 4 (cI 39),
oM 25 29])))))))
(.cond 25
(sq (kr [] [oD 30 (.sliceAll (.int .u64) 1 [(0,1,(.c (.int .u64 34525)))]),
oD 2 (.mov (cI 5)),
oM 3 30])
.ret)
(sq (sq (kr [0,4] [oB 32 .eql 4 (cI 34),
oM 31 32])
(.cond 31
.skip
(sq (.reg [oB 33 .eql 4 (cI 35),
oM 31 33])
(.cond 31
.skip
(.reg [oB 34 .eql 4 (cI 36),
oM 31 34])))))
(.cond 31
(sq (kr [] [oD 35 (.sliceAll (.int .u64) 2 [(0,1,(.c (.int .u64 34887))),(1,1,(.c (.int .u64 34888)))]),
oD 2 (.mov (cI 5)),
oM 3 35])
.ret)
(sq (kr [0,4] [oB 37 .eql 4 (cI 37),
oM 36 37])
(.cond 36
(sq (.reg [oD 38 (.sliceAll (.int .u64) 1 [(0,1,(.c (.int .u64 35047)))]),
oD 2 (.mov (cI 5)),
oM 3 38])
.ret)
.skip))))))))))))))))))
(sq (kr [0] [oM 39 0,
oC 40 163 [39],
oX 41 40 0,
oX 42 40 1,
oM 2 41,
oM 3 42])
.ret)))
def vR_:List RD:=[.tmp 2 true none,.tmp 3 true (some (.int .u64))]
theorem Va_:zn_ Tryz.prog Tryz.f156 Vt_ vR_=true:=by kernel_rfl
def jw_:List AV->List Obj->Option (Prop × AV)
 | [.int .i64 n],[]=>some (True,.tup [.int .i64 (qV_ n).1,.imm (.int .u64) (qV_ n).2])
 | _,_=>none
theorem yU_:ze_ Tryz.prog 156 (RoF jw_).sum:=by
 refine zm_ Tryz.func156 Va_ (zb_ (s:=RoF jx_) yV_ (zd_ _)) fun args objs p v e=>?_
 unfold jw_ at e
 split at e
 ·rename_i n
  cases e
  refine ⟨rfl,fun hw _ hp=>?_⟩
  repeat'(intro t ht;first|(cases t<;>first|(cases ht;done)|(try simp only[zh_]at ht))|((first|refine za_ ht ?_|refine ht ?_ ?_|refine ht.1 ?_ ?_|refine ht ?_)<;>clear ht))
  all_goals first
   | trivial
   | (exfalso;(try simp only [zk_,zl_,zi_] at*);omega)
   | (refine ⟨?_,rfl⟩;simp_all [qV_];done)
   | ((try simp only [zk_,zl_,zi_] at*);subst_vars;exact ⟨rfl,rfl⟩)
 ·cases e
def UK_:List (List Int):=[[105,110,95,112,111,114,116],[105,110,95,112,104,121,95,112,111,114,116],[109,101,116,97,100,97,116,97],[101,116,104,95,100,115,116],[101,116,104,95,115,114,99],[101,116,104,95,116,121,112,101],[118,108,97,110,95,118,105,100],[118,108,97,110,95,112,99,112],[105,112,95,100,115,99,112],[105,112,95,101,99,110],[105,112,95,112,114,111,116,111],[105,112,118,52,95,115,114,99],[105,112,118,52,95,100,115,116],[116,99,112,95,115,114,99],[116,99,112,95,100,115,116],[117,100,112,95,115,114,99],[117,100,112,95,100,115,116],[115,99,116,112,95,115,114,99],[115,99,116,112,95,100,115,116],[105,99,109,112,118,52,95,116,121,112,101],[105,99,109,112,118,52,95,99,111,100,101],[97,114,112,95,111,112],[97,114,112,95,115,112,97],[97,114,112,95,116,112,97],[97,114,112,95,115,104,97],[97,114,112,95,116,104,97],[105,112,118,54,95,115,114,99],[105,112,118,54,95,100,115,116],[105,112,118,54,95,102,108,97,98,101,108],[105,99,109,112,118,54,95,116,121,112,101],[105,99,109,112,118,54,95,99,111,100,101],[105,112,118,54,95,110,100,95,116,97,114,103,101,116],[105,112,118,54,95,110,100,95,115,108,108],[105,112,118,54,95,110,100,95,116,108,108],[109,112,108,115,95,108,97,98,101,108],[109,112,108,115,95,116,99],[109,112,108,115,95,98,111,115],[112,98,98,95,105,115,105,100],[116,117,110,110,101,108,95,105,100],[105,112,118,54,95,101,120,116,104,100,114]]
def Js_ (n:Int):Bool:=decide (2 < n) && decide (n < 39)
def xj_:IR:=
(sq (kr [0] [oD 2 (.mov cF)])
(sq (kr [0] [oM 3 0,
oC 4 136 [3],
oM 5 4,
oT 5 6 (.mov 0),
oT 5 7 (.bin .gtr 6 (cI 2)),
oP 8 5 7 cF,
oM 9 8,
oT 9 10 (.mov 0),
oT 9 11 (.bin .neq 10 (cI 39)),
oP 12 9 11 cF,
oM 2 12])
.ret))
def W1_:List RD:=[.tmp 2 true none]
theorem W8_:zn_ Tryz.prog Tryz.f113 xj_ W1_=true:=by kernel_rfl
def qH_:List AV->List Obj->Option (Prop × AV)
 | [.int .i64 n],[]=>some ((True,.bool (Js_ n)))
 | _,_=>none
theorem kL_:ze_ Tryz.prog 113 (RoF qH_).sum:=by
 refine zm_ Tryz.func113 W8_ (zb_ (s:=RoF kY_) KR_ (zd_ _)) fun args objs p v e=>?_
 unfold qH_ at e
 split at e
 ·rename_i n
  cases e
  refine ⟨rfl,fun hw ho hp=>?_⟩
  repeat'(intro t ht;first|(cases t<;>first|(cases ht;done)|(try simp only[zh_]at ht))|((first|refine za_ ht ?_|refine ht ?_ ?_|refine ht.1 ?_ ?_|refine ht ?_)<;>clear ht))
  all_goals first
   | trivial
   | (refine ⟨?_,rfl⟩;unfold Js_;congr 1;rw [Bool.eq_iff_iff];first | (have h:=Z7_.1 (by assumption);simp at*;omega) | (have h:=k8_.1 (by assumption);simp at*;omega) | (simp at*;omega))
 ·cases e
def Q0_ (n:Int):Int:=if fIs n then kq_.getD n.toNat 0 else 0
def k7_ (n:Int):Int:=if fIs n then kO_ n else 0
def uf_ (n:Int):Bool:=if fIs n then UM_ n else false
def zbb_ (n:Int):Int:=if fIs n then (qV_ n).1 else 0
def zba_ (n:Int):List Int:=if fIs n then (qV_ n).2 else []
abbrev ofF (n:Int):AV:=.tup [.agg [.int .i64 (Q0_ n),.int .i64 (k7_ n),.bool (uf_ n),.int .i64 (zbb_ n),.imm (.int .u64) (zba_ n)],.bool (fIs n)]
def G5_:IR:=
(sq (kr [0] [oD 2 (.box [.int .i64 0,.int .i64 0,.kb false,.int .i64 0,.imm (.int .u64) []]),
oD 3 (.mov cF)])
(sq (sq (.reg [oM 5 0,
oC 6 136 [5],
oD 7 (.un .not 6)])
(.cond 7
(sq (.reg [oD 8 (.build [.int .i64 0,.int .i64 0,.kb false,.int .i64 0,.imm (.int .u64) []] []),
oS 5 2 8,
oD 3 (.mov cF)])
.ret)
.skip))
(sq (kr [0,2] [oM 9 0,
oC 10 153 [9],
oM 11 0,
oC 12 154 [11],
oM 13 0,
oC 14 155 [13],
oD 15 (.build [.int .i64 0,.int .i64 0,.kb false,.int .i64 0,.imm (.int .u64) []] [(0,1,10),(1,1,12),(2,1,14)]),
oD 4 (.box [.int .i64 0,.int .i64 0,.kb false,.int .i64 0,.imm (.int .u64) []]),
oS 5 4 15])
(sq (kr [0,2,4] [oM 17 0,
oC 18 156 [17],
oM 16 18,
oX 19 16 0,
oX 20 16 1,
oA 21 3 4,
oS 1 21 19,
oA 22 4 4,
oS 1 22 20])
(sq (kr [2,4] [oK 23 5 4,
oS 5 2 23,
oD 3 (.mov cT)])
.ret)))))
def Gc_:List RD:=[.cell 2 (some 5) true [],.tmp 3 true none]
theorem Gy_:zn_ Tryz.prog Tryz.f137 G5_ Gc_=true:=by kernel_rfl
def WG_:List AV->List Obj->Option (Prop × AV)
 | [.int .i64 n],[]=>some ((True,ofF n))
 | _,_=>none
theorem uU_:ze_ Tryz.prog 137 (RoF WG_).sum:=by
 refine zm_ Tryz.func137 Gy_ (zb_ (s:=RoF kY_) KR_ (zb_ (s:=RoF Qo_) kK_ (zb_ (s:=RoF kC_) Jo_ (zb_ (s:=RoF kX_) xE_ (zb_ (s:=RoF jw_) yU_ (zd_ _)))))) fun args objs p v e=>?_
 unfold WG_ at e
 split at e
 ·rename_i n
  cases e
  refine ⟨rfl,fun hw ho hp=>?_⟩
  repeat'(intro t ht;first|(cases t<;>first|(cases ht;done)|(try simp only[zh_]at ht))|((first|refine za_ ht ?_|refine ht ?_ ?_|refine ht.1 ?_ ?_|refine ht ?_)<;>clear ht))
  all_goals try (try simp only [zk_,zl_,zi_] at*)
  all_goals first
   | exact Z7_.1 (by assumption)
   | (simp_all [ofF,Q0_,k7_,uf_,zbb_,zba_];done)
 ·cases e
def idxF:List (List Int)->List Int->Nat->Int
 | [],_,_=>-1
 | a :: r,s,k=>if s=a then k else idxF r s (k+1)
def zcX_ (s:List Int):Int:=if 0 > idxF UK_ s 0 then 0 else idxF UK_ s 0
def zcY_ (s:List Int):Bool:=decide (0<=idxF UK_ s 0)
abbrev gb_:Ty:=(.cons .str (.cons (.int .i64) (.cons (.int .i64) (.cons .bool (.cons (.int .i64) (.cons (.sl (.int .u64)) .nil))))))
def tab:List gb_.den:=[([105,110,95,112,111,114,116],32,4,false,-1,[],()),
 ([105,110,95,112,104,121,95,112,111,114,116],32,4,false,0,[],()),
 ([109,101,116,97,100,97,116,97],64,8,true,-1,[],()),
 ([101,116,104,95,100,115,116],48,6,true,-1,[],()),
 ([101,116,104,95,115,114,99],48,6,true,-1,[],()),
 ([101,116,104,95,116,121,112,101],16,2,false,-1,[],()),
 ([118,108,97,110,95,118,105,100],13,2,true,-1,[],()),
 ([118,108,97,110,95,112,99,112],3,1,false,6,[],()),
 ([105,112,95,100,115,99,112],6,1,false,5,[2048,34525],()),
 ([105,112,95,101,99,110],2,1,false,5,[2048,34525],()),
 ([105,112,95,112,114,111,116,111],8,1,false,5,[2048,34525],()),
 ([105,112,118,52,95,115,114,99],32,4,true,5,[2048],()),
 ([105,112,118,52,95,100,115,116],32,4,true,5,[2048],()),
 ([116,99,112,95,115,114,99],16,2,false,10,[6],()),
 ([116,99,112,95,100,115,116],16,2,false,10,[6],()),
 ([117,100,112,95,115,114,99],16,2,false,10,[17],()),
 ([117,100,112,95,100,115,116],16,2,false,10,[17],()),
 ([115,99,116,112,95,115,114,99],16,2,false,10,[132],()),
 ([115,99,116,112,95,100,115,116],16,2,false,10,[132],()),
 ([105,99,109,112,118,52,95,116,121,112,101],8,1,false,10,[1],()),
 ([105,99,109,112,118,52,95,99,111,100,101],8,1,false,10,[1],()),
 ([97,114,112,95,111,112],16,2,false,5,[2054],()),
 ([97,114,112,95,115,112,97],32,4,true,5,[2054],()),
 ([97,114,112,95,116,112,97],32,4,true,5,[2054],()),
 ([97,114,112,95,115,104,97],48,6,true,5,[2054],()),
 ([97,114,112,95,116,104,97],48,6,true,5,[2054],()),
 ([105,112,118,54,95,115,114,99],128,16,true,5,[34525],()),
 ([105,112,118,54,95,100,115,116],128,16,true,5,[34525],()),
 ([105,112,118,54,95,102,108,97,98,101,108],20,4,true,5,[34525],()),
 ([105,99,109,112,118,54,95,116,121,112,101],8,1,false,10,[58],()),
 ([105,99,109,112,118,54,95,99,111,100,101],8,1,false,10,[58],()),
 ([105,112,118,54,95,110,100,95,116,97,114,103,101,116],128,16,false,29,[135,136],()),
 ([105,112,118,54,95,110,100,95,115,108,108],48,6,false,29,[135],()),
 ([105,112,118,54,95,110,100,95,116,108,108],48,6,false,29,[136],()),
 ([109,112,108,115,95,108,97,98,101,108],20,4,false,5,[34887,34888],()),
 ([109,112,108,115,95,116,99],3,1,false,5,[34887,34888],()),
 ([109,112,108,115,95,98,111,115],1,1,false,5,[34887,34888],()),
 ([112,98,98,95,105,115,105,100],24,3,true,5,[35047],()),
 ([116,117,110,110,101,108,95,105,100],64,8,true,-1,[],()),
 ([105,112,118,54,95,101,120,116,104,100,114],9,2,true,5,[34525],())]
def HO_:IR:=
(sq (kr [] [oD 0 (.mov (.c (.imm (.cons .str (.cons (.int .i64) (.cons (.int .i64) (.cons .bool (.cons (.int .i64) (.cons (.sl (.int .u64)) .nil)))))) [])))])
(sq (kr [] [oD 1 (.buildAll 6 [(0,1,(.c (.str [105,110,95,112,111,114,116]))),(1,1,(cI 32)),(2,1,(cI 4)),(3,1,cF),(4,1,(cI (-1))),(5,1,(.c (.imm (.int .u64) [])))]),
oD 2 (.buildAll 6 [(0,1,(.c (.str [105,110,95,112,104,121,95,112,111,114,116]))),(1,1,(cI 32)),(2,1,(cI 4)),(3,1,cF),(4,1,(cI 0)),(5,1,(.c (.imm (.int .u64) [])))]),
oD 3 (.buildAll 6 [(0,1,(.c (.str [109,101,116,97,100,97,116,97]))),(1,1,(cI 64)),(2,1,(cI 8)),(3,1,cT),(4,1,(cI (-1))),(5,1,(.c (.imm (.int .u64) [])))]),
oD 4 (.buildAll 6 [(0,1,(.c (.str [101,116,104,95,100,115,116]))),(1,1,(cI 48)),(2,1,(cI 6)),(3,1,cT),(4,1,(cI (-1))),(5,1,(.c (.imm (.int .u64) [])))]),
oD 5 (.buildAll 6 [(0,1,(.c (.str [101,116,104,95,115,114,99]))),(1,1,(cI 48)),(2,1,(cI 6)),(3,1,cT),(4,1,(cI (-1))),(5,1,(.c (.imm (.int .u64) [])))]),
oD 6 (.buildAll 6 [(0,1,(.c (.str [101,116,104,95,116,121,112,101]))),(1,1,(cI 16)),(2,1,(cI 2)),(3,1,cF),(4,1,(cI (-1))),(5,1,(.c (.imm (.int .u64) [])))]),
oD 7 (.buildAll 6 [(0,1,(.c (.str [118,108,97,110,95,118,105,100]))),(1,1,(cI 13)),(2,1,(cI 2)),(3,1,cT),(4,1,(cI (-1))),(5,1,(.c (.imm (.int .u64) [])))]),
oD 8 (.buildAll 6 [(0,1,(.c (.str [118,108,97,110,95,112,99,112]))),(1,1,(cI 3)),(2,1,(cI 1)),(3,1,cF),(4,1,(cI 6)),(5,1,(.c (.imm (.int .u64) [])))]),
oD 9 (.sliceAll (.int .u64) 2 [(0,1,(.c (.int .u64 2048))),(1,1,(.c (.int .u64 34525)))]),
oD 10 (.buildAll 6 [(0,1,(.c (.str [105,112,95,100,115,99,112]))),(1,1,(cI 6)),(2,1,(cI 1)),(3,1,cF),(4,1,(cI 5)),(5,1,9)]),
oD 11 (.sliceAll (.int .u64) 2 [(0,1,(.c (.int .u64 2048))),(1,1,(.c (.int .u64 34525)))]),
oD 12 (.buildAll 6 [(0,1,(.c (.str [105,112,95,101,99,110]))),(1,1,(cI 2)),(2,1,(cI 1)),(3,1,cF),(4,1,(cI 5)),(5,1,11)]),
oD 13 (.sliceAll (.int .u64) 2 [(0,1,(.c (.int .u64 2048))),(1,1,(.c (.int .u64 34525)))]),
oD 14 (.buildAll 6 [(0,1,(.c (.str [105,112,95,112,114,111,116,111]))),(1,1,(cI 8)),(2,1,(cI 1)),(3,1,cF),(4,1,(cI 5)),(5,1,13)]),
oD 15 (.sliceAll (.int .u64) 1 [(0,1,(.c (.int .u64 2048)))]),
oD 16 (.buildAll 6 [(0,1,(.c (.str [105,112,118,52,95,115,114,99]))),(1,1,(cI 32)),(2,1,(cI 4)),(3,1,cT),(4,1,(cI 5)),(5,1,15)]),
oD 17 (.sliceAll (.int .u64) 1 [(0,1,(.c (.int .u64 2048)))]),
oD 18 (.buildAll 6 [(0,1,(.c (.str [105,112,118,52,95,100,115,116]))),(1,1,(cI 32)),(2,1,(cI 4)),(3,1,cT),(4,1,(cI 5)),(5,1,17)]),
oD 19 (.sliceAll (.int .u64) 1 [(0,1,(.c (.int .u64 6)))]),
oD 20 (.buildAll 6 [(0,1,(.c (.str [116,99,112,95,115,114,99]))),(1,1,(cI 16)),(2,1,(cI 2)),(3,1,cF),(4,1,(cI 10)),(5,1,19)]),
oD 21 (.sliceAll (.int .u64) 1 [(0,1,(.c (.int .u64 6)))]),
oD 22 (.buildAll 6 [(0,1,(.c (.str [116,99,112,95,100,115,116]))),(1,1,(cI 16)),(2,1,(cI 2)),(3,1,cF),(4,1,(cI 10)),(5,1,21)]),
oD 23 (.sliceAll (.int .u64) 1 [(0,1,(.c (.int .u64 17)))]),
oD 24 (.buildAll 6 [(0,1,(.c (.str [117,100,112,95,115,114,99]))),(1,1,(cI 16)),(2,1,(cI 2)),(3,1,cF),(4,1,(cI 10)),(5,1,23)]),
oD 25 (.sliceAll (.int .u64) 1 [(0,1,(.c (.int .u64 17)))]),
oD 26 (.buildAll 6 [(0,1,(.c (.str [117,100,112,95,100,115,116]))),(1,1,(cI 16)),(2,1,(cI 2)),(3,1,cF),(4,1,(cI 10)),(5,1,25)]),
oD 27 (.sliceAll (.int .u64) 1 [(0,1,(.c (.int .u64 132)))]),
oD 28 (.buildAll 6 [(0,1,(.c (.str [115,99,116,112,95,115,114,99]))),(1,1,(cI 16)),(2,1,(cI 2)),(3,1,cF),(4,1,(cI 10)),(5,1,27)]),
oD 29 (.sliceAll (.int .u64) 1 [(0,1,(.c (.int .u64 132)))]),
oD 30 (.buildAll 6 [(0,1,(.c (.str [115,99,116,112,95,100,115,116]))),(1,1,(cI 16)),(2,1,(cI 2)),(3,1,cF),(4,1,(cI 10)),(5,1,29)]),
oD 31 (.sliceAll (.int .u64) 1 [(0,1,(.c (.int .u64 1)))]),
oD 32 (.buildAll 6 [(0,1,(.c (.str [105,99,109,112,118,52,95,116,121,112,101]))),(1,1,(cI 8)),(2,1,(cI 1)),(3,1,cF),(4,1,(cI 10)),(5,1,31)]),
oD 33 (.sliceAll (.int .u64) 1 [(0,1,(.c (.int .u64 1)))]),
oD 34 (.buildAll 6 [(0,1,(.c (.str [105,99,109,112,118,52,95,99,111,100,101]))),(1,1,(cI 8)),(2,1,(cI 1)),(3,1,cF),(4,1,(cI 10)),(5,1,33)]),
oD 35 (.sliceAll (.int .u64) 1 [(0,1,(.c (.int .u64 2054)))]),
oD 36 (.buildAll 6 [(0,1,(.c (.str [97,114,112,95,111,112]))),(1,1,(cI 16)),(2,1,(cI 2)),(3,1,cF),(4,1,(cI 5)),(5,1,35)]),
oD 37 (.sliceAll (.int .u64) 1 [(0,1,(.c (.int .u64 2054)))]),
oD 38 (.buildAll 6 [(0,1,(.c (.str [97,114,112,95,115,112,97]))),(1,1,(cI 32)),(2,1,(cI 4)),(3,1,cT),(4,1,(cI 5)),(5,1,37)]),
oD 39 (.sliceAll (.int .u64) 1 [(0,1,(.c (.int .u64 2054)))]),
oD 40 (.buildAll 6 [(0,1,(.c (.str [97,114,112,95,116,112,97]))),(1,1,(cI 32)),(2,1,(cI 4)),(3,1,cT),(4,1,(cI 5)),(5,1,39)]),
oD 41 (.sliceAll (.int .u64) 1 [(0,1,(.c (.int .u64 2054)))]),
oD 42 (.buildAll 6 [(0,1,(.c (.str [97,114,112,95,115,104,97]))),(1,1,(cI 48)),(2,1,(cI 6)),(3,1,cT),(4,1,(cI 5)),(5,1,41)]),
oD 43 (.sliceAll (.int .u64) 1 [(0,1,(.c (.int .u64 2054)))]),
oD 44 (.buildAll 6 [(0,1,(.c (.str [97,114,112,95,116,104,97]))),(1,1,(cI 48)),(2,1,(cI 6)),(3,1,cT),(4,1,(cI 5)),(5,1,43)]),
oD 45 (.sliceAll (.int .u64) 1 [(0,1,(.c (.int .u64 34525)))]),
oD 46 (.buildAll 6 [(0,1,(.c (.str [105,112,118,54,95,115,114,99]))),(1,1,(cI 128)),(2,1,(cI 16)),(3,1,cT),(4,1,(cI 5)),(5,1,45)]),
oD 47 (.sliceAll (.int .u64) 1 [(0,1,(.c (.int .u64 34525)))]),
oD 48 (.buildAll 6 [(0,1,(.c (.str [105,112,118,54,95,100,115,116]))),(1,1,(cI 128)),(2,1,(cI 16)),(3,1,cT),(4,1,(cI 5)),(5,1,47)]),
oD 49 (.sliceAll (.int .u64) 1 [(0,1,(.c (.int .u64 34525)))]),
oD 50 (.buildAll 6 [(0,1,(.c (.str [105,112,118,54,95,102,108,97,98,101,108]))),(1,1,(cI 20)),(2,1,(cI 4)),(3,1,cT),(4,1,(cI 5)),(5,1,49)]),
oD 51 (.sliceAll (.int .u64) 1 [(0,1,(.c (.int .u64 58)))]),
oD 52 (.buildAll 6 [(0,1,(.c (.str [105,99,109,112,118,54,95,116,121,112,101]))),(1,1,(cI 8)),(2,1,(cI 1)),(3,1,cF),(4,1,(cI 10)),(5,1,51)]),
oD 53 (.sliceAll (.int .u64) 1 [(0,1,(.c (.int .u64 58)))]),
oD 54 (.buildAll 6 [(0,1,(.c (.str [105,99,109,112,118,54,95,99,111,100,101]))),(1,1,(cI 8)),(2,1,(cI 1)),(3,1,cF),(4,1,(cI 10)),(5,1,53)]),
oD 55 (.sliceAll (.int .u64) 2 [(0,1,(.c (.int .u64 135))),(1,1,(.c (.int .u64 136)))]),
oD 56 (.buildAll 6 [(0,1,(.c (.str [105,112,118,54,95,110,100,95,116,97,114,103,101,116]))),(1,1,(cI 128)),(2,1,(cI 16)),(3,1,cF),(4,1,(cI 29)),(5,1,55)]),
oD 57 (.sliceAll (.int .u64) 1 [(0,1,(.c (.int .u64 135)))]),
oD 58 (.buildAll 6 [(0,1,(.c (.str [105,112,118,54,95,110,100,95,115,108,108]))),(1,1,(cI 48)),(2,1,(cI 6)),(3,1,cF),(4,1,(cI 29)),(5,1,57)]),
oD 59 (.sliceAll (.int .u64) 1 [(0,1,(.c (.int .u64 136)))]),
oD 60 (.buildAll 6 [(0,1,(.c (.str [105,112,118,54,95,110,100,95,116,108,108]))),(1,1,(cI 48)),(2,1,(cI 6)),(3,1,cF),(4,1,(cI 29)),(5,1,59)]),
oD 61 (.sliceAll (.int .u64) 2 [(0,1,(.c (.int .u64 34887))),(1,1,(.c (.int .u64 34888)))]),
oD 62 (.buildAll 6 [(0,1,(.c (.str [109,112,108,115,95,108,97,98,101,108]))),(1,1,(cI 20)),(2,1,(cI 4)),(3,1,cF),(4,1,(cI 5)),(5,1,61)]),
oD 63 (.sliceAll (.int .u64) 2 [(0,1,(.c (.int .u64 34887))),(1,1,(.c (.int .u64 34888)))]),
oD 64 (.buildAll 6 [(0,1,(.c (.str [109,112,108,115,95,116,99]))),(1,1,(cI 3)),(2,1,(cI 1)),(3,1,cF),(4,1,(cI 5)),(5,1,63)]),
oD 65 (.sliceAll (.int .u64) 2 [(0,1,(.c (.int .u64 34887))),(1,1,(.c (.int .u64 34888)))]),
oD 66 (.buildAll 6 [(0,1,(.c (.str [109,112,108,115,95,98,111,115]))),(1,1,(cI 1)),(2,1,(cI 1)),(3,1,cF),(4,1,(cI 5)),(5,1,65)]),
oD 67 (.sliceAll (.int .u64) 1 [(0,1,(.c (.int .u64 35047)))]),
oD 68 (.buildAll 6 [(0,1,(.c (.str [112,98,98,95,105,115,105,100]))),(1,1,(cI 24)),(2,1,(cI 3)),(3,1,cT),(4,1,(cI 5)),(5,1,67)]),
oD 69 (.buildAll 6 [(0,1,(.c (.str [116,117,110,110,101,108,95,105,100]))),(1,1,(cI 64)),(2,1,(cI 8)),(3,1,cT),(4,1,(cI (-1))),(5,1,(.c (.imm (.int .u64) [])))]),
oD 70 (.sliceAll (.int .u64) 1 [(0,1,(.c (.int .u64 34525)))]),
oD 71 (.buildAll 6 [(0,1,(.c (.str [105,112,118,54,95,101,120,116,104,100,114]))),(1,1,(cI 9)),(2,1,(cI 2)),(3,1,cT),(4,1,(cI 5)),(5,1,70)]),
oD 72 (.sliceAll (.cons .str (.cons (.int .i64) (.cons (.int .i64) (.cons .bool (.cons (.int .i64) (.cons (.sl (.int .u64)) .nil)))))) 40 [(0,6,1),(6,6,2),(12,6,3),(18,6,4),(24,6,5),(30,6,6),(36,6,7),(42,6,8),(48,6,10),(54,6,12),(60,6,14),(66,6,16),(72,6,18),(78,6,20),(84,6,22),(90,6,24),(96,6,26),(102,6,28),(108,6,30),(114,6,32),(120,6,34),(126,6,36),(132,6,38),(138,6,40),(144,6,42),(150,6,44),(156,6,46),(162,6,48),(168,6,50),(174,6,52),(180,6,54),(186,6,56),(192,6,58),(198,6,60),(204,6,62),(210,6,64),(216,6,66),(222,6,68),(228,6,69),(234,6,71)]),
oM 0 72])
.ret))
def Hb_:List RD:=[.tmp 0 true (some (.cons .str (.cons (.int .i64) (.cons (.int .i64) (.cons .bool (.cons (.int .i64) (.cons (.sl (.int .u64)) .nil)))))))]
theorem Hr_:zn_ Tryz.prog Tryz.f131 HO_ Hb_=true:=by kernel_rfl
def Xs_:List AV->List Obj->Option (Prop × AV)
 | [],[]=>some (True,.imm gb_ tab)
 | _,_=>none
theorem gL_:ze_ Tryz.prog 131 (RoF Xs_).sum:=by
 refine zm_ Tryz.func131 Hr_ (zd_ _) fun args objs p v e=>?_
 unfold Xs_ at e
 split at e
 ·cases e
  refine ⟨rfl,fun hw _ hp=>?_⟩
  repeat'(intro t ht;first|(cases t<;>first|(cases ht;done)|(try simp only[zh_]at ht))|((first|refine za_ ht ?_|refine ht ?_ ?_|refine ht.1 ?_ ?_|refine ht ?_)<;>clear ht))
  exact ⟨rfl,rfl⟩
 ·cases e
def b5_ (n:Int):gb_.den:=tab.getD n.toNat gb_.dflt
def GF_ (n:Int):List Int:=if fIs n then (b5_ n).1 else []
def qJ_ (n:Int):Int:=if fIs n then (b5_ n).2.1 else 0
def Zb_ (n:Int):Int:=if fIs n then (b5_ n).2.2.1 else 0
def jG_ (n:Int):Bool:=if fIs n then (b5_ n).2.2.2.1 else false
def GE_ (n:Int):Int:=if fIs n then (b5_ n).2.2.2.2.1 else 0
def gz_ (n:Int):List Int:=if fIs n then (b5_ n).2.2.2.2.2.1 else []
abbrev ofR (n:Int):AV:=.tup [.agg [.str (GF_ n),.int .i64 (qJ_ n),.int .i64 (Zb_ n),.bool (jG_ n),.int .i64 (GE_ n),.imm (.int .u64) (gz_ n)],.bool (fIs n)]
theorem tabL:tab.length=40:=rfl
def Bw_:IR:=
(sq (kr [0] [oD 2 (.box [.str [],.int .i64 0,.int .i64 0,.kb false,.int .i64 0,.imm (.int .u64) []]),
oD 3 (.mov cF)])
(sq (.reg [oC 5 131 [],
oM 4 5])
(sq (sq (kr [0,2,4] [oM 6 0,
oB 7 .lss 6 (cI 0),
oM 8 7,
oF 8 9 (.mov 0),
oF 8 10 (.mov 4),
oF 8 11 (.len 10),
oF 8 12 (.bin .geq 9 11),
oP 13 8 cT 12])
(.cond 13
(sq (kr [2] [oD 14 (.build [.str [],.int .i64 0,.int .i64 0,.kb false,.int .i64 0,.imm (.int .u64) []] []),
oS 6 2 14,
oD 3 (.mov cF)])
.ret)
.skip))
(sq (kr [0,2,4] [oM 15 4,
oM 16 0,
oI 17 6 15 16,
oK 18 6 17,
oS 6 2 18,
oD 3 (.mov cT)])
.ret))))
def Bd_:List RD:=[.cell 2 (some 6) true [],.tmp 3 true none]
theorem Bk_:zn_ Tryz.prog Tryz.f109 Bw_ Bd_=true:=by kernel_rfl
def KI_:List AV->List Obj->Option (Prop × AV)
 | [.int .i64 n],[]=>some ((True,ofR n))
 | _,_=>none
theorem KQ_:ze_ Tryz.prog 109 (RoF KI_).sum:=by
 refine zm_ Tryz.func109 Bk_ (zb_ (s:=RoF Xs_) gL_ (zd_ _)) fun args objs p v e=>?_
 unfold KI_ at e
 split at e
 ·rename_i n
  cases e
  refine ⟨rfl,fun hw ho hp=>?_⟩
  repeat'(intro t ht;first|(cases t<;>first|(cases ht;done)|(try simp only[zh_]at ht))|((first|refine za_ ht ?_|refine ht ?_ ?_|refine ht.1 ?_ ?_|refine ht ?_)<;>clear ht))
  all_goals first
   | trivial
   | ((try simp only [zk_,zl_,zi_] at*);rw [tabL] at*;omega)
   | (refine ⟨?_,rfl⟩
      first
       | (have hn:fIs n=true:=Z7_.2 (by (try simp only [zk_,zl_,zi_] at*);rw [tabL] at*;omega)
          unfold ofR GF_ qJ_ Zb_ jG_ GE_ gz_;rw [hn];rfl)
       | (have hn:fIs n=false:=k8_.2 (by (try simp only [zk_,zl_,zi_] at*);rw [tabL] at*;omega)
          unfold ofR GF_ qJ_ Zb_ jG_ GE_ gz_;rw [hn];rfl)
       | (have hn:fIs n=false:=k8_.2 (by (try simp only [zk_,zl_,zi_] at*);omega)
          unfold ofR GF_ qJ_ Zb_ jG_ GE_ gz_;rw [hn];rfl))
 ·cases e
def z4_ (s:Int):List Int->Bool
 | []=>true
 | b :: r=>if b.fdiv (2 ^ (min (8 - (if 8 < s then 8 else s)).toNat 8))=0 then z4_ (s - (if 8 < s then 8 else s)) r else false
theorem XE_ {s:Int} {v:List Int} {i:Nat} (h:i < v.length):z4_ s (v.drop i)=if (v.getD i 0).fdiv (2 ^ (min (8 - (if 8 < s then 8 else s)).toNat 8))=0 then z4_ (s - (if 8 < s then 8 else s)) (v.drop (i+1)) else false:=by
 rw [List.drop_eq_getElem_cons h,List.getD_eq_getElem?_getD,List.getElem?_eq_getElem h]
 rfl
theorem hS_ {s:Int} {v:List Int} {i:Nat} (h:v.length<=i):z4_ s (v.drop i)=true:=by
 rw [List.drop_of_length_le h];rfl
def kS_ (n:Int) (v:List Int):Bool:=if (0<=n/\n < 40)/\(v.length:Int)=kO_ n then z4_ (8*kO_ n - kq_.getD n.toNat 0) v else false
theorem uX_:∀ k < 40,1<=kO_ (k:Nat)/\kO_ (k:Nat)<=16/\0<=8*kO_ (k:Nat) - kq_.getD k 0/\8*kO_ (k:Nat) - kq_.getD k 0<=12:=by decide
def Vw_:IR:=
(sq (kr [0,1] [oD 4 (.mov cF)])
(sq (sq (kr [0,1] [oM 9 0,
oC 10 136 [9],
oD 11 (.un .not 10),
oM 12 11,
oF 12 13 (.mov 1),
oF 12 14 (.len 13),
oF 12 15 (.mov 0),
oF 12 16 (.call false (.f 154) [15]),
oF 12 17 (.bin .neq 14 16),
oP 18 12 cT 17])
(.cond 18
(sq (kr [] [oD 4 (.mov cF)])
.ret)
.skip))
(sq (kr [0,1] [oM 19 0,
oC 20 154 [19],
oB 21 .mul (cI 8) 20,
oM 22 0,
oC 23 153 [22],
oB 24 .sub 21 23,
oM 5 24])
(sq (sq (kr [1,5] [oM 25 1,
oE 26 25,
oD 27 (.mov (cI 0))])
(.block 0
(.loop
(sq (kr [5,25,26,27] [oB 28 .lss 27 26])
(sq (.cond 28
.skip
(.exit 0))
(sq (.block 1
(sq (.reg [oI 29 1 25 27,
oL 30 29,
oM 7 30])
(sq (.reg [oM 31 5,
oD 32 (.minmax false 31 (cI 8)),
oM 8 32])
(sq (sq (kr [5,7,8,25,26,27] [oM 33 7,
oM 34 8,
oB 35 .sub (cI 8) 34,
oB 36 .shr 33 35,
oB 37 .neq 36 (.c (.int .u8 0))])
(.cond 37
(sq (.reg [oD 4 (.mov cF)])
.ret)
.skip))
(kr [5,8,25,26,27] [oM 38 5,
oM 39 8,
oB 40 .sub 38 39,
oM 5 40])))))
(kr [5,25,26,27] [oB 41 .add 27 (cI 1),
oM 27 41])))))))
(sq (kr [] [oD 4 (.mov cT)])
.ret)))))
def vU_:List RD:=[.tmp 4 true none]
theorem Vd_:zn_ Tryz.prog Tryz.f138 Vw_ vU_=true:=by kernel_rfl
def jy_:List AV->List Obj->Option (Prop × AV)
 | [.int .i64 n,.imm (.int .u8) v],[]=>some (True,.bool (kS_ n v))
 | _,_=>none
theorem yW_:ze_ Tryz.prog 138 (RoF jy_).sum:=by
 refine zm_ Tryz.func138 Vd_ (zb_ (s:=RoF kY_) KR_ (zb_ (s:=RoF kC_) Jo_ (zb_ (s:=RoF Qo_) kK_ (zd_ _)))) fun args objs p v e=>?_
 unfold jy_ at e
 split at e
 ·rename_i n v
  cases e
  refine ⟨rfl,fun hw _ hp=>?_⟩
  have hl:v.length<=maxLen:=(hw (.imm (.int .u8) v) (by simp)).2
  unfold maxLen at hl
  repeat'(intro t ht;first|(cases t<;>first|(cases ht;done)|(try simp only[zh_]at ht))|((first|refine za_ ht ?_|refine ht ?_ ?_|refine ht.1 ?_ ?_|refine ht ?_)<;>clear ht))
  all_goals first
   | trivial
   | (intro r h1 h2;(try simp only [Z7_,k8_,zk_,zl_,zi_] at*)
      have hsz:=uX_ n.toNat (by omega)
      rw [Int.toNat_of_nonneg (by omega)] at hsz
      refine h2 ⟨[25,26,27,5],Nat × Int,(fun p=>p.1<=v.length/\0<=p.2/\p.2<=12/\z4_ (8*kO_ n - kq_.getD n.toNat 0) v=z4_ p.2 (v.drop p.1)),
       fun a=>[.imm (.int .u8) v,.int .i64 v.length,.int .i64 a.1,.int .i64 a.2],fun _=>[],fun a=>v.length - a.1,⟨(0,8*kO_ n - kq_.getD n.toNat 0),⟨Nat.zero_le _,hsz.2.2.1,hsz.2.2.2,rfl⟩,rfl,rfl⟩,?_⟩
      clear h1 h2)
   | ((try simp only [Z7_,k8_,zk_,zl_,zi_] at*);omega)
   | ((try simp only [Z7_,k8_,zk_,zl_,zi_] at*);have hsz:=uX_ n.toNat (by omega)
      rw [Int.toNat_of_nonneg (by omega)] at hsz
      have hb:=go_ n.toNat (by omega)
      omega)
   | (refine ⟨?_,rfl⟩;(try simp only [Z7_,k8_,zk_,zl_,zi_] at*);unfold kS_;rw [if_neg (by omega)])
  rintro ⟨i,s⟩ ⟨hi,hs0,hs1,he⟩
  dsimp only at hi hs0 hs1 he
  repeat'(intro t ht;first|(cases t<;>first|(cases ht;done)|(try simp only[zh_]at ht))|((first|refine za_ ht ?_|refine ht ?_ ?_|refine ht.1 ?_ ?_|refine ht ?_)<;>clear ht))
  all_goals have hk:0<=(if (8:Int) < s then 8 else s)/\(if (8:Int) < s then 8 else s)<=8/\(if (8:Int) < s then 8 else s)<=s:=by split<;>omega
  all_goals have hv:(0<=n/\n < 40)/\(v.length:Int)=kO_ n:=⟨by omega,by omega⟩
  all_goals first
   | (refine ⟨?_,rfl⟩;unfold kS_;rw [if_pos hv,he];(try simp only [Z7_,k8_,zk_,zl_,zi_] at*);rw [hS_ (by omega)];done)
   | (refine ⟨?_,rfl⟩;unfold kS_;rw [if_pos hv,he];(try simp only [Z7_,k8_,zk_,zl_,zi_] at*);rw [XE_ (by omega),if_neg (by assumption)];done)
   | ((try simp only [Z7_,k8_,zk_,zl_,zi_] at*);omega)
   | ((try simp only [Z7_,k8_,zk_,zl_,zi_] at*);generalize (if (8:Int) < s then 8 else s)=k at*;omega)
   | (have hlt:i < v.length:=by ((try simp only [Z7_,k8_,zk_,zl_,zi_] at*);omega)
      refine ⟨(i+1,s - (if (8:Int) < s then 8 else s)),⟨hlt,by dsimp only;omega,by dsimp only;omega,by (try simp only [Z7_,k8_,zk_,zl_,zi_] at*);rw [he,XE_ hlt,if_pos (by assumption)]⟩,by dsimp only;omega,rfl,rfl⟩)
 ·cases e
def Km_ (v:List Int) (z:Int):Nat->Int->Bool
 | 0,_=>true
 | f+1,i=>if Zu_ .and .u8 ((v.getD (z - 1 - i.tdiv 8).toNat 0).fdiv (2 ^ (min (i.tmod 8).toNat 8))) 1=1 then false else Km_ v z f (i+1)
theorem h0_ {v:List Int} {z i:Int} {f:Nat} (h:Zu_ .and .u8 ((v.getD (z - 1 - i.tdiv 8).toNat 0).fdiv (2 ^ (min (i.tmod 8).toNat 8))) 1=1):Km_ v z (f+1) i=false:=if_pos h
theorem h1_ {v:List Int} {z i:Int} {f:Nat} (h:¬ Zu_ .and .u8 ((v.getD (z - 1 - i.tdiv 8).toNat 0).fdiv (2 ^ (min (i.tmod 8).toNat 8))) 1=1):Km_ v z (f+1) i=Km_ v z f (i+1):=if_neg h
def Z5_ (n:Int) (v:List Int):Bool:=if fIs n=true/\(v.length:Int)=Zb_ n then Km_ v (Zb_ n) (8*Zb_ n - qJ_ n).toNat (qJ_ n) else false
theorem hN_:∀ k < 40,1<=Zb_ (k:Nat)/\Zb_ (k:Nat)<=16/\1<=qJ_ (k:Nat)/\qJ_ (k:Nat)<=8*Zb_ (k:Nat):=by decide
def GU_:IR:=
(sq (kr [0,1] [oD 4 (.mov cF)])
(sq (kr [0,1] [oM 9 0,
oC 10 109 [9],
oM 8 10,
oX 11 8 0,
oX 12 8 1,
oD 5 (.box [.str [],.int .i64 0,.int .i64 0,.kb false,.int .i64 0,.imm (.int .u64) []]),
oS 6 5 11,
oM 6 12])
(sq (sq (kr [1,5,6] [oM 13 6,
oD 14 (.un .not 13),
oM 15 14,
oF 15 16 (.mov 1),
oF 15 17 (.len 16),
oF 15 18 (.fieldAddr 2 5),
oF 15 19 (.load none 18),
oF 15 20 (.bin .neq 17 19),
oP 21 15 cT 20])
(.cond 21
(sq (kr [] [oD 4 (.mov cF)])
.ret)
.skip))
(sq (sq (kr [1,5] [oA 22 1 5,
oL 23 22,
oM 7 23])
(.block 0
(.loop
(sq (sq (kr [1,5,7] [oM 24 7,
oA 25 2 5,
oL 26 25,
oB 27 .mul (cI 8) 26,
oB 28 .lss 24 27])
(.cond 28
.skip
(.exit 0)))
(sq (.block 1
(sq (kr [1,5,7] [oM 31 1,
oA 32 2 5,
oL 33 32,
oB 34 .sub 33 (cI 1),
oM 35 7,
oB 36 .quo 35 (cI 8),
oB 37 .sub 34 36,
oI 38 1 31 37,
oL 39 38,
oM 40 7,
oB 41 .rem 40 (cI 8),
oB 42 .shr 39 41,
oB 43 .and 42 (.c (.int .u8 1)),
oB 44 .eql 43 (.c (.int .u8 1))])
(.cond 44
(sq (kr [] [oD 4 (.mov cF)])
.ret)
.skip)))
(kr [1,5,7] [oM 29 7,
oB 30 .add 29 (cI 1),
oM 7 30]))))))
(sq (kr [] [oD 4 (.mov cT)])
.ret)))))
def g1_:List RD:=[.tmp 4 true none]
theorem Gn_:zn_ Tryz.prog Tryz.f132 GU_ g1_=true:=by kernel_rfl
def WA_:List AV->List Obj->Option (Prop × AV)
 | [.int .i64 n,.imm (.int .u8) v],[]=>some ((True,.bool (Z5_ n v)))
 | _,_=>none
theorem uO_:ze_ Tryz.prog 132 (RoF WA_).sum:=by
 refine zm_ Tryz.func132 Gn_ (zb_ (s:=RoF KI_) KQ_ (zd_ _)) fun args objs p v e=>?_
 unfold WA_ at e
 split at e
 ·rename_i n v
  cases e
  refine ⟨rfl,fun hw ho hp=>?_⟩
  change List Int at v
  have hl:v.length<=maxLen:=(hw (.imm (.int .u8) v) (by simp)).2
  unfold maxLen at hl
  repeat'(intro t ht;first|(cases t<;>first|(cases ht;done)|(try simp only[zh_]at ht))|((first|refine za_ ht ?_|refine ht ?_ ?_|refine ht.1 ?_ ?_|refine ht ?_)<;>clear ht))
  all_goals first
   | trivial
   | (refine ⟨?_,rfl⟩;unfold Z5_;rw [if_neg (fun h=>by (try simp only [zk_,zl_,zi_] at*);simp_all;done)])
   | (have hn:fIs n=true:=by assumption
      have hr:=Z7_.1 hn
      have hsz:=hN_ n.toNat (by omega)
      rw [Int.toNat_of_nonneg (by omega)] at hsz
      obtain ⟨F,hF⟩:∃ F,F=(8*(Zb_ n) - (qJ_ n)).toNat:=⟨_,rfl⟩
      intro r h1 h2
      refine h2 ⟨[1,5,7],Nat × Int,(fun p=>p.1<=F/\p.2=(qJ_ n)+p.1/\Km_ v (Zb_ n) F (qJ_ n)=Km_ v (Zb_ n) (F - p.1) p.2),
       fun a=>[.imm (.int .u8) v,.ptr 0 0,.int .i64 a.2],fun _=>[.box [.str (GF_ n),.int .i64 (qJ_ n),.int .i64 (Zb_ n),.bool (jG_ n),.int .i64 (GE_ n),.imm (.int .u64) (gz_ n)]],fun a=>F - a.1,⟨(0,(qJ_ n)),⟨Nat.zero_le _,by simp,rfl⟩,rfl,rfl⟩,?_⟩
      clear h1 h2)
  rintro ⟨i,s⟩ ⟨hi,hs,he⟩
  dsimp only at hi hs he
  repeat'(intro t ht;first|(cases t<;>first|(cases ht;done)|(try simp only[zh_]at ht))|((first|refine za_ ht ?_|refine ht ?_ ?_|refine ht.1 ?_ ?_|refine ht ?_)<;>clear ht))
  all_goals have htd:s.tdiv 8=s / 8:=Zw_ (by omega)
  all_goals have htm:s.tmod 8=s % 8:=Qa_ (by omega)
  all_goals have hv:fIs n=true/\(v.length:Int)=(Zb_ n):=⟨hn,by (try simp only [zk_,zl_,zi_] at*);omega⟩
  all_goals first
   | exact (by decide)
   | (refine ⟨?_,rfl⟩;unfold Z5_;rw [if_pos hv,<- hF,he];(try simp only [zk_,zl_,zi_] at*);rw [show F - i=0 by omega];rfl)
   | (refine ⟨?_,rfl⟩;unfold Z5_;rw [if_pos hv,<- hF,he];(try simp only [zk_,zl_,zi_] at*);rw [show F - i=(F - i - 1)+1 by omega,h0_ (by assumption)])
   | ((try simp only [zk_,zl_,zi_] at*);omega)
   | ((try simp only [zk_,zl_,zi_] at*);simp only [htd,htm];omega)
   | (have hlt:s < 8*(Zb_ n):=by ((try simp only [zk_,zl_,zi_] at*);omega)
      refine ⟨(i+1,s+1),⟨by dsimp only;omega,by dsimp only;omega,by (try simp only [zk_,zl_,zi_] at*);rw [he,show F - i=(F - (i+1))+1 by omega,h1_ (by assumption)]⟩,by dsimp only;omega,rfl,rfl⟩)
 ·cases e
def zdm_ (n:Int):List Int:=if 0<=n/\n < 40 then (if (qV_ n).1=-1 then [] else if (qV_ (qV_ n).1).1=-1 then [(qV_ n).1] else if (qV_ (qV_ (qV_ n).1).1).1=-1 then [(qV_ (qV_ n).1).1,(qV_ n).1] else [(qV_ (qV_ (qV_ n).1).1).1,(qV_ (qV_ n).1).1,(qV_ n).1]) else []
theorem c1:zdm_ 31=[5,10,29]:=by decide
theorem c2:zcX_ [105,112,118,54,95,110,100,95,116,108,108]=33/\zcY_ [105,112,118,54,95,110,100,95,116,108,108]=true:=by
 have h:idxF UK_ [105,112,118,54,95,110,100,95,116,108,108] 0=33:=by decide+kernel
 unfold zcX_ zcY_;rw [h];exact ⟨rfl,rfl⟩
theorem c3:fIs 33=true/\zbb_ 33=29/\zba_ 33=[136]:=by decide
theorem c4:kS_ 7 [8]=false:=by decide
theorem yL_:∀ v:List Int,(∀ b ∈ v,0<=b/\b<=255)->z4_ 0 v=true
 | [],_=>rfl
 | b :: r,h=>by
   unfold z4_
   have hb:=h b (by simp)
   rw [if_pos (by show b.fdiv (2 ^ 8)=0;rw [Int.fdiv_eq_ediv_of_nonneg _ (by decide)];omega)]
   exact yL_ r fun x hx=>h x (by simp [hx])
theorem gU_ (v:List Int) (z:Int):∀ (f g:Nat) (i:Int),Km_ v z (f+g) i=(Km_ v z f i && Km_ v z g (i+f))
 | 0,g,i=>by simp [Km_]
 | f+1,g,i=>by
   rw [show f+1+g=(f+g)+1 by omega]
   by_cases h:Zu_ .and .u8 ((v.getD (z - 1 - i.tdiv 8).toNat 0).fdiv (2 ^ (min (i.tmod 8).toNat 8))) 1=1
   ·rw [h0_ h,h0_ h];rfl
   ·rw [h1_ h,h1_ h,gU_ v z f g (i+1),show i+1+(f:Int)=i+((f+1:Nat):Int) by omega]
theorem zbP_:∀ s ≤ 8,∀ b < 256,z4_ (s:Nat) [((b:Nat):Int)]=Km_ [((b:Nat):Int)] 1 s ((8:Int) - (s:Nat)):=by decide+kernel
theorem uH_ {s:Nat} {b:Int} (hs:s<=8) (h:0<=b/\b<=255):z4_ s [b]=Km_ [b] 1 s (8 - s):=by
 have:=zbP_ s hs b.toNat (by omega)
 rw [Int.toNat_of_nonneg h.1] at this;exact this
theorem VS_ {s:Int} {b:Int} {r:List Int} (h:s<=8) (hr:∀ x ∈ r,0<=x/\x<=255):z4_ s (b :: r)=z4_ s [b]:=by
 unfold z4_
 rw [if_neg (by omega:¬ 8 < s),Int.sub_self,yL_ r hr]
 rfl
theorem two {b0 b1 b2 b3:Int} {v:List Int} (e:v=[b0,b1,b2,b3]) (hv:∀ b ∈ v,0<=b/\b<=255):z4_ 12 v=Km_ v 4 12 20:=by
 subst e
 have h0:=uH_ (s:=8) (Nat.le_refl _) (hv b0 (by simp))
 have h1:=uH_ (s:=4) (by omega) (hv b1 (by simp))
 have hr:=gU_ [b0,b1,b2,b3] 4 4 8 20
 have e1:Km_ [b0,b1,b2,b3] 4 4 20=Km_ [b1] 1 4 (8 - (4:Nat)):=rfl
 have e2:Km_ [b0,b1,b2,b3] 4 8 (20+(4:Nat))=Km_ [b0] 1 8 (8 - (8:Nat)):=rfl
 have hc:z4_ 4 (b1 :: [b2,b3])=z4_ 4 [b1]:=VS_ (by omega) fun x hx=>hv x (by simp at hx ⊢;omega)
 rw [show (12:Nat)=4+8 from rfl,hr,e1,e2,<- h0,<- h1]
 show (if b0.fdiv (2 ^ (min (8 - (8:Int)).toNat 8))=0 then z4_ 4 [b1,b2,b3] else false)=(z4_ 4 [b1] && (if b0.fdiv (2 ^ (min (8 - (8:Int)).toNat 8))=0 then true else false))
 rw [hc]
 split<;>simp
theorem za8_:∀ k < 40,fIs (k:Nat)=true/\kO_ (k:Nat)=Zb_ (k:Nat)/\kq_.getD k 0=qJ_ (k:Nat)/\(8*Zb_ (k:Nat) - qJ_ (k:Nat)=0\/k=6\/k=7\/k=8\/k=9\/k=28\/k=34\/k=35\/k=36\/k=39):=by decide
theorem hi_ {n:Int} {v:List Int} (hv:∀ b ∈ v,0<=b/\b<=255):kS_ n v=Z5_ n v:=by
 by_cases hn:0<=n/\n < 40
 ·obtain ⟨k,rfl⟩:∃ k:Nat,n=k:=⟨n.toNat,by omega⟩
  obtain ⟨h0,h1,h2,h3⟩:=za8_ k (by omega)
  unfold kS_ Z5_
  rw [h1]
  by_cases hl:(v.length:Int)=Zb_ k
  ·rw [if_pos ⟨hn,hl⟩,if_pos ⟨h0,hl⟩,Int.toNat_natCast,h2]
   have one:∀ {s:Nat} {f:Nat} {i z:Int} {b:Int} {r:List Int},v=b :: r->s<=8->f=s->(Km_ v z f i=Km_ [b] 1 s (8 - s))->z4_ s v=Km_ v z f i:=fun {s f i z b r} e hs _ hr=>by
    rw [hr,<- uH_ hs (hv b (by rw [e];simp)),e]
    exact VS_ (by omega) fun x hx=>hv x (by rw [e];simp [hx])
   rcases h3 with h3 | rfl | rfl | rfl | rfl | rfl | rfl | rfl | rfl | rfl
   ·rw [h3,yL_ v hv];rfl
   ·match v,hl with
    | [b0,b1],_=>exact one (s:=3) rfl (by omega) rfl rfl
   ·match v,hl with
    | [b0],_=>exact one (s:=5) rfl (by omega) rfl rfl
   ·match v,hl with
    | [b0],_=>exact one (s:=2) rfl (by omega) rfl rfl
   ·match v,hl with
    | [b0],_=>exact one (s:=6) rfl (by omega) rfl rfl
   ·match v,hl with
    | [b0,b1,b2,b3],_=>exact two rfl hv
   ·match v,hl with
    | [b0,b1,b2,b3],_=>exact two rfl hv
   ·match v,hl with
    | [b0],_=>exact one (s:=5) rfl (by omega) rfl rfl
   ·match v,hl with
    | [b0],_=>exact one (s:=7) rfl (by omega) rfl rfl
   ·match v,hl with
    | [b0,b1],_=>exact one (s:=7) rfl (by omega) rfl rfl
  ·rw [if_neg (fun h=>hl h.2),if_neg (fun h=>hl h.2)]
 ·unfold kS_ Z5_
  rw [if_neg (fun h=>hn h.1),if_neg (fun h=>hn (Z7_.1 h.1))]
end Go.Eng
