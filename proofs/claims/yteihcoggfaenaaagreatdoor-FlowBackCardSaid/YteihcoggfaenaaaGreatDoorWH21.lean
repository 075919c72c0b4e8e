/- Parts of the proof: Y1, Y2, Y3, Y4, Y5, YA, Y8. No condition. -/
import Derived.Test.YteihcoggfaenaaaGreatDoorProg
import Derived.Test.YteihcoggfaenaaaGreatDoorWH10
import Derived.KernelRfl
import Derived.Test.YteihcoggfaenaaaGreatDoorWH19
import Derived.Test.YteihcoggfaenaaaGreatDoorWH20
namespace Go.Eng
open Go.Proofs
set_option linter.unusedVariables false
set_option linter.unusedSimpArgs false
set_option maxRecDepth 100000
set_option maxHeartbeats 1000000
def insO (x:List VIn):Option (List Int):=if rgI x=true then some (boI x) else none
theorem zfq_ (room:Int) (x:List VIn):WrOk room (fun l e=>(ipB l room e x,ipE l room e x)) (insO x):=by
 have f0:∀ e:Int,zt_ e 0=e:=by intro e;unfold zt_;split<;>omega
 unfold insO ipB ipE
 cases hr:rgI x with
 | false=>
   have e1:ieE x=10001:=by unfold ieE;rw [hr];rfl
   rw [if_neg (by decide),e1]
   refine ⟨fun y h=>(by cases h),fun y h=>(by cases h),fun _ l=>?_,fun l e h=>?_⟩
   ·show QS_ (ieL x) l room (zt_ 0 10001) ≠ 0;exact Ky_ (by decide)
   ·show QS_ (ieL x) l room (zt_ e 10001) ≠ 0;exact Ky_ (QI_ h)
 | true=>
   have e1:ieE x=0:=by unfold ieE;rw [hr];rfl
   have e2:ieL x=boI x:=by unfold ieL;rw [hr];rfl
   have h:=up_ room (boI x)
   rw [if_pos rfl,e1,e2]
   simp only [f0];exact h
def fnF (v:Option (List Int)):List Int × Int:=match v with | some y=>if (65527:Int) < y.length then ([],10001) else (y,0) | none=>([],10001)
theorem ziY_ {f:List Int->Int->List Int × Int} {v:Option (List Int)} (h:WrOk 65527 f v):((f [] 0).2=0->fnF v=((f [] 0).1,0))/\(¬ (f [] 0).2=0->fnF v=([],10001)):=by
 obtain ⟨f1,f2⟩:=h.fin (by decide)
 cases v with
 | none=>exact ⟨fun k=>absurd k (f2 fun y e=>by cases e),fun _=>rfl⟩
 | some y=>
   unfold fnF;dsimp only
   by_cases hl:(65527:Int) < y.length
   ·exact ⟨fun k=>absurd k (f2 fun y' e=>by cases e;exact hl),fun _=>if_pos hl⟩
   ·rw [f1 y rfl (by omega),if_neg hl];exact ⟨fun _=>rfl,fun k=>absurd rfl k⟩
def w14:List Int:=[8,8,1,1,2,2,2,4,4,4,2,-2]
def w11:List Int:=[8,2,1,1,4,4,2,2,8,8]
def wF (t:Int):List Int:=if t=14 then w14 else if t=11 then w11 else []
def kF (t:Int):Bool:=decide (t=14) || decide (t=11)
def qF (t:Int) (l:List Int):Int:=if t=11 then (if 3 < l.getD 2 0 then 269 else 0) else if 4 < l.getD 3 0 then 1287 else if 31 < l.getD 10 0 then 1288 else if l.getD 2 0=255/\¬ (l.getD 3 0=3\/l.getD 3 0=4) then 266 else 0
theorem kF_t {t:Int}:kF t=true ↔ t=14\/t=11:=by unfold kF;simp
theorem zaq_ {t:Int} (h1:¬ t=14) (h2:¬ t=11):kF t=false/\wF t=[]:=by unfold kF wF;rw [if_neg h1,if_neg h2];simp [h1,h2]
def vF (t:Int) (n:List Int) (x:List OV) (i:List VIn):Option (List Int):=if t=14 then b0_ (b0_ (uL_ w14 n) (H6_ x)) (insO i) else b0_ (uL_ w11 n) (H6_ x)
abbrev mI3 (m:VMs):=m.2.2.2.2.2.2.2.1
def Uc_ (m:VMs):VMs:=(m.1,m.2.1,[],m.2.2.2.1,m.2.2.2.2.1,[],m.2.2.2.2.2.2.1,(if m.1=14 then [] else mI3 m),m.2.2.2.2.2.2.2.2)
def wrF (m:VMs):List Int × Int:=if kF (mT m)=true/\qF (mT m) (mN m)=0/\Q9_ (Uc_ m)=true then fnF (vF (mT m) (mN m) (mX m) (mI3 m)) else ([],10001)
theorem zbK_ {m:VMs} (h:¬ (kF (mT m)=true/\qF (mT m) (mN m)=0/\Q9_ (Uc_ m)=true)):wrF m=([],10001):=if_neg h
def fL1 (w n:List Int) (x:List OV):List Int:=mpB x (qj_ w n [] 65527 0) 65527 (qG_ w n [] 65527 0)
def fE1 (w n:List Int) (x:List OV):Int:=mpE x (qj_ w n [] 65527 0) 65527 (qG_ w n [] 65527 0)
def fL2 (n:List Int) (x:List OV) (i:List VIn):List Int:=ipB (fL1 w14 n x) 65527 (fE1 w14 n x) i
def fE2 (n:List Int) (x:List OV) (i:List VIn):Int:=ipE (fL1 w14 n x) 65527 (fE1 w14 n x) i
theorem ziZ_ (n:List Int) (x:List OV) (i:List VIn):(fE2 n x i=0->fnF (vF 14 n x i)=(fL2 n x i,0))/\(¬ fE2 n x i=0->fnF (vF 14 n x i)=([],10001))/\(¬ qG_ w14 n [] 65527 0=0->¬ fE2 n x i=0):=by
 have h:=ziY_ (((zbH_ 65527 w14 n).seq (yt_ 65527 x)).seq (zfq_ 65527 i))
 exact ⟨h.1,h.2,fun e=>(zfq_ 65527 i).ne _ _ ((yt_ 65527 x).ne _ _ e)⟩
theorem zi0_ (n:List Int) (x:List OV) (i:List VIn):(fE1 w11 n x=0->fnF (vF 11 n x i)=(fL1 w11 n x,0))/\(¬ fE1 w11 n x=0->fnF (vF 11 n x i)=([],10001))/\(¬ qG_ w11 n [] 65527 0=0->¬ fE1 w11 n x=0):=by
 have h:=ziY_ ((zbH_ 65527 w11 n).seq (yt_ 65527 x))
 exact ⟨h.1,h.2,fun e=>(yt_ 65527 x).ne _ _ e⟩
theorem Hc_ {w n l:List Int} {room e:Int} (h:qG_ w n l room e=0):ZX_ w n=true:=by
 cases hk:ZX_ w n with
 | true=>rfl
 | false=>unfold qG_ at h;rw [hk,if_neg (by decide)] at h;unfold zt_ at h;split at h<;>omega
theorem cntF:zB_ w14=11/\zB_ w11=10/\zG_ w14=40/\zG_ w11=40:=by decide
theorem lF {t:Int} {l:List Int} (hk:kF t=true) (h:(l.length:Int)=zB_ (wF t)):(t=14/\l.length=11)\/(t=11/\l.length=10):=by
 obtain ⟨c1,c2,_⟩:=cntF
 rcases kF_t.1 hk with rfl | rfl
 ·rw [show wF 14=w14 from rfl,c1] at h;exact .inl ⟨rfl,by omega⟩
 ·rw [show wF 11=w11 from rfl,c2] at h;exact .inr ⟨rfl,by omega⟩
theorem qF_7 {l:List Int} (h:4 < l.getD 3 0):qF 14 l=1287:=by unfold qF;rw [if_neg (by decide),if_pos h]
theorem qF_8 {l:List Int} (h1:¬ 4 < l.getD 3 0) (h:31 < l.getD 10 0):qF 14 l=1288:=by unfold qF;rw [if_neg (by decide),if_neg h1,if_pos h]
theorem qF_6 {l:List Int} (h1:¬ 4 < l.getD 3 0) (h2:¬ 31 < l.getD 10 0) (h:l.getD 2 0=255) (h3:¬ l.getD 3 0=3) (h4:¬ l.getD 3 0=4):qF 14 l=266:=by unfold qF;rw [if_neg (by decide),if_neg h1,if_neg h2,if_pos ⟨h,fun c=>c.elim h3 h4⟩]
theorem qF_0 {l:List Int} (h1:¬ 4 < l.getD 3 0) (h2:¬ 31 < l.getD 10 0) (h:¬ l.getD 2 0=255\/l.getD 3 0=3\/l.getD 3 0=4):qF 14 l=0:=by
 unfold qF;rw [if_neg (by decide),if_neg h1,if_neg h2,if_neg]
 rintro ⟨a,b⟩
 rcases h with h | h
 ·exact h a
 ·exact b h
theorem or34 {a b:Int} (h:(decide (a=3) || decide (b=4))=true):a=3\/b=4:=by simpa using h
theorem ziU_ {a b:Int} (h:(decide (a=3) || decide (b=4))=false):¬ a=3/\¬ b=4:=by simpa using h
def br_:IR:=
(sq (kr [0] [oD 2 (.mov (.c (.imm (.int .i64) []))),
oD 3 (.mov cF)])
(sq (sq (.reg [oM 4 0])
(.block 0
(sq (.reg [oB 6 .eql 4 (cI 14),
oM 5 6])
(.cond 5
(sq (.reg [oD 7 (.sliceAll (.int .i64) 12 [(0,1,(cI 8)),(1,1,(cI 8)),(2,1,(cI 1)),(3,1,(cI 1)),(4,1,(cI 2)),(5,1,(cI 2)),(6,1,(cI 2)),(7,1,(cI 4)),(8,1,(cI 4)),(9,1,(cI 4)),(10,1,(cI 2)),(11,1,(cI (-2)))]),
oM 2 7,
oD 3 (.mov cT)])
.ret)
(sq (.reg [oB 9 .eql 4 (cI 11),
oM 8 9])
(.cond 8
(sq (kr [] [oD 10 (.sliceAll (.int .i64) 10 [(0,1,(cI 8)),(1,1,(cI 2)),(2,1,(cI 1)),(3,1,(cI 1)),(4,1,(cI 4)),(5,1,(cI 4)),(6,1,(cI 2)),(7,1,(cI 2)),(8,1,(cI 8)),(9,1,(cI 8))]),
oM 2 10,
oD 3 (.mov cT)])
.ret)
.skip))))))
(sq (kr [] [oD 2 (.mov (.c (.imm (.int .i64) []))),
oD 3 (.mov cF)])
.ret)))
def Hu_:List RD:=[.tmp 2 true (some (.int .i64)),.tmp 3 true none]
theorem HT_:zj_ Tryz.prog Tryz.f26 br_ Hu_=true:=by kernel_rfl
def qX_:List AV->List Obj->Option (Prop × AV)
 | [.int .i64 tt],[]=>some ((True,.tup [.imm (.int .i64) (wF tt),.bool (kF tt)]))
 | _,_=>none
theorem Qn_:zd_ Tryz.prog 26 (RoF qX_).sum:=by
 refine zi_ Tryz.func26 HT_ (zc_ _) fun args objs p v e=>?_
 unfold qX_ at e
 split at e
 ·rename_i tt
  cases e
  refine ⟨rfl,fun hw ho hp=>?_⟩
  clear hw ho
  repeat'(intro t ht;first|(cases t<;>first|(cases ht;done)|(try simp only[zg_]at ht;try(exfalso;first|contradiction|omega)))|((first|refine zb_ ht ?_|refine ht ?_ ?_|refine ht.1 ?_ ?_|refine ht ?_)<;>clear ht))
  all_goals first
   | exact True.intro
   | (have h:=zaq_ (t:=tt) (by assumption) (by assumption)
      rw [h.1,h.2];exact ⟨rfl,rfl⟩)
   | (subst_vars;exact ⟨rfl,rfl⟩)
 ·cases e
def zaT_:IR:=
(sq (kr [0] [oD 2 (.mov cF)])
(sq (kr [0] [oM 6 0,
oC 7 26 [6],
oM 5 7,
oX 8 5 0,
oX 9 5 1,
oM 3 8,
oM 4 9])
(sq (kr [4] [oM 10 4,
oM 2 10])
.ret)))
def BD_:List RD:=[.tmp 2 true none]
theorem zaa_:zj_ Tryz.prog Tryz.f11 zaT_ BD_=true:=by kernel_rfl
def wF_:List AV->List Obj->Option (Prop × AV)
 | [.int .i64 tt],[]=>some ((True,.bool (kF tt)))
 | _,_=>none
theorem yF_:zd_ Tryz.prog 11 (RoF wF_).sum:=by
 refine zi_ Tryz.func11 zaa_ (za_ (s:=RoF qX_) Qn_ (zc_ _)) fun args objs p v e=>?_
 unfold wF_ at e
 split at e
 ·rename_i tt
  cases e
  refine ⟨rfl,fun hw ho hp=>?_⟩
  repeat'(intro t ht;first|(cases t<;>first|(cases ht;done)|(try simp only[zg_]at ht;try(exfalso;first|contradiction|omega)))|((first|refine zb_ ht ?_|refine ht ?_ ?_|refine ht.1 ?_ ?_|refine ht ?_)<;>clear ht))
  all_goals first
   | exact True.intro
   | exact ⟨rfl,rfl⟩
 ·cases e
def VT_:IR:=
(sq (kr [0] [oD 1 (.mov cF)])
(sq (kr [0] [oL 2 0,
oD 3 (.indexSl 1 2 (cI 3)),
oL 4 3,
oB 5 .eql 4 (.c (.int .u64 3)),
oM 6 5,
oF 6 7 (.load none 0),
oF 6 8 (.indexSl 1 7 (cI 3)),
oF 6 9 (.load none 8),
oF 6 10 (.bin .eql 9 (.c (.int .u64 4))),
oP 11 6 cT 10,
oM 1 11])
.ret))
def Vu_:List RD:=[.tmp 1 true none]
theorem VG_:zj_ Tryz.prog Tryz.f68 VT_ Vu_=true:=by kernel_rfl
def jd_:List AV->List Obj->Option (Prop × AV)
 | [.ptr 0 0],[.box [.imm (.int .u64) l]]=>some ((4<=l.length,.bool (decide (l.getD 3 0=3) || decide (l.getD 3 0=4))))
 | _,_=>none
theorem YC_:zd_ Tryz.prog 68 (RoF jd_).sum:=by
 refine zi_ Tryz.func68 VG_ (zc_ _) fun args objs p v e=>?_
 unfold jd_ at e
 split at e
 ·rename_i l
  cases e
  refine ⟨rfl,fun hw ho hp=>?_⟩
  change List Int at l
  clear hw ho
  repeat'(intro t ht;first|(cases t<;>first|(cases ht;done)|(try simp only[zg_]at ht;try(exfalso;first|contradiction|omega)))|((first|refine zb_ ht ?_|refine ht ?_ ?_|refine ht.1 ?_ ?_|refine ht ?_)<;>clear ht))
  all_goals first
   | exact True.intro
   | omega
   | (constructor<;>omega)
   | exact ⟨rfl,rfl⟩
   | (refine ⟨congrArg AV.bool ?_,rfl⟩;rw [show decide (l.getD 3 0=3)=false from decide_eq_false (by assumption),Bool.false_or];rfl)
   | (refine ⟨congrArg AV.bool ?_,rfl⟩;rw [show decide (l.getD 3 0=3)=true from decide_eq_true (by assumption),Bool.true_or];done)
 ·cases e
def GT_:IR:=
(sq (kr [0,1] [oD 3 (.boxv 1),
oD 4 (.mov (cI 0))])
(sq (.reg [oD 6 (.mkfn 68 [] [3]),
oM 5 6])
(sq (.block 0
(sq (kr [0,3,5] [oM 8 0,
oB 9 .eql 8 (cI 11),
oM 10 9,
oT 10 11 (.load none 3),
oT 10 12 (.indexSl 1 11 (cI 2)),
oT 10 13 (.load none 12),
oT 10 14 (.bin .gtr 13 (.c (.int .u64 3))),
oP 15 10 14 cF,
oM 7 15])
(.cond 7
(sq (kr [] [oD 4 (.mov (cI 269))])
.ret)
(sq (kr [0,3,5] [oM 17 0,
oB 18 .eql 17 (cI 11),
oM 16 18])
(.cond 16
.skip
(sq (kr [3,5] [oL 20 3,
oD 21 (.indexSl 1 20 (cI 3)),
oL 22 21,
oB 23 .gtr 22 (.c (.int .u64 4)),
oM 19 23])
(.cond 19
(sq (.reg [oD 4 (.mov (cI 1287))])
.ret)
(sq (kr [3,5] [oL 25 3,
oD 26 (.indexSl 1 25 (cI 10)),
oL 27 26,
oB 28 .gtr 27 (.c (.int .u64 31)),
oM 24 28])
(.cond 24
(sq (.reg [oD 4 (.mov (cI 1288))])
.ret)
(sq (kr [3,5] [oL 30 3,
oD 31 (.indexSl 1 30 (cI 2)),
oL 32 31,
oB 33 .eql 32 (.c (.int .u64 255)),
oM 34 33,
oT 34 35 (.mov 5),
oT 34 36 (.call false 35 []),
oT 34 37 (.un .not 36),
oP 38 34 37 cF,
oM 29 38])
(.cond 29
(sq (kr [] [oD 4 (.mov (cI 266))])
.ret)
.skip)))))))))))
(sq (kr [] [oD 4 (.mov (cI 0))])
.ret))))
def g0_:List RD:=[.tmp 4 true none]
theorem Gq_:zj_ Tryz.prog Tryz.f30 GT_ g0_=true:=by kernel_rfl
def q9_:List AV->List Obj->Option (Prop × AV)
 | [.int .i64 tt,.imm (.int .u64) l],[]=>some ((kF tt=true/\(l.length:Int)=zB_ (wF tt),.int .i64 (qF tt l)))
 | _,_=>none
theorem QV_:zd_ Tryz.prog 30 (RoF q9_).sum:=by
 refine zi_ Tryz.func30 Gq_ (za_ (s:=RoF jd_) YC_ (zc_ _)) fun args objs p v e=>?_
 unfold q9_ at e
 split at e
 ·rename_i tt l
  cases e
  refine ⟨rfl,fun hw ho hp=>?_⟩
  change List Int at l
  have hl:=lF hp.1 hp.2
  clear hw ho hp
  rcases hl with ⟨rfl,hl⟩ | ⟨rfl,hl⟩
  ·repeat'(intro t ht;first|(cases t<;>first|(cases ht;done)|(try simp only[zg_]at ht;try(exfalso;first|contradiction|omega)))|((first|refine zb_ ht ?_|refine ht ?_ ?_|refine ht.1 ?_ ?_|refine ht ?_)<;>clear ht))
   all_goals first
    | exact True.intro
    | omega
    | (constructor<;>omega)
    | (rw [qF_7 (by assumption)];exact ⟨rfl,rfl⟩)
    | (rw [qF_8 (by assumption) (by assumption)];exact ⟨rfl,rfl⟩)
    | (rw [qF_0 (by assumption) (by assumption) (.inl (by assumption))];exact ⟨rfl,rfl⟩)
    | (rw [qF_0 (by assumption) (by assumption) (.inr (or34 ht))];exact ⟨rfl,rfl⟩)
    | (rw [qF_0 (by assumption) (by assumption) (.inr (.inl (by assumption)))];exact ⟨rfl,rfl⟩)
    | (rw [qF_0 (by assumption) (by assumption) (.inr (.inr (by assumption)))];exact ⟨rfl,rfl⟩)
    | (rw [qF_6 (by assumption) (by assumption) (by assumption) (ziU_ ht).1 (ziU_ ht).2];exact ⟨rfl,rfl⟩)
    | (rw [qF_6 (by assumption) (by assumption) (by assumption) (by assumption) (by assumption)];exact ⟨rfl,rfl⟩)
  ·have e:qF 11 l=if 3 < l.getD 2 0 then 269 else 0:=if_pos rfl
   repeat'(intro t ht;first|(cases t<;>first|(cases ht;done)|(try simp only[zg_]at ht;try(exfalso;first|contradiction|omega)))|((first|refine zb_ ht ?_|refine ht ?_ ?_|refine ht.1 ?_ ?_|refine ht ?_)<;>clear ht))
   all_goals first
    | exact True.intro
    | omega
    | (constructor<;>omega)
    | (rw [e,if_pos (by assumption)];exact ⟨rfl,rfl⟩)
    | (rw [e,if_neg (by assumption)];exact ⟨rfl,rfl⟩)
 ·cases e
def Y2_:IR:=
(sq (kr [0] [oD 2 (.nilrow (.int .u8))])
(sq (sq (.reg [oM 3 0,
oD 4 (.isnil false 3)])
(.cond 4
(sq (.reg [oD 2 (.nilrow (.int .u8))])
.ret)
.skip))
(sq (.reg [oD 5 (.slice0 (.int .u8)),
oM 6 0,
oD 7 (.append (.int .u8) 1 5 6),
oM 2 7])
.ret)))
def YJ_:List RD:=[.tmp 2 false none]
theorem YQ_:zj_ Tryz.prog Tryz.f67 Y2_ YJ_=true:=by kernel_rfl
def Kh_:List AV->List Obj->Option (Prop × AV × List Obj)
 | [.imm (.int .u8) b],[]=>some ((b.length<=140737488355328,.own 0,[.row false (.int .u8) b]))
 | _,_=>none
theorem yG_:zd_ Tryz.prog 67 (RwF Kh_).sum:=by
 refine qg_ Tryz.func67 YQ_ (zc_ _) fun args objs p v o e=>?_
 unfold Kh_ at e
 split at e
 ·rename_i b
  cases e
  refine ⟨rfl,fun hw ho hp=>?_⟩
  change List Int at b
  repeat'(intro t ht;first|(cases t<;>first|(cases ht;done)|(try simp only[zg_]at ht))|((first|refine zb_ ht ?_|refine ht ?_ ?_|refine ht.1 ?_ ?_|refine ht ?_)<;>clear ht))
  all_goals first
   | (simp only [qd_,List.length_nil,Nat.zero_add,Nat.mul_one];omega)
   | exact ⟨rfl,rfl⟩
   | (have e:b=[]:=by simp_all
      subst e;exact ⟨rfl,rfl⟩)
 ·cases e
def Jh_:IR:=
(sq (kr [0] [oD 2 (.nilrow (.int .u8)),
oD 3 (.mov (cI 0))])
(sq (.block 0
(sq (.reg [oM 5 0,
oC 6 66 [5],
oM 4 6])
(.cond 4
(sq (.reg [oD 2 (.nilrow (.int .u8)),
oD 3 (.mov (cI 10001))])
.ret)
(sq (kr [0] [oM 8 0,
oD 9 (.nilck 8),
oA 10 3 9,
oL 11 10,
oB 12 .neq 11 (cI 0),
oM 7 12])
(.cond 7
(sq (kd [0] [(oM 13 0,[]),
(oD 14 (.nilck 13),[]),
(oA 15 3 14,[]),
(oL 16 15,[]),
(oD 2 (.nilrow (.int .u8)),[0,0,0,0]),
(oM 3 16,[])])
.ret)
(sq (kr [0] [oM 18 0,
oD 19 (.nilck 18),
oA 20 2 19,
oL 21 20,
oD 22 (.mlen 21),
oB 23 .gtr 22 (cI 0),
oM 17 23])
(.cond 17
(sq (kr [] [oD 2 (.nilrow (.int .u8)),
oD 3 (.mov (cI 10001))])
.ret)
.skip)))))))
(sq (kr [0] [oM 24 0,
oD 25 (.nilck 24),
oA 26 0 25,
oL 27 26,
oC 28 67 [27],
oM 2 28,
oD 3 (.mov (cI 0))])
.ret)))
def Jd_:List RD:=[.tmp 2 false none,.tmp 3 false none]
theorem Jf_:zj_ Tryz.prog Tryz.f29 Jh_ Jd_=true:=by kernel_rfl
def ZK_:List AV->List Obj->Option (Prop × AV × List Obj)
 | [.ptr 0 0],[.box [.own 1,.int .i64 room,.mapv 2,.int .i64 e],.row false (.int .u8) l,.map sq (.int .i64) (.int .i64) h]=>some ((l.length<=140737488355328/\h.length<=140737488355328,.tup [.own 3,.int .i64 (kn_ h e)],[.box [.own 1,.int .i64 room,.mapv 2,.int .i64 e],.row false (.int .u8) l,.map sq (.int .i64) (.int .i64) h,.row false (.int .u8) (qE_ l h e)]))
 | _,_=>none
theorem Qo_:zd_ Tryz.prog 29 (RwF ZK_).sum:=by
 refine qg_ Tryz.func29 Jf_ (za_ (s:=RoF z2_) Zi_ (za_ (s:=RwF Kh_) yG_ (zc_ _))) fun args objs p v o e=>?_
 unfold ZK_ at e
 split at e
 ·rename_i room e l sq h
  cases e
  refine ⟨rfl,fun hw ho hp=>?_⟩
  change List Int at l
  change List (Int × Int) at h
  repeat'(intro t ht;first|(cases t<;>first|(cases ht;done)|(try simp only[zg_]at ht))|((first|refine zb_ ht ?_|refine ht ?_ ?_|refine ht.1 ?_ ?_|refine ht ?_)<;>clear ht))
  all_goals first
   | exact True.intro
   | exact hp.1
   | exact hp.2
   | (have h0:e=0:=by assumption
      have h1:h.length=0:=by omega
      have e1:kn_ h e=0:=by unfold kn_;rw [if_pos h0,if_pos h1]
      have e2:qE_ l h e=l:=by unfold qE_ K2_;rw [decide_eq_true h0,decide_eq_true h1];rfl
      rw [e1,e2];exact ⟨rfl,rfl⟩)
   | (have hb:K2_ h e=false:=by unfold K2_;simp only [Bool.and_eq_false_iff,decide_eq_false_iff_not];omega
      unfold qE_ kn_;rw [hb]
      first
       | (rw [if_neg (by assumption)];exact ⟨rfl,rfl⟩)
       | (have h0:e=0:=by assumption
          have h1:¬ h.length=0:=by omega
          rw [if_pos h0,if_neg h1];exact ⟨rfl,rfl⟩))
 ·cases e
theorem zfr_ (xi:Int) (n d:List Int) (el:List VEl) (x:List OV) (a:List AC) (ins:List VIn) (m8:List BK × List VBd × List VQu × List PV × Int × Int × List VPa × Unit):
 wrF ((14,xi,n,d,el,x,a,ins,m8):VMs)=if qF 14 n=0/\Q9_ ((14,xi,[],d,el,[],a,[],m8):VMs)=true then fnF (vF 14 n x ins) else ([],10001):=by
 have e:Uc_ ((14,xi,n,d,el,x,a,ins,m8):VMs)=(14,xi,[],d,el,[],a,[],m8):=rfl
 unfold wrF
 rw [e]
 show (if kF 14=true/\qF 14 n=0/\_ then fnF (vF 14 n x ins) else _)=_
 have k:kF 14=true:=rfl
 simp only [k,true_and]
theorem zfs_ (xi:Int) (n d:List Int) (el:List VEl) (x:List OV) (a:List AC) (ins:List VIn) (m8:List BK × List VBd × List VQu × List PV × Int × Int × List VPa × Unit):
 wrF ((11,xi,n,d,el,x,a,ins,m8):VMs)=if qF 11 n=0/\Q9_ ((11,xi,[],d,el,[],a,ins,m8):VMs)=true then fnF (vF 11 n x ins) else ([],10001):=by
 have e:Uc_ ((11,xi,n,d,el,x,a,ins,m8):VMs)=(11,xi,[],d,el,[],a,ins,m8):=rfl
 unfold wrF
 rw [e]
 show (if kF 11=true/\qF 11 n=0/\_ then fnF (vF 11 n x ins) else _)=_
 have k:kF 11=true:=rfl
 simp only [k,true_and]
theorem zdx_ (tt xi:Int) (n d:List Int) (el:List VEl) (x:List OV) (a:List AC) (ins:List VIn) (m8:List BK × List VBd × List VQu × List PV × Int × Int × List VPa × Unit) (h1:¬ tt=14) (h2:¬ tt=11):
 wrF ((tt,xi,n,d,el,x,a,ins,m8):VMs)=([],10001):=zbK_ fun c=>by rw [show mT ((tt,xi,n,d,el,x,a,ins,m8):VMs)=tt from rfl,(zaq_ h1 h2).1] at c;cases c.1
theorem zd6_ {x:List VIn} {l:List Int} {room e:Int} (h:l.length<=1000000) (hr:room<=1000000):(ipB l room e x).length<=1000000:=Q8_ h hr
theorem zeb_ (e:Int):¬ zt_ e 10001=0:=by unfold zt_;split<;>omega
def bt_:IR:=
(sq (kr [0] [oD 1 (.boxv 0),
oD 2 (.mov (.c (.imm (.int .u8) []))),
oD 3 (.mov (cI 0))])
(sq (kr [1] [oA 12 0 1,
oL 13 12,
oC 14 26 [13],
oM 11 14,
oX 15 11 0,
oX 16 11 1,
oM 4 15,
oM 5 16])
(sq (kr [1,4,5] [oC 17 27 [(cI 65527)],
oM 6 17])
(sq (kr [1,4,5,6] [oM 18 6,
oM 19 4,
oA 20 2 1,
oL 21 20,
oC 22 28 [18,19,21]])
(sq (sq (kr [1,5,6] [oM 24 6,
oC 25 29 [24],
oM 23 25,
oX 26 23 0,
oX 27 23 1,
oM 7 26,
oM 8 27])
(sq (kr [1,5,6,8] [oM 28 5,
oD 29 (.un .not 28),
oM 30 29,
oF 30 31 (.mov 8),
oF 30 32 (.bin .neq 31 (cI 0)),
oP 33 30 cT 32,
oM 34 33,
oF 34 35 (.fieldAddr 0 1),
oF 34 36 (.load none 35),
oF 34 37 (.fieldAddr 2 1),
oF 34 38 (.load none 37),
oF 34 39 (.call false (.f 30) [36,38]),
oF 34 40 (.bin .neq 39 (cI 0)),
oP 41 34 cT 40])
(.cond 41
(sq (kr [] [oD 2 (.mov (.c (.imm (.int .u8) []))),
oD 3 (.mov (cI 10001))])
.ret)
.skip)))
(sq (kr [1,6] [oM 42 6,
oA 43 5 1,
oL 44 43,
oC 45 31 [42,44]])
(sq (.reg [oA 46 2 1,
oN (.store 1 46 (.c (.imm (.int .u64) []))),
oA 47 5 1,
oN (.store 1 47 (.c (.imm Y1 [])))])
(sq (sq (.reg [oA 48 0 1,
oL 49 48])
(.block 0
(sq (.block 2
(sq (.block 1
(sq (sq (kr [1,6,49] [oB 51 .eql 49 (cI 14),
oM 50 51])
(.cond 50
(.exit 1)
.skip))
(.exit 2)))
(sq (kr [1,6] [oM 52 6,
oA 53 7 1,
oL 54 53,
oC 55 32 [52,54]])
(.reg [oA 56 7 1,
oN (.store 1 56 (.c (.imm Y3 [])))]))))
(sq (sq (kr [1,6] [oK 57 15 1,
oC 58 33 [57],
oD 59 (.un .not 58)])
(.cond 59
(.reg [oM 60 6,
oC 61 34 [60,(cI 10001)]])
.skip))
(.exit 0)))))
(sq (kr [6] [oM 63 6,
oC 64 29 [63],
oM 62 64,
oX 65 62 0,
oX 66 62 1,
oM 9 65,
oM 10 66])
(sq (sq (kr [9,10] [oM 67 10,
oB 68 .neq 67 (cI 0)])
(.cond 68
(sq (.reg [oD 2 (.mov (.c (.imm (.int .u8) []))),
oD 3 (.mov (cI 10001))])
.ret)
.skip))
(sq (.reg [oM 69 9,
oM 2 69,
oD 3 (.mov (cI 0))])
.ret)))))))))))
def Hw_:List RD:=[.tmp 2 true (some (.int .u8)),.tmp 3 true none]
theorem HV_:zj_ Tryz.prog Tryz.f9 bt_ Hw_=true:=by kernel_rfl
def xP_:List AV->List Obj->Option (Prop × AV)
 | [.agg zz0],[]=>Jn_ YD zz0 fun ⟨tt,xi,n,d,el,x,a,ins,bu,ba,qu,po,ki,fl,pa,_⟩=>some ((okM x/\okI ins/\n.length<=1000000,.tup [.imm (.int .u8) (wrF ((tt,xi,n,d,el,x,a,ins,bu,ba,qu,po,ki,fl,pa,()):VMs)).1,.int .i64 (wrF ((tt,xi,n,d,el,x,a,ins,bu,ba,qu,po,ki,fl,pa,()):VMs)).2]))
 | _,_=>none
theorem gG_:zd_ Tryz.prog 9 (RoF xP_).sum:=by
 refine zi_ Tryz.func9 HV_ (za_ (s:=RoF qX_) Qn_ (za_ (s:=RwF Z1_) qa_ (za_ (s:=RwF zF_) zJ_ (za_ (s:=RwF ZK_) Qo_ (za_ (s:=RoF q9_) QV_ (za_ (s:=RwF jA_) XD_ (za_ (s:=RwF jB_) XE_ (za_ (s:=RoF KI_) WT_ (za_ (s:=RwF zy_) zE_ (zc_ _)))))))))) fun args objs p v e=>?_
 unfold xP_ at e
 split at e
 ·rename_i zz0
  replace e:=qR_ e
  obtain ⟨⟨tt,xi,n,d,el,x,a,ins,bu,ba,qu,po,ki,fl,pa,_⟩,hz,e⟩:=e
  replace hz:zz0=[.int .i64 tt,.int .u32 xi,.imm (.int .u64) n,.imm (.int .u8) d,.imm YB el,.imm Y1 x,.imm Y2 a,.imm Y3 ins,.imm Y4 bu,.imm Y5 ba,.imm Y7 qu,.imm Y8 po,.int .i64 ki,.int .i64 fl,.imm YC pa]:=hz
  subst hz
  change Int at tt
  change Int at xi
  change Int at ki
  change Int at fl
  cases e
  refine ⟨rfl,fun hw ho hp=>?_⟩
  change List Int at n
  change List Int at d
  clear hw ho
  change List VIn at ins
  change List OV at x
  change List Int at n
  obtain ⟨hx,hi,hn⟩:=hp
  have hroom:wO_ 65527=65527:=by decide
  have z:([]:List Int).length<=1000000:=by decide
  have l0:∀ w,(qj_ w n [] 65527 0).length<=1000000:=fun w=>j8_ z (by decide)
  have l1:∀ w e,(mpB x (qj_ w n [] 65527 0) 65527 e).length<=1000000:=fun w e=>zdU_ (l0 w) (by decide)
  have l2:∀ w e e2,(ipB (mpB x (qj_ w n [] 65527 0) 65527 e) 65527 e2 ins).length<=1000000:=fun w e e2=>zd6_ (l1 w e) (by decide)
  have fin:∀ y e,wrF ((tt,xi,n,d,el,x,a,ins,bu,ba,qu,po,ki,fl,pa,()):VMs)=(y,e)->AV.tup [.imm (.int .u8) y,.int .i64 e]=AV.tup [.imm (.int .u8) (wrF ((tt,xi,n,d,el,x,a,ins,bu,ba,qu,po,ki,fl,pa,()):VMs)).1,.int .i64 (wrF ((tt,xi,n,d,el,x,a,ins,bu,ba,qu,po,ki,fl,pa,()):VMs)).2]:=fun y e h=>by rw [h]
  by_cases h14:tt=14
  ·subst h14
   obtain ⟨k1,k2,k3⟩:=ziZ_ n x ins
   have k0:=zfr_ xi n d el x a ins (bu,ba,qu,po,ki,fl,pa,())
   have hw14:wF 14=w14:=rfl
   repeat'(intro t ht;first|(cases t<;>first|(cases ht;done)|(try simp only[zg_]at ht;try(exfalso;first|contradiction|omega)))|((first|refine zb_ ht ?_|refine ht ?_ ?_|refine ht.1 ?_ ?_|refine ht ?_)<;>clear ht))
   all_goals (try simp only [K1_,hroom,hw14] at*)
   all_goals first
    | exact True.intro
    | exact ⟨by decide,by decide,z⟩
    | exact ⟨by decide,by decide,z,hn⟩
    | exact ⟨Nat.le_trans (l0 _) (by decide),by decide⟩
    | exact ⟨Nat.le_trans (l1 _ _) (by decide),by decide⟩
    | exact ⟨Nat.le_trans (l2 _ _ _) (by decide),by decide⟩
    | exact ⟨rfl,W5_ (Hc_ ht)⟩
    | exact ⟨hx,by decide,by decide,l0 _⟩
    | exact ⟨hi,by decide,by decide,l1 _ _⟩
    | exact absurd ht (zeb_ _)
    | (have g:=fin _ _ (k0.trans (if_neg fun c=>absurd c.1 (by assumption)));exact ⟨g,by first | exact True.intro | rfl⟩)
    | (have hb:Q9_ ((14,xi,[],d,el,[],a,[],bu,ba,qu,po,ki,fl,pa,()):VMs)=false:=by assumption
       have g:=fin _ _ (k0.trans (if_neg fun c=>by rw [hb] at c;cases c.2));exact ⟨g,by first | exact True.intro | rfl⟩)
    | (have h1:¬ fE2 n x ins=0:=by first | exact k3 ht | exact ht
       have g:=fin _ _ (k0.trans (by split;· exact k2 h1
                                     ·rfl));exact ⟨g,by first | exact True.intro | rfl⟩)
    | (have he:fE2 n x ins=0:=by assumption
       have hd:qE_ (fL2 n x ins) [] (fE2 n x ins)=fL2 n x ins:=(ug_ (by rw [K1_];exact he)).1
       have hq:qF 14 n=0:=by assumption
       have hb:Q9_ ((14,xi,[],d,el,[],a,[],bu,ba,qu,po,ki,fl,pa,()):VMs)=true:=by assumption
       have g:=fin (qE_ (fL2 n x ins) [] (fE2 n x ins)) 0 (by rw [hd,k0,if_pos ⟨hq,hb⟩,k1 he]);exact ⟨g,by first | exact True.intro | rfl⟩)
  ·by_cases h11:tt=11
   ·subst h11
    obtain ⟨k1,k2,k3⟩:=zi0_ n x ins
    have k0:=zfs_ xi n d el x a ins (bu,ba,qu,po,ki,fl,pa,())
    have hw11:wF 11=w11:=rfl
    repeat'(intro t ht;first|(cases t<;>first|(cases ht;done)|(try simp only[zg_]at ht;try(exfalso;first|contradiction|omega)))|((first|refine zb_ ht ?_|refine ht ?_ ?_|refine ht.1 ?_ ?_|refine ht ?_)<;>clear ht))
    all_goals (try simp only [K1_,hroom,hw11] at*)
    all_goals first
     | exact True.intro
     | exact ⟨by decide,by decide,z⟩
     | exact ⟨by decide,by decide,z,hn⟩
     | exact ⟨Nat.le_trans (l0 _) (by decide),by decide⟩
     | exact ⟨Nat.le_trans (l1 _ _) (by decide),by decide⟩
     | exact ⟨Nat.le_trans (l2 _ _ _) (by decide),by decide⟩
     | exact ⟨rfl,W5_ (Hc_ ht)⟩
     | exact ⟨hx,by decide,by decide,l0 _⟩
     | exact ⟨hi,by decide,by decide,l1 _ _⟩
     | exact absurd ht (zeb_ _)
     | (have g:=fin _ _ (k0.trans (if_neg fun c=>absurd c.1 (by assumption)));exact ⟨g,by first | exact True.intro | rfl⟩)
     | (have hb:Q9_ ((11,xi,[],d,el,[],a,ins,bu,ba,qu,po,ki,fl,pa,()):VMs)=false:=by assumption
        have g:=fin _ _ (k0.trans (if_neg fun c=>by rw [hb] at c;cases c.2));exact ⟨g,by first | exact True.intro | rfl⟩)
     | (have h1:¬ fE1 w11 n x=0:=by first | exact k3 ht | exact ht
        have g:=fin _ _ (k0.trans (by split;· exact k2 h1
                                      ·rfl));exact ⟨g,by first | exact True.intro | rfl⟩)
     | (have he:fE1 w11 n x=0:=by assumption
        have hd:qE_ (fL1 w11 n x) [] (fE1 w11 n x)=fL1 w11 n x:=(ug_ (by rw [K1_];exact he)).1
        have hq:qF 11 n=0:=by assumption
        have hb:Q9_ ((11,xi,[],d,el,[],a,ins,bu,ba,qu,po,ki,fl,pa,()):VMs)=true:=by assumption
        have g:=fin (qE_ (fL1 w11 n x) [] (fE1 w11 n x)) 0 (by rw [hd,k0,if_pos ⟨hq,hb⟩,k1 he]);exact ⟨g,by first | exact True.intro | rfl⟩)
   ·have k0:=zdx_ tt xi n d el x a ins (bu,ba,qu,po,ki,fl,pa,()) h14 h11
    obtain ⟨k1,k2⟩:=zaq_ h14 h11
    have k3:¬ kF tt=true:=by rw [k1];decide
    repeat'(intro t ht;first|(cases t<;>first|(cases ht;done)|(try simp only[zg_]at ht;try(exfalso;first|contradiction|omega)))|((first|refine zb_ ht ?_|refine ht ?_ ?_|refine ht.1 ?_ ?_|refine ht ?_)<;>clear ht))
    all_goals (try simp only [K1_,hroom,k2] at*)
    all_goals first
     | exact True.intro
     | exact ⟨by decide,by decide,z⟩
     | exact ⟨by decide,by decide,z,hn⟩
     | exact ⟨Nat.le_trans (l0 _) (by decide),by decide⟩
     | (have g:=fin _ _ k0;exact ⟨g,by first | exact True.intro | rfl⟩)
 ·cases e
def UQ_:IR:=
(sq (kr [0] [oD 1 (.boxv 0),
oD 2 (.nilrow (.int .u8)),
oD 3 (.mov (cI 0))])
(sq (kr [1] [oA 12 0 1,
oL 13 12,
oC 14 26 [13],
oM 11 14,
oX 15 11 0,
oX 16 11 1,
oM 4 15,
oM 5 16])
(sq (kr [1,4,5] [oC 17 27 [(cI 65527)],
oM 6 17])
(sq (kr [1,4,5,6] [oM 18 6,
oM 19 4,
oA 20 2 1,
oL 21 20,
oC 22 28 [18,19,21]])
(sq (sq (kr [1,5,6] [oM 24 6,
oC 25 29 [24],
oM 23 25,
oX 26 23 0,
oX 27 23 1,
oM 7 26,
oM 8 27])
(sq (kr [1,5,6,8] [oM 28 5,
oD 29 (.un .not 28),
oM 30 29,
oF 30 31 (.mov 8),
oF 30 32 (.bin .neq 31 (cI 0)),
oP 33 30 cT 32,
oM 34 33,
oF 34 35 (.fieldAddr 0 1),
oF 34 36 (.load none 35),
oF 34 37 (.fieldAddr 2 1),
oF 34 38 (.load none 37),
oF 34 39 (.call false (.f 30) [36,38]),
oF 34 40 (.bin .neq 39 (cI 0)),
oP 41 34 cT 40])
(.cond 41
(sq (kr [] [oD 2 (.nilrow (.int .u8)),
oD 3 (.mov (cI 10001))])
.ret)
.skip)))
(sq (kr [1,6] [oM 42 6,
oA 43 5 1,
oL 44 43,
oC 45 31 [42,44]])
(sq (.reg [oA 46 2 1,
oN (.store 1 46 (.c (.imm (.int .u64) []))),
oA 47 5 1,
oN (.store 1 47 (.c (.imm Y1 [])))])
(sq (sq (.reg [oA 48 0 1,
oL 49 48])
(.block 0
(sq (.block 2
(sq (.block 1
(sq (sq (kr [1,6,49] [oB 51 .eql 49 (cI 14),
oM 50 51])
(.cond 50
(.exit 1)
.skip))
(.exit 2)))
(sq (kr [1,6] [oM 52 6,
oA 53 7 1,
oL 54 53,
oC 55 32 [52,54]])
(.reg [oA 56 7 1,
oN (.store 1 56 (.c (.imm Y3 [])))]))))
(sq (sq (kr [1,6] [oK 57 15 1,
oC 58 33 [57],
oD 59 (.un .not 58)])
(.cond 59
(.reg [oM 60 6,
oC 61 34 [60,(cI 10001)]])
.skip))
(.exit 0)))))
(sq (kr [6] [oM 63 6,
oC 64 29 [63],
oM 62 64,
oX 65 62 0,
oX 66 62 1,
oM 9 65,
oM 10 66])
(sq (sq (kr [9,10] [oM 67 10,
oB 68 .neq 67 (cI 0)])
(.cond 68
(sq (.reg [oD 2 (.nilrow (.int .u8)),
oD 3 (.mov (cI 10001))])
.ret)
.skip))
(sq (.reg [oM 69 9,
oM 2 69,
oD 3 (.mov (cI 0))])
.ret)))))))))))
def uY_:List RD:=[.tmp 2 false none,.tmp 3 false none]
theorem Uq_:zj_ Tryz.prog Tryz.f9 UQ_ uY_=true:=by kernel_rfl
def jM_ (W:VMs->List Int × Int):List AV->List Obj->Option (Prop × AV × List Obj)
 | [.agg zz0],[]=>Jn_ YD zz0 fun ⟨tt,xi,n,d,el,x,a,ins,bu,ba,qu,po,ki,fl,pa,_⟩=>some ((okM x/\okI ins/\n.length<=1000000,.tup [.own 0,.int .i64 (W ((tt,xi,n,d,el,x,a,ins,bu,ba,qu,po,ki,fl,pa,()):VMs)).2],[.row false (.int .u8) ((W ((tt,xi,n,d,el,x,a,ins,bu,ba,qu,po,ki,fl,pa,()):VMs)).1)]))
 | _,_=>none
def Qw_:List AV->List Obj->Option (Prop × AV × List Obj):=jM_ wrF
theorem wM_:zd_ Tryz.prog 9 (RwF Qw_).sum:=by
 refine qg_ Tryz.func9 Uq_ (za_ (s:=RoF qX_) Qn_ (za_ (s:=RwF Z1_) qa_ (za_ (s:=RwF zF_) zJ_ (za_ (s:=RwF ZK_) Qo_ (za_ (s:=RoF q9_) QV_ (za_ (s:=RwF jA_) XD_ (za_ (s:=RwF jB_) XE_ (za_ (s:=RoF KI_) WT_ (za_ (s:=RwF zy_) zE_ (zc_ _)))))))))) fun args objs p v o e=>?_
 unfold Qw_ jM_ at e
 split at e
 ·rename_i zz0
  replace e:=qR_ e
  obtain ⟨⟨tt,xi,n,d,el,x,a,ins,bu,ba,qu,po,ki,fl,pa,_⟩,hz,e⟩:=e
  replace hz:zz0=[.int .i64 tt,.int .u32 xi,.imm (.int .u64) n,.imm (.int .u8) d,.imm YB el,.imm Y1 x,.imm Y2 a,.imm Y3 ins,.imm Y4 bu,.imm Y5 ba,.imm Y7 qu,.imm Y8 po,.int .i64 ki,.int .i64 fl,.imm YC pa]:=hz
  subst hz
  change Int at tt
  change Int at xi
  change Int at ki
  change Int at fl
  cases e
  refine ⟨rfl,fun hw ho hp=>?_⟩
  change List Int at n
  change List Int at d
  clear hw ho
  change List VIn at ins
  change List OV at x
  change List Int at n
  obtain ⟨hx,hi,hn⟩:=hp
  have hroom:wO_ 65527=65527:=by decide
  have z:([]:List Int).length<=1000000:=by decide
  have l0:∀ w,(qj_ w n [] 65527 0).length<=1000000:=fun w=>j8_ z (by decide)
  have l1:∀ w e,(mpB x (qj_ w n [] 65527 0) 65527 e).length<=1000000:=fun w e=>zdU_ (l0 w) (by decide)
  have l2:∀ w e e2,(ipB (mpB x (qj_ w n [] 65527 0) 65527 e) 65527 e2 ins).length<=1000000:=fun w e e2=>zd6_ (l1 w e) (by decide)
  have fin:∀ y e,wrF ((tt,xi,n,d,el,x,a,ins,bu,ba,qu,po,ki,fl,pa,()):VMs)=(y,e)->AV.tup [.own 0,.int .i64 e]=AV.tup [.own 0,.int .i64 (wrF ((tt,xi,n,d,el,x,a,ins,bu,ba,qu,po,ki,fl,pa,()):VMs)).2]/\[Obj.row false (.int .u8) y]=[.row false (.int .u8) ((wrF ((tt,xi,n,d,el,x,a,ins,bu,ba,qu,po,ki,fl,pa,()):VMs)).1)]:=fun y e h=>by rw [h];exact ⟨rfl,rfl⟩
  by_cases h14:tt=14
  ·subst h14
   obtain ⟨k1,k2,k3⟩:=ziZ_ n x ins
   have k0:=zfr_ xi n d el x a ins (bu,ba,qu,po,ki,fl,pa,())
   have hw14:wF 14=w14:=rfl
   repeat'(intro t ht;first|(cases t<;>first|(cases ht;done)|(try simp only[zg_]at ht;try(exfalso;first|contradiction|omega)))|((first|refine zb_ ht ?_|refine ht ?_ ?_|refine ht.1 ?_ ?_|refine ht ?_)<;>clear ht))
   all_goals (try simp only [K1_,hroom,hw14] at*)
   all_goals first
    | exact True.intro
    | exact ⟨by decide,by decide,z⟩
    | exact ⟨by decide,by decide,z,hn⟩
    | exact ⟨Nat.le_trans (l0 _) (by decide),by decide⟩
    | exact ⟨Nat.le_trans (l1 _ _) (by decide),by decide⟩
    | exact ⟨Nat.le_trans (l2 _ _ _) (by decide),by decide⟩
    | exact ⟨rfl,W5_ (Hc_ ht)⟩
    | exact ⟨hx,by decide,by decide,l0 _⟩
    | exact ⟨hi,by decide,by decide,l1 _ _⟩
    | exact absurd ht (zeb_ _)
    | (have g:=fin _ _ (k0.trans (if_neg fun c=>absurd c.1 (by assumption)));exact g)
    | (have hb:Q9_ ((14,xi,[],d,el,[],a,[],bu,ba,qu,po,ki,fl,pa,()):VMs)=false:=by assumption
       have g:=fin _ _ (k0.trans (if_neg fun c=>by rw [hb] at c;cases c.2));exact g)
    | (have h1:¬ fE2 n x ins=0:=by first | exact k3 ht | exact ht
       have g:=fin _ _ (k0.trans (by split;· exact k2 h1
                                     ·rfl));exact g)
    | (have he:fE2 n x ins=0:=by assumption
       have hd:qE_ (fL2 n x ins) [] (fE2 n x ins)=fL2 n x ins:=(ug_ (by rw [K1_];exact he)).1
       have hq:qF 14 n=0:=by assumption
       have hb:Q9_ ((14,xi,[],d,el,[],a,[],bu,ba,qu,po,ki,fl,pa,()):VMs)=true:=by assumption
       have g:=fin (qE_ (fL2 n x ins) [] (fE2 n x ins)) 0 (by rw [hd,k0,if_pos ⟨hq,hb⟩,k1 he]);exact g)
  ·by_cases h11:tt=11
   ·subst h11
    obtain ⟨k1,k2,k3⟩:=zi0_ n x ins
    have k0:=zfs_ xi n d el x a ins (bu,ba,qu,po,ki,fl,pa,())
    have hw11:wF 11=w11:=rfl
    repeat'(intro t ht;first|(cases t<;>first|(cases ht;done)|(try simp only[zg_]at ht;try(exfalso;first|contradiction|omega)))|((first|refine zb_ ht ?_|refine ht ?_ ?_|refine ht.1 ?_ ?_|refine ht ?_)<;>clear ht))
    all_goals (try simp only [K1_,hroom,hw11] at*)
    all_goals first
     | exact True.intro
     | exact ⟨by decide,by decide,z⟩
     | exact ⟨by decide,by decide,z,hn⟩
     | exact ⟨Nat.le_trans (l0 _) (by decide),by decide⟩
     | exact ⟨Nat.le_trans (l1 _ _) (by decide),by decide⟩
     | exact ⟨Nat.le_trans (l2 _ _ _) (by decide),by decide⟩
     | exact ⟨rfl,W5_ (Hc_ ht)⟩
     | exact ⟨hx,by decide,by decide,l0 _⟩
     | exact ⟨hi,by decide,by decide,l1 _ _⟩
     | exact absurd ht (zeb_ _)
     | (have g:=fin _ _ (k0.trans (if_neg fun c=>absurd c.1 (by assumption)));exact g)
     | (have hb:Q9_ ((11,xi,[],d,el,[],a,ins,bu,ba,qu,po,ki,fl,pa,()):VMs)=false:=by assumption
        have g:=fin _ _ (k0.trans (if_neg fun c=>by rw [hb] at c;cases c.2));exact g)
     | (have h1:¬ fE1 w11 n x=0:=by first | exact k3 ht | exact ht
        have g:=fin _ _ (k0.trans (by split;· exact k2 h1
                                      ·rfl));exact g)
     | (have he:fE1 w11 n x=0:=by assumption
        have hd:qE_ (fL1 w11 n x) [] (fE1 w11 n x)=fL1 w11 n x:=(ug_ (by rw [K1_];exact he)).1
        have hq:qF 11 n=0:=by assumption
        have hb:Q9_ ((11,xi,[],d,el,[],a,ins,bu,ba,qu,po,ki,fl,pa,()):VMs)=true:=by assumption
        have g:=fin (qE_ (fL1 w11 n x) [] (fE1 w11 n x)) 0 (by rw [hd,k0,if_pos ⟨hq,hb⟩,k1 he]);exact g)
   ·have k0:=zdx_ tt xi n d el x a ins (bu,ba,qu,po,ki,fl,pa,()) h14 h11
    obtain ⟨k1,k2⟩:=zaq_ h14 h11
    have k3:¬ kF tt=true:=by rw [k1];decide
    repeat'(intro t ht;first|(cases t<;>first|(cases ht;done)|(try simp only[zg_]at ht;try(exfalso;first|contradiction|omega)))|((first|refine zb_ ht ?_|refine ht ?_ ?_|refine ht.1 ?_ ?_|refine ht ?_)<;>clear ht))
    all_goals (try simp only [K1_,hroom,k2] at*)
    all_goals first
     | exact True.intro
     | exact ⟨by decide,by decide,z⟩
     | exact ⟨by decide,by decide,z,hn⟩
     | exact ⟨Nat.le_trans (l0 _) (by decide),by decide⟩
     | (have g:=fin _ _ k0;exact g)
 ·cases e
def rF (b:List Int):List Int:=b.drop (40+(mdN (b.drop 40)).toNat)
def x23 (t:Int) (b:List Int):Int:=if ¬ qF t (zP_ (wF t) b)=0 then qF t (zP_ (wF t) b) else if ¬ mdE (b.drop 40)=0 then mdE (b.drop 40) else if t=14 then idE (rF b) else if 0 < (rF b).length then 263 else 0
def Zs_ (t:Int) (b:List Int):Int:=if kF t=false then 10001 else if zZ_ (wF t) b=1 then 263 else if zZ_ (wF t) b=2 then 269 else if ¬ x23 t b=0 then x23 t b else if (65527:Int) < b.length then 263 else 0
def v23 (t:Int) (b:List Int):VMs:=(t,0,zP_ (wF t) b,[],[],mdL (b.drop 40),[],(if t=14 then idL (rF b) else []),[],[],[],[],0,0,[],())
def ql_ (t:Int) (b:List Int):VMs:=if Zs_ t b=0 then v23 t b else zMs
theorem QA_ {t:Int} {b:List Int} (h:¬ Zs_ t b=0):ql_ t b=zMs:=if_neg h
theorem x2_ {t:Int} {b:List Int} (h:Zs_ t b=0):ql_ t b=v23 t b:=if_pos h
theorem cuF {w b:List Int} (hs:zG_ w=40):(zZ_ w b=0->k8_ w b 0 263 269 0=0/\ky_ w b 0 0=40/\QR_ w b 0 0=zP_ w b)/\(zZ_ w b=1->k8_ w b 0 263 269 0=263)/\(zZ_ w b=2->k8_ w b 0 263 269 0=269):=by
 unfold k8_ ky_ QR_
 rw [if_pos rfl,if_pos rfl,if_pos rfl,show (0:Int).toNat=0 from rfl,List.drop_zero]
 refine ⟨fun h=>?_,fun h=>if_pos h,fun h=>?_⟩
 ·rw [if_neg (by omega),if_neg (by omega),if_neg (by omega),if_neg (by omega),hs];exact ⟨rfl,rfl,rfl⟩
 ·rw [if_neg (by omega),if_pos h]
def g1 (t:Int) (b:List Int):Int:=zt_ 0 (qF t (zP_ (wF t) b))
def gP (t:Int) (b:List Int):Int:=mtP b 40 (g1 t b)
def gE (t:Int) (b:List Int):Int:=mtE b 40 (g1 t b)
def gX (t:Int) (b:List Int):List OV:=mtL b 40 (g1 t b)
def gI (b:List Int):List VIn:=itL5 b (gP 14 b) (gE 14 b)
def hE (b:List Int):Int:=GD_ b (gP 14 b) (gE 14 b)
def hP (b:List Int):Int:=if gE 14 b=0 then (b.length:Int) else gP 14 b
theorem g1_e (t:Int) (b:List Int):g1 t b=qF t (zP_ (wF t) b):=by unfold g1 zt_;rw [if_pos rfl]
theorem g_no {t:Int} {b:List Int} (h:¬ qF t (zP_ (wF t) b)=0):gE t b=qF t (zP_ (wF t) b):=by
 unfold gE mtE;rw [g1_e,if_neg h]
theorem g_ok {t:Int} {b:List Int} (h:qF t (zP_ (wF t) b)=0):gE t b=mdE (b.drop 40)/\gP t b=40+mdN (b.drop 40)/\gX t b=mdL (b.drop 40):=by
 unfold gE gP gX mtE mtP mtL;rw [g1_e,h,if_pos rfl,if_pos rfl,if_pos rfl];exact ⟨rfl,rfl,rfl⟩
theorem rF_p {b:List Int} (hb:∀ x ∈ b,0<=x/\x<=255):b.drop (40+mdN (b.drop 40)).toNat=rF b/\((rF b).length:Int)=((b.length - 40:Nat):Int) - mdN (b.drop 40):=by
 have hN:=zcG_ (b.drop 40) fun x hx=>hb x (List.mem_of_mem_drop hx)
 have hl:(b.drop 40).length=b.length - 40:=List.length_drop
 have e:(40+mdN (b.drop 40)).toNat=40+(mdN (b.drop 40)).toNat:=by omega
 unfold rF
 rw [e,List.length_drop];exact ⟨rfl,by omega⟩
theorem zfS_ {b:List Int} (hb:∀ x ∈ b,0<=x/\x<=255) (h40:40<=b.length):hE b=x23 14 b/\(x23 14 b=0->hP b=b.length/\gX 14 b=mdL (b.drop 40)/\gI b=idL (rF b)):=by
 obtain ⟨r1,r2⟩:=rF_p hb
 unfold x23
 by_cases hq:qF 14 (zP_ (wF 14) b)=0
 ·obtain ⟨a1,a2,a3⟩:=g_ok hq
  rw [if_neg (not_not_intro hq)]
  by_cases hm:mdE (b.drop 40)=0
  ·rw [if_neg (not_not_intro hm),if_pos rfl]
   unfold hE hP gI GD_ itL5
   rw [a1,hm,if_pos rfl,if_pos rfl,if_pos rfl,a2,r1]
   exact ⟨rfl,fun _=>⟨rfl,a3,rfl⟩⟩
  ·rw [if_pos hm]
   refine ⟨?_,fun h=>absurd h hm⟩
   unfold hE GD_;rw [a1,if_neg hm]
 ·have a1:=g_no hq
  rw [if_pos hq]
  refine ⟨?_,fun h=>absurd h hq⟩
  unfold hE GD_;rw [a1,if_neg hq]
theorem zkH_ {b:List Int} (hb:∀ x ∈ b,0<=x/\x<=255) (h40:40<=b.length):(¬ gE 11 b=0->x23 11 b=gE 11 b)/\(gE 11 b=0->gX 11 b=mdL (b.drop 40)/\x23 11 b=if 0 < (b.length:Int) - gP 11 b then 263 else 0):=by
 obtain ⟨r1,r2⟩:=rF_p hb
 unfold x23
 by_cases hq:qF 11 (zP_ (wF 11) b)=0
 ·obtain ⟨a1,a2,a3⟩:=g_ok hq
  rw [if_neg (not_not_intro hq),a1,a2]
  constructor
  ·intro hm;rw [if_pos hm]
  ·intro hm
   rw [if_neg (not_not_intro hm),if_neg (by decide)]
   refine ⟨a3,?_⟩
   by_cases hl:0 < (rF b).length
   ·rw [if_pos hl,if_pos (by omega)]
   ·rw [if_neg hl,if_neg (by omega)]
 ·have a1:=g_no hq
  rw [if_pos hq,a1]
  exact ⟨fun _=>rfl,fun h=>absurd h hq⟩
theorem zcb_ {t:Int} {b:List Int} (hk:kF t=true):(zZ_ (wF t) b=1->Zs_ t b=263)/\(zZ_ (wF t) b=2->Zs_ t b=269)/\(zZ_ (wF t) b=0->Zs_ t b=if ¬ x23 t b=0 then x23 t b else if (65527:Int) < b.length then 263 else 0):=by
 unfold Zs_
 rw [if_neg (by rw [hk];decide)]
 refine ⟨fun h=>if_pos h,fun h=>?_,fun h=>?_⟩
 ·rw [if_neg (by omega),if_pos h]
 ·rw [if_neg (by omega),if_neg (by omega)]
def bs_:IR:=
(sq (kr [0,1] [oD 4 (.box [.int .i64 0,.int .u32 0,.imm (.int .u64) [],.imm (.int .u8) [],.imm YB [],.imm Y1 [],.imm Y2 [],.imm Y3 [],.imm Y4 [],.imm Y5 [],.imm Y7 [],.imm Y8 [],.int .i64 0,.int .i64 0,.imm YC []]),
oD 5 (.mov (cI 0))])
(sq (kr [0,1,4] [oM 13 0,
oC 14 26 [13],
oM 12 14,
oX 15 12 0,
oX 16 12 1,
oM 6 15,
oM 7 16])
(sq (sq (kr [0,1,4,6,7] [oM 17 7,
oD 18 (.un .not 17)])
(.cond 18
(sq (.reg [oD 19 (.build [.int .i64 0,.int .u32 0,.imm (.int .u64) [],.imm (.int .u8) [],.imm YB [],.imm Y1 [],.imm Y2 [],.imm Y3 [],.imm Y4 [],.imm Y5 [],.imm Y7 [],.imm Y8 [],.int .i64 0,.int .i64 0,.imm YC []] []),
oS 15 4 19,
oD 5 (.mov (cI 10001))])
.ret)
.skip))
(sq (.reg [oM 20 1,
oC 21 41 [20,(cI 263),(cI 269)],
oM 8 21])
(sq (kr [0,1,4,6,8] [oM 22 0,
oM 23 8,
oM 24 6,
oC 25 42 [23,24],
oD 26 (.build [.int .i64 0,.int .u32 0,.imm (.int .u64) [],.imm (.int .u8) [],.imm YB [],.imm Y1 [],.imm Y2 [],.imm Y3 [],.imm Y4 [],.imm Y5 [],.imm Y7 [],.imm Y8 [],.int .i64 0,.int .i64 0,.imm YC []] [(0,1,22),(2,1,25)]),
oD 9 (.box [.int .i64 0,.int .u32 0,.imm (.int .u64) [],.imm (.int .u8) [],.imm YB [],.imm Y1 [],.imm Y2 [],.imm Y3 [],.imm Y4 [],.imm Y5 [],.imm Y7 [],.imm Y8 [],.int .i64 0,.int .i64 0,.imm YC []]),
oS 15 9 26])
(sq (sq (.reg [oM 27 8,
oC 28 43 [27],
oM 10 28])
(sq (kr [0,1,4,8,9,10] [oM 29 10,
oB 30 .neq 29 (cI 0)])
(.cond 30
(sq (.reg [oD 31 (.build [.int .i64 0,.int .u32 0,.imm (.int .u64) [],.imm (.int .u8) [],.imm YB [],.imm Y1 [],.imm Y2 [],.imm Y3 [],.imm Y4 [],.imm Y5 [],.imm Y7 [],.imm Y8 [],.int .i64 0,.int .i64 0,.imm YC []] []),
oM 32 10,
oS 15 4 31,
oM 5 32])
.ret)
.skip)))
(sq (kr [0,1,4,8,9] [oM 33 8,
oM 34 0,
oA 35 2 9,
oL 36 35,
oC 37 30 [34,36],
oC 38 44 [33,37]])
(sq (.reg [oM 39 8,
oC 40 45 [39],
oA 41 5 9,
oS 1 41 40])
(sq (sq (kr [0,1,4,8,9] [oM 42 0,
oB 43 .eql 42 (cI 14)])
(.cond 43
(.reg [oM 44 8,
oC 45 46 [44],
oA 46 7 9,
oS 1 46 45])
.skip))
(sq (sq (kr [1,4,8,9] [oM 47 8,
oC 48 47 [47],
oB 49 .gtr 48 (cI 0),
oM 50 49,
oF 50 51 (.mov 1),
oF 50 52 (.len 51),
oF 50 53 (.bin .gtr 52 (cI 65527)),
oP 54 50 cT 53])
(.cond 54
(kr [4,8,9] [oM 55 8,
oC 56 44 [55,(cI 263)]])
.skip))
(sq (sq (kr [4,8,9] [oM 57 8,
oC 58 43 [57],
oM 11 58])
(sq (.reg [oM 59 11,
oB 60 .neq 59 (cI 0)])
(.cond 60
(sq (.reg [oD 61 (.build [.int .i64 0,.int .u32 0,.imm (.int .u64) [],.imm (.int .u8) [],.imm YB [],.imm Y1 [],.imm Y2 [],.imm Y3 [],.imm Y4 [],.imm Y5 [],.imm Y7 [],.imm Y8 [],.int .i64 0,.int .i64 0,.imm YC []] []),
oM 62 11,
oS 15 4 61,
oM 5 62])
.ret)
.skip)))
(sq (kr [4,9] [oK 63 15 9,
oS 15 4 63,
oD 5 (.mov (cI 0))])
.ret))))))))))))
def Hv_:List RD:=[.cell 4 (some 15) true [],.tmp 5 true none]
theorem HU_:zj_ Tryz.prog Tryz.f14 bs_ Hv_=true:=by kernel_rfl
def jC_:List AV->List Obj->Option (Prop × AV)
 | [.int .i64 tt,.imm (.int .u8) b],[]=>some ((b.length<=100000000,.tup [.agg [.int .i64 ((ql_ tt b)).1,.int .u32 ((ql_ tt b)).2.1,.imm (.int .u64) ((ql_ tt b)).2.2.1,.imm (.int .u8) ((ql_ tt b)).2.2.2.1,.imm YB ((ql_ tt b)).2.2.2.2.1,.imm Y1 ((ql_ tt b)).2.2.2.2.2.1,.imm Y2 ((ql_ tt b)).2.2.2.2.2.2.1,.imm Y3 ((ql_ tt b)).2.2.2.2.2.2.2.1,.imm Y4 ((ql_ tt b)).2.2.2.2.2.2.2.2.1,.imm Y5 ((ql_ tt b)).2.2.2.2.2.2.2.2.2.1,.imm Y7 ((ql_ tt b)).2.2.2.2.2.2.2.2.2.2.1,.imm Y8 ((ql_ tt b)).2.2.2.2.2.2.2.2.2.2.2.1,.int .i64 ((ql_ tt b)).2.2.2.2.2.2.2.2.2.2.2.2.1,.int .i64 ((ql_ tt b)).2.2.2.2.2.2.2.2.2.2.2.2.2.1,.imm YC ((ql_ tt b)).2.2.2.2.2.2.2.2.2.2.2.2.2.2.1],.int .i64 (Zs_ tt b)]))
 | _,_=>none
theorem XF_:zd_ Tryz.prog 14 (RoF jC_).sum:=by
 refine zi_ Tryz.func14 HU_ (za_ (s:=RoF qX_) Qn_ (za_ (s:=RwF ZJ_) ZN_ (za_ (s:=RwF zW_) z5_ (za_ (s:=RoF zp_) zq_ (za_ (s:=RoF q9_) QV_ (za_ (s:=RwF zr_) zs_ (za_ (s:=RwF KF_) WQ_ (za_ (s:=RwF wE_) uB_ (za_ (s:=RoF zS_) z3_ (zc_ _)))))))))) fun args objs p v e=>?_
 unfold jC_ at e
 split at e
 ·rename_i tt b
  cases e
  refine ⟨rfl,fun hw ho hp=>?_⟩
  change List Int at b
  have hb:∀ x ∈ (b:List Int),(0:Int)<=x/\x<=255:=fun x hx=>(hw (.imm (.int .u8) b) (by simp)).1 x hx
  clear hw ho
  by_cases h14:tt=14
  ·subst h14
   obtain ⟨e1,e2,e0⟩:=zcb_ (t:=14) (b:=b) rfl
   obtain ⟨c0,c1,c2⟩:=cuF (w:=wF 14) (b:=b) (by decide)
   rcases wk_ (wF 14) b with hk | hk | hk
   ·obtain ⟨c3,c4,c5⟩:=c0 hk
    obtain ⟨n1,n2⟩:=rowN hb hk
    rw [show zG_ (wF 14)=40 by decide] at n2
    obtain ⟨q1,q2⟩:=zfS_ hb (by omega)
    have e:=e0 hk
    have p1:0<=gP 14 b/\gP 14 b<=b.length:=H2_ (e:=g1 14 b) hb (by decide) n2
    have f1:mtP b 40 (zt_ 0 (qF 14 (zP_ (wF 14) b)))=gP 14 b:=rfl
    have f2:mtE b 40 (zt_ 0 (qF 14 (zP_ (wF 14) b)))=gE 14 b:=rfl
    have f3:mtL b 40 (zt_ 0 (qF 14 (zP_ (wF 14) b)))=gX 14 b:=rfl
    have f4:GD_ b (gP 14 b) (gE 14 b)=hE b:=rfl
    have f5:itL5 b (gP 14 b) (gE 14 b)=gI b:=rfl
    have f6:(if gE 14 b=0 then (b.length:Int) else gP 14 b)=hP b:=rfl
    have p2:0<=hP b/\hP b<=b.length:=by unfold hP;split<;>omega
    have E1:(65527:Int) < b.length->Zs_ 14 b=zt_ (hE b) 263:=fun h=>by
     rw [e,q1,if_pos h];unfold zt_
     by_cases h0:x23 14 b=0
     ·rw [if_neg (not_not_intro h0),if_pos h0]
     ·rw [if_pos h0,if_neg h0]
    have E2:0 < (b.length:Int) - hP b->Zs_ 14 b=zt_ (hE b) 263:=fun h=>by
     have h0:¬ x23 14 b=0:=fun c=>by have:=(q2 c).1;omega
     rw [e,q1,if_pos h0,Yc_ h0]
    have E3:¬ (65527:Int) < b.length->Zs_ 14 b=hE b:=fun h=>by
     rw [e,q1,if_neg h]
     by_cases h0:x23 14 b=0
     ·rw [if_neg (not_not_intro h0),h0]
     ·rw [if_pos h0]
    have q3:hE b=x23 14 b:=q1
    clear e q1
    repeat'(intro t ht;first|(cases t<;>first|(cases ht;done)|(try simp only[zg_]at ht;try(exfalso;first|contradiction|omega)))|((first|refine zb_ ht ?_|refine ht ?_ ?_|refine ht.1 ?_ ?_|refine ht ?_)<;>clear ht))
    all_goals (try simp only [c3,c4,c5,f1,f2,f3,f4,f5,f6] at*)
    all_goals first
     | exact True.intro
     | omega
     | (refine ⟨?_,?_,?_⟩<;>omega)
     | (refine ⟨?_,?_,?_,?_⟩<;>omega)
     | exact ⟨rfl,n1⟩
     | exact p1
     | exact absurd ht (jv_ _)
     | (have E:=E1 (by assumption)
        rw [QA_ (by rw [E];exact jv_ _),E];(first | exact ⟨rfl,rfl⟩ | exact ⟨rfl,True.intro⟩))
     | (have E:=E2 (by assumption)
        rw [QA_ (by rw [E];exact jv_ _),E];(first | exact ⟨rfl,rfl⟩ | exact ⟨rfl,True.intro⟩))
     | (have E:=E3 (by assumption)
        first
         | (have h0:hE b=0:=ht
            obtain ⟨_,j2,j3⟩:=q2 (q3 ▸ h0)
            rw [x2_ (E.trans h0),E,h0];unfold v23;rw [<- j2,<- j3];(first | exact ⟨rfl,rfl⟩ | exact ⟨rfl,True.intro⟩))
         | (rw [QA_ (by rw [E];exact ht),E];(first | exact ⟨rfl,rfl⟩ | exact ⟨rfl,True.intro⟩))
         | fail)
   ·have c3:=c1 hk
    have e:=e1 hk
    have hM:=QA_ (t:=14) (b:=b) (by rw [e];decide)
    repeat'(intro t ht;first|(cases t<;>first|(cases ht;done)|(try simp only[zg_]at ht;try(exfalso;first|contradiction|omega)))|((first|refine zb_ ht ?_|refine ht ?_ ?_|refine ht.1 ?_ ?_|refine ht ?_)<;>clear ht))
    all_goals (try simp only [c3] at*)
    all_goals first
     | exact True.intro
     | omega
     | (refine ⟨?_,?_,?_⟩<;>omega)
     | (rw [hM,e];(first | exact ⟨rfl,rfl⟩ | exact ⟨rfl,True.intro⟩))
   ·have c3:=c2 hk
    have e:=e2 hk
    have hM:=QA_ (t:=14) (b:=b) (by rw [e];decide)
    repeat'(intro t ht;first|(cases t<;>first|(cases ht;done)|(try simp only[zg_]at ht;try(exfalso;first|contradiction|omega)))|((first|refine zb_ ht ?_|refine ht ?_ ?_|refine ht.1 ?_ ?_|refine ht ?_)<;>clear ht))
    all_goals (try simp only [c3] at*)
    all_goals first
     | exact True.intro
     | omega
     | (refine ⟨?_,?_,?_⟩<;>omega)
     | (rw [hM,e];(first | exact ⟨rfl,rfl⟩ | exact ⟨rfl,True.intro⟩))
  ·by_cases h11:tt=11
   ·subst h11
    obtain ⟨e1,e2,e0⟩:=zcb_ (t:=11) (b:=b) rfl
    obtain ⟨c0,c1,c2⟩:=cuF (w:=wF 11) (b:=b) (by decide)
    rcases wk_ (wF 11) b with hk | hk | hk
    ·obtain ⟨c3,c4,c5⟩:=c0 hk
     obtain ⟨n1,n2⟩:=rowN hb hk
     rw [show zG_ (wF 11)=40 by decide] at n2
     obtain ⟨q1,q2⟩:=zkH_ hb (by omega)
     have e:=e0 hk
     have p1:0<=gP 11 b/\gP 11 b<=b.length:=H2_ (e:=g1 11 b) hb (by decide) n2
     have f1:mtP b 40 (zt_ 0 (qF 11 (zP_ (wF 11) b)))=gP 11 b:=rfl
     have f2:mtE b 40 (zt_ 0 (qF 11 (zP_ (wF 11) b)))=gE 11 b:=rfl
     have f3:mtL b 40 (zt_ 0 (qF 11 (zP_ (wF 11) b)))=gX 11 b:=rfl
     have E1:(65527:Int) < b.length->Zs_ 11 b=zt_ (gE 11 b) 263:=fun h=>by
      rw [e,if_pos h]
      by_cases h0:gE 11 b=0
      ·rw [(q2 h0).2,h0];split<;>split<;>first | rfl | (exfalso;omega)
      ·rw [q1 h0,if_pos h0,Yc_ h0]
     have E2:0 < (b.length:Int) - gP 11 b->Zs_ 11 b=zt_ (gE 11 b) 263:=fun h=>by
      rw [e]
      by_cases h0:gE 11 b=0
      ·rw [(q2 h0).2,if_pos h,h0];rfl
      ·rw [q1 h0,if_pos h0,Yc_ h0]
     have E3:¬ 0 < (b.length:Int) - gP 11 b->¬ (65527:Int) < b.length->Zs_ 11 b=gE 11 b:=fun h3 h=>by
      rw [e,if_neg h]
      by_cases h0:gE 11 b=0
      ·rw [(q2 h0).2,if_neg h3,h0];rfl
      ·rw [q1 h0,if_pos h0]
     clear e q1
     repeat'(intro t ht;first|(cases t<;>first|(cases ht;done)|(try simp only[zg_]at ht;try(exfalso;first|contradiction|omega)))|((first|refine zb_ ht ?_|refine ht ?_ ?_|refine ht.1 ?_ ?_|refine ht ?_)<;>clear ht))
     all_goals (try simp only [c3,c4,c5,f1,f2,f3] at*)
     all_goals first
      | exact True.intro
      | omega
      | (refine ⟨?_,?_,?_⟩<;>omega)
      | (refine ⟨?_,?_,?_,?_⟩<;>omega)
      | exact ⟨rfl,n1⟩
      | exact p1
      | exact absurd ht (jv_ _)
      | (have E:=E1 (by assumption)
         rw [QA_ (by rw [E];exact jv_ _),E];(first | exact ⟨rfl,rfl⟩ | exact ⟨rfl,True.intro⟩))
      | (have E:=E2 (by assumption)
         rw [QA_ (by rw [E];exact jv_ _),E];(first | exact ⟨rfl,rfl⟩ | exact ⟨rfl,True.intro⟩))
      | (have E:=E3 (by assumption) (by assumption)
         first
          | (have h0:gE 11 b=0:=ht
             have j2:=(q2 h0).1
             rw [x2_ (E.trans h0),E,h0];unfold v23;rw [<- j2];(first | exact ⟨rfl,rfl⟩ | exact ⟨rfl,True.intro⟩))
          | (rw [QA_ (by rw [E];exact ht),E];(first | exact ⟨rfl,rfl⟩ | exact ⟨rfl,True.intro⟩))
          | fail)
    ·have c3:=c1 hk
     have e:=e1 hk
     have hM:=QA_ (t:=11) (b:=b) (by rw [e];decide)
     repeat'(intro t ht;first|(cases t<;>first|(cases ht;done)|(try simp only[zg_]at ht;try(exfalso;first|contradiction|omega)))|((first|refine zb_ ht ?_|refine ht ?_ ?_|refine ht.1 ?_ ?_|refine ht ?_)<;>clear ht))
     all_goals (try simp only [c3] at*)
     all_goals first
      | exact True.intro
      | omega
      | (refine ⟨?_,?_,?_⟩<;>omega)
      | (rw [hM,e];(first | exact ⟨rfl,rfl⟩ | exact ⟨rfl,True.intro⟩))
    ·have c3:=c2 hk
     have e:=e2 hk
     have hM:=QA_ (t:=11) (b:=b) (by rw [e];decide)
     repeat'(intro t ht;first|(cases t<;>first|(cases ht;done)|(try simp only[zg_]at ht;try(exfalso;first|contradiction|omega)))|((first|refine zb_ ht ?_|refine ht ?_ ?_|refine ht.1 ?_ ?_|refine ht ?_)<;>clear ht))
     all_goals (try simp only [c3] at*)
     all_goals first
      | exact True.intro
      | omega
      | (refine ⟨?_,?_,?_⟩<;>omega)
      | (rw [hM,e];(first | exact ⟨rfl,rfl⟩ | exact ⟨rfl,True.intro⟩))
   ·obtain ⟨k1,k2⟩:=zaq_ h14 h11
    have k3:¬ kF tt=true:=by rw [k1];decide
    have e:Zs_ tt b=10001:=by unfold Zs_;rw [if_pos k1]
    have hM:=QA_ (t:=tt) (b:=b) (by rw [e];decide)
    repeat'(intro t ht;first|(cases t<;>first|(cases ht;done)|(try simp only[zg_]at ht;try(exfalso;first|contradiction|omega)))|((first|refine zb_ ht ?_|refine ht ?_ ?_|refine ht.1 ?_ ?_|refine ht ?_)<;>clear ht))
    all_goals first
     | exact True.intro
     | omega
     | (refine ⟨?_,?_,?_⟩<;>omega)
     | (rw [hM,e];exact ⟨rfl,rfl⟩)
 ·cases e
structure wfM23 (m:VMs):Prop where
 n:∀ q ∈ mN m,0<=q/\q<=18446744073709551615
 x:∀ o ∈ mX m,0<=o.2.2.2.1
 i:∀ i ∈ mI3 m,wfI i
theorem zbJ_ {m:VMs} (h:(wrF m).2=0):∃ y,vF (mT m) (mN m) (mX m) (mI3 m)=some y/\wrF m=(y,0)/\kF (mT m)=true/\qF (mT m) (mN m)=0/\Q9_ (Uc_ m)=true/\(y.length:Int)<=65527:=by
 unfold wrF at h ⊢
 split at h
 ·rename_i c
  rw [if_pos c]
  cases hv:vF (mT m) (mN m) (mX m) (mI3 m) with
  | none=>rw [hv] at h;cases h
  | some y=>
    rw [hv] at h
    unfold fnF at h ⊢
    dsimp only at h ⊢
    split at h
    ·cases h
    ·rename_i hl
     exact ⟨y,rfl,if_neg hl,c.1,c.2.1,c.2.2,by omega⟩
 ·cases h
theorem hQ_ (m:VMs):(wrF m).1.length<=65527:=by
 by_cases h:(wrF m).2=0
 ·obtain ⟨y,_,h3,_,_,_,h5⟩:=zbJ_ h
  rw [h3];show y.length<=65527;omega
 ·unfold wrF fnF at h ⊢
  split
  ·split
   ·split
    ·exact Nat.zero_le _
    ·rename_i hl;show (_:List Int).length<=65527;dsimp only;omega
   ·exact Nat.zero_le _
  ·exact Nat.zero_le _
theorem uW_ {w n r y:List Int} {x:List OV} (hs:zG_ w=40) (hwn:∀ q ∈ n,0<=q/\q<=18446744073709551615) (hk:ZX_ w n=true) (hr:rgM x=true) (hwx:∀ o ∈ x,0<=o.2.2.2.1) (e:y=Zn_ w n++(meB x++r)):zP_ w y=n/\zZ_ w y=0/\mdE (y.drop 40)=0/\mdL (y.drop 40)=x/\rF y=r:=by
 obtain ⟨f1,f2⟩:=YM_ (meB x++r) hwn hk
 rw [<- e] at f1
 rw [hs,show (40:Int).toNat=40 from rfl] at f2
 have hd:y.drop 40=meB x++r:=by rw [e,<- f2,List.drop_left]
 obtain ⟨m1,m2,m3⟩:=zjL_ (b:=r) hr hwx
 refine ⟨congrArg Prod.fst f1,congrArg Prod.snd f1,by rw [hd];exact m1,by rw [hd];exact m2,?_⟩
 unfold rF;rw [hd,m3,Int.toNat_natCast,<- List.drop_drop,hd,List.drop_left]
theorem YZ_ {x:List OV} {y:List Int} (h:H6_ x=some y):rgM x=true/\y=meB x:=by
 unfold H6_ at h;split at h
 ·cases h;exact ⟨by assumption,rfl⟩
 ·cases h
theorem hq_ {x:List VIn} {y:List Int} (h:insO x=some y):rgI x=true/\y=boI x:=by
 unfold insO at h;split at h
 ·cases h;exact ⟨by assumption,rfl⟩
 ·cases h
theorem hP_ {m:VMs} (hw:wfM23 m) (h:(wrF m).2=0):Zs_ (mT m) (wrF m).1=0/\kF (mT m)=true/\(((ql_ (mT m) (wrF m).1).1,m.2.1,(ql_ (mT m) (wrF m).1).2.2):VMs)=m:=by
 obtain ⟨y,hv,h3,hk,hq,hb,hl⟩:=zbJ_ h
 rw [h3]
 have hbm:=ziy_.1 hb
 obtain ⟨t,xi,n,d,el,x,a,ins,m8⟩:=m
 have hwn:∀ q ∈ n,0<=q/\q<=18446744073709551615:=hw.n
 have hwx:∀ o ∈ x,0<=o.2.2.2.1:=hw.x
 have hwi:∀ i ∈ ins,wfI i:=hw.i
 replace hv:vF t n x ins=some y:=hv
 replace hk:kF t=true:=hk
 replace hq:qF t n=0:=hq
 have hd:d=[]:=congrArg (fun q:VMs=>q.2.2.2.1) hbm
 have hel:el=[]:=congrArg (fun q:VMs=>q.2.2.2.2.1) hbm
 have ha:a=[]:=congrArg (fun q:VMs=>q.2.2.2.2.2.2.1) hbm
 have hm8:m8=([],[],[],[],0,0,[],()):=congrArg (fun q:VMs=>q.2.2.2.2.2.2.2.2) hbm
 have hin:(if t=14 then [] else ins)=[]:=congrArg (fun q:VMs=>q.2.2.2.2.2.2.2.1) hbm
 show Zs_ t y=0/\kF t=true/\(((ql_ t y).1,xi,(ql_ t y).2.2):VMs)=(t,xi,n,d,el,x,a,ins,m8)
 subst hd hel ha hm8
 rcases kF_t.1 hk with rfl | rfl
 ·unfold vF at hv;rw [if_pos rfl] at hv
  obtain ⟨p,q,g1,g2,g3⟩:=kp_ hv
  obtain ⟨p1,p2,g4,g5,g6⟩:=kp_ g1
  obtain ⟨k1,k2⟩:=x0_ g4
  obtain ⟨r1,r2⟩:=YZ_ g5
  obtain ⟨i1,i2⟩:=hq_ g2
  have e:y=Zn_ w14 n++(meB x++boI ins):=by rw [g3,g6,k2,r2,i2,List.append_assoc]
  obtain ⟨a1,a2,a3,a4,a5⟩:=uW_ (by decide) hwn k1 r1 hwx e
  obtain ⟨j1,j2⟩:=zjX_ i1 hwi
  have hw14:wF 14=w14:=rfl
  have hx:x23 14 y=0:=by unfold x23;rw [hw14,a1,if_neg (not_not_intro hq),if_neg (not_not_intro a3),if_pos rfl,a5,j2]
  have hE:Zs_ 14 y=0:=by unfold Zs_;rw [if_neg (by decide),hw14,if_neg (by omega),if_neg (by omega),if_neg (not_not_intro hx),if_neg (by omega)]
  refine ⟨hE,rfl,?_⟩
  rw [x2_ hE];unfold v23;rw [hw14,a1,a4,a5,j1,if_pos rfl]
 ·unfold vF at hv;rw [if_neg (by decide)] at hv
  obtain ⟨p1,p2,g4,g5,g6⟩:=kp_ hv
  obtain ⟨k1,k2⟩:=x0_ g4
  obtain ⟨r1,r2⟩:=YZ_ g5
  rw [if_neg (by decide)] at hin
  subst hin
  have e:y=Zn_ w11 n++(meB x++[]):=by rw [g6,k2,r2,List.append_nil]
  obtain ⟨a1,a2,a3,a4,a5⟩:=uW_ (by decide) hwn k1 r1 hwx e
  have hw11:wF 11=w11:=rfl
  have hx:x23 11 y=0:=by unfold x23;rw [hw11,a1,if_neg (not_not_intro hq),if_neg (not_not_intro a3),if_neg (by decide),a5,if_neg (by decide)]
  have hE:Zs_ 11 y=0:=by unfold Zs_;rw [if_neg (by decide),hw11,if_neg (by omega),if_neg (by omega),if_neg (not_not_intro hx),if_neg (by omega)]
  refine ⟨hE,rfl,?_⟩
  rw [x2_ hE];unfold v23;rw [hw11,a1,a4,if_neg (by decide)]
theorem zfU_ {t:Int} {b:List Int} (h:Zs_ t b=0):kF t=true/\zZ_ (wF t) b=0/\x23 t b=0/\(b.length:Int)<=65527:=by
 unfold Zs_ at h
 split at h
 ·cases h
 ·rename_i hk
  split at h
  ·cases h
  ·split at h
   ·cases h
   ·split at h
    ·rename_i hx;exact absurd h hx
    ·rename_i hx
     split at h
     ·cases h
     ·have:=wk_ (wF t) b
      exact ⟨by cases hq:kF t<;>simp_all,by omega,Classical.byContradiction hx,by omega⟩
theorem zky_ {t:Int} {b:List Int} (h:x23 t b=0):qF t (zP_ (wF t) b)=0/\mdE (b.drop 40)=0/\(t=14->idE (rF b)=0)/\(¬ t=14->rF b=[]):=by
 unfold x23 at h
 split at h
 ·rename_i hq;exact absurd h hq
 ·rename_i hq
  split at h
  ·rename_i hm;exact absurd h hm
  ·rename_i hm
   split at h
   ·rename_i ht
    exact ⟨Classical.byContradiction hq,Classical.byContradiction hm,fun _=>h,fun c=>absurd ht c⟩
   ·rename_i ht
    split at h
    ·cases h
    ·rename_i hl
     exact ⟨Classical.byContradiction hq,Classical.byContradiction hm,fun c=>absurd c ht,fun _=>List.eq_nil_of_length_eq_zero (by omega)⟩
theorem zhP_ {t:Int} {b:List Int} (hb:∀ x ∈ b,0<=x/\x<=255) (h:Zs_ t b=0):wrF (ql_ t b)=(b,0)/\(ql_ t b).1=t/\(ql_ t b).2.1=0/\rgM (mX (ql_ t b))=true/\rgI (mI3 (ql_ t b))=true/\(boI (mI3 (ql_ t b))).length<=b.length:=by
 obtain ⟨h1,h2,h3,h4⟩:=zfU_ h
 obtain ⟨q1,q2,q3,q4⟩:=zky_ h3
 have hdr:∀ k,∀ x ∈ b.drop k,0<=x/\x<=255:=fun k x hx=>hb x (List.mem_of_mem_drop hx)
 have hs40:zG_ (wF t)=40:=by rcases kF_t.1 h1 with rfl | rfl<;>decide
 obtain ⟨p1,p2,p3⟩:=kw_ hb (show ZE_ (wF t) b=(zP_ (wF t) b,0) from Prod.ext rfl h2)
 rw [hs40,show (40:Int).toNat=40 from rfl] at p2
 obtain ⟨d1,d2,d3,d4⟩:=zjM_ (hdr 40) q2
 have e1:uL_ (wF t) (zP_ (wF t) b)=some (b.take 40):=by unfold uL_;rw [if_pos p1,p2]
 have e2:H6_ (mdL (b.drop 40))=some ((b.drop 40).take (mdN (b.drop 40)).toNat):=by unfold H6_;rw [if_pos d1,d2]
 have hsum:b.take 40++(b.drop 40).take (mdN (b.drop 40)).toNat++rF b=b:=by
  unfold rF;rw [List.append_assoc,<- List.drop_drop,List.take_append_drop,List.take_append_drop]
 have hfl:(rF b).length<=b.length:=by unfold rF;rw [List.length_drop];omega
 rw [x2_ h]
 rcases kF_t.1 h1 with rfl | rfl
 ·have hJ:rgI (idL (rF b))=true/\boI (idL (rF b))=rF b/\(rF b).length<=65528:=zjY_ (fun x hx=>hdr _ x hx) (q3 rfl)
  obtain ⟨j1,j2,j3⟩:=hJ
  have hv:vF 14 (zP_ (wF 14) b) (mdL (b.drop 40)) (idL (rF b))=some b:=by
   unfold vF;rw [if_pos rfl,show w14=wF 14 from rfl,e1,e2]
   have e3:insO (idL (rF b))=some (rF b):=by unfold insO;rw [if_pos j1];rw [j2]
   rw [e3,Jv_,Jv_,hsum]
  have hB:Q9_ (Uc_ (v23 14 b))=true:=rfl
  refine ⟨?_,rfl,rfl,d1,j1,?_⟩
  ·unfold wrF
   rw [if_pos ⟨show kF (mT (v23 14 b))=true from rfl,show qF (mT (v23 14 b)) (mN (v23 14 b))=0 from q1,hB⟩]
   rw [show vF (mT (v23 14 b)) (mN (v23 14 b)) (mX (v23 14 b)) (mI3 (v23 14 b))=some b from hv]
   unfold fnF;dsimp only;rw [if_neg (by omega)]
  ·show (boI (idL (rF b))).length<=b.length
   rw [j2];exact hfl
 ·have hv:vF 11 (zP_ (wF 11) b) (mdL (b.drop 40)) []=some b:=by
   unfold vF;rw [if_neg (by decide),show w11=wF 11 from rfl,e1,e2,Jv_]
   rw [q4 (by decide),List.append_nil] at hsum
   rw [hsum]
  have hB:Q9_ (Uc_ (v23 11 b))=true:=rfl
  refine ⟨?_,rfl,rfl,d1,(by show rgI []=true;decide),Nat.zero_le _⟩
  unfold wrF
  rw [if_pos ⟨show kF (mT (v23 11 b))=true from rfl,show qF (mT (v23 11 b)) (mN (v23 11 b))=0 from q1,hB⟩]
  rw [show vF (mT (v23 11 b)) (mN (v23 11 b)) (mX (v23 11 b)) (mI3 (v23 11 b))=some b from hv]
  unfold fnF;dsimp only;rw [if_neg (by omega)]
theorem zfN_ {l:List VIn} (h:rgI l=true) (hn:l.length<=1000):okI l:=by
 unfold rgI at h
 simp only [Bool.and_eq_true,decide_eq_true_eq] at h
 refine ⟨fun i hi=>?_,hn⟩
 obtain ⟨y,hy⟩:=Option.isSome_iff_exists.1 (uc_ h.1 i hi)
 obtain ⟨_,_,_,_,_,_,_,_,r,s,l⟩:=Xe_.1 hy
 refine ⟨zjp_ r,?_⟩
 have:=congrArg List.length s
 simp only [List.length_append] at this
 omega
theorem zkG_ {l:List VIn} (h:rgI l=true):8*l.length<=(boI l).length:=by
 unfold rgI at h
 simp only [Bool.and_eq_true,decide_eq_true_eq] at h
 exact (zel_ (uc_ h.1)).1
def y6_:IR:=
(sq (kr [0] [oD 2 (.nilrow Y3),
oD 3 (.mov (cI 0))])
(sq (sq (.reg [oM 10 0,
oE 11 10,
oB 12 .gtr 11 (cI 65528)])
(.cond 12
(sq (kr [0] [oM 13 0,
oC 14 135 [13],
oX 15 14 0,
oX 16 14 1,
oM 2 15,
oM 3 16])
.ret)
.skip))
(sq (.reg [oD 4 (.nilrow Y3)])
(sq (kr [0,4] [oD 17 (.mkmap (.int .i64) (.int .i64)),
oM 5 17])
(sq (.block 0
(.loop
(sq (sq (kr [0,4,5] [oM 18 0,
oE 19 18,
oB 20 .gtr 19 (cI 0)])
(.cond 20
.skip
(.exit 0)))
(.block 1
(sq (kr [0,4,5] [oC 22 125 [],
oM 23 0,
oC 24 136 [22,23],
oM 21 24,
oX 25 21 0,
oX 26 21 1,
oX 27 21 2,
oD 6 (.box [.int .i64 0,.imm (.int .u8) []]),
oS 2 6 25,
oM 7 26,
oM 8 27])
(sq (sq (kr [0,4,5,6,7,8] [oM 28 8,
oB 29 .neq 28 (cI 0)])
(.cond 29
(sq (.reg [oM 30 8,
oD 2 (.nilrow Y3),
oM 3 30])
.ret)
.skip))
(sq (kr [0,4,5,6,7] [oK 32 2 6,
oM 33 5,
oC 34 137 [32,33],
oM 31 34,
oX 35 31 0,
oX 36 31 1,
oD 9 (.box [.int .i64 0,.int .u64 0,.int .u64 0,.imm Y2 [],.imm (.int .u8) []]),
oS 5 9 35,
oM 8 36])
(sq (sq (kr [0,4,5,7,8,9] [oM 37 8,
oB 38 .neq 37 (cI 0)])
(.cond 38
(sq (.reg [oM 39 8,
oD 2 (.nilrow Y3),
oM 3 39])
.ret)
.skip))
(sq (kr [0,4,5,7,9] [oM 40 5,
oA 41 0 9,
oL 42 41,
oD 43 (.mget (.int .i64) (.int .i64) (0:Int) false 40 42),
oB 44 .add 43 (cI 1),
oN (.mput (.int .i64) (.int .i64) 40 42 44)])
(sq (kr [0,4,5,7,9] [oM 45 4,
oK 46 5 9,
oD 47 (.sliceAll Y3 1 [(0,5,46)]),
oD 48 (.append Y3 72 45 47),
oM 4 48])
(.reg [oM 49 0,
oM 50 7,
oD 51 (.slice 1 49 (some 50) none none),
oM 0 51])))))))))))
(sq (kr [4] [oM 52 4,
oM 2 52,
oD 3 (.mov (cI 0))])
.ret))))))
def yM_:List RD:=[.tmp 2 false none,.tmp 3 false none]
theorem yV_:zj_ Tryz.prog Tryz.f100 y6_ yM_=true:=by kernel_rfl
def kE_:List AV->List Obj->Option (Prop × AV × List Obj)
 | [.imm (.int .u8) b],[]=>some ((b.length<=65528,.tup [.own 0,.int .i64 (idE b)],[.row false Y3 (idL b)]))
 | _,_=>none
theorem XK_:zd_ Tryz.prog 100 (RwF kE_).sum:=by
 refine qg_ Tryz.func100 yV_ (za_ (s:=RoF KH_) WS_ (za_ (s:=RoF qs_) Qx_ (za_ (s:=RoF KQ_) jo_ (za_ (s:=RoF Kc_) jE_ (zc_ _))))) fun args objs p v o e=>?_
 unfold kE_ at e
 split at e
 ·rename_i b
  cases e
  refine ⟨rfl,fun hw ho hp=>?_⟩
  change List Int at b
  have hb:∀ z ∈ (b:List Int),(0:Int)<=z/\z<=255:=fun z hz=>(hw (.imm (.int .u8) b) (by simp)).1 z hz
  clear hw ho
  have hlong:¬ 65528 < b.length:=by omega
  ·repeat'(intro t ht;first|(cases t<;>first|(cases ht;done)|(try simp only[zg_]at ht;try(exfalso;first|contradiction|omega)))|((first|refine zb_ ht ?_|refine ht ?_ ?_|refine ht.1 ?_ ?_|refine ht ?_)<;>clear ht))
   all_goals first
    | exact True.intro
    | (exfalso;omega)
    | (intro r h1 h2;clear h1;refine h2 ⟨[0,4,5],List VIn × List Int × List (Int × Int),(fun a=>a.1.length+a.2.1.length<=b.length/\mOk a.2.2 a.1/\(∀ z ∈ a.2.1,(0:Int)<=z/\z<=255)/\inG [] b=inG a.1 a.2.1),fun a=>[.imm (.int .u8) a.2.1,.own 0,.mapv 1],fun a=>[.row false Y3 a.1,.map true (.int .i64) (.int .i64) a.2.2],fun a=>a.2.1.length,⟨([],b,[]),⟨by simp,V8_,hb,rfl⟩,rfl,rfl⟩,?_⟩;clear h2)
   rintro ⟨acc,y,m⟩ ⟨jl,jm,jb,je⟩
   dsimp only at jl jm jb je
   repeat'(intro t ht;first|(cases t<;>first|(cases ht;done)|(try simp only[zg_]at ht;try(exfalso;first|contradiction|omega)))|((first|refine zb_ ht ?_|refine ht ?_ ?_|refine ht.1 ?_ ?_|refine ht ?_)<;>clear ht))
   all_goals first
    | exact True.intro
    | ((try simp only [zm_,zn_,zl_] at*);omega)
    | exact ⟨rfl,by decide,by dsimp only;omega⟩
    | (simp only [List.length_cons,List.length_nil];constructor<;>omega)
    | (have h0:y.length=0:=by omega
       rw [x6_ h0] at je
       obtain ⟨d1,d2⟩:=(bA_ je).2 (by omega)
       rw [d1,d2];exact ⟨rfl,rfl⟩)
    | (have hT:¬ tlE y 8 8 776=0:=by assumption
       have hi:=bz_ (acc:=acc) hT
       have hg:=wj_ (acc:=acc) (y:=y) (by omega) (by rw [hi];exact hT)
       rw [hi,<- je] at hg
       obtain ⟨d1,d2⟩:=Y6_ (b:=b) (e:=tlE y 8 8 776) (by rw [hg]) hT
       rw [d1,d2];exact ⟨rfl,rfl⟩)
    | (have hT:tlE y 8 8 776=0:=by assumption
       obtain ⟨t1,t2,t3⟩:=V4_ hT
       obtain ⟨i1,i2⟩:=by_ jm hT
       have i3:(o5V (decide (0 < (zw_ m (tlI y 8 8 776 (tT y))).getD 0)) (tlI y 8 8 776 (tT y)) (tlR y 8 8 776)).1=tT y:=by rw [i2];exact vI_t
       first
        | (show (tlR y 8 8 776).length<=100000;rw [t3];have:=zbx_ jb;omega)
        | (have hr:=jm.r (o5V (decide (0 < (zw_ m (tlI y 8 8 776 (tT y))).getD 0)) (tlI y 8 8 776 (tT y)) (tlR y 8 8 776)).1
           exact (show IntKind.i64.min<=(zw_ m (o5V (decide (0 < (zw_ m (tlI y 8 8 776 (tT y))).getD 0)) (tlI y 8 8 776 (tT y)) (tlR y 8 8 776)).1).getD 0+1/\(zw_ m (o5V (decide (0 < (zw_ m (tlI y 8 8 776 (tT y))).getD 0)) (tlI y 8 8 776 (tT y)) (tlR y 8 8 776)).1).getD 0+1<=IntKind.i64.max from by simp only [zl_];omega))
        | (have h0:¬ o5E (decide (0 < (zw_ m (tlI y 8 8 776 (tT y))).getD 0)) (tlI y 8 8 776 (tT y)) (tlR y 8 8 776)=0:=ht
           have hg:=wj_ (acc:=acc) (y:=y) (by omega) (by rw [<- i1];exact h0)
           rw [<- i1,<- je] at hg
           obtain ⟨d1,d2⟩:=Y6_ (b:=b) (e:=o5E (decide (0 < (zw_ m (tlI y 8 8 776 (tT y))).getD 0)) (tlI y 8 8 776 (tT y)) (tlR y 8 8 776)) (by rw [hg]) h0
           rw [d1,d2];exact ⟨rfl,rfl⟩)
        | (have h0:o5E (decide (0 < (zw_ m (tlI y 8 8 776 (tT y))).getD 0)) (tlI y 8 8 776 (tT y)) (tlR y 8 8 776)=0:=by assumption
           obtain ⟨n1,n2,n3⟩:=UX_ (i1.symm.trans h0)
           first
            | (show 0<=tlI y 8 8 776 (tN y)/\tlI y 8 8 776 (tN y)<=(y.length:Int);rw [t2];omega)
            | (have hg:=UY_ (acc:=acc) (y:=y) (by omega) (i1.symm.trans h0) (by omega)
               have hma:=V9_ (i:=vI acc y) jm
               refine ⟨(acc++[vI acc y],y.drop (tN y).toNat,kj_ m (vI acc y).1 ((zw_ m (vI acc y).1).getD 0+1)),⟨?_,hma,fun z hz=>jb z (List.mem_of_mem_drop hz),je.trans hg⟩,?_,?_,?_⟩
               ·dsimp only;rw [List.length_append,List.length_singleton,List.length_drop];omega
               ·dsimp only;rw [List.length_drop];omega
               ·dsimp only;rw [t2];try rfl
               ·dsimp only;rw [<- i2];try rfl)
            | fail)
        | fail)
 ·cases e
def VQ_:IR:=
(sq (kr [0] [oD 2 (.nilrow Y3)])
(sq (.reg [oM 6 0,
oC 7 99 [6],
oM 3 7])
(sq (sq (.reg [oM 8 0,
oC 9 43 [8],
oB 10 .neq 9 (cI 0)])
(.cond 10
(sq (kr [] [oD 2 (.nilrow Y3)])
.ret)
.skip))
(sq (kr [0,3] [oM 12 3,
oC 13 100 [12],
oM 11 13,
oX 14 11 0,
oX 15 11 1,
oM 4 14,
oM 5 15])
(sq (kr [0,4,5] [oM 16 0,
oM 17 5,
oC 18 44 [16,17]])
(sq (.reg [oM 19 4,
oM 2 19])
.ret))))))
def Vr_:List RD:=[.tmp 2 false none]
theorem VD_:zj_ Tryz.prog Tryz.f46 VQ_ Vr_=true:=by kernel_rfl
def ja_:List AV->List Obj->Option (Prop × AV × List Obj)
 | [.ptr 0 0],[.box [.imm (.int .u8) b,.int .i64 p,.int .i64 sh,.int .i64 od,.int .i64 e,.bool true]]=>some ((0<=p/\p<=b.length/\b.length<=65528/\sh ≠ 0,.own 1,[.box [.imm (.int .u8) b,.int .i64 ((if e=0 then (b.length:Int) else p)),.int .i64 sh,.int .i64 od,.int .i64 (GD_ b p e),.bool true],.row false Y3 (itL5 b p e)]))
 | _,_=>none
theorem Yz_:zd_ Tryz.prog 46 (RwF ja_).sum:=by
 refine qg_ Tryz.func46 VD_ (za_ (s:=RwF Zd_) ZG_ (za_ (s:=RoF zp_) zq_ (za_ (s:=RwF kE_) XK_ (za_ (s:=RwF zr_) zs_ (zc_ _))))) fun args objs p v o e=>?_
 unfold ja_ at e
 split at e
 ·rename_i b p sh od e
  cases e
  refine ⟨rfl,fun hw ho hp=>?_⟩
  change List Int at b
  clear hw ho
  obtain ⟨h1,h2,h3,h4⟩:=hp
  have hl:(b.drop p.toNat).length<=65528:=by rw [List.length_drop];omega
  by_cases he:e=0
  ·subst he
   have f0:∀ x,zt_ 0 x=x:=fun x=>if_pos rfl
   repeat'(intro t ht;first|(cases t<;>first|(cases ht;done)|(try simp only[zg_]at ht;try(exfalso;first|contradiction|omega)))|((first|refine zb_ ht ?_|refine ht ?_ ?_|refine ht.1 ?_ ?_|refine ht ?_)<;>clear ht))
   all_goals first
    | exact True.intro
    | exact ⟨h1,h2,by omega,h4⟩
    | exact hl
    | exact ⟨rfl,rfl⟩
    | (exfalso;omega)
  ·repeat'(intro t ht;first|(cases t<;>first|(cases ht;done)|(try simp only[zg_]at ht;try(exfalso;first|contradiction|omega)))|((first|refine zb_ ht ?_|refine ht ?_ ?_|refine ht.1 ?_ ?_|refine ht ?_)<;>clear ht))
   all_goals first
    | exact True.intro
    | exact ⟨h1,h2,by omega,h4⟩
    | (unfold itL5 GD_;rw [if_neg he,if_neg he,if_neg he];exact ⟨rfl,rfl⟩)
    | (exfalso;omega)
 ·cases e
end Go.Eng
