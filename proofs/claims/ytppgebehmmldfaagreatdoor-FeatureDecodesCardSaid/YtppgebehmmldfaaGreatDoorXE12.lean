/- Parts of the proof: C1, B1, P4, P5, P6, N1. No condition. -/
import Derived.Test.YtppgebehmmldfaaGreatDoorProg
import Derived.Test.YtppgebehmmldfaaGreatDoorXE10
import Derived.KernelRfl
import Derived.Test.YtppgebehmmldfaaGreatDoorXE11
namespace Go.Eng
open Go.Proofs
set_option linter.unusedVariables false
set_option linter.unusedSimpArgs false
set_option maxRecDepth 100000
set_option maxHeartbeats 1000000
def Yr_:IR:=
(sq (kr [0] [oD 2 (.mov (.c (.imm (.int .u8) [])))])
(sq (sq (.reg [oM 3 0,
oD 4 (.isnil false 3)])
(.cond 4
(sq (.reg [oD 2 (.mov (.c (.imm (.int .u8) [])))])
.ret)
.skip))
(sq (.reg [oD 5 (.slice0 (.int .u8)),
oM 6 0,
oD 7 (.append (.int .u8) 1 5 6),
oM 2 7])
.ret)))
def y3_:List RD:=[.tmp 2 true (some (.int .u8))]
theorem Yf_:zo_ Tryz.prog Tryz.f37 Yr_ y3_=true:=by kernel_rfl
def qP_:List AV->List Obj->Option (Prop × AV)
 | [.imm (.int .u8) b],[]=>some ((b.length<=140737488355328,.imm (.int .u8) b))
 | _,_=>none
theorem kp_:zf_ Tryz.prog 37 (RoF qP_).sum:=by
 refine zw_ Tryz.func37 Yf_ (zg_ _) fun args objs p v e=>?_
 unfold qP_ at e
 split at e
 ·rename_i b
  cases e
  refine ⟨rfl,fun hw ho hp=>?_⟩
  change List Int at b
  repeat'(intro t ht;first|(cases t<;>first|(cases ht;done)|(try simp only[zh_]at ht))|((first|refine za_ ht ?_|refine ht ?_ ?_|refine ht.1 ?_ ?_|refine ht ?_)<;>clear ht))
  all_goals first
   | (simp only [k8_,List.length_nil,Nat.zero_add,Nat.mul_one];omega)
   | exact ⟨rfl,rfl⟩
   | (have e:b=[]:=by simp_all
      refine ⟨?_,rfl⟩;rw [e])
 ·cases e
def Jp_:IR:=
(sq (kr [0] [oD 2 (.mov cF)])
(sq (kr [0] [oM 3 0,
oD 4 (.eqp false 3 (.c (.nilp))),
oM 5 4,
oF 5 6 (.mov 0),
oF 5 7 (.nilck 6),
oF 5 8 (.fieldAddr 5 7),
oF 5 9 (.load none 8),
oF 5 10 (.un .not 9),
oP 11 5 cT 10,
oM 2 11])
.ret))
def j1_:List RD:=[.tmp 2 true none]
theorem Jd_:zo_ Tryz.prog Tryz.f41 Jp_ j1_=true:=by kernel_rfl
def zM_:List AV->List Obj->Option (Prop × AV)
 | [.ptr 0 0],[.box [.imm (.int .u8) b,.int .i64 p,.int .i64 sh,.int .i64 od,.int .i64 e,.bool true]]=>some ((True,.bool false))
 | _,_=>none
theorem z3_:zf_ Tryz.prog 41 (RoF zM_).sum:=by
 refine zw_ Tryz.func41 Jd_ (zg_ _) fun args objs p v e=>?_
 unfold zM_ at e
 split at e
 ·rename_i b p sh od e
  cases e
  refine ⟨rfl,fun hw ho hp=>?_⟩
  change List Int at b
  repeat'(intro t ht;first|(cases t<;>first|(cases ht;done)|(try simp only[zh_]at ht))|((first|refine za_ ht ?_|refine ht ?_ ?_|refine ht.1 ?_ ?_|refine ht ?_)<;>clear ht))
  all_goals exact ⟨rfl,rfl⟩
 ·cases e
def vB_:IR:=
(sq (kr [0,1,2] [oD 6 (.mov (.c (.nilp)))])
(sq (kr [0,1,2] [oM 7 0,
oC 8 37 [7],
oM 9 1,
oM 10 2,
oD 11 (.build [.imm (.int .u8) [],.int .i64 0,.int .i64 0,.int .i64 0,.int .i64 0,.kb false] [(0,1,8),(2,1,9),(3,1,10),(5,1,cT)]),
oD 12 (.boxv 11),
oM 6 12])
.ret))
def vl_:List RD:=[.tmp 6 true none]
theorem vt_:zo_ Tryz.prog Tryz.f11 vB_ vl_=true:=by kernel_rfl
def ZO_:List AV->List Obj->Option (Prop × AV × List Obj)
 | [.imm (.int .u8) b,.int .i64 sh,.int .i64 od],[]=>some ((b.length<=140737488355328,.ptr 0 0,[.box [.imm (.int .u8) b,.int .i64 0,.int .i64 sh,.int .i64 od,.int .i64 0,.bool true]]))
 | _,_=>none
theorem qd_:zf_ Tryz.prog 11 (RwF ZO_).sum:=by
 refine ZS_ Tryz.func11 vt_ (zb_ (s:=RoF qP_) kp_ (zg_ _)) fun args objs p v o e=>?_
 unfold ZO_ at e
 split at e
 ·rename_i b sh od
  cases e
  refine ⟨rfl,fun hw ho hp=>?_⟩
  change List Int at b
  repeat'(intro t ht;first|(cases t<;>first|(cases ht;done)|(try simp only[zh_]at ht))|((first|refine za_ ht ?_|refine ht ?_ ?_|refine ht.1 ?_ ?_|refine ht ?_)<;>clear ht))
  all_goals first
   | exact hp
   | exact ⟨rfl,rfl⟩
 ·cases e
def zn_ (e x:Int):Int:=if e=0 then x else e
def Js_:IR:=
(sq (kr [0,1] [oM 4 0,
oC 5 41 [4],
oD 6 (.un .not 5),
oM 7 6,
oT 7 8 (.mov 0),
oT 7 9 (.nilck 8),
oT 7 10 (.fieldAddr 4 9),
oT 7 11 (.load none 10),
oT 7 12 (.bin .eql 11 (cI 0)),
oP 13 7 12 cF])
(.cond 13
(kr [0,1] [oM 14 0,
oM 15 1,
oD 16 (.nilck 14),
oA 17 4 16,
oS 1 17 15])
.skip))
def j4_:List RD:=[]
theorem Jg_:zo_ Tryz.prog Tryz.f40 Js_ j4_=true:=by kernel_rfl
def zr_:List AV->List Obj->Option (Prop × AV × List Obj)
 | [.ptr 0 0,.int .i64 x],[.box [.imm (.int .u8) b,.int .i64 p,.int .i64 sh,.int .i64 od,.int .i64 e,.bool true]]=>some ((True,.tup [],[.box [.imm (.int .u8) b,.int .i64 p,.int .i64 sh,.int .i64 od,.int .i64 (zn_ e x),.bool true]]))
 | _,_=>none
theorem zy_:zf_ Tryz.prog 40 (RwF zr_).sum:=by
 refine ZS_ Tryz.func40 Jg_ (zb_ (s:=RoF zM_) z3_ (zg_ _)) fun args objs p v o e=>?_
 unfold zr_ at e
 split at e
 ·rename_i x b p sh od e
  cases e
  refine ⟨rfl,fun hw ho hp=>?_⟩
  change List Int at b
  repeat'(intro t ht;first|(cases t<;>first|(cases ht;done)|(try simp only[zh_]at ht))|((first|refine za_ ht ?_|refine ht ?_ ?_|refine ht.1 ?_ ?_|refine ht ?_)<;>clear ht))
  all_goals first
   | exact True.intro
   | (unfold zn_;simp_all;done)
 ·cases e
def J4_:IR:=
(sq (kr [0] [oD 2 (.mov (cI 0))])
(sq (sq (.reg [oM 3 0,
oC 4 41 [3]])
(.cond 4
(sq (.reg [oD 2 (.mov (cI 10001))])
.ret)
.skip))
(sq (kr [0] [oM 5 0,
oD 6 (.nilck 5),
oA 7 4 6,
oL 8 7,
oM 2 8])
.ret)))
def JK_:List RD:=[.tmp 2 true none]
theorem JS_:zo_ Tryz.prog Tryz.f14 J4_ JK_=true:=by kernel_rfl
def zq_:List AV->List Obj->Option (Prop × AV)
 | [.ptr 0 0],[.box [.imm (.int .u8) b,.int .i64 p,.int .i64 sh,.int .i64 od,.int .i64 e,.bool true]]=>some ((True,.int .i64 e))
 | _,_=>none
theorem zu_:zf_ Tryz.prog 14 (RoF zq_).sum:=by
 refine zw_ Tryz.func14 JS_ (zb_ (s:=RoF zM_) z3_ (zg_ _)) fun args objs p v e=>?_
 unfold zq_ at e
 split at e
 ·rename_i b p sh od e
  cases e
  refine ⟨rfl,fun hw ho hp=>?_⟩
  change List Int at b
  repeat'(intro t ht;first|(cases t<;>first|(cases ht;done)|(try simp only[zh_]at ht))|((first|refine za_ ht ?_|refine ht ?_ ?_|refine ht.1 ?_ ?_|refine ht ?_)<;>clear ht))
  all_goals first
   | exact True.intro
   | exact ⟨rfl,rfl⟩
 ·cases e
def Jr_:IR:=
(sq (kr [0] [oD 2 (.mov (cI 0))])
(sq (sq (.reg [oM 3 0,
oC 4 41 [3]])
(.cond 4
(sq (.reg [oD 2 (.mov (cI 0))])
.ret)
.skip))
(sq (kd [0] [(oM 5 0,[]),
(oD 6 (.nilck 5),[]),
(oA 7 0 6,[]),
(oL 8 7,[]),
(oE 9 8,[]),
(oM 10 0,[0,0,0,0,0]),
(oD 11 (.nilck 10),[1,0,0,0,0]),
(oA 12 1 11,[2,0,0,0,0]),
(oL 13 12,[3,0,0,0,0]),
(oB 14 .sub 9 13,[]),
(oM 2 14,[])])
.ret)))
def j3_:List RD:=[.tmp 2 true none]
theorem Jf_:zo_ Tryz.prog Tryz.f15 Jr_ j3_=true:=by kernel_rfl
def zB_:List AV->List Obj->Option (Prop × AV)
 | [.ptr 0 0],[.box [.imm (.int .u8) b,.int .i64 p,.int .i64 sh,.int .i64 od,.int .i64 e,.bool true]]=>some ((0<=p/\p<=b.length,.int .i64 (b.length - p)))
 | _,_=>none
theorem zO_:zf_ Tryz.prog 15 (RoF zB_).sum:=by
 refine zw_ Tryz.func15 Jf_ (zb_ (s:=RoF zM_) z3_ (zg_ _)) fun args objs p v e=>?_
 unfold zB_ at e
 split at e
 ·rename_i b p sh od e
  cases e
  refine ⟨rfl,fun hw ho hp=>?_⟩
  change List Int at b
  have hb:b.length<=maxLen:=(ho _ (List.mem_cons_self ..) (.imm (.int .u8) b) (by simp)).2
  unfold maxLen at hb
  repeat'(intro t ht;first|(cases t<;>first|(cases ht;done)|(try simp only[zh_]at ht))|((first|refine za_ ht ?_|refine ht ?_ ?_|refine ht.1 ?_ ?_|refine ht ?_)<;>clear ht))
  all_goals first
   | exact True.intro
   | ((try simp only [zH_,zJ_,zl_] at*);omega)
   | exact ⟨rfl,rfl⟩
 ·cases e
def wX_:IR:=
(sq (kr [0] [oD 2 (.mov (cI 0))])
(sq (sq (.reg [oM 3 0,
oC 4 41 [3]])
(.cond 4
(sq (.reg [oD 2 (.mov (cI 0))])
.ret)
.skip))
(sq (kr [0] [oM 5 0,
oD 6 (.nilck 5),
oA 7 1 6,
oL 8 7,
oM 2 8])
.ret)))
def wU_:List RD:=[.tmp 2 true none]
theorem wV_:zo_ Tryz.prog Tryz.f87 wX_ wU_=true:=by kernel_rfl
def q3_:List AV->List Obj->Option (Prop × AV)
 | [.ptr 0 0],[.box [.imm (.int .u8) b,.int .i64 p,.int .i64 sh,.int .i64 od,.int .i64 e,.bool true]]=>some ((True,.int .i64 p))
 | _,_=>none
theorem JD_:zf_ Tryz.prog 87 (RoF q3_).sum:=by
 refine zw_ Tryz.func87 wV_ (zb_ (s:=RoF zM_) z3_ (zg_ _)) fun args objs p v e=>?_
 unfold q3_ at e
 split at e
 ·rename_i b p sh od e
  cases e
  refine ⟨rfl,fun hw ho hp=>?_⟩
  change List Int at b
  repeat'(intro t ht;first|(cases t<;>first|(cases ht;done)|(try simp only[zh_]at ht))|((first|refine za_ ht ?_|refine ht ?_ ?_|refine ht.1 ?_ ?_|refine ht ?_)<;>clear ht))
  all_goals first
   | exact True.intro
   | exact ⟨rfl,rfl⟩
 ·cases e
def Jy_ (w b:List Int) (p e:Int):List Int:=if e=0 then ZB_ w (b.drop p.toNat) else []
def Zu_ (w b:List Int) (p e:Int):Int:=if e=0 then (if qh_ w (b.drop p.toNat)=1 then p else if qh_ w (b.drop p.toNat)=2 then p else p+kD_ w) else p
def Zm_ (w b:List Int) (p sh od e:Int):Int:=if e=0 then (if qh_ w (b.drop p.toNat)=1 then sh else if qh_ w (b.drop p.toNat)=2 then od else 0) else e
def J2_:IR:=
(sq (kr [0,1] [oD 4 (.mov (.c (.imm (.int .u64) [])))])
(sq (sq (.reg [oM 7 0,
oC 8 14 [7],
oB 9 .neq 8 (cI 0)])
(.cond 9
(sq (.reg [oD 4 (.mov (.c (.imm (.int .u64) [])))])
.ret)
.skip))
(sq (kd [0,1] [(oM 11 1,[]),
(oM 12 0,[0]),
(oD 13 (.nilck 12),[1]),
(oA 14 0 13,[2]),
(oL 15 14,[3]),
(oM 16 0,[0,0,0,0,0]),
(oD 17 (.nilck 16),[1,0,0,0,0]),
(oA 18 1 17,[2,0,0,0,0]),
(oL 19 18,[3,0,0,0,0]),
(oD 20 (.slice 1 15 (some 19) none none),[8]),
(oC 21 107 [11,20],[]),
(oM 10 21,[]),
(oX 22 10 0,[]),
(oX 23 10 1,[0]),
(oM 5 22,[0]),
(oM 6 23,[])])
(sq (sq (kr [0,1,5,6] [oM 24 6])
(.block 0
(sq (.reg [oB 35 .eql 24 (cI 1),
oM 34 35])
(.cond 34
(kr [0,5] [oM 36 0,
oM 37 0,
oD 38 (.nilck 37),
oA 39 2 38,
oL 40 39,
oC 41 40 [36,40]])
(sq (.reg [oB 43 .eql 24 (cI 2),
oM 42 43])
(.cond 42
(kr [0,5] [oM 44 0,
oM 45 0,
oD 46 (.nilck 45),
oA 47 3 46,
oL 48 47,
oC 49 40 [44,48]])
(kd [0,1,5] [(oM 25 0,[]),
(oD 26 (.nilck 25),[]),
(oA 27 1 26,[]),
(oL 28 27,[]),
(oM 29 1,[0,0,0,0]),
(oC 30 108 [29],[1,0,0,0]),
(oB 31 .add 28 30,[]),
(oD 32 (.nilck 25),[]),
(oA 33 1 32,[]),
(oS 1 33 31,[])])))))))
(sq (kr [5] [oM 50 5,
oM 4 50])
.ret)))))
def JI_:List RD:=[.tmp 4 true (some (.int .u64))]
theorem JQ_:zo_ Tryz.prog Tryz.f81 J2_ JI_=true:=by kernel_rfl
def Zq_:List AV->List Obj->Option (Prop × AV × List Obj)
 | [.ptr 0 0,.imm (.int .i64) w],[.box [.imm (.int .u8) b,.int .i64 p,.int .i64 sh,.int .i64 od,.int .i64 e,.bool true]]=>some ((0<=p/\p<=b.length/\b.length<=140737488355328,.imm (.int .u64) (Jy_ w b p e),[.box [.imm (.int .u8) b,.int .i64 (Zu_ w b p e),.int .i64 sh,.int .i64 od,.int .i64 (Zm_ w b p sh od e),.bool true]]))
 | _,_=>none
theorem ZX_:zf_ Tryz.prog 81 (RwF Zq_).sum:=by
 refine ZS_ Tryz.func81 JQ_ (zb_ (s:=RoF zq_) zu_ (zb_ (s:=RoF Xy_) u8_ (zb_ (s:=RwF zr_) zy_ (zb_ (s:=RoF Ka_) je_ (zg_ _))))) fun args objs p v o e=>?_
 unfold Zq_ at e
 split at e
 ·rename_i w b p sh od e
  cases e
  refine ⟨rfl,fun hw ho hp=>?_⟩
  change List Int at w
  change List Int at b
  have hz:=JE_ w
  repeat'(intro t ht;first|(cases t<;>first|(cases ht;done)|(try simp only[zh_]at ht))|((first|refine za_ ht ?_|refine ht ?_ ?_|refine ht.1 ?_ ?_|refine ht ?_)<;>clear ht))
  all_goals first
   | exact True.intro
   | ((try simp only [zH_,zJ_,zl_] at*);omega)
   | (unfold Jy_ Zu_ Zm_;simp_all [zn_];done)
 ·cases e
def Jm_ (w:Int) (b:List Int) (p e:Int):Int:=if 1<=w/\w<=8 then (Jy_ [w] b p e).getD 0 0 else 0
def zi_ (w:Int) (b:List Int) (p e:Int):Int:=if 1<=w/\w<=8 then Zu_ [w] b p e else p
def zj_ (w:Int) (b:List Int) (p sh od e:Int):Int:=if 1<=w/\w<=8 then Zm_ [w] b p sh od e else zn_ e 10001
def J3_:IR:=
(sq (kr [0,1] [oD 4 (.mov (.c (.int .u64 0)))])
(sq (sq (kr [0,1] [oM 7 1,
oB 8 .lss 7 (cI 1),
oM 9 8,
oF 9 10 (.mov 1),
oF 9 11 (.bin .gtr 10 (cI 8)),
oP 12 9 cT 11])
(.cond 12
(sq (kr [0] [oM 13 0,
oC 14 40 [13,(cI 10001)]])
(sq (.reg [oD 4 (.mov (.c (.int .u64 0)))])
.ret))
.skip))
(sq (kr [0,1] [oM 15 0,
oD 16 (.mkfn 81 [15] []),
oM 5 16])
(sq (sq (kr [1,5] [oM 17 5,
oM 18 1,
oD 19 (.sliceAll (.int .i64) 1 [(0,1,18)]),
oD 20 (.call false 17 [19]),
oM 6 20])
(sq (.reg [oM 21 6,
oE 22 21,
oB 23 .gtr 22 (cI 0)])
(.cond 23
(sq (kr [6] [oM 24 6,
oD 25 (.indexSl 1 24 (cI 0)),
oL 26 25,
oM 4 26])
.ret)
.skip)))
(sq (kr [] [oD 4 (.mov (.c (.int .u64 0)))])
.ret)))))
def JJ_:List RD:=[.tmp 4 true none]
theorem JR_:zo_ Tryz.prog Tryz.f80 J3_ JJ_=true:=by kernel_rfl
def ZE_:List AV->List Obj->Option (Prop × AV × List Obj)
 | [.ptr 0 0,.int .i64 w],[.box [.imm (.int .u8) b,.int .i64 p,.int .i64 sh,.int .i64 od,.int .i64 e,.bool true]]=>some ((0<=p/\p<=b.length/\b.length<=140737488355328,.int .u64 (Jm_ w b p e),[.box [.imm (.int .u8) b,.int .i64 (zi_ w b p e),.int .i64 sh,.int .i64 od,.int .i64 (zj_ w b p sh od e),.bool true]]))
 | _,_=>none
theorem QE_:zf_ Tryz.prog 80 (RwF ZE_).sum:=by
 refine ZS_ Tryz.func80 JR_ (zb_ (s:=RwF zr_) zy_ (zb_ (s:=RwF Zq_) ZX_ (zg_ _))) fun args objs p v o e=>?_
 unfold ZE_ at e
 split at e
 ·rename_i w b p sh od e
  cases e
  refine ⟨rfl,fun hw ho hp=>?_⟩
  change List Int at b
  repeat'(intro t ht;first|(cases t<;>first|(cases ht;done)|(try simp only[zh_]at ht))|((first|refine za_ ht ?_|refine ht ?_ ?_|refine ht.1 ?_ ?_|refine ht ?_)<;>clear ht))
  all_goals first
   | exact True.intro
   | exact hp
   | ((try simp only [zH_,zJ_,zl_] at*);omega)
   | (have hc:1<=w/\w<=8:=by omega
      unfold Jm_ zi_ zj_
      rw [if_pos hc,if_pos hc,if_pos hc]
      first
       | exact ⟨rfl,rfl⟩
       | (have hl:Jy_ [w] b p e=[]:=List.eq_nil_of_length_eq_zero (by omega)
          refine ⟨?_,rfl⟩;rw [hl];rfl))
   | (have hc:¬ (1<=w/\w<=8):=by omega
      unfold Jm_ zi_ zj_
      rw [if_neg hc,if_neg hc,if_neg hc]
      exact ⟨rfl,rfl⟩)
 ·cases e
theorem k7_ {e x:Int} (h:x ≠ 0):zn_ e x ≠ 0:=by unfold zn_;split<;>assumption
def zW_ (n:Int) (b:List Int) (p sh e:Int):Int:=if n < 0 then zn_ e 10001 else if b.length - p < n then zn_ e sh else e
def zm_ (n:Int) (b:List Int) (p sh e:Int):List Int:=if zW_ n b p sh e=0 then (b.take (p+n).toNat).drop p.toNat else []
def Z5_ (n:Int) (b:List Int) (p sh e:Int):Int:=if zW_ n b p sh e=0 then p+n else p
def Jo_:IR:=
(sq (kr [0,1] [oD 4 (.mov (.c (.imm (.int .u8) []))),
oD 5 (.mov cF)])
(sq (sq (.reg [oM 7 1,
oB 8 .lss 7 (cI 0)])
(.cond 8
(.reg [oM 9 0,
oC 10 40 [9,(cI 10001)]])
(sq (kr [0,1] [oM 11 1,
oM 12 0,
oC 13 15 [12],
oB 14 .gtr 11 13,
oM 15 14,
oT 15 16 (.mov 0),
oT 15 17 (.call false (.f 41) [16]),
oT 15 18 (.un .not 17),
oP 19 15 18 cF])
(.cond 19
(kr [0,1] [oM 20 0,
oM 21 0,
oD 22 (.nilck 21),
oA 23 2 22,
oL 24 23,
oC 25 40 [20,24]])
.skip))))
(sq (sq (kr [0,1] [oM 26 0,
oC 27 14 [26],
oB 28 .neq 27 (cI 0)])
(.cond 28
(sq (.reg [oD 4 (.mov (.c (.imm (.int .u8) []))),
oD 5 (.mov cF)])
.ret)
.skip))
(sq (kd [0,1] [(oM 29 0,[]),
(oD 30 (.nilck 29),[]),
(oA 31 0 30,[]),
(oL 32 31,[]),
(oM 33 0,[0,0,0,0]),
(oD 34 (.nilck 33),[1,0,0,0]),
(oA 35 1 34,[2,0,0,0]),
(oL 36 35,[3,0,0,0]),
(oM 37 0,[0,0,0,0,0,0,0,0]),
(oD 38 (.nilck 37),[1,0,0,0,0,0,0,0]),
(oA 39 1 38,[2,0,0,0,0,0,0,0]),
(oL 40 39,[3,0,0,0,0,0,0,0]),
(oM 41 1,[0,0,0,0,0,0,0,0,0,0,0,0]),
(oB 42 .add 40 41,[5,0,0,0,0,0,0,0]),
(oM 43 0,[0,0,0,0,0,0,0,0,0,0,0,0,0,0]),
(oD 44 (.nilck 43),[1,0,0,0,0,0,0,0,0,0,0,0,0,0]),
(oA 45 1 44,[2,0,0,0,0,0,0,0,0,0,0,0,0,0]),
(oL 46 45,[3,0,0,0,0,0,0,0,0,0,0,0,0,0]),
(oM 47 1,[0,0,0,0,0,0,0,0,0,0,0,0,0,0,0,0,0,0]),
(oB 48 .add 46 47,[5,0,0,0,0,0,0,0,0,0,0,0,0,0]),
(oD 49 (.slice 1 32 (some 36) (some 42) (some 48)),[]),
(oM 6 49,[])])
(sq (kr [0,1,6] [oM 50 0,
oD 51 (.nilck 50),
oA 52 1 51,
oL 53 52,
oM 54 1,
oB 55 .add 53 54,
oD 56 (.nilck 50),
oA 57 1 56,
oS 1 57 55])
(sq (kr [6] [oM 58 6,
oM 4 58,
oD 5 (.mov cT)])
.ret))))))
def j0_:List RD:=[.tmp 4 true (some (.int .u8)),.tmp 5 true none]
theorem Jc_:zo_ Tryz.prog Tryz.f38 Jo_ j0_=true:=by kernel_rfl
def ql_:List AV->List Obj->Option (Prop × AV × List Obj)
 | [.ptr 0 0,.int .i64 n],[.box [.imm (.int .u8) b,.int .i64 p,.int .i64 sh,.int .i64 od,.int .i64 e,.bool true]]=>some ((0<=p/\p<=b.length/\b.length<=140737488355328/\sh ≠ 0,.tup [.imm (.int .u8) (zm_ n b p sh e),.bool (decide (zW_ n b p sh e=0))],[.box [.imm (.int .u8) b,.int .i64 (Z5_ n b p sh e),.int .i64 sh,.int .i64 od,.int .i64 (zW_ n b p sh e),.bool true]]))
 | _,_=>none
theorem jg_:zf_ Tryz.prog 38 (RwF ql_).sum:=by
 refine ZS_ Tryz.func38 Jc_ (zb_ (s:=RwF zr_) zy_ (zb_ (s:=RoF zB_) zO_ (zb_ (s:=RoF zM_) z3_ (zb_ (s:=RoF zq_) zu_ (zg_ _))))) fun args objs p v o e=>?_
 unfold ql_ at e
 split at e
 ·rename_i n b p sh od e
  cases e
  refine ⟨rfl,fun hw ho hp=>?_⟩
  change List Int at b
  have hf1:zn_ e 10001 ≠ 0:=k7_ (by decide)
  have hf2:zn_ e sh ≠ 0:=k7_ hp.2.2.2
  repeat'(intro t ht;first|(cases t<;>first|(cases ht;done)|(try simp only[zh_]at ht))|((first|refine za_ ht ?_|refine ht ?_ ?_|refine ht.1 ?_ ?_|refine ht ?_)<;>clear ht))
  all_goals first
   | exact True.intro
   | (exfalso;omega)
   | omega
   | ((try simp only [zH_,zJ_,zl_] at*);omega)
   | (first
       | (have hE:zW_ n b p sh e=e:=by unfold zW_;rw [if_neg (by assumption),if_neg (by assumption)]
          unfold zm_ Z5_;rw [hE]
          first
           | (have h0:e=0:=by assumption
              rw [if_pos h0,if_pos h0,decide_eq_true h0];exact ⟨rfl,rfl⟩)
           | (have h0:¬ e=0:=by assumption
              rw [if_neg h0,if_neg h0,decide_eq_false h0];exact ⟨rfl,rfl⟩))
       | (have hE:zW_ n b p sh e=zn_ e sh:=by unfold zW_;rw [if_neg (by assumption),if_pos (by assumption)]
          unfold zm_ Z5_;rw [hE,if_neg hf2,if_neg hf2,decide_eq_false hf2];exact ⟨rfl,rfl⟩)
       | (have hE:zW_ n b p sh e=zn_ e 10001:=by unfold zW_;rw [if_pos (by assumption)]
          unfold zm_ Z5_;rw [hE,if_neg hf1,if_neg hf1,decide_eq_false hf1];exact ⟨rfl,rfl⟩))
 ·cases e
def jF_:IR:=
(sq (kr [0,1] [oD 4 (.mov (.c (.imm (.int .u8) [])))])
(sq (kr [0,1] [oM 8 0,
oM 9 1,
oC 10 38 [8,9],
oM 7 10,
oX 11 7 0,
oX 12 7 1,
oM 5 11,
oM 6 12])
(sq (kr [5] [oM 13 5,
oC 14 37 [13],
oM 4 14])
.ret)))
def jp_:List RD:=[.tmp 4 true (some (.int .u8))]
theorem ju_:zo_ Tryz.prog Tryz.f12 jF_ jp_=true:=by kernel_rfl
def zG_:List AV->List Obj->Option (Prop × AV × List Obj)
 | [.ptr 0 0,.int .i64 n],[.box [.imm (.int .u8) b,.int .i64 p,.int .i64 sh,.int .i64 od,.int .i64 e,.bool true]]=>some ((0<=p/\p<=b.length/\b.length<=140737488355328/\sh ≠ 0,.imm (.int .u8) (zm_ n b p sh e),[.box [.imm (.int .u8) b,.int .i64 (Z5_ n b p sh e),.int .i64 sh,.int .i64 od,.int .i64 (zW_ n b p sh e),.bool true]]))
 | _,_=>none
theorem zX_:zf_ Tryz.prog 12 (RwF zG_).sum:=by
 refine ZS_ Tryz.func12 ju_ (zb_ (s:=RwF ql_) jg_ (zb_ (s:=RoF qP_) kp_ (zg_ _))) fun args objs p v o e=>?_
 unfold zG_ at e
 split at e
 ·rename_i n b p sh od e
  cases e
  refine ⟨rfl,fun hw ho hp=>?_⟩
  change List Int at b
  have hlen:(zm_ n b p sh e).length<=140737488355328:=by
   unfold zm_;split
   ·rw [List.length_drop,List.length_take];omega
   ·exact Nat.zero_le _
  repeat'(intro t ht;first|(cases t<;>first|(cases ht;done)|(try simp only[zh_]at ht))|((first|refine za_ ht ?_|refine ht ?_ ?_|refine ht.1 ?_ ?_|refine ht ?_)<;>clear ht))
  all_goals first
   | exact hp
   | exact hlen
   | exact ⟨rfl,rfl⟩
 ·cases e
def Jv_:IR:=
(sq (kr [0] [oD 2 (.mov cF)])
(sq (kr [0] [oM 3 0,
oD 4 (.eqp false 3 (.c (.nilp))),
oM 5 4,
oF 5 6 (.mov 0),
oF 5 7 (.nilck 6),
oF 5 8 (.fieldAddr 2 7),
oF 5 9 (.load none 8),
oF 5 10 (.eqn false 9 (.c (.nilm))),
oP 11 5 cT 10,
oM 2 11])
.ret))
def j7_:List RD:=[.tmp 2 true none]
theorem Jj_:zo_ Tryz.prog Tryz.f46 Jv_ j7_=true:=by kernel_rfl
def Zg_:List AV->List Obj->Option (Prop × AV)
 | [.ptr 0 0],[.box [.own 1,.int .i64 room,.mapv 2,.int .i64 e],.row false (.int .u8) l,.map sq (.int .i64) (.int .i64) h]=>some ((True,.bool false))
 | _,_=>none
theorem ZJ_:zf_ Tryz.prog 46 (RoF Zg_).sum:=by
 refine zw_ Tryz.func46 Jj_ (zg_ _) fun args objs p v e=>?_
 unfold Zg_ at e
 split at e
 ·rename_i room e l sq h
  cases e
  refine ⟨rfl,fun hw ho hp=>?_⟩
  change List Int at l
  repeat'(intro t ht;first|(cases t<;>first|(cases ht;done)|(try simp only[zh_]at ht))|((first|refine za_ ht ?_|refine ht ?_ ?_|refine ht.1 ?_ ?_|refine ht ?_)<;>clear ht))
  all_goals exact ⟨rfl,rfl⟩
 ·cases e
def yY_ (n:Int):Int:=if 1000000 < (if 0 > n then 0 else n) then 1000000 else (if 0 > n then 0 else n)
def vD_:IR:=
(sq (kr [0] [oD 2 (.mov (.c (.nilp)))])
(sq (kr [0] [oM 3 0,
oD 4 (.minmax true 3 (cI 0)),
oD 5 (.minmax false 4 (cI 1000000)),
oD 6 (.mkmap (.int .i64) (.int .i64)),
oD 7 (.build [.nils,.int .i64 0,.nilm,.int .i64 0] [(1,1,5),(2,1,6)]),
oD 8 (.boxv 7),
oM 2 8])
.ret))
def vn_:List RD:=[.tmp 2 true none]
theorem vv_:zo_ Tryz.prog Tryz.f20 vD_ vn_=true:=by kernel_rfl
def xB_:List AV->List Obj->Option (Prop × AV × List Obj)
 | [.int .i64 n],[]=>some (True,.ptr 0 0,[.box [.nils,.int .i64 (yY_ n),.mapv 1,.int .i64 0],.map true (.int .i64) (.int .i64) ([])])
 | _,_=>none
def Qx_:List AV->List Obj->Option (Prop × AV × List Obj)
 | [.int .i64 n],[]=>some (True,.ptr 0 0,[.box [.own 2,.int .i64 (yY_ n),.mapv 1,.int .i64 0],.map true (.int .i64) (.int .i64) ([]),.row false (.int .u8) ([])])
 | _,_=>none
theorem k1_:zf_ Tryz.prog 20 (RwF Qx_).sum:=by
 have h0:zf_ Tryz.prog 20 (RwF xB_).sum:=by
  refine ZS_ Tryz.func20 vv_ (zg_ _) fun args objs p v o e=>?_
  unfold xB_ at e
  split at e
  ·rename_i n
   cases e
   refine ⟨rfl,fun hw ho hp=>?_⟩
   repeat'(intro t ht;first|(cases t<;>first|(cases ht;done)|(try simp only[zh_]at ht))|((first|refine za_ ht ?_|refine ht ?_ ?_|refine ht.1 ?_ ?_|refine ht ?_)<;>clear ht))
   all_goals exact ⟨rfl,rfl⟩
  ·cases e
 refine Us_ (t:=.int .u8) h0 fun args objs p v o e=>?_
 unfold Qx_ at e
 split at e
 ·rename_i n
  cases e
  exact ⟨0,[],[.int .i64 (yY_ n),.mapv 1,.int .i64 0],_,rfl,rfl,rfl⟩
 ·cases e
def Jw_:IR:=
(sq (kr [0,1] [oM 4 0,
oC 5 46 [4],
oD 6 (.un .not 5),
oM 7 6,
oT 7 8 (.mov 0),
oT 7 9 (.nilck 8),
oT 7 10 (.fieldAddr 3 9),
oT 7 11 (.load none 10),
oT 7 12 (.bin .eql 11 (cI 0)),
oP 13 7 12 cF])
(.cond 13
(kr [0,1] [oM 14 0,
oM 15 1,
oD 16 (.nilck 14),
oA 17 3 16,
oS 1 17 15])
.skip))
def j8_:List RD:=[]
theorem Jk_:zo_ Tryz.prog Tryz.f47 Jw_ j8_=true:=by kernel_rfl
def zN_:List AV->List Obj->Option (Prop × AV × List Obj)
 | [.ptr 0 0,.int .i64 x],[.box [.own 1,.int .i64 room,.mapv 2,.int .i64 e],.row false (.int .u8) l,.map sq (.int .i64) (.int .i64) h]=>some ((True,.tup [],[.box [.own 1,.int .i64 room,.mapv 2,.int .i64 (zn_ e x)],.row false (.int .u8) l,.map sq (.int .i64) (.int .i64) h]))
 | _,_=>none
theorem z4_:zf_ Tryz.prog 47 (RwF zN_).sum:=by
 refine ZS_ Tryz.func47 Jk_ (zb_ (s:=RoF Zg_) ZJ_ (zg_ _)) fun args objs p v o e=>?_
 unfold zN_ at e
 split at e
 ·rename_i x room e l sq h
  cases e
  refine ⟨rfl,fun hw ho hp=>?_⟩
  change List Int at l
  repeat'(intro t ht;first|(cases t<;>first|(cases ht;done)|(try simp only[zh_]at ht))|((first|refine za_ ht ?_|refine ht ?_ ?_|refine ht.1 ?_ ?_|refine ht ?_)<;>clear ht))
  all_goals first
   | exact True.intro
   | (unfold zn_;simp_all;done)
 ·cases e
def we_ (x l:List Int) (room e:Int):Bool:=decide (e=0) && decide ((x.length:Int)<=room - l.length)
def wZ_ (x l:List Int) (room e:Int):List Int:=if we_ x l room e=true then l++x else l
def wf_ (x l:List Int) (room e:Int):Int:=if e=0 then (if (x.length:Int)<=room - l.length then 0 else 10003) else e
def jH_:IR:=
(.block 0
(sq (kr [0,1] [oM 14 0,
oC 15 46 [14],
oM 16 15,
oF 16 17 (.mov 0),
oF 16 18 (.nilck 17),
oF 16 19 (.fieldAddr 3 18),
oF 16 20 (.load none 19),
oF 16 21 (.bin .neq 20 (cI 0)),
oP 22 16 cT 21,
oM 13 22])
(.cond 13
.skip
(sq (kd [0,1] [(oM 24 1,[]),
(oE 25 24,[]),
(oM 26 0,[0,0]),
(oD 27 (.nilck 26),[1,0]),
(oA 28 1 27,[2,0]),
(oL 29 28,[3,0]),
(oM 30 0,[0,0,0,0,0,0]),
(oD 31 (.nilck 30),[1,0,0,0,0,0]),
(oA 32 0 31,[2,0,0,0,0,0]),
(oL 33 32,[3,0,0,0,0,0]),
(oE 34 33,[4,0,0,0,0,0]),
(oB 35 .sub 29 34,[9,0]),
(oB 36 .gtr 25 35,[]),
(oM 23 36,[])])
(.cond 23
(kr [0] [oM 37 0,
oC 38 47 [37,(cI 10003)]])
(kr [0,1] [oM 4 0,
oM 5 0,
oD 6 (.nilck 5),
oA 7 0 6,
oL 8 7,
oM 9 1,
oD 10 (.append (.int .u8) 1 8 9),
oD 11 (.nilck 4),
oA 12 0 11,
oS 1 12 10]))))))
def jr_:List RD:=[]
theorem jw_:zo_ Tryz.prog Tryz.f21 jH_ jr_=true:=by kernel_rfl
def QI_:List AV->List Obj->Option (Prop × Res)
 | [.ptr 0 0,.imm (.int .u8) x],[.box [.own 1,.int .i64 room,.mapv 2,.int .i64 e],.row false (.int .u8) l,.map sq (.int .i64) (.int .i64) h]=>some (0<=room/\room<=1000000/\l.length<=1000000/\x.length<=1000000,.br (we_ x l room e) (.one (.tup []) [.box [.own 3,.int .i64 room,.mapv 2,.int .i64 e],.dead,.map sq (.int .i64) (.int .i64) h,.row false (.int .u8) (wZ_ x l room e)]) (.one (.tup []) [.box [.own 1,.int .i64 room,.mapv 2,.int .i64 (wf_ x l room e)],.row false (.int .u8) l,.map sq (.int .i64) (.int .i64) h]))
 | _,_=>none
def zQ_:List AV->List Obj->Option (Prop × AV × List Obj)
 | [.ptr 0 0,.imm (.int .u8) x],[.box [.own 1,.int .i64 room,.mapv 2,.int .i64 e],.row false (.int .u8) l,.map sq (.int .i64) (.int .i64) h]=>some (0<=room/\room<=1000000/\l.length<=1000000/\x.length<=1000000,.tup [],[.box [.own 3,.int .i64 room,.mapv 2,.int .i64 (wf_ x l room e)],.dead,.map sq (.int .i64) (.int .i64) h,.row false (.int .u8) (wZ_ x l room e)])
 | _,_=>none
theorem KJ_:zf_ Tryz.prog 21 (RcF QI_).sum:=by
 refine Up_ Tryz.func21 jw_ (zb_ (s:=RoF Zg_) ZJ_ (zb_ (s:=RwF zN_) z4_ (zg_ _))) fun args objs p v e=>?_
 unfold QI_ at e
 split at e
 ·rename_i x room e l sq h
  cases e
  change List Int at x
  change List Int at l
  refine ⟨rfl,fun hw ho hp=>?_⟩
  repeat'(intro t ht;first|(cases t<;>first|(cases ht;done)|(try simp only[zh_]at ht))|((first|refine za_ ht ?_|refine ht ?_ ?_|refine ht.1 ?_ ?_|refine ht ?_)<;>clear ht))
  all_goals first
   | exact True.intro
   | ((try simp only [zH_,zJ_,zl_] at*);omega)
   | (simp only [k8_];omega)
   | (have hb:we_ x l room e=true:=by unfold we_;simp only [Bool.and_eq_true,decide_eq_true_eq];omega
      have hbb:wZ_ x l room e=l++x:=by unfold wZ_;rw [hb];rfl
      rw [KA_ hb,hbb];exact ⟨rfl,rfl⟩)
   | (have hb:we_ x l room e=false:=by unfold we_;simp only [Bool.and_eq_false_iff,decide_eq_false_iff_not];omega
      rw [KB_ hb]
      unfold wf_
      first
       | (rw [if_neg (by assumption)];exact ⟨rfl,rfl⟩)
       | (have h0:e=0:=by assumption
          have h1:¬ (x.length:Int)<=room - l.length:=by omega
          rw [if_pos h0,if_neg h1]
          refine ⟨rfl,?_⟩;unfold zn_;rw [if_pos h0];rfl))
 ·cases e
theorem Zj_:zf_ Tryz.prog 21 (RwF zQ_).sum:=by
 refine yy_ KJ_ fun args objs p v o e=>?_
 unfold zQ_ at e
 split at e
 ·rename_i x room e l sq h
  cases e
  cases hb:we_ x l room e with
  | true=>
    have h1:e=0:=by unfold we_ at hb;simp_all
    have h2:(x.length:Int)<=room - l.length:=by unfold we_ at hb;simp_all
    refine ⟨_,_,rfl,KA_ hb,.inl ?_⟩
    unfold wf_;rw [if_pos h1,if_pos h2,h1]
  | false=>
    refine ⟨_,_,rfl,KB_ hb,.inr ⟨0,1,[],[.int .i64 room,.mapv 2,.int .i64 (wf_ x l room e)],.int .u8,l,rfl,rfl,?_⟩⟩
    have hbb:wZ_ x l room e=l:=by unfold wZ_;rw [hb];rfl
    rw [hbb];rfl
 ·cases e
theorem y8_:∀ (w xs b r:List Int),(∀ n ∈ w,n ≠ 0/\n<=8/\-64<=n)->Wk_ w xs b=some r->(r.length:Int)=b.length+(w.map zx_).sum
 | [],xs,b,r,_,h=>by simp only [Wk_,Option.some.injEq] at h;subst h;simp
 | n :: w,xs,b,r,hw,h=>by
   have hn:=hw n (by simp)
   have hw':∀ n ∈ w,n ≠ 0/\n<=8/\-64<=n:=fun m hm=>hw m (by simp [hm])
   simp only [Wk_] at h
   split at h
   ·have ih:=y8_ w _ _ r hw' h
    have hl:=QU_ (n:=0) (w:=0 - n) (by omega)
    rw [List.length_append] at ih
    rw [List.map_cons,List.sum_cons,wk_ (by assumption)];omega
   ·cases xs with
    | nil=>cases h
    | cons x ys=>
      simp only at h
      split at h
      ·cases h
      ·have ih:=y8_ w _ _ r hw' h
       have hl:=QU_ (n:=x) (w:=n) (by omega)
       rw [List.length_append] at ih
       rw [List.map_cons,List.sum_cons,yI_ (by assumption)];omega
theorem bb_ (w xs:List Int):(Wj_ w xs).length<=4096:=by
 unfold Wj_ vo_
 split
 ·rename_i h
  cases hp:Wk_ w xs [] with
  | none=>simp
  | some r=>
    have h1:=y8_ w xs [] r (Zp_.1 h.1).2 hp
    have h2:=JE_ w
    unfold kD_ at h2;rw [if_pos h.1] at h2
    simp at h1 ⊢;omega
 ·simp
def KR_ (w xs l:List Int) (room e:Int):List Int:=if yc_ w xs=true then wZ_ (Wj_ w xs) l room e else l
def JF_ (w xs l:List Int) (room e:Int):Int:=if yc_ w xs=true then wf_ (Wj_ w xs) l room e else zn_ e 10001
def J5_:IR:=
(sq (kr [0,1,2] [oM 9 1,
oM 10 2,
oC 11 103 [9,10],
oM 8 11,
oX 12 8 0,
oX 13 8 1,
oM 6 12,
oM 7 13])
(sq (sq (kr [0,6,7] [oM 14 7,
oD 15 (.un .not 14)])
(.cond 15
(sq (.reg [oM 16 0,
oC 17 47 [16,(cI 10001)]])
.ret)
.skip))
(.reg [oM 18 0,
oM 19 6,
oC 20 21 [18,19]])))
def JL_:List RD:=[]
theorem JT_:zo_ Tryz.prog Tryz.f72 J5_ JL_=true:=by kernel_rfl
def kG_:List AV->List Obj->Option (Prop × Res)
 | [.ptr 0 0,.imm (.int .i64) w,.imm (.int .u64) xs],[.box [.own 1,.int .i64 room,.mapv 2,.int .i64 e],.row false (.int .u8) l,.map sq (.int .i64) (.int .i64) h]=>some (0<=room/\room<=1000000/\l.length<=1000000,.br (yc_ w xs) (.one (.tup []) [.box [.own 3,.int .i64 room,.mapv 2,.int .i64 (wf_ (Wj_ w xs) l room e)],.dead,.map sq (.int .i64) (.int .i64) h,.row false (.int .u8) (wZ_ (Wj_ w xs) l room e)]) (.one (.tup []) [.box [.own 1,.int .i64 room,.mapv 2,.int .i64 (zn_ e 10001)],.row false (.int .u8) l,.map sq (.int .i64) (.int .i64) h]))
 | _,_=>none
def z9_:List AV->List Obj->Option (Prop × AV × List Obj)
 | [.ptr 0 0,.imm (.int .i64) w,.imm (.int .u64) xs],[.box [.own 1,.int .i64 room,.mapv 2,.int .i64 e],.row false (.int .u8) l,.map sq (.int .i64) (.int .i64) h]=>some (0<=room/\room<=1000000/\l.length<=1000000,.tup [],[.box [.own 3,.int .i64 room,.mapv 2,.int .i64 (JF_ w xs l room e)],.dead,.map sq (.int .i64) (.int .i64) h,.row false (.int .u8) (KR_ w xs l room e)])
 | _,_=>none
theorem jU_:zf_ Tryz.prog 72 (RcF kG_).sum:=by
 refine Up_ Tryz.func72 JT_ (zb_ (s:=RoF Xx_) u7_ (zb_ (s:=RwF zN_) z4_ (zb_ (s:=RwF zQ_) Zj_ (zg_ _)))) fun args objs p v e=>?_
 unfold kG_ at e
 split at e
 ·rename_i w xs room e l sq h
  cases e
  refine ⟨rfl,fun hw ho hp=>?_⟩
  have hz:=bb_ w xs
  repeat'(intro t ht;first|(cases t<;>first|(cases ht;done)|(try simp only[zh_]at ht))|((first|refine za_ ht ?_|refine ht ?_ ?_|refine ht.1 ?_ ?_|refine ht ?_)<;>clear ht))
  all_goals first
   | exact True.intro
   | exact ⟨hp.1,hp.2.1,hp.2.2,by omega⟩
   | (rw [KA_ (by assumption)];exact ⟨rfl,rfl⟩)
   | (rw [KB_ (by assumption)];exact ⟨rfl,rfl⟩)
 ·cases e
theorem Zw_:zf_ Tryz.prog 72 (RwF z9_).sum:=by
 refine yy_ jU_ fun args objs p v o e=>?_
 unfold z9_ at e
 split at e
 ·rename_i w xs room e l sq h
  cases e
  cases hb:yc_ w xs with
  | true=>
    refine ⟨_,_,rfl,KA_ hb,.inl ?_⟩
    unfold JF_ KR_;rw [if_pos hb,if_pos hb]
  | false=>
    refine ⟨_,_,rfl,KB_ hb,.inr ⟨0,1,[],[.int .i64 room,.mapv 2,.int .i64 (zn_ e 10001)],.int .u8,l,rfl,rfl,?_⟩⟩
    unfold JF_ KR_;rw [hb];rfl
 ·cases e
def Kj_ (w:Int):Bool:=decide (1<=w) && decide (w<=8)
def w0_ (w e:Int):Int:=if Kj_ w=true then e else zn_ e 10001
def Ju_:IR:=
(sq (kr [0,1] [oD 4 (.mov cF)])
(sq (kr [0,1] [oM 6 1,
oB 7 .geq 6 (cI 1),
oM 8 7,
oT 8 9 (.mov 1),
oT 8 10 (.bin .leq 9 (cI 8)),
oP 11 8 10 cF,
oM 5 11])
(sq (sq (kr [0,5] [oM 12 5,
oD 13 (.un .not 12)])
(.cond 13
(.reg [oM 14 0,
oC 15 47 [14,(cI 10001)]])
.skip))
(sq (.reg [oM 16 5,
oM 4 16])
.ret))))
def j6_:List RD:=[.tmp 4 true none]
theorem Ji_:zo_ Tryz.prog Tryz.f139 Ju_ j6_=true:=by kernel_rfl
def qo_:List AV->List Obj->Option (Prop × AV × List Obj)
 | [.ptr 0 0,.int .i64 w],[.box [.own 1,.int .i64 room,.mapv 2,.int .i64 e],.row false (.int .u8) l,.map sq (.int .i64) (.int .i64) h]=>some ((True,.bool (Kj_ w),[.box [.own 1,.int .i64 room,.mapv 2,.int .i64 (w0_ w e)],.row false (.int .u8) l,.map sq (.int .i64) (.int .i64) h]))
 | _,_=>none
theorem jj_:zf_ Tryz.prog 139 (RwF qo_).sum:=by
 refine ZS_ Tryz.func139 Ji_ (zb_ (s:=RwF zN_) z4_ (zg_ _)) fun args objs p v o e=>?_
 unfold qo_ at e
 split at e
 ·rename_i w room e l sq h
  cases e
  refine ⟨rfl,fun hw ho hp=>?_⟩
  change List Int at l
  repeat'(intro t ht;first|(cases t<;>first|(cases ht;done)|(try simp only[zh_]at ht))|((first|refine za_ ht ?_|refine ht ?_ ?_|refine ht.1 ?_ ?_|refine ht ?_)<;>clear ht))
  all_goals first
   | exact True.intro
   | (have hb:Kj_ w=true:=by unfold Kj_;simp_all
      have h8:decide (w<=8)=true:=decide_eq_true (by assumption)
      unfold w0_;rw [hb,h8];exact ⟨rfl,rfl⟩)
   | (have hb:Kj_ w=false:=by unfold Kj_;simp_all
      have h8:decide (w<=8)=false:=decide_eq_false (by assumption)
      unfold w0_;rw [hb,h8];exact ⟨rfl,rfl⟩)
   | (have hb:Kj_ w=false:=by unfold Kj_;simp only [Bool.and_eq_false_iff,decide_eq_false_iff_not];omega
      unfold w0_;rw [hb];exact ⟨rfl,rfl⟩)
 ·cases e
def nmB (w n:Int) (l:List Int) (room e:Int):List Int:=if Kj_ w=true then KR_ [w] [n] l room e else l
def nmE (w n:Int) (l:List Int) (room e:Int):Int:=if Kj_ w=true then JF_ [w] [n] l room e else zn_ e 10001
def J6_:IR:=
(sq (kr [0,1,2] [oM 6 0,
oM 7 1,
oC 8 139 [6,7]])
(.cond 8
(kr [0,1,2] [oM 9 0,
oM 10 1,
oD 11 (.sliceAll (.int .i64) 1 [(0,1,10)]),
oM 12 2,
oD 13 (.sliceAll (.int .u64) 1 [(0,1,12)]),
oC 14 72 [9,11,13]])
.skip))
def JM_:List RD:=[]
theorem JU_:zo_ Tryz.prog Tryz.f123 J6_ JM_=true:=by kernel_rfl
def kH_:List AV->List Obj->Option (Prop × Res)
 | [.ptr 0 0,.int .i64 w,.int .u64 n],[.box [.own 1,.int .i64 room,.mapv 2,.int .i64 e],.row false (.int .u8) l,.map sq (.int .i64) (.int .i64) h]=>some (0<=room/\room<=1000000/\l.length<=1000000,.br (Kj_ w) (.one (.tup []) [.box [.own 3,.int .i64 room,.mapv 2,.int .i64 (JF_ [w] [n] l room (w0_ w e))],.dead,.map sq (.int .i64) (.int .i64) h,.row false (.int .u8) (KR_ [w] [n] l room (w0_ w e))]) (.one (.tup []) [.box [.own 1,.int .i64 room,.mapv 2,.int .i64 (w0_ w e)],.row false (.int .u8) l,.map sq (.int .i64) (.int .i64) h]))
 | _,_=>none
def qC_:List AV->List Obj->Option (Prop × AV × List Obj)
 | [.ptr 0 0,.int .i64 w,.int .u64 n],[.box [.own 1,.int .i64 room,.mapv 2,.int .i64 e],.row false (.int .u8) l,.map sq (.int .i64) (.int .i64) h]=>some (0<=room/\room<=1000000/\l.length<=1000000,.tup [],[.box [.own 3,.int .i64 room,.mapv 2,.int .i64 (nmE w n l room e)],.dead,.map sq (.int .i64) (.int .i64) h,.row false (.int .u8) (nmB w n l room e)])
 | _,_=>none
theorem jV_:zf_ Tryz.prog 123 (RcF kH_).sum:=by
 refine Up_ Tryz.func123 JU_ (zb_ (s:=RwF qo_) jj_ (zb_ (s:=RwF z9_) Zw_ (zg_ _))) fun args objs p v e=>?_
 unfold kH_ at e
 split at e
 ·rename_i w n room e l sq h
  cases e
  refine ⟨rfl,fun hw ho hp=>?_⟩
  repeat'(intro t ht;first|(cases t<;>first|(cases ht;done)|(try simp only[zh_]at ht))|((first|refine za_ ht ?_|refine ht ?_ ?_|refine ht.1 ?_ ?_|refine ht ?_)<;>clear ht))
  all_goals first
   | exact True.intro
   | exact hp
   | (rw [KA_ (by assumption)];exact ⟨rfl,rfl⟩)
   | (rw [KB_ (by assumption)];exact ⟨rfl,rfl⟩)
 ·cases e
theorem jY_:zf_ Tryz.prog 123 (RwF qC_).sum:=by
 refine yy_ jV_ fun args objs p v o e=>?_
 unfold qC_ at e
 split at e
 ·rename_i w n room e l sq h
  cases e
  cases hb:Kj_ w with
  | true=>
    refine ⟨_,_,rfl,KA_ hb,.inl ?_⟩
    unfold nmE nmB w0_;rw [hb];rfl
  | false=>
    refine ⟨_,_,rfl,KB_ hb,.inr ⟨0,1,[],[.int .i64 room,.mapv 2,.int .i64 (w0_ w e)],.int .u8,l,rfl,rfl,?_⟩⟩
    unfold nmE nmB w0_;rw [hb];rfl
 ·cases e
def w2_ (h:List (Int × Int)) (e:Int):Bool:=decide (e=0) && decide (h.length=0)
def YM_ (l:List Int) (h:List (Int × Int)) (e:Int):List Int:=if w2_ h e=true then l else []
def XS_ (h:List (Int × Int)) (e:Int):Int:=if e=0 then (if h.length=0 then 0 else 10001) else e
def Jx_:IR:=
(sq (kr [0] [oD 2 (.mov (.c (.imm (.int .u8) []))),
oD 3 (.mov (cI 0))])
(sq (.block 0
(sq (.reg [oM 5 0,
oC 6 46 [5],
oM 4 6])
(.cond 4
(sq (.reg [oD 2 (.mov (.c (.imm (.int .u8) []))),
oD 3 (.mov (cI 10001))])
.ret)
(sq (kr [0] [oM 8 0,
oD 9 (.nilck 8),
oA 10 3 9,
oL 11 10,
oB 12 .neq 11 (cI 0),
oM 7 12])
(.cond 7
(sq (kd [0] [(oM 13 0,[]),
(oD 14 (.nilck 13),[]),
(oA 15 3 14,[]),
(oL 16 15,[]),
(oD 2 (.mov (.c (.imm (.int .u8) []))),[0,0,0,0]),
(oM 3 16,[])])
.ret)
(sq (kr [0] [oM 18 0,
oD 19 (.nilck 18),
oA 20 2 19,
oL 21 20,
oD 22 (.mlen 21),
oB 23 .gtr 22 (cI 0),
oM 17 23])
(.cond 17
(sq (kr [] [oD 2 (.mov (.c (.imm (.int .u8) []))),
oD 3 (.mov (cI 10001))])
.ret)
.skip)))))))
(sq (kr [0] [oM 24 0,
oD 25 (.nilck 24),
oA 26 0 25,
oL 27 26,
oC 28 37 [27],
oM 2 28,
oD 3 (.mov (cI 0))])
.ret)))
def j9_:List RD:=[.tmp 2 true (some (.int .u8)),.tmp 3 true none]
theorem Jl_:zo_ Tryz.prog Tryz.f23 Jx_ j9_=true:=by kernel_rfl
def kl_:List AV->List Obj->Option (Prop × Res)
 | [.ptr 0 0],[.box [.own 1,.int .i64 room,.mapv 2,.int .i64 e],.row false (.int .u8) l,.map sq (.int .i64) (.int .i64) h]=>some (l.length<=140737488355328/\h.length<=140737488355328,.br (w2_ h e) (.one (.tup [.imm (.int .u8) l,.int .i64 0]) [.box [.own 1,.int .i64 room,.mapv 2,.int .i64 e],.row true (.int .u8) l,.map sq (.int .i64) (.int .i64) h]) (.one (.tup [.imm (.int .u8) [],.int .i64 (XS_ h e)]) [.box [.own 1,.int .i64 room,.mapv 2,.int .i64 e],.row false (.int .u8) l,.map sq (.int .i64) (.int .i64) h]))
 | _,_=>none
def Zh_:List AV->List Obj->Option (Prop × AV × List Obj)
 | [.ptr 0 0],[.box [.own 1,.int .i64 room,.mapv 2,.int .i64 e],.row false (.int .u8) l,.map sq (.int .i64) (.int .i64) h]=>some (l.length<=140737488355328/\h.length<=140737488355328,.tup [.imm (.int .u8) (YM_ l h e),.int .i64 (XS_ h e)],[.box [.own 1,.int .i64 room,.mapv 2,.int .i64 e],.dead,.map sq (.int .i64) (.int .i64) h])
 | _,_=>none
theorem ja_:zf_ Tryz.prog 23 (RcF kl_).sum:=by
 refine Up_ Tryz.func23 Jl_ (zb_ (s:=RoF Zg_) ZJ_ (zb_ (s:=RoF qP_) kp_ (zg_ _))) fun args objs p v e=>?_
 unfold kl_ at e
 split at e
 ·rename_i room e l sq h
  cases e
  change List (Int × Int) at h
  refine ⟨rfl,fun hw ho hp=>?_⟩
  repeat'(intro t ht;first|(cases t<;>first|(cases ht;done)|(try simp only[zh_]at ht))|((first|refine za_ ht ?_|refine ht ?_ ?_|refine ht.1 ?_ ?_|refine ht ?_)<;>clear ht))
  all_goals first
   | exact True.intro
   | exact hp.1
   | exact hp.2
   | (have hb:w2_ h e=true:=by unfold w2_;simp only [Bool.and_eq_true,decide_eq_true_eq];omega
      rw [KA_ hb];exact ⟨rfl,rfl⟩)
   | (have hb:w2_ h e=false:=by unfold w2_;simp only [Bool.and_eq_false_iff,decide_eq_false_iff_not];omega
      rw [KB_ hb]
      unfold XS_
      first
       | (rw [if_neg (by assumption)];exact ⟨rfl,rfl⟩)
       | (have h0:e=0:=by assumption
          have h1:¬ h.length=0:=by omega
          rw [if_pos h0,if_neg h1];exact ⟨rfl,rfl⟩))
 ·cases e
theorem ZK_:zf_ Tryz.prog 23 (RwF Zh_).sum:=by
 refine B2_ ja_ fun args objs p v o e=>?_
 unfold Zh_ at e
 split at e
 ·rename_i room e l sq h
  cases e
  change List (Int × Int) at h
  cases hb:w2_ h e with
  | true=>
    have h1:e=0:=by unfold w2_ at hb;simp_all
    have h2:h.length=0:=by unfold w2_ at hb;simp_all
    refine ⟨_,[.box [.own 1,.int .i64 room,.mapv 2,.int .i64 e],.row true (.int .u8) l,.map sq (.int .i64) (.int .i64) h],1,rfl,?_,by simp,rfl⟩
    rw [KA_ hb];unfold YM_ XS_;rw [if_pos hb,if_pos h1,if_pos h2];rfl
  | false=>
    refine ⟨_,[.box [.own 1,.int .i64 room,.mapv 2,.int .i64 e],.row false (.int .u8) l,.map sq (.int .i64) (.int .i64) h],1,rfl,?_,by simp,rfl⟩
    rw [KB_ hb];unfold YM_;rw [hb];rfl
 ·cases e
def n8 (q:P8):List Int:=[q.1,q.2.1,q.2.2.1,q.2.2.2.1,q.2.2.2.2.1,q.2.2.2.2.2.1,q.2.2.2.2.2.2.1,q.2.2.2.2.2.2.2.1]
def uq_:IR:=
(sq (kr [0,1] [oD 4 (.nilrow (.int .u64)),
oD 5 (.mov (cI 0))])
(sq (sq (.reg [oM 10 0,
oC 11 125 [10],
oD 12 (.un .not 11)])
(.cond 12
(sq (.reg [oD 4 (.nilrow (.int .u64)),
oD 5 (.mov (cI 2))])
.ret)
.skip))
(sq (kr [0,1] [oD 6 (.nilrow (.int .u64))])
(sq (sq (.reg [oM 13 0,
oE 14 13,
oD 15 (.mov (cI 0))])
(.block 0
(.loop
(sq (kr [1,6,13,14,15] [oB 16 .lss 15 14])
(sq (.cond 16
.skip
(.exit 0))
(sq (.block 1
(sq (.reg [oI 17 1 13 15,
oL 18 17,
oM 8 18])
(sq (kr [1,6,8,13,14,15] [oM 19 8,
oM 20 8,
oD 21 (.un .neg 20),
oD 22 (.minmax true 19 21),
oM 9 22])
(sq (.block 2
(sq (kr [1,6,8,9,13,14,15] [oM 24 1,
oE 25 24,
oM 26 9,
oB 27 .lss 25 26,
oM 23 27])
(.cond 23
(sq (.reg [oD 4 (.nilrow (.int .u64)),
oD 5 (.mov (cI 1))])
.ret)
(sq (.reg [oM 29 8,
oB 30 .gtr 29 (cI 0),
oM 28 30])
(.cond 28
(kr [1,6,9,13,14,15] [oM 31 6,
oM 32 1,
oM 33 9,
oD 34 (.slice 1 32 none (some 33) none),
oC 35 128 [34],
oD 36 (.sliceAll (.int .u64) 1 [(0,1,35)]),
oD 37 (.append (.int .u64) 8 31 36),
oM 6 37])
(sq (kr [1,6,9,13,14,15] [oM 39 1,
oM 40 9,
oD 41 (.slice 1 39 none (some 40) none),
oC 42 129 [41],
oD 43 (.un .not 42),
oM 38 43])
(.cond 38
(sq (kr [] [oD 4 (.nilrow (.int .u64)),
oD 5 (.mov (cI 2))])
.ret)
.skip)))))))
(kr [1,6,9,13,14,15] [oM 44 1,
oM 45 9,
oD 46 (.slice 1 44 (some 45) none none),
oM 1 46])))))
(kr [1,6,13,14,15] [oB 47 .add 15 (cI 1),
oM 15 47])))))))
(sq (kr [6] [oM 48 6,
oM 4 48,
oD 5 (.mov (cI 0))])
.ret)))))
def VS_:List RD:=[.tmp 4 false none,.tmp 5 false none]
theorem V7_:zo_ Tryz.prog Tryz.f107 uq_ VS_=true:=by kernel_rfl
def wm_:List AV->List Obj->Option (Prop × AV × List Obj)
 | [.imm (.int .i64) w,.imm (.int .u8) b],[]=>some ((True,.tup [.own 0,.int .i64 (qh_ w b)],[.row false (.int .u64) (ZB_ w b)]))
 | _,_=>none
theorem Y8_:zf_ Tryz.prog 107 (RwF wm_).sum:=by
 refine ZS_ Tryz.func107 V7_ (zb_ (s:=RoF qj_) qG_ (zb_ (s:=RoF kT_) JC_ (zb_ (s:=RoF jO_) WT_ (zg_ _)))) fun args objs p v o e=>?_
 unfold wm_ at e
 split at e
 ·rename_i w b
  cases e
  refine ⟨rfl,fun hw ho hp=>?_⟩
  change List Int at w
  change List Int at b
  have hb:b.length<=maxLen:=(hw (.imm (.int .u8) b) (by simp)).2
  unfold maxLen at hb
  repeat'(intro t ht;first|(cases t<;>first|(cases ht;done)|(try simp only[zh_]at ht))|((first|refine za_ ht ?_|refine ht ?_ ?_|refine ht.1 ?_ ?_|refine ht ?_)<;>clear ht))
  all_goals first
   | exact True.intro
   | (intro r h1 h2;clear h1;refine h2 ⟨[1,6,13,14,15],Nat × List Int × List Int,(fun a=>a.1<=w.length/\a.2.1.length<=b.length/\a.2.2.length<=a.1/\QD_ w b []=QD_ (w.drop a.1) a.2.1 a.2.2),fun a=>[.imm (.int .u8) a.2.1,.own 0,.imm (.int .i64) w,.int .i64 w.length,.int .i64 a.1],fun a=>[.row false (.int .u64) a.2.2],fun a=>w.length - a.1,⟨(0,b,[]),⟨Nat.zero_le _,Nat.le_refl _,Nat.zero_le _,rfl⟩,rfl,rfl⟩,?_⟩;clear h2)
   | (have hr:zZ_ w=false:=by assumption
      have hf:ZZ_ w b=([],2):=by unfold ZZ_;rw [hr];rfl
      unfold ZB_ qh_;rw [hf];exact ⟨rfl,rfl⟩)
  rintro ⟨i,c,o⟩ ⟨hi,hc,ho,he⟩
  dsimp only at hi hc ho he
  have hr:zZ_ w=true:=by assumption
  have hl:=(Zp_.1 hr).1
  repeat'(intro t ht;first|(cases t<;>first|(cases ht;done)|(try simp only[zh_]at ht))|((first|refine za_ ht ?_|refine ht ?_ ?_|refine ht.1 ?_ ?_|refine ht ?_)<;>clear ht))
  all_goals first
   | ((try simp only [zH_,zJ_,zl_] at*);omega)
   | (have hge:w.length<=i:=by omega
      rw [List.drop_of_length_le hge] at he
      have hf:ZZ_ w b=(o,0):=by unfold ZZ_;rw [if_pos hr,he];rfl
      unfold ZB_ qh_;rw [hf];exact ⟨rfl,rfl⟩)
   | skip
  all_goals have hlt:i < w.length:=by omega
  all_goals have hkk:=(Zp_.1 hr).2 _ (zv_ (α:=Int) hlt 0)
  all_goals have ha:=wO_ (n:=w.getD i 0)
  all_goals have hA:(if 0 - w.getD i 0 > w.getD i 0 then 0 - w.getD i 0 else w.getD i 0)=zx_ (w.getD i 0):=rfl
  all_goals first
   | exact True.intro
   | ((try simp only [zH_,zJ_,zl_] at*);omega)
   | (have h1:(c.length:Int) < zx_ (w.getD i 0):=by assumption
      have hf:ZZ_ w b=([],1):=by unfold ZZ_;rw [if_pos hr,he];exact Ww_ hlt h1
      unfold ZB_ qh_;rw [hf];exact ⟨rfl,rfl⟩)
   | (have h1:¬ (c.length:Int) < zx_ (w.getD i 0):=by assumption
      first
       | (have h2:¬ 0 < w.getD i 0:=by assumption
          first
           | (have h3:zK_ (c.take (zx_ (w.getD i 0)).toNat)=true:=by assumption
              refine ⟨(i+1,c.drop (zx_ (w.getD i 0)).toNat,o),⟨hlt,?_,by dsimp only;omega,?_⟩,by dsimp only;omega,rfl,rfl⟩
              ·dsimp only;rw [List.length_drop];omega
              ·rw [he];exact Xg_ hlt h1 h2 h3)
           | (have h3:zK_ (c.take (zx_ (w.getD i 0)).toNat)=false:=by assumption
              have hf:ZZ_ w b=([],2):=by unfold ZZ_;rw [if_pos hr,he];exact Yy_ hlt h1 h2 h3
              unfold ZB_ qh_;rw [hf];exact ⟨rfl,rfl⟩))
       | (have h2:0 < w.getD i 0:=by assumption
          first
           | (show (c.take (zx_ (w.getD i 0)).toNat).length<=8;rw [List.length_take];omega)
           | (simp only [k8_,List.length_append,List.length_cons,List.length_nil];omega)
           | (refine ⟨(i+1,c.drop (zx_ (w.getD i 0)).toNat,o++[ze_ (c.take (zx_ (w.getD i 0)).toNat)]),⟨hlt,?_,?_,?_⟩,by dsimp only;omega,rfl,rfl⟩
              ·dsimp only;rw [List.length_drop];omega
              ·simp only [List.length_append,List.length_cons,List.length_nil];omega
              ·rw [he];exact Yz_ hlt h1 h2)))
 ·cases e
def jE_:IR:=
(sq (kr [0,1] [oD 4 (.nilrow (.int .u64))])
(sq (sq (.reg [oM 7 0,
oC 8 14 [7],
oB 9 .neq 8 (cI 0)])
(.cond 9
(sq (.reg [oD 4 (.nilrow (.int .u64))])
.ret)
.skip))
(sq (kd [0,1] [(oM 11 1,[]),
(oM 12 0,[0]),
(oD 13 (.nilck 12),[1]),
(oA 14 0 13,[2]),
(oL 15 14,[3]),
(oM 16 0,[0,0,0,0,0]),
(oD 17 (.nilck 16),[1,0,0,0,0]),
(oA 18 1 17,[2,0,0,0,0]),
(oL 19 18,[3,0,0,0,0]),
(oD 20 (.slice 1 15 (some 19) none none),[8]),
(oC 21 107 [11,20],[]),
(oM 10 21,[]),
(oX 22 10 0,[]),
(oX 23 10 1,[0]),
(oM 5 22,[0]),
(oM 6 23,[])])
(sq (sq (kr [0,1,5,6] [oM 24 6])
(.block 0
(sq (.reg [oB 35 .eql 24 (cI 1),
oM 34 35])
(.cond 34
(kr [0,5] [oM 36 0,
oM 37 0,
oD 38 (.nilck 37),
oA 39 2 38,
oL 40 39,
oC 41 40 [36,40]])
(sq (.reg [oB 43 .eql 24 (cI 2),
oM 42 43])
(.cond 42
(kr [0,5] [oM 44 0,
oM 45 0,
oD 46 (.nilck 45),
oA 47 3 46,
oL 48 47,
oC 49 40 [44,48]])
(kd [0,1,5] [(oM 25 0,[]),
(oD 26 (.nilck 25),[]),
(oA 27 1 26,[]),
(oL 28 27,[]),
(oM 29 1,[0,0,0,0]),
(oC 30 108 [29],[1,0,0,0]),
(oB 31 .add 28 30,[]),
(oD 32 (.nilck 25),[]),
(oA 33 1 32,[]),
(oS 1 33 31,[])])))))))
(sq (kr [5] [oM 50 5,
oM 4 50])
.ret)))))
def jo_:List RD:=[.tmp 4 false none]
theorem jt_:zo_ Tryz.prog Tryz.f81 jE_ jo_=true:=by kernel_rfl
def Z1_:List AV->List Obj->Option (Prop × AV × List Obj)
 | [.ptr 0 0,.imm (.int .i64) w],[.box [.imm (.int .u8) b,.int .i64 p,.int .i64 sh,.int .i64 od,.int .i64 e,.bool true]]=>some ((0<=p/\p<=b.length/\b.length<=140737488355328,.own 1,[.box [.imm (.int .u8) b,.int .i64 (Zu_ w b p e),.int .i64 sh,.int .i64 od,.int .i64 (Zm_ w b p sh od e),.bool true],.row false (.int .u64) (Jy_ w b p e)]))
 | _,_=>none
theorem KP_:zf_ Tryz.prog 81 (RwF Z1_).sum:=by
 refine ZS_ Tryz.func81 jt_ (zb_ (s:=RoF zq_) zu_ (zb_ (s:=RwF wm_) Y8_ (zb_ (s:=RwF zr_) zy_ (zb_ (s:=RoF Ka_) je_ (zg_ _))))) fun args objs p v o e=>?_
 unfold Z1_ at e
 split at e
 ·rename_i w b p sh od e
  cases e
  refine ⟨rfl,fun hw ho hp=>?_⟩
  change List Int at w
  change List Int at b
  have hz:=JE_ w
  repeat'(intro t ht;first|(cases t<;>first|(cases ht;done)|(try simp only[zh_]at ht))|((first|refine za_ ht ?_|refine ht ?_ ?_|refine ht.1 ?_ ?_|refine ht ?_)<;>clear ht))
  all_goals first
   | exact True.intro
   | ((try simp only [zH_,zJ_,zl_] at*);omega)
   | (refine ⟨rfl,?_⟩;unfold Jy_ Zu_ Zm_;simp_all [zn_];done)
 ·cases e
theorem Yx_:∀ (w b o:List Int),(QD_ w b o).1.length<=o.length+w.length
 | [],b,o=>by simp [QD_]
 | n :: r,b,o=>by
   simp only [QD_]
   split
   ·simp
   ·split
    ·have ih:=Yx_ r (b.drop (zx_ n).toNat) (o++[ze_ (b.take (zx_ n).toNat)])
     simp only [List.length_append,List.length_cons,List.length_nil] at ih ⊢;omega
    ·split
     ·have ih:=Yx_ r (b.drop (zx_ n).toNat) o
      simp only [List.length_cons];omega
     ·simp
theorem zaH_ (w b:List Int) (p e:Int):(Jy_ w b p e).length<=w.length:=by
 unfold Jy_ ZB_ ZZ_
 split
 ·split
  ·have:=Yx_ w (b.drop p.toNat) [];simpa using this
  ·simp
 ·simp
theorem YA_:∀ (w b o:List Int),((QD_ w b o).2=0\/(QD_ w b o).2=1\/(QD_ w b o).2=2)/\((QD_ w b o).2=0->(w.map zx_).sum<=b.length)
 | [],b,o=>⟨.inl rfl,fun _=>by simp⟩
 | n :: r,b,o=>by
   have ha:=wO_ (n:=n)
   have hd:(b.drop (zx_ n).toNat).length=b.length - (zx_ n).toNat:=List.length_drop
   simp only [QD_]
   rw [List.map_cons,List.sum_cons]
   split
   ·exact ⟨.inr (.inl rfl),fun h=>by cases h⟩
   ·split
    ·have ih:=YA_ r (b.drop (zx_ n).toNat) (o++[ze_ (b.take (zx_ n).toNat)])
     exact ⟨ih.1,fun h=>by have:=ih.2 h;omega⟩
    ·split
     ·have ih:=YA_ r (b.drop (zx_ n).toNat) o
      exact ⟨ih.1,fun h=>by have:=ih.2 h;omega⟩
     ·exact ⟨.inr (.inr rfl),fun h=>by cases h⟩
theorem b2_ (w b:List Int):(qh_ w b=0\/qh_ w b=1\/qh_ w b=2)/\(qh_ w b=0->kD_ w<=b.length):=by
 unfold qh_ ZZ_ kD_
 split
 ·exact YA_ w b []
 ·exact ⟨.inr (.inr rfl),fun h=>by cases h⟩
theorem hB_ {w b:List Int} {p e:Int} (h0:0<=p) (h1:p<=b.length):0<=Zu_ w b p e/\Zu_ w b p e<=b.length:=by
 have hk:=b2_ w (b.drop p.toNat)
 have hz:=JE_ w
 have hd:(b.drop p.toNat).length=b.length - p.toNat:=List.length_drop
 unfold Zu_
 by_cases he:e=0
 ·rw [if_pos he]
  by_cases h2:qh_ w (b.drop p.toNat)=1
  ·rw [if_pos h2];exact ⟨h0,h1⟩
  ·rw [if_neg h2]
   by_cases h3:qh_ w (b.drop p.toNat)=2
   ·rw [if_pos h3];exact ⟨h0,h1⟩
   ·rw [if_neg h3]
    have:=hk.2 (by omega)
    omega
 ·rw [if_neg he];exact ⟨h0,h1⟩
theorem HV_ {n:Int} {b:List Int} {p sh e:Int} (h0:0<=p) (h1:p<=b.length) (hs:sh ≠ 0):0<=Z5_ n b p sh e/\Z5_ n b p sh e<=b.length:=by
 have h2:zn_ e 10001 ≠ 0:=k7_ (by decide)
 have h3:zn_ e sh ≠ 0:=k7_ hs
 unfold Z5_
 by_cases h:zW_ n b p sh e=0
 ·rw [if_pos h]
  unfold zW_ at h
  by_cases hn:n < 0
  ·rw [if_pos hn] at h;exact absurd h h2
  ·rw [if_neg hn] at h
   by_cases hl:(b.length:Int) - p < n
   ·rw [if_pos hl] at h;exact absurd h h3
   ·omega
 ·rw [if_neg h];exact ⟨h0,h1⟩
theorem zbW_ {s:List Int} {c:Int}:(ctR s c).length<=s.length:=by
 unfold ctR;split
 ·rw [List.length_drop];omega
 ·simp
theorem u3_ {n:Int} {b:List Int} {p sh e:Int}:(zm_ n b p sh e).length<=b.length:=by
 unfold zm_;split
 ·rw [List.length_drop,List.length_take];omega
 ·simp
theorem zaw_ {c:Int} {b:List Int} {i:Nat} (h:i < b.length) (hk:¬ b.getD i 0=c):ZY_ c (b.drop i) i=ZY_ c (b.drop (i+1)) ((i+1:Nat):Int):=by
 rw [zC_ h 0];exact if_neg hk
theorem zax_ {c:Int} {b:List Int} {i:Nat} (h:i < b.length) (hk:b.getD i 0=c):ZY_ c (b.drop i) i=i:=by
 rw [zC_ h 0];exact if_pos hk
theorem bT_ {c:Int} {b:List Int} {i:Nat} (h:b.length<=i):ZY_ c (b.drop i) i=-1:=by
 rw [List.drop_of_length_le h];rfl
def zi (b:List Int):Nat:=if 0<=ZY_ 0 b 0 then (ZY_ 0 b 0).toNat else b.length
theorem zb5_ {b:List Int} {i:Nat} (h:i < b.length) (he:ZY_ 0 b 0=ZY_ 0 (b.drop i) i) (hk:b.getD i 0=0):zi b=i:=by
 unfold zi;rw [he,zax_ h hk,if_pos (by omega)];omega
theorem zbg_ {b:List Int} {i:Nat} (h:b.length<=i) (he:ZY_ 0 b 0=ZY_ 0 (b.drop i) i):zi b=b.length:=by
 unfold zi;rw [he,bT_ h];rfl
def nmS (b:List Int):List Int:=if zK_ (b.drop (zi b))=true then b.take (zi b) else []
end Go.Eng
