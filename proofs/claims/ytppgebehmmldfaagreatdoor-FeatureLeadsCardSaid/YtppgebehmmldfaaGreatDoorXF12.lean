/- Parts of the proof: C1, B1, P4, P5, P6, N1. No condition. -/
import Derived.Test.YtppgebehmmldfaaGreatDoorProg
import Derived.Test.YtppgebehmmldfaaGreatDoorXF10
import Derived.KernelRfl
import Derived.Test.YtppgebehmmldfaaGreatDoorXF11
namespace Go.Eng
open Go.Proofs
set_option linter.unusedVariables false
set_option linter.unusedSimpArgs false
set_option maxRecDepth 100000
set_option maxHeartbeats 1000000
def YP_:IR:=
(sq (kr [0] [oD 2 (.mov (.c (.imm (.int .u8) [])))])
(sq (sq (.reg [oM 3 0,
oD 4 (.isnil false 3)])
(.cond 4
(sq (.reg [oD 2 (.mov (.c (.imm (.int .u8) [])))])
.ret)
.skip))
(sq (.reg [oD 5 (.slice0 (.int .u8)),
oM 6 0,
oD 7 (.append (.int .u8) 1 5 6),
oM 2 7])
.ret)))
def Yl_:List RD:=[.tmp 2 true (some (.int .u8))]
theorem Yz_:zo_ Tryz.prog Tryz.f37 YP_ Yl_=true:=by kernel_rfl
def qU_:List AV->List Obj->Option (Prop × AV)
 | [.imm (.int .u8) b],[]=>some ((b.length<=140737488355328,.imm (.int .u8) b))
 | _,_=>none
theorem kv_:ze_ Tryz.prog 37 (RoF qU_).sum:=by
 refine zs_ Tryz.func37 Yz_ (zd_ _) fun args objs p v e=>?_
 unfold qU_ at e
 split at e
 ·rename_i b
  cases e
  refine ⟨rfl,fun hw ho hp=>?_⟩
  change List Int at b
  repeat'(intro t ht;first|(cases t<;>first|(cases ht;done)|(try simp only[zg_]at ht))|((first|refine zb_ ht ?_|refine ht ?_ ?_|refine ht.1 ?_ ?_|refine ht ?_)<;>clear ht))
  all_goals first
   | (simp only [Ke_,List.length_nil,Nat.zero_add,Nat.mul_one];omega)
   | exact ⟨rfl,rfl⟩
   | (have e:b=[]:=by simp_all
      refine ⟨?_,rfl⟩;rw [e])
 ·cases e
def JD_:IR:=
(sq (kr [0] [oD 2 (.mov cF)])
(sq (kr [0] [oM 3 0,
oD 4 (.eqp false 3 (.c (.nilp))),
oM 5 4,
oF 5 6 (.mov 0),
oF 5 7 (.nilck 6),
oF 5 8 (.fieldAddr 5 7),
oF 5 9 (.load none 8),
oF 5 10 (.un .not 9),
oP 11 5 cT 10,
oM 2 11])
.ret))
def Je_:List RD:=[.tmp 2 true none]
theorem Jr_:zo_ Tryz.prog Tryz.f41 JD_ Je_=true:=by kernel_rfl
def zN_:List AV->List Obj->Option (Prop × AV)
 | [.ptr 0 0],[.box [.imm (.int .u8) b,.int .i64 p,.int .i64 sh,.int .i64 od,.int .i64 e,.bool true]]=>some ((True,.bool false))
 | _,_=>none
theorem z2_:ze_ Tryz.prog 41 (RoF zN_).sum:=by
 refine zs_ Tryz.func41 Jr_ (zd_ _) fun args objs p v e=>?_
 unfold zN_ at e
 split at e
 ·rename_i b p sh od e
  cases e
  refine ⟨rfl,fun hw ho hp=>?_⟩
  change List Int at b
  repeat'(intro t ht;first|(cases t<;>first|(cases ht;done)|(try simp only[zg_]at ht))|((first|refine zb_ ht ?_|refine ht ?_ ?_|refine ht.1 ?_ ?_|refine ht ?_)<;>clear ht))
  all_goals exact ⟨rfl,rfl⟩
 ·cases e
def vX_:IR:=
(sq (kr [0,1,2] [oD 6 (.mov (.c (.nilp)))])
(sq (kr [0,1,2] [oM 7 0,
oC 8 37 [7],
oM 9 1,
oM 10 2,
oD 11 (.build [.imm (.int .u8) [],.int .i64 0,.int .i64 0,.int .i64 0,.int .i64 0,.kb false] [(0,1,8),(2,1,9),(3,1,10),(5,1,cT)]),
oD 12 (.boxv 11),
oM 6 12])
.ret))
def vI_:List RD:=[.tmp 6 true none]
theorem vP_:zo_ Tryz.prog Tryz.f11 vX_ vI_=true:=by kernel_rfl
def qx_:List AV->List Obj->Option (Prop × AV × List Obj)
 | [.imm (.int .u8) b,.int .i64 sh,.int .i64 od],[]=>some ((b.length<=140737488355328,.ptr 0 0,[.box [.imm (.int .u8) b,.int .i64 0,.int .i64 sh,.int .i64 od,.int .i64 0,.bool true]]))
 | _,_=>none
theorem Qo_:ze_ Tryz.prog 11 (RwF qx_).sum:=by
 refine ZJ_ Tryz.func11 vP_ (za_ (s:=RoF qU_) kv_ (zd_ _)) fun args objs p v o e=>?_
 unfold qx_ at e
 split at e
 ·rename_i b sh od
  cases e
  refine ⟨rfl,fun hw ho hp=>?_⟩
  change List Int at b
  repeat'(intro t ht;first|(cases t<;>first|(cases ht;done)|(try simp only[zg_]at ht))|((first|refine zb_ ht ?_|refine ht ?_ ?_|refine ht.1 ?_ ?_|refine ht ?_)<;>clear ht))
  all_goals first
   | exact hp
   | exact ⟨rfl,rfl⟩
 ·cases e
def zl_ (e x:Int):Int:=if e=0 then x else e
def JG_:IR:=
(sq (kr [0,1] [oM 4 0,
oC 5 41 [4],
oD 6 (.un .not 5),
oM 7 6,
oT 7 8 (.mov 0),
oT 7 9 (.nilck 8),
oT 7 10 (.fieldAddr 4 9),
oT 7 11 (.load none 10),
oT 7 12 (.bin .eql 11 (cI 0)),
oP 13 7 12 cF])
(.cond 13
(kr [0,1] [oM 14 0,
oM 15 1,
oD 16 (.nilck 14),
oA 17 4 16,
oS 1 17 15])
.skip))
def Jh_:List RD:=[]
theorem Ju_:zo_ Tryz.prog Tryz.f40 JG_ Jh_=true:=by kernel_rfl
def zr_:List AV->List Obj->Option (Prop × AV × List Obj)
 | [.ptr 0 0,.int .i64 x],[.box [.imm (.int .u8) b,.int .i64 p,.int .i64 sh,.int .i64 od,.int .i64 e,.bool true]]=>some ((True,.tup [],[.box [.imm (.int .u8) b,.int .i64 p,.int .i64 sh,.int .i64 od,.int .i64 (zl_ e x),.bool true]]))
 | _,_=>none
theorem zw_:ze_ Tryz.prog 40 (RwF zr_).sum:=by
 refine ZJ_ Tryz.func40 Ju_ (za_ (s:=RoF zN_) z2_ (zd_ _)) fun args objs p v o e=>?_
 unfold zr_ at e
 split at e
 ·rename_i x b p sh od e
  cases e
  refine ⟨rfl,fun hw ho hp=>?_⟩
  change List Int at b
  repeat'(intro t ht;first|(cases t<;>first|(cases ht;done)|(try simp only[zg_]at ht))|((first|refine zb_ ht ?_|refine ht ?_ ?_|refine ht.1 ?_ ?_|refine ht ?_)<;>clear ht))
  all_goals first
   | exact True.intro
   | (unfold zl_;simp_all;done)
 ·cases e
def wm_:IR:=
(sq (kr [0] [oD 2 (.mov (cI 0))])
(sq (sq (.reg [oM 3 0,
oC 4 41 [3]])
(.cond 4
(sq (.reg [oD 2 (.mov (cI 10001))])
.ret)
.skip))
(sq (kr [0] [oM 5 0,
oD 6 (.nilck 5),
oA 7 4 6,
oL 8 7,
oM 2 8])
.ret)))
def J0_:List RD:=[.tmp 2 true none]
theorem wa_:zo_ Tryz.prog Tryz.f14 wm_ J0_=true:=by kernel_rfl
def zv_:List AV->List Obj->Option (Prop × AV)
 | [.ptr 0 0],[.box [.imm (.int .u8) b,.int .i64 p,.int .i64 sh,.int .i64 od,.int .i64 e,.bool true]]=>some ((True,.int .i64 e))
 | _,_=>none
theorem zy_:ze_ Tryz.prog 14 (RoF zv_).sum:=by
 refine zs_ Tryz.func14 wa_ (za_ (s:=RoF zN_) z2_ (zd_ _)) fun args objs p v e=>?_
 unfold zv_ at e
 split at e
 ·rename_i b p sh od e
  cases e
  refine ⟨rfl,fun hw ho hp=>?_⟩
  change List Int at b
  repeat'(intro t ht;first|(cases t<;>first|(cases ht;done)|(try simp only[zg_]at ht))|((first|refine zb_ ht ?_|refine ht ?_ ?_|refine ht.1 ?_ ?_|refine ht ?_)<;>clear ht))
  all_goals first
   | exact True.intro
   | exact ⟨rfl,rfl⟩
 ·cases e
def JF_:IR:=
(sq (kr [0] [oD 2 (.mov (cI 0))])
(sq (sq (.reg [oM 3 0,
oC 4 41 [3]])
(.cond 4
(sq (.reg [oD 2 (.mov (cI 0))])
.ret)
.skip))
(sq (kd [0] [(oM 5 0,[]),
(oD 6 (.nilck 5),[]),
(oA 7 0 6,[]),
(oL 8 7,[]),
(oE 9 8,[]),
(oM 10 0,[0,0,0,0,0]),
(oD 11 (.nilck 10),[1,0,0,0,0]),
(oA 12 1 11,[2,0,0,0,0]),
(oL 13 12,[3,0,0,0,0]),
(oB 14 .sub 9 13,[]),
(oM 2 14,[])])
.ret)))
def Jg_:List RD:=[.tmp 2 true none]
theorem Jt_:zo_ Tryz.prog Tryz.f15 JF_ Jg_=true:=by kernel_rfl
def zO_:List AV->List Obj->Option (Prop × AV)
 | [.ptr 0 0],[.box [.imm (.int .u8) b,.int .i64 p,.int .i64 sh,.int .i64 od,.int .i64 e,.bool true]]=>some ((0<=p/\p<=b.length,.int .i64 (b.length - p)))
 | _,_=>none
theorem z3_:ze_ Tryz.prog 15 (RoF zO_).sum:=by
 refine zs_ Tryz.func15 Jt_ (za_ (s:=RoF zN_) z2_ (zd_ _)) fun args objs p v e=>?_
 unfold zO_ at e
 split at e
 ·rename_i b p sh od e
  cases e
  refine ⟨rfl,fun hw ho hp=>?_⟩
  change List Int at b
  have hb:b.length<=maxLen:=(ho _ (List.mem_cons_self ..) (.imm (.int .u8) b) (by simp)).2
  unfold maxLen at hb
  repeat'(intro t ht;first|(cases t<;>first|(cases ht;done)|(try simp only[zg_]at ht))|((first|refine zb_ ht ?_|refine ht ?_ ?_|refine ht.1 ?_ ?_|refine ht ?_)<;>clear ht))
  all_goals first
   | exact True.intro
   | ((try simp only [zF_,zG_,zk_] at*);omega)
   | exact ⟨rfl,rfl⟩
 ·cases e
def Wh_:IR:=
(sq (kr [0] [oD 2 (.mov (cI 0))])
(sq (sq (.reg [oM 3 0,
oC 4 41 [3]])
(.cond 4
(sq (.reg [oD 2 (.mov (cI 0))])
.ret)
.skip))
(sq (kr [0] [oM 5 0,
oD 6 (.nilck 5),
oA 7 1 6,
oL 8 7,
oM 2 8])
.ret)))
def Wc_:List RD:=[.tmp 2 true none]
theorem We_:zo_ Tryz.prog Tryz.f87 Wh_ Wc_=true:=by kernel_rfl
def q8_:List AV->List Obj->Option (Prop × AV)
 | [.ptr 0 0],[.box [.imm (.int .u8) b,.int .i64 p,.int .i64 sh,.int .i64 od,.int .i64 e,.bool true]]=>some ((True,.int .i64 p))
 | _,_=>none
theorem JT_:ze_ Tryz.prog 87 (RoF q8_).sum:=by
 refine zs_ Tryz.func87 We_ (za_ (s:=RoF zN_) z2_ (zd_ _)) fun args objs p v e=>?_
 unfold q8_ at e
 split at e
 ·rename_i b p sh od e
  cases e
  refine ⟨rfl,fun hw ho hp=>?_⟩
  change List Int at b
  repeat'(intro t ht;first|(cases t<;>first|(cases ht;done)|(try simp only[zg_]at ht))|((first|refine zb_ ht ?_|refine ht ?_ ?_|refine ht.1 ?_ ?_|refine ht ?_)<;>clear ht))
  all_goals first
   | exact True.intro
   | exact ⟨rfl,rfl⟩
 ·cases e
def ww_ (w b:List Int) (p e:Int):List Int:=if e=0 then Wj_ w (b.drop p.toNat) else []
def Zz_ (w b:List Int) (p e:Int):Int:=if e=0 then (if QY_ w (b.drop p.toNat)=1 then p else if QY_ w (b.drop p.toNat)=2 then p else p+QK_ w) else p
def ZC_ (w b:List Int) (p sh od e:Int):Int:=if e=0 then (if QY_ w (b.drop p.toNat)=1 then sh else if QY_ w (b.drop p.toNat)=2 then od else 0) else e
def wk_:IR:=
(sq (kr [0,1] [oD 4 (.mov (.c (.imm (.int .u64) [])))])
(sq (sq (.reg [oM 7 0,
oC 8 14 [7],
oB 9 .neq 8 (cI 0)])
(.cond 9
(sq (.reg [oD 4 (.mov (.c (.imm (.int .u64) [])))])
.ret)
.skip))
(sq (kd [0,1] [(oM 11 1,[]),
(oM 12 0,[0]),
(oD 13 (.nilck 12),[1]),
(oA 14 0 13,[2]),
(oL 15 14,[3]),
(oM 16 0,[0,0,0,0,0]),
(oD 17 (.nilck 16),[1,0,0,0,0]),
(oA 18 1 17,[2,0,0,0,0]),
(oL 19 18,[3,0,0,0,0]),
(oD 20 (.slice 1 15 (some 19) none none),[8]),
(oC 21 107 [11,20],[]),
(oM 10 21,[]),
(oX 22 10 0,[]),
(oX 23 10 1,[0]),
(oM 5 22,[0]),
(oM 6 23,[])])
(sq (sq (kr [0,1,5,6] [oM 24 6])
(.block 0
(sq (.reg [oB 35 .eql 24 (cI 1),
oM 34 35])
(.cond 34
(kr [0,5] [oM 36 0,
oM 37 0,
oD 38 (.nilck 37),
oA 39 2 38,
oL 40 39,
oC 41 40 [36,40]])
(sq (.reg [oB 43 .eql 24 (cI 2),
oM 42 43])
(.cond 42
(kr [0,5] [oM 44 0,
oM 45 0,
oD 46 (.nilck 45),
oA 47 3 46,
oL 48 47,
oC 49 40 [44,48]])
(kd [0,1,5] [(oM 25 0,[]),
(oD 26 (.nilck 25),[]),
(oA 27 1 26,[]),
(oL 28 27,[]),
(oM 29 1,[0,0,0,0]),
(oC 30 108 [29],[1,0,0,0]),
(oB 31 .add 28 30,[]),
(oD 32 (.nilck 25),[]),
(oA 33 1 32,[]),
(oS 1 33 31,[])])))))))
(sq (kr [5] [oM 50 5,
oM 4 50])
.ret)))))
def JY_:List RD:=[.tmp 4 true (some (.int .u64))]
theorem J8_:zo_ Tryz.prog Tryz.f81 wk_ JY_=true:=by kernel_rfl
def Zp_:List AV->List Obj->Option (Prop × AV × List Obj)
 | [.ptr 0 0,.imm (.int .i64) w],[.box [.imm (.int .u8) b,.int .i64 p,.int .i64 sh,.int .i64 od,.int .i64 e,.bool true]]=>some ((0<=p/\p<=b.length/\b.length<=140737488355328,.imm (.int .u64) (ww_ w b p e),[.box [.imm (.int .u8) b,.int .i64 (Zz_ w b p e),.int .i64 sh,.int .i64 od,.int .i64 (ZC_ w b p sh od e),.bool true]]))
 | _,_=>none
theorem Z3_:ze_ Tryz.prog 81 (RwF Zp_).sum:=by
 refine ZJ_ Tryz.func81 J8_ (za_ (s:=RoF zv_) zy_ (za_ (s:=RoF XS_) UI_ (za_ (s:=RwF zr_) zw_ (za_ (s:=RoF Ki_) jp_ (zd_ _))))) fun args objs p v o e=>?_
 unfold Zp_ at e
 split at e
 ·rename_i w b p sh od e
  cases e
  refine ⟨rfl,fun hw ho hp=>?_⟩
  change List Int at w
  change List Int at b
  have hz:=JU_ w
  repeat'(intro t ht;first|(cases t<;>first|(cases ht;done)|(try simp only[zg_]at ht))|((first|refine zb_ ht ?_|refine ht ?_ ?_|refine ht.1 ?_ ?_|refine ht ?_)<;>clear ht))
  all_goals first
   | exact True.intro
   | ((try simp only [zF_,zG_,zk_] at*);omega)
   | (unfold ww_ Zz_ ZC_;simp_all [zl_];done)
 ·cases e
def JA_ (w:Int) (b:List Int) (p e:Int):Int:=if 1<=w/\w<=8 then (ww_ [w] b p e).getD 0 0 else 0
def zh_ (w:Int) (b:List Int) (p e:Int):Int:=if 1<=w/\w<=8 then Zz_ [w] b p e else p
def zi_ (w:Int) (b:List Int) (p sh od e:Int):Int:=if 1<=w/\w<=8 then ZC_ [w] b p sh od e else zl_ e 10001
def wl_:IR:=
(sq (kr [0,1] [oD 4 (.mov (.c (.int .u64 0)))])
(sq (sq (kr [0,1] [oM 7 1,
oB 8 .lss 7 (cI 1),
oM 9 8,
oF 9 10 (.mov 1),
oF 9 11 (.bin .gtr 10 (cI 8)),
oP 12 9 cT 11])
(.cond 12
(sq (kr [0] [oM 13 0,
oC 14 40 [13,(cI 10001)]])
(sq (.reg [oD 4 (.mov (.c (.int .u64 0)))])
.ret))
.skip))
(sq (kr [0,1] [oM 15 0,
oD 16 (.mkfn 81 [15] []),
oM 5 16])
(sq (sq (kr [1,5] [oM 17 5,
oM 18 1,
oD 19 (.sliceAll (.int .i64) 1 [(0,1,18)]),
oD 20 (.call false 17 [19]),
oM 6 20])
(sq (.reg [oM 21 6,
oE 22 21,
oB 23 .gtr 22 (cI 0)])
(.cond 23
(sq (kr [6] [oM 24 6,
oD 25 (.indexSl 1 24 (cI 0)),
oL 26 25,
oM 4 26])
.ret)
.skip)))
(sq (kr [] [oD 4 (.mov (.c (.int .u64 0)))])
.ret)))))
def JZ_:List RD:=[.tmp 4 true none]
theorem J9_:zo_ Tryz.prog Tryz.f80 wl_ JZ_=true:=by kernel_rfl
def ZI_:List AV->List Obj->Option (Prop × AV × List Obj)
 | [.ptr 0 0,.int .i64 w],[.box [.imm (.int .u8) b,.int .i64 p,.int .i64 sh,.int .i64 od,.int .i64 e,.bool true]]=>some ((0<=p/\p<=b.length/\b.length<=140737488355328,.int .u64 (JA_ w b p e),[.box [.imm (.int .u8) b,.int .i64 (zh_ w b p e),.int .i64 sh,.int .i64 od,.int .i64 (zi_ w b p sh od e),.bool true]]))
 | _,_=>none
theorem QJ_:ze_ Tryz.prog 80 (RwF ZI_).sum:=by
 refine ZJ_ Tryz.func80 J9_ (za_ (s:=RwF zr_) zw_ (za_ (s:=RwF Zp_) Z3_ (zd_ _))) fun args objs p v o e=>?_
 unfold ZI_ at e
 split at e
 ·rename_i w b p sh od e
  cases e
  refine ⟨rfl,fun hw ho hp=>?_⟩
  change List Int at b
  repeat'(intro t ht;first|(cases t<;>first|(cases ht;done)|(try simp only[zg_]at ht))|((first|refine zb_ ht ?_|refine ht ?_ ?_|refine ht.1 ?_ ?_|refine ht ?_)<;>clear ht))
  all_goals first
   | exact True.intro
   | exact hp
   | ((try simp only [zF_,zG_,zk_] at*);omega)
   | (have hc:1<=w/\w<=8:=by omega
      unfold JA_ zh_ zi_
      rw [if_pos hc,if_pos hc,if_pos hc]
      first
       | exact ⟨rfl,rfl⟩
       | (have hl:ww_ [w] b p e=[]:=List.eq_nil_of_length_eq_zero (by omega)
          refine ⟨?_,rfl⟩;rw [hl];rfl))
   | (have hc:¬ (1<=w/\w<=8):=by omega
      unfold JA_ zh_ zi_
      rw [if_neg hc,if_neg hc,if_neg hc]
      exact ⟨rfl,rfl⟩)
 ·cases e
theorem Kd_ {e x:Int} (h:x ≠ 0):zl_ e x ≠ 0:=by unfold zl_;split<;>assumption
def Ze_ (n:Int) (b:List Int) (p sh e:Int):Int:=if n < 0 then zl_ e 10001 else if b.length - p < n then zl_ e sh else e
def zm_ (n:Int) (b:List Int) (p sh e:Int):List Int:=if Ze_ n b p sh e=0 then (b.take (p+n).toNat).drop p.toNat else []
def q9_ (n:Int) (b:List Int) (p sh e:Int):Int:=if Ze_ n b p sh e=0 then p+n else p
def JC_:IR:=
(sq (kr [0,1] [oD 4 (.mov (.c (.imm (.int .u8) []))),
oD 5 (.mov cF)])
(sq (sq (.reg [oM 7 1,
oB 8 .lss 7 (cI 0)])
(.cond 8
(.reg [oM 9 0,
oC 10 40 [9,(cI 10001)]])
(sq (kr [0,1] [oM 11 1,
oM 12 0,
oC 13 15 [12],
oB 14 .gtr 11 13,
oM 15 14,
oT 15 16 (.mov 0),
oT 15 17 (.call false (.f 41) [16]),
oT 15 18 (.un .not 17),
oP 19 15 18 cF])
(.cond 19
(kr [0,1] [oM 20 0,
oM 21 0,
oD 22 (.nilck 21),
oA 23 2 22,
oL 24 23,
oC 25 40 [20,24]])
.skip))))
(sq (sq (kr [0,1] [oM 26 0,
oC 27 14 [26],
oB 28 .neq 27 (cI 0)])
(.cond 28
(sq (.reg [oD 4 (.mov (.c (.imm (.int .u8) []))),
oD 5 (.mov cF)])
.ret)
.skip))
(sq (kd [0,1] [(oM 29 0,[]),
(oD 30 (.nilck 29),[]),
(oA 31 0 30,[]),
(oL 32 31,[]),
(oM 33 0,[0,0,0,0]),
(oD 34 (.nilck 33),[1,0,0,0]),
(oA 35 1 34,[2,0,0,0]),
(oL 36 35,[3,0,0,0]),
(oM 37 0,[0,0,0,0,0,0,0,0]),
(oD 38 (.nilck 37),[1,0,0,0,0,0,0,0]),
(oA 39 1 38,[2,0,0,0,0,0,0,0]),
(oL 40 39,[3,0,0,0,0,0,0,0]),
(oM 41 1,[0,0,0,0,0,0,0,0,0,0,0,0]),
(oB 42 .add 40 41,[5,0,0,0,0,0,0,0]),
(oM 43 0,[0,0,0,0,0,0,0,0,0,0,0,0,0,0]),
(oD 44 (.nilck 43),[1,0,0,0,0,0,0,0,0,0,0,0,0,0]),
(oA 45 1 44,[2,0,0,0,0,0,0,0,0,0,0,0,0,0]),
(oL 46 45,[3,0,0,0,0,0,0,0,0,0,0,0,0,0]),
(oM 47 1,[0,0,0,0,0,0,0,0,0,0,0,0,0,0,0,0,0,0]),
(oB 48 .add 46 47,[5,0,0,0,0,0,0,0,0,0,0,0,0,0]),
(oD 49 (.slice 1 32 (some 36) (some 42) (some 48)),[]),
(oM 6 49,[])])
(sq (kr [0,1,6] [oM 50 0,
oD 51 (.nilck 50),
oA 52 1 51,
oL 53 52,
oM 54 1,
oB 55 .add 53 54,
oD 56 (.nilck 50),
oA 57 1 56,
oS 1 57 55])
(sq (kr [6] [oM 58 6,
oM 4 58,
oD 5 (.mov cT)])
.ret))))))
def Jd_:List RD:=[.tmp 4 true (some (.int .u8)),.tmp 5 true none]
theorem Jq_:zo_ Tryz.prog Tryz.f38 JC_ Jd_=true:=by kernel_rfl
def qo_:List AV->List Obj->Option (Prop × AV × List Obj)
 | [.ptr 0 0,.int .i64 n],[.box [.imm (.int .u8) b,.int .i64 p,.int .i64 sh,.int .i64 od,.int .i64 e,.bool true]]=>some ((0<=p/\p<=b.length/\b.length<=140737488355328/\sh ≠ 0,.tup [.imm (.int .u8) (zm_ n b p sh e),.bool (decide (Ze_ n b p sh e=0))],[.box [.imm (.int .u8) b,.int .i64 (q9_ n b p sh e),.int .i64 sh,.int .i64 od,.int .i64 (Ze_ n b p sh e),.bool true]]))
 | _,_=>none
theorem jr_:ze_ Tryz.prog 38 (RwF qo_).sum:=by
 refine ZJ_ Tryz.func38 Jq_ (za_ (s:=RwF zr_) zw_ (za_ (s:=RoF zO_) z3_ (za_ (s:=RoF zN_) z2_ (za_ (s:=RoF zv_) zy_ (zd_ _))))) fun args objs p v o e=>?_
 unfold qo_ at e
 split at e
 ·rename_i n b p sh od e
  cases e
  refine ⟨rfl,fun hw ho hp=>?_⟩
  change List Int at b
  have hf1:zl_ e 10001 ≠ 0:=Kd_ (by decide)
  have hf2:zl_ e sh ≠ 0:=Kd_ hp.2.2.2
  repeat'(intro t ht;first|(cases t<;>first|(cases ht;done)|(try simp only[zg_]at ht))|((first|refine zb_ ht ?_|refine ht ?_ ?_|refine ht.1 ?_ ?_|refine ht ?_)<;>clear ht))
  all_goals first
   | exact True.intro
   | (exfalso;omega)
   | omega
   | ((try simp only [zF_,zG_,zk_] at*);omega)
   | (first
       | (have hE:Ze_ n b p sh e=e:=by unfold Ze_;rw [if_neg (by assumption),if_neg (by assumption)]
          unfold zm_ q9_;rw [hE]
          first
           | (have h0:e=0:=by assumption
              rw [if_pos h0,if_pos h0,decide_eq_true h0];exact ⟨rfl,rfl⟩)
           | (have h0:¬ e=0:=by assumption
              rw [if_neg h0,if_neg h0,decide_eq_false h0];exact ⟨rfl,rfl⟩))
       | (have hE:Ze_ n b p sh e=zl_ e sh:=by unfold Ze_;rw [if_neg (by assumption),if_pos (by assumption)]
          unfold zm_ q9_;rw [hE,if_neg hf2,if_neg hf2,decide_eq_false hf2];exact ⟨rfl,rfl⟩)
       | (have hE:Ze_ n b p sh e=zl_ e 10001:=by unfold Ze_;rw [if_pos (by assumption)]
          unfold zm_ q9_;rw [hE,if_neg hf1,if_neg hf1,decide_eq_false hf1];exact ⟨rfl,rfl⟩))
 ·cases e
def jP_:IR:=
(sq (kr [0,1] [oD 4 (.mov (.c (.imm (.int .u8) [])))])
(sq (kr [0,1] [oM 8 0,
oM 9 1,
oC 10 38 [8,9],
oM 7 10,
oX 11 7 0,
oX 12 7 1,
oM 5 11,
oM 6 12])
(sq (kr [5] [oM 13 5,
oC 14 37 [13],
oM 4 14])
.ret)))
def jA_:List RD:=[.tmp 4 true (some (.int .u8))]
theorem jF_:zo_ Tryz.prog Tryz.f12 jP_ jA_=true:=by kernel_rfl
def zR_:List AV->List Obj->Option (Prop × AV × List Obj)
 | [.ptr 0 0,.int .i64 n],[.box [.imm (.int .u8) b,.int .i64 p,.int .i64 sh,.int .i64 od,.int .i64 e,.bool true]]=>some ((0<=p/\p<=b.length/\b.length<=140737488355328/\sh ≠ 0,.imm (.int .u8) (zm_ n b p sh e),[.box [.imm (.int .u8) b,.int .i64 (q9_ n b p sh e),.int .i64 sh,.int .i64 od,.int .i64 (Ze_ n b p sh e),.bool true]]))
 | _,_=>none
theorem Zk_:ze_ Tryz.prog 12 (RwF zR_).sum:=by
 refine ZJ_ Tryz.func12 jF_ (za_ (s:=RwF qo_) jr_ (za_ (s:=RoF qU_) kv_ (zd_ _))) fun args objs p v o e=>?_
 unfold zR_ at e
 split at e
 ·rename_i n b p sh od e
  cases e
  refine ⟨rfl,fun hw ho hp=>?_⟩
  change List Int at b
  have hlen:(zm_ n b p sh e).length<=140737488355328:=by
   unfold zm_;split
   ·rw [List.length_drop,List.length_take];omega
   ·exact Nat.zero_le _
  repeat'(intro t ht;first|(cases t<;>first|(cases ht;done)|(try simp only[zg_]at ht))|((first|refine zb_ ht ?_|refine ht ?_ ?_|refine ht.1 ?_ ?_|refine ht ?_)<;>clear ht))
  all_goals first
   | exact hp
   | exact hlen
   | exact ⟨rfl,rfl⟩
 ·cases e
def JJ_:IR:=
(sq (kr [0] [oD 2 (.mov cF)])
(sq (kr [0] [oM 3 0,
oD 4 (.eqp false 3 (.c (.nilp))),
oM 5 4,
oF 5 6 (.mov 0),
oF 5 7 (.nilck 6),
oF 5 8 (.fieldAddr 2 7),
oF 5 9 (.load none 8),
oF 5 10 (.eqn false 9 (.c (.nilm))),
oP 11 5 cT 10,
oM 2 11])
.ret))
def Jk_:List RD:=[.tmp 2 true none]
theorem Jx_:zo_ Tryz.prog Tryz.f46 JJ_ Jk_=true:=by kernel_rfl
def Zi_:List AV->List Obj->Option (Prop × AV)
 | [.ptr 0 0],[.box [.own 1,.int .i64 room,.mapv 2,.int .i64 e],.row false (.int .u8) l,.map sq (.int .i64) (.int .i64) h]=>some ((True,.bool false))
 | _,_=>none
theorem ZP_:ze_ Tryz.prog 46 (RoF Zi_).sum:=by
 refine zs_ Tryz.func46 Jx_ (zd_ _) fun args objs p v e=>?_
 unfold Zi_ at e
 split at e
 ·rename_i room e l sq h
  cases e
  refine ⟨rfl,fun hw ho hp=>?_⟩
  change List Int at l
  repeat'(intro t ht;first|(cases t<;>first|(cases ht;done)|(try simp only[zg_]at ht))|((first|refine zb_ ht ?_|refine ht ?_ ?_|refine ht.1 ?_ ?_|refine ht ?_)<;>clear ht))
  all_goals exact ⟨rfl,rfl⟩
 ·cases e
def X2_ (n:Int):Int:=if 1000000 < (if 0 > n then 0 else n) then 1000000 else (if 0 > n then 0 else n)
def vZ_:IR:=
(sq (kr [0] [oD 2 (.mov (.c (.nilp)))])
(sq (kr [0] [oM 3 0,
oD 4 (.minmax true 3 (cI 0)),
oD 5 (.minmax false 4 (cI 1000000)),
oD 6 (.mkmap (.int .i64) (.int .i64)),
oD 7 (.build [.nils,.int .i64 0,.nilm,.int .i64 0] [(1,1,5),(2,1,6)]),
oD 8 (.boxv 7),
oM 2 8])
.ret))
def vK_:List RD:=[.tmp 2 true none]
theorem vR_:zo_ Tryz.prog Tryz.f20 vZ_ vK_=true:=by kernel_rfl
def xV_:List AV->List Obj->Option (Prop × AV × List Obj)
 | [.int .i64 n],[]=>some (True,.ptr 0 0,[.box [.nils,.int .i64 (X2_ n),.mapv 1,.int .i64 0],.map true (.int .i64) (.int .i64) ([])])
 | _,_=>none
def qy_:List AV->List Obj->Option (Prop × AV × List Obj)
 | [.int .i64 n],[]=>some (True,.ptr 0 0,[.box [.own 2,.int .i64 (X2_ n),.mapv 1,.int .i64 0],.map true (.int .i64) (.int .i64) ([]),.row false (.int .u8) ([])])
 | _,_=>none
theorem Qp_:ze_ Tryz.prog 20 (RwF qy_).sum:=by
 have h0:ze_ Tryz.prog 20 (RwF xV_).sum:=by
  refine ZJ_ Tryz.func20 vR_ (zd_ _) fun args objs p v o e=>?_
  unfold xV_ at e
  split at e
  ·rename_i n
   cases e
   refine ⟨rfl,fun hw ho hp=>?_⟩
   repeat'(intro t ht;first|(cases t<;>first|(cases ht;done)|(try simp only[zg_]at ht))|((first|refine zb_ ht ?_|refine ht ?_ ?_|refine ht.1 ?_ ?_|refine ht ?_)<;>clear ht))
   all_goals exact ⟨rfl,rfl⟩
  ·cases e
 refine U3_ (t:=.int .u8) h0 fun args objs p v o e=>?_
 unfold qy_ at e
 split at e
 ·rename_i n
  cases e
  exact ⟨0,[],[.int .i64 (X2_ n),.mapv 1,.int .i64 0],_,rfl,rfl,rfl⟩
 ·cases e
def JK_:IR:=
(sq (kr [0,1] [oM 4 0,
oC 5 46 [4],
oD 6 (.un .not 5),
oM 7 6,
oT 7 8 (.mov 0),
oT 7 9 (.nilck 8),
oT 7 10 (.fieldAddr 3 9),
oT 7 11 (.load none 10),
oT 7 12 (.bin .eql 11 (cI 0)),
oP 13 7 12 cF])
(.cond 13
(kr [0,1] [oM 14 0,
oM 15 1,
oD 16 (.nilck 14),
oA 17 3 16,
oS 1 17 15])
.skip))
def Jl_:List RD:=[]
theorem Jy_:zo_ Tryz.prog Tryz.f47 JK_ Jl_=true:=by kernel_rfl
def zB_:List AV->List Obj->Option (Prop × AV × List Obj)
 | [.ptr 0 0,.int .i64 x],[.box [.own 1,.int .i64 room,.mapv 2,.int .i64 e],.row false (.int .u8) l,.map sq (.int .i64) (.int .i64) h]=>some ((True,.tup [],[.box [.own 1,.int .i64 room,.mapv 2,.int .i64 (zl_ e x)],.row false (.int .u8) l,.map sq (.int .i64) (.int .i64) h]))
 | _,_=>none
theorem zP_:ze_ Tryz.prog 47 (RwF zB_).sum:=by
 refine ZJ_ Tryz.func47 Jy_ (za_ (s:=RoF Zi_) ZP_ (zd_ _)) fun args objs p v o e=>?_
 unfold zB_ at e
 split at e
 ·rename_i x room e l sq h
  cases e
  refine ⟨rfl,fun hw ho hp=>?_⟩
  change List Int at l
  repeat'(intro t ht;first|(cases t<;>first|(cases ht;done)|(try simp only[zg_]at ht))|((first|refine zb_ ht ?_|refine ht ?_ ?_|refine ht.1 ?_ ?_|refine ht ?_)<;>clear ht))
  all_goals first
   | exact True.intro
   | (unfold zl_;simp_all;done)
 ·cases e
def KF_ (x l:List Int) (room e:Int):Bool:=decide (e=0) && decide ((x.length:Int)<=room - l.length)
def KU_ (x l:List Int) (room e:Int):List Int:=if KF_ x l room e=true then l++x else l
def Ks_ (x l:List Int) (room e:Int):Int:=if e=0 then (if (x.length:Int)<=room - l.length then 0 else 10003) else e
def jR_:IR:=
(.block 0
(sq (kr [0,1] [oM 14 0,
oC 15 46 [14],
oM 16 15,
oF 16 17 (.mov 0),
oF 16 18 (.nilck 17),
oF 16 19 (.fieldAddr 3 18),
oF 16 20 (.load none 19),
oF 16 21 (.bin .neq 20 (cI 0)),
oP 22 16 cT 21,
oM 13 22])
(.cond 13
.skip
(sq (kd [0,1] [(oM 24 1,[]),
(oE 25 24,[]),
(oM 26 0,[0,0]),
(oD 27 (.nilck 26),[1,0]),
(oA 28 1 27,[2,0]),
(oL 29 28,[3,0]),
(oM 30 0,[0,0,0,0,0,0]),
(oD 31 (.nilck 30),[1,0,0,0,0,0]),
(oA 32 0 31,[2,0,0,0,0,0]),
(oL 33 32,[3,0,0,0,0,0]),
(oE 34 33,[4,0,0,0,0,0]),
(oB 35 .sub 29 34,[9,0]),
(oB 36 .gtr 25 35,[]),
(oM 23 36,[])])
(.cond 23
(kr [0] [oM 37 0,
oC 38 47 [37,(cI 10003)]])
(kr [0,1] [oM 4 0,
oM 5 0,
oD 6 (.nilck 5),
oA 7 0 6,
oL 8 7,
oM 9 1,
oD 10 (.append (.int .u8) 1 8 9),
oD 11 (.nilck 4),
oA 12 0 11,
oS 1 12 10]))))))
def jC_:List RD:=[]
theorem jH_:zo_ Tryz.prog Tryz.f21 jR_ jC_=true:=by kernel_rfl
def QP_:List AV->List Obj->Option (Prop × Res)
 | [.ptr 0 0,.imm (.int .u8) x],[.box [.own 1,.int .i64 room,.mapv 2,.int .i64 e],.row false (.int .u8) l,.map sq (.int .i64) (.int .i64) h]=>some (0<=room/\room<=1000000/\l.length<=1000000/\x.length<=1000000,.br (KF_ x l room e) (.one (.tup []) [.box [.own 3,.int .i64 room,.mapv 2,.int .i64 e],.dead,.map sq (.int .i64) (.int .i64) h,.row false (.int .u8) (KU_ x l room e)]) (.one (.tup []) [.box [.own 1,.int .i64 room,.mapv 2,.int .i64 (Ks_ x l room e)],.row false (.int .u8) l,.map sq (.int .i64) (.int .i64) h]))
 | _,_=>none
def zz_:List AV->List Obj->Option (Prop × AV × List Obj)
 | [.ptr 0 0,.imm (.int .u8) x],[.box [.own 1,.int .i64 room,.mapv 2,.int .i64 e],.row false (.int .u8) l,.map sq (.int .i64) (.int .i64) h]=>some (0<=room/\room<=1000000/\l.length<=1000000/\x.length<=1000000,.tup [],[.box [.own 3,.int .i64 room,.mapv 2,.int .i64 (Ks_ x l room e)],.dead,.map sq (.int .i64) (.int .i64) h,.row false (.int .u8) (KU_ x l room e)])
 | _,_=>none
theorem KY_:ze_ Tryz.prog 21 (RcF QP_).sum:=by
 refine UX_ Tryz.func21 jH_ (za_ (s:=RoF Zi_) ZP_ (za_ (s:=RwF zB_) zP_ (zd_ _))) fun args objs p v e=>?_
 unfold QP_ at e
 split at e
 ·rename_i x room e l sq h
  cases e
  change List Int at x
  change List Int at l
  refine ⟨rfl,fun hw ho hp=>?_⟩
  repeat'(intro t ht;first|(cases t<;>first|(cases ht;done)|(try simp only[zg_]at ht))|((first|refine zb_ ht ?_|refine ht ?_ ?_|refine ht.1 ?_ ?_|refine ht ?_)<;>clear ht))
  all_goals first
   | exact True.intro
   | ((try simp only [zF_,zG_,zk_] at*);omega)
   | (simp only [Ke_];omega)
   | (have hb:KF_ x l room e=true:=by unfold KF_;simp only [Bool.and_eq_true,decide_eq_true_eq];omega
      have hbb:KU_ x l room e=l++x:=by unfold KU_;rw [hb];rfl
      rw [KP_ hb,hbb];exact ⟨rfl,rfl⟩)
   | (have hb:KF_ x l room e=false:=by unfold KF_;simp only [Bool.and_eq_false_iff,decide_eq_false_iff_not];omega
      rw [KQ_ hb]
      unfold Ks_
      first
       | (rw [if_neg (by assumption)];exact ⟨rfl,rfl⟩)
       | (have h0:e=0:=by assumption
          have h1:¬ (x.length:Int)<=room - l.length:=by omega
          rw [if_pos h0,if_neg h1]
          refine ⟨rfl,?_⟩;unfold zl_;rw [if_pos h0];rfl))
 ·cases e
theorem zJ_:ze_ Tryz.prog 21 (RwF zz_).sum:=by
 refine yQ_ KY_ fun args objs p v o e=>?_
 unfold zz_ at e
 split at e
 ·rename_i x room e l sq h
  cases e
  cases hb:KF_ x l room e with
  | true=>
    have h1:e=0:=by unfold KF_ at hb;simp_all
    have h2:(x.length:Int)<=room - l.length:=by unfold KF_ at hb;simp_all
    refine ⟨_,_,rfl,KP_ hb,.inl ?_⟩
    unfold Ks_;rw [if_pos h1,if_pos h2,h1]
  | false=>
    refine ⟨_,_,rfl,KQ_ hb,.inr ⟨0,1,[],[.int .i64 room,.mapv 2,.int .i64 (Ks_ x l room e)],.int .u8,l,rfl,rfl,?_⟩⟩
    have hbb:KU_ x l room e=l:=by unfold KU_;rw [hb];rfl
    rw [hbb];rfl
 ·cases e
theorem Yq_:∀ (w xs b r:List Int),(∀ n ∈ w,n ≠ 0/\n<=8/\-64<=n)->KO_ w xs b=some r->(r.length:Int)=b.length+(w.map zD_).sum
 | [],xs,b,r,_,h=>by simp only [KO_,Option.some.injEq] at h;subst h;simp
 | n :: w,xs,b,r,hw,h=>by
   have hn:=hw n (by simp)
   have hw':∀ n ∈ w,n ≠ 0/\n<=8/\-64<=n:=fun m hm=>hw m (by simp [hm])
   simp only [KO_] at h
   split at h
   ·have ih:=Yq_ w _ _ r hw' h
    have hl:=Zd_ (n:=0) (w:=0 - n) (by omega)
    rw [List.length_append] at ih
    rw [List.map_cons,List.sum_cons,xP_ (by assumption)];omega
   ·cases xs with
    | nil=>cases h
    | cons x ys=>
      simp only at h
      split at h
      ·cases h
      ·have ih:=Yq_ w _ _ r hw' h
       have hl:=Zd_ (n:=x) (w:=n) (by omega)
       rw [List.length_append] at ih
       rw [List.map_cons,List.sum_cons,y0_ (by assumption)];omega
theorem J4_ (w xs:List Int):(Kr_ w xs).length<=4096:=by
 unfold Kr_ KN_
 split
 ·rename_i h
  cases hp:KO_ w xs [] with
  | none=>simp
  | some r=>
    have h1:=Yq_ w xs [] r (Zf_.1 h.1).2 hp
    have h2:=JU_ w
    unfold QK_ at h2;rw [if_pos h.1] at h2
    simp at h1 ⊢;omega
 ·simp
def K3_ (w xs l:List Int) (room e:Int):List Int:=if Kq_ w xs=true then KU_ (Kr_ w xs) l room e else l
def JV_ (w xs l:List Int) (room e:Int):Int:=if Kq_ w xs=true then Ks_ (Kr_ w xs) l room e else zl_ e 10001
def wn_:IR:=
(sq (kr [0,1,2] [oM 9 1,
oM 10 2,
oC 11 103 [9,10],
oM 8 11,
oX 12 8 0,
oX 13 8 1,
oM 6 12,
oM 7 13])
(sq (sq (kr [0,6,7] [oM 14 7,
oD 15 (.un .not 14)])
(.cond 15
(sq (.reg [oM 16 0,
oC 17 47 [16,(cI 10001)]])
.ret)
.skip))
(.reg [oM 18 0,
oM 19 6,
oC 20 21 [18,19]])))
def J1_:List RD:=[]
theorem wb_:zo_ Tryz.prog Tryz.f72 wn_ J1_=true:=by kernel_rfl
def kL_:List AV->List Obj->Option (Prop × Res)
 | [.ptr 0 0,.imm (.int .i64) w,.imm (.int .u64) xs],[.box [.own 1,.int .i64 room,.mapv 2,.int .i64 e],.row false (.int .u8) l,.map sq (.int .i64) (.int .i64) h]=>some (0<=room/\room<=1000000/\l.length<=1000000,.br (Kq_ w xs) (.one (.tup []) [.box [.own 3,.int .i64 room,.mapv 2,.int .i64 (Ks_ (Kr_ w xs) l room e)],.dead,.map sq (.int .i64) (.int .i64) h,.row false (.int .u8) (KU_ (Kr_ w xs) l room e)]) (.one (.tup []) [.box [.own 1,.int .i64 room,.mapv 2,.int .i64 (zl_ e 10001)],.row false (.int .u8) l,.map sq (.int .i64) (.int .i64) h]))
 | _,_=>none
def z8_:List AV->List Obj->Option (Prop × AV × List Obj)
 | [.ptr 0 0,.imm (.int .i64) w,.imm (.int .u64) xs],[.box [.own 1,.int .i64 room,.mapv 2,.int .i64 e],.row false (.int .u8) l,.map sq (.int .i64) (.int .i64) h]=>some (0<=room/\room<=1000000/\l.length<=1000000,.tup [],[.box [.own 3,.int .i64 room,.mapv 2,.int .i64 (JV_ w xs l room e)],.dead,.map sq (.int .i64) (.int .i64) h,.row false (.int .u8) (K3_ w xs l room e)])
 | _,_=>none
theorem j5_:ze_ Tryz.prog 72 (RcF kL_).sum:=by
 refine UX_ Tryz.func72 wb_ (za_ (s:=RoF XR_) UH_ (za_ (s:=RwF zB_) zP_ (za_ (s:=RwF zz_) zJ_ (zd_ _)))) fun args objs p v e=>?_
 unfold kL_ at e
 split at e
 ·rename_i w xs room e l sq h
  cases e
  refine ⟨rfl,fun hw ho hp=>?_⟩
  have hz:=J4_ w xs
  repeat'(intro t ht;first|(cases t<;>first|(cases ht;done)|(try simp only[zg_]at ht))|((first|refine zb_ ht ?_|refine ht ?_ ?_|refine ht.1 ?_ ?_|refine ht ?_)<;>clear ht))
  all_goals first
   | exact True.intro
   | exact ⟨hp.1,hp.2.1,hp.2.2,by omega⟩
   | (rw [KP_ (by assumption)];exact ⟨rfl,rfl⟩)
   | (rw [KQ_ (by assumption)];exact ⟨rfl,rfl⟩)
 ·cases e
theorem Zx_:ze_ Tryz.prog 72 (RwF z8_).sum:=by
 refine yQ_ j5_ fun args objs p v o e=>?_
 unfold z8_ at e
 split at e
 ·rename_i w xs room e l sq h
  cases e
  cases hb:Kq_ w xs with
  | true=>
    refine ⟨_,_,rfl,KP_ hb,.inl ?_⟩
    unfold JV_ K3_;rw [if_pos hb,if_pos hb]
  | false=>
    refine ⟨_,_,rfl,KQ_ hb,.inr ⟨0,1,[],[.int .i64 room,.mapv 2,.int .i64 (zl_ e 10001)],.int .u8,l,rfl,rfl,?_⟩⟩
    unfold JV_ K3_;rw [hb];rfl
 ·cases e
def Kv_ (w:Int):Bool:=decide (1<=w) && decide (w<=8)
def Wl_ (w e:Int):Int:=if Kv_ w=true then e else zl_ e 10001
def JI_:IR:=
(sq (kr [0,1] [oD 4 (.mov cF)])
(sq (kr [0,1] [oM 6 1,
oB 7 .geq 6 (cI 1),
oM 8 7,
oT 8 9 (.mov 1),
oT 8 10 (.bin .leq 9 (cI 8)),
oP 11 8 10 cF,
oM 5 11])
(sq (sq (kr [0,5] [oM 12 5,
oD 13 (.un .not 12)])
(.cond 13
(.reg [oM 14 0,
oC 15 47 [14,(cI 10001)]])
.skip))
(sq (.reg [oM 16 5,
oM 4 16])
.ret))))
def Jj_:List RD:=[.tmp 4 true none]
theorem Jw_:zo_ Tryz.prog Tryz.f139 JI_ Jj_=true:=by kernel_rfl
def qr_:List AV->List Obj->Option (Prop × AV × List Obj)
 | [.ptr 0 0,.int .i64 w],[.box [.own 1,.int .i64 room,.mapv 2,.int .i64 e],.row false (.int .u8) l,.map sq (.int .i64) (.int .i64) h]=>some ((True,.bool (Kv_ w),[.box [.own 1,.int .i64 room,.mapv 2,.int .i64 (Wl_ w e)],.row false (.int .u8) l,.map sq (.int .i64) (.int .i64) h]))
 | _,_=>none
theorem ju_:ze_ Tryz.prog 139 (RwF qr_).sum:=by
 refine ZJ_ Tryz.func139 Jw_ (za_ (s:=RwF zB_) zP_ (zd_ _)) fun args objs p v o e=>?_
 unfold qr_ at e
 split at e
 ·rename_i w room e l sq h
  cases e
  refine ⟨rfl,fun hw ho hp=>?_⟩
  change List Int at l
  repeat'(intro t ht;first|(cases t<;>first|(cases ht;done)|(try simp only[zg_]at ht))|((first|refine zb_ ht ?_|refine ht ?_ ?_|refine ht.1 ?_ ?_|refine ht ?_)<;>clear ht))
  all_goals first
   | exact True.intro
   | (have hb:Kv_ w=true:=by unfold Kv_;simp_all
      have h8:decide (w<=8)=true:=decide_eq_true (by assumption)
      unfold Wl_;rw [hb,h8];exact ⟨rfl,rfl⟩)
   | (have hb:Kv_ w=false:=by unfold Kv_;simp_all
      have h8:decide (w<=8)=false:=decide_eq_false (by assumption)
      unfold Wl_;rw [hb,h8];exact ⟨rfl,rfl⟩)
   | (have hb:Kv_ w=false:=by unfold Kv_;simp only [Bool.and_eq_false_iff,decide_eq_false_iff_not];omega
      unfold Wl_;rw [hb];exact ⟨rfl,rfl⟩)
 ·cases e
def nmB (w n:Int) (l:List Int) (room e:Int):List Int:=if Kv_ w=true then K3_ [w] [n] l room e else l
def nmE (w n:Int) (l:List Int) (room e:Int):Int:=if Kv_ w=true then JV_ [w] [n] l room e else zl_ e 10001
def wo_:IR:=
(sq (kr [0,1,2] [oM 6 0,
oM 7 1,
oC 8 139 [6,7]])
(.cond 8
(kr [0,1,2] [oM 9 0,
oM 10 1,
oD 11 (.sliceAll (.int .i64) 1 [(0,1,10)]),
oM 12 2,
oD 13 (.sliceAll (.int .u64) 1 [(0,1,12)]),
oC 14 72 [9,11,13]])
.skip))
def J2_:List RD:=[]
theorem wc_:zo_ Tryz.prog Tryz.f123 wo_ J2_=true:=by kernel_rfl
def kM_:List AV->List Obj->Option (Prop × Res)
 | [.ptr 0 0,.int .i64 w,.int .u64 n],[.box [.own 1,.int .i64 room,.mapv 2,.int .i64 e],.row false (.int .u8) l,.map sq (.int .i64) (.int .i64) h]=>some (0<=room/\room<=1000000/\l.length<=1000000,.br (Kv_ w) (.one (.tup []) [.box [.own 3,.int .i64 room,.mapv 2,.int .i64 (JV_ [w] [n] l room (Wl_ w e))],.dead,.map sq (.int .i64) (.int .i64) h,.row false (.int .u8) (K3_ [w] [n] l room (Wl_ w e))]) (.one (.tup []) [.box [.own 1,.int .i64 room,.mapv 2,.int .i64 (Wl_ w e)],.row false (.int .u8) l,.map sq (.int .i64) (.int .i64) h]))
 | _,_=>none
def qF_:List AV->List Obj->Option (Prop × AV × List Obj)
 | [.ptr 0 0,.int .i64 w,.int .u64 n],[.box [.own 1,.int .i64 room,.mapv 2,.int .i64 e],.row false (.int .u8) l,.map sq (.int .i64) (.int .i64) h]=>some (0<=room/\room<=1000000/\l.length<=1000000,.tup [],[.box [.own 3,.int .i64 room,.mapv 2,.int .i64 (nmE w n l room e)],.dead,.map sq (.int .i64) (.int .i64) h,.row false (.int .u8) (nmB w n l room e)])
 | _,_=>none
theorem j6_:ze_ Tryz.prog 123 (RcF kM_).sum:=by
 refine UX_ Tryz.func123 wc_ (za_ (s:=RwF qr_) ju_ (za_ (s:=RwF z8_) Zx_ (zd_ _))) fun args objs p v e=>?_
 unfold kM_ at e
 split at e
 ·rename_i w n room e l sq h
  cases e
  refine ⟨rfl,fun hw ho hp=>?_⟩
  repeat'(intro t ht;first|(cases t<;>first|(cases ht;done)|(try simp only[zg_]at ht))|((first|refine zb_ ht ?_|refine ht ?_ ?_|refine ht.1 ?_ ?_|refine ht ?_)<;>clear ht))
  all_goals first
   | exact True.intro
   | exact hp
   | (rw [KP_ (by assumption)];exact ⟨rfl,rfl⟩)
   | (rw [KQ_ (by assumption)];exact ⟨rfl,rfl⟩)
 ·cases e
theorem Jb_:ze_ Tryz.prog 123 (RwF qF_).sum:=by
 refine yQ_ j6_ fun args objs p v o e=>?_
 unfold qF_ at e
 split at e
 ·rename_i w n room e l sq h
  cases e
  cases hb:Kv_ w with
  | true=>
    refine ⟨_,_,rfl,KP_ hb,.inl ?_⟩
    unfold nmE nmB Wl_;rw [hb];rfl
  | false=>
    refine ⟨_,_,rfl,KQ_ hb,.inr ⟨0,1,[],[.int .i64 room,.mapv 2,.int .i64 (Wl_ w e)],.int .u8,l,rfl,rfl,?_⟩⟩
    unfold nmE nmB Wl_;rw [hb];rfl
 ·cases e
def wv_ (h:List (Int × Int)) (e:Int):Bool:=decide (e=0) && decide (h.length=0)
def xH_ (l:List Int) (h:List (Int × Int)) (e:Int):List Int:=if wv_ h e=true then l else []
def Wo_ (h:List (Int × Int)) (e:Int):Int:=if e=0 then (if h.length=0 then 0 else 10001) else e
def JL_:IR:=
(sq (kr [0] [oD 2 (.mov (.c (.imm (.int .u8) []))),
oD 3 (.mov (cI 0))])
(sq (.block 0
(sq (.reg [oM 5 0,
oC 6 46 [5],
oM 4 6])
(.cond 4
(sq (.reg [oD 2 (.mov (.c (.imm (.int .u8) []))),
oD 3 (.mov (cI 10001))])
.ret)
(sq (kr [0] [oM 8 0,
oD 9 (.nilck 8),
oA 10 3 9,
oL 11 10,
oB 12 .neq 11 (cI 0),
oM 7 12])
(.cond 7
(sq (kd [0] [(oM 13 0,[]),
(oD 14 (.nilck 13),[]),
(oA 15 3 14,[]),
(oL 16 15,[]),
(oD 2 (.mov (.c (.imm (.int .u8) []))),[0,0,0,0]),
(oM 3 16,[])])
.ret)
(sq (kr [0] [oM 18 0,
oD 19 (.nilck 18),
oA 20 2 19,
oL 21 20,
oD 22 (.mlen 21),
oB 23 .gtr 22 (cI 0),
oM 17 23])
(.cond 17
(sq (kr [] [oD 2 (.mov (.c (.imm (.int .u8) []))),
oD 3 (.mov (cI 10001))])
.ret)
.skip)))))))
(sq (kr [0] [oM 24 0,
oD 25 (.nilck 24),
oA 26 0 25,
oL 27 26,
oC 28 37 [27],
oM 2 28,
oD 3 (.mov (cI 0))])
.ret)))
def Jm_:List RD:=[.tmp 2 true (some (.int .u8)),.tmp 3 true none]
theorem Jz_:zo_ Tryz.prog Tryz.f23 JL_ Jm_=true:=by kernel_rfl
def kr_:List AV->List Obj->Option (Prop × Res)
 | [.ptr 0 0],[.box [.own 1,.int .i64 room,.mapv 2,.int .i64 e],.row false (.int .u8) l,.map sq (.int .i64) (.int .i64) h]=>some (l.length<=140737488355328/\h.length<=140737488355328,.br (wv_ h e) (.one (.tup [.imm (.int .u8) l,.int .i64 0]) [.box [.own 1,.int .i64 room,.mapv 2,.int .i64 e],.row true (.int .u8) l,.map sq (.int .i64) (.int .i64) h]) (.one (.tup [.imm (.int .u8) [],.int .i64 (Wo_ h e)]) [.box [.own 1,.int .i64 room,.mapv 2,.int .i64 e],.row false (.int .u8) l,.map sq (.int .i64) (.int .i64) h]))
 | _,_=>none
def zY_:List AV->List Obj->Option (Prop × AV × List Obj)
 | [.ptr 0 0],[.box [.own 1,.int .i64 room,.mapv 2,.int .i64 e],.row false (.int .u8) l,.map sq (.int .i64) (.int .i64) h]=>some (l.length<=140737488355328/\h.length<=140737488355328,.tup [.imm (.int .u8) (xH_ l h e),.int .i64 (Wo_ h e)],[.box [.own 1,.int .i64 room,.mapv 2,.int .i64 e],.dead,.map sq (.int .i64) (.int .i64) h])
 | _,_=>none
theorem jm_:ze_ Tryz.prog 23 (RcF kr_).sum:=by
 refine UX_ Tryz.func23 Jz_ (za_ (s:=RoF Zi_) ZP_ (za_ (s:=RoF qU_) kv_ (zd_ _))) fun args objs p v e=>?_
 unfold kr_ at e
 split at e
 ·rename_i room e l sq h
  cases e
  change List (Int × Int) at h
  refine ⟨rfl,fun hw ho hp=>?_⟩
  repeat'(intro t ht;first|(cases t<;>first|(cases ht;done)|(try simp only[zg_]at ht))|((first|refine zb_ ht ?_|refine ht ?_ ?_|refine ht.1 ?_ ?_|refine ht ?_)<;>clear ht))
  all_goals first
   | exact True.intro
   | exact hp.1
   | exact hp.2
   | (have hb:wv_ h e=true:=by unfold wv_;simp only [Bool.and_eq_true,decide_eq_true_eq];omega
      rw [KP_ hb];exact ⟨rfl,rfl⟩)
   | (have hb:wv_ h e=false:=by unfold wv_;simp only [Bool.and_eq_false_iff,decide_eq_false_iff_not];omega
      rw [KQ_ hb]
      unfold Wo_
      first
       | (rw [if_neg (by assumption)];exact ⟨rfl,rfl⟩)
       | (have h0:e=0:=by assumption
          have h1:¬ h.length=0:=by omega
          rw [if_pos h0,if_neg h1];exact ⟨rfl,rfl⟩))
 ·cases e
theorem Zq_:ze_ Tryz.prog 23 (RwF zY_).sum:=by
 refine zaS_ jm_ fun args objs p v o e=>?_
 unfold zY_ at e
 split at e
 ·rename_i room e l sq h
  cases e
  change List (Int × Int) at h
  cases hb:wv_ h e with
  | true=>
    have h1:e=0:=by unfold wv_ at hb;simp_all
    have h2:h.length=0:=by unfold wv_ at hb;simp_all
    refine ⟨_,[.box [.own 1,.int .i64 room,.mapv 2,.int .i64 e],.row true (.int .u8) l,.map sq (.int .i64) (.int .i64) h],1,rfl,?_,by simp,rfl⟩
    rw [KP_ hb];unfold xH_ Wo_;rw [if_pos hb,if_pos h1,if_pos h2];rfl
  | false=>
    refine ⟨_,[.box [.own 1,.int .i64 room,.mapv 2,.int .i64 e],.row false (.int .u8) l,.map sq (.int .i64) (.int .i64) h],1,rfl,?_,by simp,rfl⟩
    rw [KQ_ hb];unfold xH_;rw [hb];rfl
 ·cases e
theorem zbK_ {x l:List Int} {room e:Int} (h:l.length<=1000000) (hr:room<=1000000):(KU_ x l room e).length<=1000000:=by
 unfold KU_ KF_;split
 ·rename_i hb;simp only [Bool.and_eq_true,decide_eq_true_eq] at hb;rw [List.length_append];omega
 ·exact h
def uY_:IR:=
(sq (kr [0,1] [oD 4 (.nilrow (.int .u64)),
oD 5 (.mov (cI 0))])
(sq (sq (.reg [oM 10 0,
oC 11 125 [10],
oD 12 (.un .not 11)])
(.cond 12
(sq (.reg [oD 4 (.nilrow (.int .u64)),
oD 5 (.mov (cI 2))])
.ret)
.skip))
(sq (kr [0,1] [oD 6 (.nilrow (.int .u64))])
(sq (sq (.reg [oM 13 0,
oE 14 13,
oD 15 (.mov (cI 0))])
(.block 0
(.loop
(sq (kr [1,6,13,14,15] [oB 16 .lss 15 14])
(sq (.cond 16
.skip
(.exit 0))
(sq (.block 1
(sq (.reg [oI 17 1 13 15,
oL 18 17,
oM 8 18])
(sq (kr [1,6,8,13,14,15] [oM 19 8,
oM 20 8,
oD 21 (.un .neg 20),
oD 22 (.minmax true 19 21),
oM 9 22])
(sq (.block 2
(sq (kr [1,6,8,9,13,14,15] [oM 24 1,
oE 25 24,
oM 26 9,
oB 27 .lss 25 26,
oM 23 27])
(.cond 23
(sq (.reg [oD 4 (.nilrow (.int .u64)),
oD 5 (.mov (cI 1))])
.ret)
(sq (.reg [oM 29 8,
oB 30 .gtr 29 (cI 0),
oM 28 30])
(.cond 28
(kr [1,6,9,13,14,15] [oM 31 6,
oM 32 1,
oM 33 9,
oD 34 (.slice 1 32 none (some 33) none),
oC 35 128 [34],
oD 36 (.sliceAll (.int .u64) 1 [(0,1,35)]),
oD 37 (.append (.int .u64) 8 31 36),
oM 6 37])
(sq (kr [1,6,9,13,14,15] [oM 39 1,
oM 40 9,
oD 41 (.slice 1 39 none (some 40) none),
oC 42 129 [41],
oD 43 (.un .not 42),
oM 38 43])
(.cond 38
(sq (kr [] [oD 4 (.nilrow (.int .u64)),
oD 5 (.mov (cI 2))])
.ret)
.skip)))))))
(kr [1,6,9,13,14,15] [oM 44 1,
oM 45 9,
oD 46 (.slice 1 44 (some 45) none none),
oM 1 46])))))
(kr [1,6,13,14,15] [oB 47 .add 15 (cI 1),
oM 15 47])))))))
(sq (kr [6] [oM 48 6,
oM 4 48,
oD 5 (.mov (cI 0))])
.ret)))))
def ud_:List RD:=[.tmp 4 false none,.tmp 5 false none]
theorem uw_:zo_ Tryz.prog Tryz.f107 uY_ ud_=true:=by kernel_rfl
def wC_:List AV->List Obj->Option (Prop × AV × List Obj)
 | [.imm (.int .i64) w,.imm (.int .u8) b],[]=>some ((True,.tup [.own 0,.int .i64 (QY_ w b)],[.row false (.int .u64) (Wj_ w b)]))
 | _,_=>none
theorem vt_:ze_ Tryz.prog 107 (RwF wC_).sum:=by
 refine ZJ_ Tryz.func107 uw_ (za_ (s:=RoF qm_) qJ_ (za_ (s:=RoF kY_) JP_ (za_ (s:=RoF jY_) xa_ (zd_ _)))) fun args objs p v o e=>?_
 unfold wC_ at e
 split at e
 ·rename_i w b
  cases e
  refine ⟨rfl,fun hw ho hp=>?_⟩
  change List Int at w
  change List Int at b
  have hb:b.length<=maxLen:=(hw (.imm (.int .u8) b) (by simp)).2
  unfold maxLen at hb
  repeat'(intro t ht;first|(cases t<;>first|(cases ht;done)|(try simp only[zg_]at ht))|((first|refine zb_ ht ?_|refine ht ?_ ?_|refine ht.1 ?_ ?_|refine ht ?_)<;>clear ht))
  all_goals first
   | exact True.intro
   | (intro r h1 h2;clear h1;refine h2 ⟨[1,6,13,14,15],Nat × List Int × List Int,(fun a=>a.1<=w.length/\a.2.1.length<=b.length/\a.2.2.length<=a.1/\kA_ w b []=kA_ (w.drop a.1) a.2.1 a.2.2),fun a=>[.imm (.int .u8) a.2.1,.own 0,.imm (.int .i64) w,.int .i64 w.length,.int .i64 a.1],fun a=>[.row false (.int .u64) a.2.2],fun a=>w.length - a.1,⟨(0,b,[]),⟨Nat.zero_le _,Nat.le_refl _,Nat.zero_le _,rfl⟩,rfl,rfl⟩,?_⟩;clear h2)
   | (have hr:zL_ w=false:=by assumption
      have hf:QH_ w b=([],2):=by unfold QH_;rw [hr];rfl
      unfold Wj_ QY_;rw [hf];exact ⟨rfl,rfl⟩)
  rintro ⟨i,c,o⟩ ⟨hi,hc,ho,he⟩
  dsimp only at hi hc ho he
  have hr:zL_ w=true:=by assumption
  have hl:=(Zf_.1 hr).1
  repeat'(intro t ht;first|(cases t<;>first|(cases ht;done)|(try simp only[zg_]at ht))|((first|refine zb_ ht ?_|refine ht ?_ ?_|refine ht.1 ?_ ?_|refine ht ?_)<;>clear ht))
  all_goals first
   | ((try simp only [zF_,zG_,zk_] at*);omega)
   | (have hge:w.length<=i:=by omega
      rw [List.drop_of_length_le hge] at he
      have hf:QH_ w b=(o,0):=by unfold QH_;rw [if_pos hr,he];rfl
      unfold Wj_ QY_;rw [hf];exact ⟨rfl,rfl⟩)
   | skip
  all_goals have hlt:i < w.length:=by omega
  all_goals have hkk:=(Zf_.1 hr).2 _ (zn_ (α:=Int) hlt 0)
  all_goals have ha:=xQ_ (n:=w.getD i 0)
  all_goals have hA:(if 0 - w.getD i 0 > w.getD i 0 then 0 - w.getD i 0 else w.getD i 0)=zD_ (w.getD i 0):=rfl
  all_goals first
   | exact True.intro
   | ((try simp only [zF_,zG_,zk_] at*);omega)
   | (have h1:(c.length:Int) < zD_ (w.getD i 0):=by assumption
      have hf:QH_ w b=([],1):=by unfold QH_;rw [if_pos hr,he];exact YV_ hlt h1
      unfold Wj_ QY_;rw [hf];exact ⟨rfl,rfl⟩)
   | (have h1:¬ (c.length:Int) < zD_ (w.getD i 0):=by assumption
      first
       | (have h2:¬ 0 < w.getD i 0:=by assumption
          first
           | (have h3:qg_ (c.take (zD_ (w.getD i 0)).toNat)=true:=by assumption
              refine ⟨(i+1,c.drop (zD_ (w.getD i 0)).toNat,o),⟨hlt,?_,by dsimp only;omega,?_⟩,by dsimp only;omega,rfl,rfl⟩
              ·dsimp only;rw [List.length_drop];omega
              ·rw [he];exact Vx_ hlt h1 h2 h3)
           | (have h3:qg_ (c.take (zD_ (w.getD i 0)).toNat)=false:=by assumption
              have hf:QH_ w b=([],2):=by unfold QH_;rw [if_pos hr,he];exact gI_ hlt h1 h2 h3
              unfold Wj_ QY_;rw [hf];exact ⟨rfl,rfl⟩))
       | (have h2:0 < w.getD i 0:=by assumption
          first
           | (show (c.take (zD_ (w.getD i 0)).toNat).length<=8;rw [List.length_take];omega)
           | (simp only [Ke_,List.length_append,List.length_cons,List.length_nil];omega)
           | (refine ⟨(i+1,c.drop (zD_ (w.getD i 0)).toNat,o++[Zy_ (c.take (zD_ (w.getD i 0)).toNat)]),⟨hlt,?_,?_,?_⟩,by dsimp only;omega,rfl,rfl⟩
              ·dsimp only;rw [List.length_drop];omega
              ·simp only [List.length_append,List.length_cons,List.length_nil];omega
              ·rw [he];exact gJ_ hlt h1 h2)))
 ·cases e
def jO_:IR:=
(sq (kr [0,1] [oD 4 (.nilrow (.int .u64))])
(sq (sq (.reg [oM 7 0,
oC 8 14 [7],
oB 9 .neq 8 (cI 0)])
(.cond 9
(sq (.reg [oD 4 (.nilrow (.int .u64))])
.ret)
.skip))
(sq (kd [0,1] [(oM 11 1,[]),
(oM 12 0,[0]),
(oD 13 (.nilck 12),[1]),
(oA 14 0 13,[2]),
(oL 15 14,[3]),
(oM 16 0,[0,0,0,0,0]),
(oD 17 (.nilck 16),[1,0,0,0,0]),
(oA 18 1 17,[2,0,0,0,0]),
(oL 19 18,[3,0,0,0,0]),
(oD 20 (.slice 1 15 (some 19) none none),[8]),
(oC 21 107 [11,20],[]),
(oM 10 21,[]),
(oX 22 10 0,[]),
(oX 23 10 1,[0]),
(oM 5 22,[0]),
(oM 6 23,[])])
(sq (sq (kr [0,1,5,6] [oM 24 6])
(.block 0
(sq (.reg [oB 35 .eql 24 (cI 1),
oM 34 35])
(.cond 34
(kr [0,5] [oM 36 0,
oM 37 0,
oD 38 (.nilck 37),
oA 39 2 38,
oL 40 39,
oC 41 40 [36,40]])
(sq (.reg [oB 43 .eql 24 (cI 2),
oM 42 43])
(.cond 42
(kr [0,5] [oM 44 0,
oM 45 0,
oD 46 (.nilck 45),
oA 47 3 46,
oL 48 47,
oC 49 40 [44,48]])
(kd [0,1,5] [(oM 25 0,[]),
(oD 26 (.nilck 25),[]),
(oA 27 1 26,[]),
(oL 28 27,[]),
(oM 29 1,[0,0,0,0]),
(oC 30 108 [29],[1,0,0,0]),
(oB 31 .add 28 30,[]),
(oD 32 (.nilck 25),[]),
(oA 33 1 32,[]),
(oS 1 33 31,[])])))))))
(sq (kr [5] [oM 50 5,
oM 4 50])
.ret)))))
def jz_:List RD:=[.tmp 4 false none]
theorem jE_:zo_ Tryz.prog Tryz.f81 jO_ jz_=true:=by kernel_rfl
def Z6_:List AV->List Obj->Option (Prop × AV × List Obj)
 | [.ptr 0 0,.imm (.int .i64) w],[.box [.imm (.int .u8) b,.int .i64 p,.int .i64 sh,.int .i64 od,.int .i64 e,.bool true]]=>some ((0<=p/\p<=b.length/\b.length<=140737488355328,.own 1,[.box [.imm (.int .u8) b,.int .i64 (Zz_ w b p e),.int .i64 sh,.int .i64 od,.int .i64 (ZC_ w b p sh od e),.bool true],.row false (.int .u64) (ww_ w b p e)]))
 | _,_=>none
theorem K1_:ze_ Tryz.prog 81 (RwF Z6_).sum:=by
 refine ZJ_ Tryz.func81 jE_ (za_ (s:=RoF zv_) zy_ (za_ (s:=RwF wC_) vt_ (za_ (s:=RwF zr_) zw_ (za_ (s:=RoF Ki_) jp_ (zd_ _))))) fun args objs p v o e=>?_
 unfold Z6_ at e
 split at e
 ·rename_i w b p sh od e
  cases e
  refine ⟨rfl,fun hw ho hp=>?_⟩
  change List Int at w
  change List Int at b
  have hz:=JU_ w
  repeat'(intro t ht;first|(cases t<;>first|(cases ht;done)|(try simp only[zg_]at ht))|((first|refine zb_ ht ?_|refine ht ?_ ?_|refine ht.1 ?_ ?_|refine ht ?_)<;>clear ht))
  all_goals first
   | exact True.intro
   | ((try simp only [zF_,zG_,zk_] at*);omega)
   | (refine ⟨rfl,?_⟩;unfold ww_ Zz_ ZC_;simp_all [zl_];done)
 ·cases e
theorem YW_:∀ (w b o:List Int),(kA_ w b o).1.length<=o.length+w.length
 | [],b,o=>by simp [kA_]
 | n :: r,b,o=>by
   simp only [kA_]
   split
   ·simp
   ·split
    ·have ih:=YW_ r (b.drop (zD_ n).toNat) (o++[Zy_ (b.take (zD_ n).toNat)])
     simp only [List.length_append,List.length_cons,List.length_nil] at ih ⊢;omega
    ·split
     ·have ih:=YW_ r (b.drop (zD_ n).toNat) o
      simp only [List.length_cons];omega
     ·simp
theorem zbH_ (w b:List Int) (p e:Int):(ww_ w b p e).length<=w.length:=by
 unfold ww_ Wj_ QH_
 split
 ·split
  ·have:=YW_ w (b.drop p.toNat) [];simpa using this
  ·simp
 ·simp
theorem YX_:∀ (w b o:List Int),((kA_ w b o).2=0\/(kA_ w b o).2=1\/(kA_ w b o).2=2)/\((kA_ w b o).2=0->(w.map zD_).sum<=b.length)
 | [],b,o=>⟨.inl rfl,fun _=>by simp⟩
 | n :: r,b,o=>by
   have ha:=xQ_ (n:=n)
   have hd:(b.drop (zD_ n).toNat).length=b.length - (zD_ n).toNat:=List.length_drop
   simp only [kA_]
   rw [List.map_cons,List.sum_cons]
   split
   ·exact ⟨.inr (.inl rfl),fun h=>by cases h⟩
   ·split
    ·have ih:=YX_ r (b.drop (zD_ n).toNat) (o++[Zy_ (b.take (zD_ n).toNat)])
     exact ⟨ih.1,fun h=>by have:=ih.2 h;omega⟩
    ·split
     ·have ih:=YX_ r (b.drop (zD_ n).toNat) o
      exact ⟨ih.1,fun h=>by have:=ih.2 h;omega⟩
     ·exact ⟨.inr (.inr rfl),fun h=>by cases h⟩
theorem BL_ (w b:List Int):(QY_ w b=0\/QY_ w b=1\/QY_ w b=2)/\(QY_ w b=0->QK_ w<=b.length):=by
 unfold QY_ QH_ QK_
 split
 ·exact YX_ w b []
 ·exact ⟨.inr (.inr rfl),fun h=>by cases h⟩
theorem Hs_ {w b:List Int} {p e:Int} (h0:0<=p) (h1:p<=b.length):0<=Zz_ w b p e/\Zz_ w b p e<=b.length:=by
 have hk:=BL_ w (b.drop p.toNat)
 have hz:=JU_ w
 have hd:(b.drop p.toNat).length=b.length - p.toNat:=List.length_drop
 unfold Zz_
 by_cases he:e=0
 ·rw [if_pos he]
  by_cases h2:QY_ w (b.drop p.toNat)=1
  ·rw [if_pos h2];exact ⟨h0,h1⟩
  ·rw [if_neg h2]
   by_cases h3:QY_ w (b.drop p.toNat)=2
   ·rw [if_pos h3];exact ⟨h0,h1⟩
   ·rw [if_neg h3]
    have:=hk.2 (by omega)
    omega
 ·rw [if_neg he];exact ⟨h0,h1⟩
theorem bI_ {n:Int} {b:List Int} {p sh e:Int} (h0:0<=p) (h1:p<=b.length) (hs:sh ≠ 0):0<=q9_ n b p sh e/\q9_ n b p sh e<=b.length:=by
 have h2:zl_ e 10001 ≠ 0:=Kd_ (by decide)
 have h3:zl_ e sh ≠ 0:=Kd_ hs
 unfold q9_
 by_cases h:Ze_ n b p sh e=0
 ·rw [if_pos h]
  unfold Ze_ at h
  by_cases hn:n < 0
  ·rw [if_pos hn] at h;exact absurd h h2
  ·rw [if_neg hn] at h
   by_cases hl:(b.length:Int) - p < n
   ·rw [if_pos hl] at h;exact absurd h h3
   ·omega
 ·rw [if_neg h];exact ⟨h0,h1⟩
theorem zc3_ {s:List Int} {c:Int}:(ctR s c).length<=s.length:=by
 unfold ctR;split
 ·rw [List.length_drop];omega
 ·simp
theorem UE_ {n:Int} {b:List Int} {p sh e:Int}:(zm_ n b p sh e).length<=b.length:=by
 unfold zm_;split
 ·rw [List.length_drop,List.length_take];omega
 ·simp
theorem g5_ {n:Int} {k j:Nat} (h:j < k) (hk:k<=7):Q3_ n ((k+1:Nat):Int) j=Q3_ (n / 256) k j:=by
 unfold Q3_
 have e:min (8*(((k+1:Nat):Int) - 1 - j)).toNat 64=8+8*(k - 1 - j):=by omega
 have e':min (8*((k:Int) - 1 - j)).toNat 64=8*(k - 1 - j):=by omega
 have hp:∀ m:Nat,(0:Int)<=2 ^ m:=fun m=>Int.le_of_lt (Int.pow_pos (by decide))
 rw [e,e',Int.fdiv_eq_ediv_of_nonneg _ (hp _),Int.fdiv_eq_ediv_of_nonneg _ (hp _),Int.pow_add,<- Int.ediv_ediv_of_nonneg (hp 8)]
 rfl
theorem g3_ {n:Int} {k:Nat} (hk:k<=7):zq_ n ((k+1:Nat):Int)=zq_ (n / 256) k++[n % 256]:=by
 unfold zq_ Q2_
 rw [Int.toNat_natCast,Int.toNat_natCast,List.range_succ,List.map_append]
 congr 1
 ·apply List.map_congr_left
  intro j hj
  exact g5_ (List.mem_range.1 hj) hk
 ·show [Q3_ n ((k+1:Nat):Int) k]=_
  unfold Q3_
  have e:min (8*(((k+1:Nat):Int) - 1 - k)).toNat 64=0:=by omega
  rw [e,Int.pow_zero,Int.fdiv_one]
theorem yh_:∀ (k:Nat) (b:List Int),k<=8->b.length=k->(∀ x ∈ b,0<=x/\x<=255)->zq_ (Zy_ b) k=b
 | 0,b,_,hl,_=>by
   have:b=[]:=List.eq_nil_of_length_eq_zero hl
   subst this;rfl
 | k+1,b,hk,hl,hb=>by
   rcases List.eq_nil_or_concat b with rfl | ⟨l,c,rfl⟩
   ·cases hl
   ·rw [List.concat_eq_append] at hl hb ⊢
    have hc:=hb c (by simp)
    have hl':l.length=k:=by simpa using hl
    rw [Vp_,g3_ (by omega)]
    rw [show (Zy_ l*256+c) / 256=Zy_ l by omega,show (Zy_ l*256+c) % 256=c by omega,yh_ k l (by omega) hl' fun x hx=>hb x (by simp [hx])]
theorem BT_ {x n:Int} (h0:0<=x) (h1:x<=18446744073709551615) (hn:0 < n) (h8:n<=8) (hf:¬ (n < 8/\x.fdiv (2 ^ (min (8*n).toNat 64)) ≠ 0)):x < 256 ^ n.toNat:=by
 by_cases hlt:n < 8
 ·have hz:x.fdiv (2 ^ (min (8*n).toNat 64))=0:=Classical.byContradiction fun h=>hf ⟨hlt,h⟩
  have e:min (8*n).toNat 64=8*n.toNat:=by omega
  have hp:(0:Int) < 2 ^ (8*n.toNat):=Int.pow_pos (by decide)
  rw [e,Int.fdiv_eq_ediv_of_nonneg _ (Int.le_of_lt hp)] at hz
  have h2:=Int.lt_ediv_add_one_mul_self x hp
  rw [hz] at h2
  have e2:(2:Int) ^ (8*n.toNat)=256 ^ n.toNat:=by rw [Int.pow_mul];rfl
  rw [<- e2];omega
 ·have:n=8:=by omega
  subst this
  show x < 256 ^ 8
  omega
theorem G2_ {x n:Int} (h0:0<=x) (hn:0 < n) (h8:n<=8) (hx:x < 256 ^ n.toNat):¬ (n < 8/\x.fdiv (2 ^ (min (8*n).toNat 64)) ≠ 0):=by
 rintro ⟨hlt,hz⟩
 apply hz
 have e:min (8*n).toNat 64=8*n.toNat:=by omega
 have hp:(0:Int) < 2 ^ (8*n.toNat):=Int.pow_pos (by decide)
 have e2:(2:Int) ^ (8*n.toNat)=256 ^ n.toNat:=by rw [Int.pow_mul];rfl
 rw [e,Int.fdiv_eq_ediv_of_nonneg _ (Int.le_of_lt hp),e2]
 exact Int.ediv_eq_zero_of_lt h0 hx
end Go.Eng
