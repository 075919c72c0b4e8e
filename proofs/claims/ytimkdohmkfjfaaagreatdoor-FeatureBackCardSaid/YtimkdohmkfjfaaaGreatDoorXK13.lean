/- Parts of the proof: C1, B1, P4, P5, P6, N1. No condition. -/
import Derived.Test.YtimkdohmkfjfaaaGreatDoorProg
import Derived.Test.YtimkdohmkfjfaaaGreatDoorXK11
import Derived.KernelRfl
import Derived.Test.YtimkdohmkfjfaaaGreatDoorXK12
namespace Go.Eng
open Go.Proofs
set_option linter.unusedVariables false
set_option linter.unusedSimpArgs false
set_option maxRecDepth 100000
set_option maxHeartbeats 1000000
def vZ_:IR:=
(sq (kr [0] [oD 2 (.mov (.c (.imm (.int .u8) [])))])
(sq (sq (.reg [oM 3 0,
oD 4 (.isnil false 3)])
(.cond 4
(sq (.reg [oD 2 (.mov (.c (.imm (.int .u8) [])))])
.ret)
.skip))
(sq (.reg [oD 5 (.slice0 (.int .u8)),
oM 6 0,
oD 7 (.append (.int .u8) 1 5 6),
oM 2 7])
.ret)))
def vy_:List RD:=[.tmp 2 true (some (.int .u8))]
theorem vL_:zo_ Tryz.prog Tryz.f68 vZ_ vy_=true:=by kernel_rfl
def Qy_:List AV->List Obj->Option (Prop × AV)
 | [.imm (.int .u8) b],[]=>some ((b.length<=140737488355328,.imm (.int .u8) b))
 | _,_=>none
theorem Ko_:ze_ Tryz.prog 68 (RoF Qy_).sum:=by
 refine zz_ Tryz.func68 vL_ (zf_ _) fun args objs p v e=>?_
 unfold Qy_ at e
 split at e
 ·rename_i b
  cases e
  refine ⟨rfl,fun hw ho hp=>?_⟩
  change List Int at b
  repeat'(intro t ht;first|(cases t<;>first|(cases ht;done)|(try simp only[zh_]at ht))|((first|refine za_ ht ?_|refine ht ?_ ?_|refine ht.1 ?_ ?_|refine ht ?_)<;>clear ht))
  all_goals first
   | (simp only [Qx_,List.length_nil,Nat.zero_add,Nat.mul_one];omega)
   | exact ⟨rfl,rfl⟩
   | (have e:b=[]:=by simp_all
      refine ⟨?_,rfl⟩;rw [e])
 ·cases e
def wB_:IR:=
(sq (kr [0] [oD 2 (.mov cF)])
(sq (kr [0] [oM 3 0,
oD 4 (.eqp false 3 (.c (.nilp))),
oM 5 4,
oF 5 6 (.mov 0),
oF 5 7 (.nilck 6),
oF 5 8 (.fieldAddr 5 7),
oF 5 9 (.load none 8),
oF 5 10 (.un .not 9),
oP 11 5 cT 10,
oM 2 11])
.ret))
def we_:List RD:=[.tmp 2 true none]
theorem wp_:zo_ Tryz.prog Tryz.f111 wB_ we_=true:=by kernel_rfl
def zS_:List AV->List Obj->Option (Prop × AV)
 | [.ptr 0 0],[.box [.imm (.int .u8) b,.int .i64 p,.int .i64 sh,.int .i64 od,.int .i64 e,.bool true]]=>some ((True,.bool false))
 | _,_=>none
theorem Za_:ze_ Tryz.prog 111 (RoF zS_).sum:=by
 refine zz_ Tryz.func111 wp_ (zf_ _) fun args objs p v e=>?_
 unfold zS_ at e
 split at e
 ·rename_i b p sh od e
  cases e
  refine ⟨rfl,fun hw ho hp=>?_⟩
  change List Int at b
  repeat'(intro t ht;first|(cases t<;>first|(cases ht;done)|(try simp only[zh_]at ht))|((first|refine za_ ht ?_|refine ht ?_ ?_|refine ht.1 ?_ ?_|refine ht ?_)<;>clear ht))
  all_goals exact ⟨rfl,rfl⟩
 ·cases e
def V2_:IR:=
(sq (kr [0,1,2] [oD 6 (.mov (.c (.nilp)))])
(sq (kr [0,1,2] [oM 7 0,
oC 8 68 [7],
oM 9 1,
oM 10 2,
oD 11 (.build [.imm (.int .u8) [],.int .i64 0,.int .i64 0,.int .i64 0,.int .i64 0,.kb false] [(0,1,8),(2,1,9),(3,1,10),(5,1,cT)]),
oD 12 (.boxv 11),
oM 6 12])
.ret))
def VR_:List RD:=[.tmp 6 true none]
theorem VW_:zo_ Tryz.prog Tryz.f51 V2_ VR_=true:=by kernel_rfl
def q4_:List AV->List Obj->Option (Prop × AV × List Obj)
 | [.imm (.int .u8) b,.int .i64 sh,.int .i64 od],[]=>some ((b.length<=140737488355328,.ptr 0 0,[.box [.imm (.int .u8) b,.int .i64 0,.int .i64 sh,.int .i64 od,.int .i64 0,.bool true]]))
 | _,_=>none
theorem Q6_:ze_ Tryz.prog 51 (RwF q4_).sum:=by
 refine qh_ Tryz.func51 VW_ (zb_ (s:=RoF Qy_) Ko_ (zf_ _)) fun args objs p v o e=>?_
 unfold q4_ at e
 split at e
 ·rename_i b sh od
  cases e
  refine ⟨rfl,fun hw ho hp=>?_⟩
  change List Int at b
  repeat'(intro t ht;first|(cases t<;>first|(cases ht;done)|(try simp only[zh_]at ht))|((first|refine za_ ht ?_|refine ht ?_ ?_|refine ht.1 ?_ ?_|refine ht ?_)<;>clear ht))
  all_goals first
   | exact hp
   | exact ⟨rfl,rfl⟩
 ·cases e
def zl_ (e x:Int):Int:=if e=0 then x else e
def wE_:IR:=
(sq (kr [0,1] [oM 4 0,
oC 5 111 [4],
oD 6 (.un .not 5),
oM 7 6,
oT 7 8 (.mov 0),
oT 7 9 (.nilck 8),
oT 7 10 (.fieldAddr 4 9),
oT 7 11 (.load none 10),
oT 7 12 (.bin .eql 11 (cI 0)),
oP 13 7 12 cF])
(.cond 13
(kr [0,1] [oM 14 0,
oM 15 1,
oD 16 (.nilck 14),
oA 17 4 16,
oS 1 17 15])
.skip))
def wh_:List RD:=[]
theorem ws_:zo_ Tryz.prog Tryz.f110 wE_ wh_=true:=by kernel_rfl
def zw_:List AV->List Obj->Option (Prop × AV × List Obj)
 | [.ptr 0 0,.int .i64 x],[.box [.imm (.int .u8) b,.int .i64 p,.int .i64 sh,.int .i64 od,.int .i64 e,.bool true]]=>some ((True,.tup [],[.box [.imm (.int .u8) b,.int .i64 p,.int .i64 sh,.int .i64 od,.int .i64 (zl_ e x),.bool true]]))
 | _,_=>none
theorem zC_:ze_ Tryz.prog 110 (RwF zw_).sum:=by
 refine qh_ Tryz.func110 ws_ (zb_ (s:=RoF zS_) Za_ (zf_ _)) fun args objs p v o e=>?_
 unfold zw_ at e
 split at e
 ·rename_i x b p sh od e
  cases e
  refine ⟨rfl,fun hw ho hp=>?_⟩
  change List Int at b
  repeat'(intro t ht;first|(cases t<;>first|(cases ht;done)|(try simp only[zh_]at ht))|((first|refine za_ ht ?_|refine ht ?_ ?_|refine ht.1 ?_ ?_|refine ht ?_)<;>clear ht))
  all_goals first
   | exact True.intro
   | (unfold zl_;simp_all;done)
 ·cases e
def Wo_:IR:=
(sq (kr [0] [oD 2 (.mov (cI 0))])
(sq (sq (.reg [oM 3 0,
oC 4 111 [3]])
(.cond 4
(sq (.reg [oD 2 (.mov (cI 10001))])
.ret)
.skip))
(sq (kr [0] [oM 5 0,
oD 6 (.nilck 5),
oA 7 4 6,
oL 8 7,
oM 2 8])
.ret)))
def w3_:List RD:=[.tmp 2 true none]
theorem Wc_:zo_ Tryz.prog Tryz.f53 Wo_ w3_=true:=by kernel_rfl
def zA_:List AV->List Obj->Option (Prop × AV)
 | [.ptr 0 0],[.box [.imm (.int .u8) b,.int .i64 p,.int .i64 sh,.int .i64 od,.int .i64 e,.bool true]]=>some ((True,.int .i64 e))
 | _,_=>none
theorem zE_:ze_ Tryz.prog 53 (RoF zA_).sum:=by
 refine zz_ Tryz.func53 Wc_ (zb_ (s:=RoF zS_) Za_ (zf_ _)) fun args objs p v e=>?_
 unfold zA_ at e
 split at e
 ·rename_i b p sh od e
  cases e
  refine ⟨rfl,fun hw ho hp=>?_⟩
  change List Int at b
  repeat'(intro t ht;first|(cases t<;>first|(cases ht;done)|(try simp only[zh_]at ht))|((first|refine za_ ht ?_|refine ht ?_ ?_|refine ht.1 ?_ ?_|refine ht ?_)<;>clear ht))
  all_goals first
   | exact True.intro
   | exact ⟨rfl,rfl⟩
 ·cases e
def wD_:IR:=
(sq (kr [0] [oD 2 (.mov (cI 0))])
(sq (sq (.reg [oM 3 0,
oC 4 111 [3]])
(.cond 4
(sq (.reg [oD 2 (.mov (cI 0))])
.ret)
.skip))
(sq (kd [0] [(oM 5 0,[]),
(oD 6 (.nilck 5),[]),
(oA 7 0 6,[]),
(oL 8 7,[]),
(oE 9 8,[]),
(oM 10 0,[0,0,0,0,0]),
(oD 11 (.nilck 10),[1,0,0,0,0]),
(oA 12 1 11,[2,0,0,0,0]),
(oL 13 12,[3,0,0,0,0]),
(oB 14 .sub 9 13,[]),
(oM 2 14,[])])
.ret)))
def wg_:List RD:=[.tmp 2 true none]
theorem wr_:zo_ Tryz.prog Tryz.f108 wD_ wg_=true:=by kernel_rfl
def zT_:List AV->List Obj->Option (Prop × AV)
 | [.ptr 0 0],[.box [.imm (.int .u8) b,.int .i64 p,.int .i64 sh,.int .i64 od,.int .i64 e,.bool true]]=>some ((0<=p/\p<=b.length,.int .i64 (b.length - p)))
 | _,_=>none
theorem Zb_:ze_ Tryz.prog 108 (RoF zT_).sum:=by
 refine zz_ Tryz.func108 wr_ (zb_ (s:=RoF zS_) Za_ (zf_ _)) fun args objs p v e=>?_
 unfold zT_ at e
 split at e
 ·rename_i b p sh od e
  cases e
  refine ⟨rfl,fun hw ho hp=>?_⟩
  change List Int at b
  have hb:b.length<=maxLen:=(ho _ (List.mem_cons_self ..) (.imm (.int .u8) b) (by simp)).2
  unfold maxLen at hb
  repeat'(intro t ht;first|(cases t<;>first|(cases ht;done)|(try simp only[zh_]at ht))|((first|refine za_ ht ?_|refine ht ?_ ?_|refine ht.1 ?_ ?_|refine ht ?_)<;>clear ht))
  all_goals first
   | exact True.intro
   | ((try simp only [zI_,zK_,zn_] at*);omega)
   | exact ⟨rfl,rfl⟩
 ·cases e
def xb_:IR:=
(sq (kr [0] [oD 2 (.mov (cI 0))])
(sq (sq (.reg [oM 3 0,
oC 4 111 [3]])
(.cond 4
(sq (.reg [oD 2 (.mov (cI 0))])
.ret)
.skip))
(sq (kr [0] [oM 5 0,
oD 6 (.nilck 5),
oA 7 1 6,
oL 8 7,
oM 2 8])
.ret)))
def W8_:List RD:=[.tmp 2 true none]
theorem W9_:zo_ Tryz.prog Tryz.f90 xb_ W8_=true:=by kernel_rfl
def QO_:List AV->List Obj->Option (Prop × AV)
 | [.ptr 0 0],[.box [.imm (.int .u8) b,.int .i64 p,.int .i64 sh,.int .i64 od,.int .i64 e,.bool true]]=>some ((True,.int .i64 p))
 | _,_=>none
theorem wR_:ze_ Tryz.prog 90 (RoF QO_).sum:=by
 refine zz_ Tryz.func90 W9_ (zb_ (s:=RoF zS_) Za_ (zf_ _)) fun args objs p v e=>?_
 unfold QO_ at e
 split at e
 ·rename_i b p sh od e
  cases e
  refine ⟨rfl,fun hw ho hp=>?_⟩
  change List Int at b
  repeat'(intro t ht;first|(cases t<;>first|(cases ht;done)|(try simp only[zh_]at ht))|((first|refine za_ ht ?_|refine ht ?_ ?_|refine ht.1 ?_ ?_|refine ht ?_)<;>clear ht))
  all_goals first
   | exact True.intro
   | exact ⟨rfl,rfl⟩
 ·cases e
def wK_ (w b:List Int) (p e:Int):List Int:=if e=0 then KV_ w (b.drop p.toNat) else []
def ZV_ (w b:List Int) (p e:Int):Int:=if e=0 then (if Q3_ w (b.drop p.toNat)=1 then p else if Q3_ w (b.drop p.toNat)=2 then p else p+ZT_ w) else p
def ZH_ (w b:List Int) (p sh od e:Int):Int:=if e=0 then (if Q3_ w (b.drop p.toNat)=1 then sh else if Q3_ w (b.drop p.toNat)=2 then od else 0) else e
def Wm_:IR:=
(sq (kr [0,1] [oD 4 (.mov (.c (.imm (.int .u64) [])))])
(sq (sq (.reg [oM 7 0,
oC 8 53 [7],
oB 9 .neq 8 (cI 0)])
(.cond 9
(sq (.reg [oD 4 (.mov (.c (.imm (.int .u64) [])))])
.ret)
.skip))
(sq (kd [0,1] [(oM 11 1,[]),
(oM 12 0,[0]),
(oD 13 (.nilck 12),[1]),
(oA 14 0 13,[2]),
(oL 15 14,[3]),
(oM 16 0,[0,0,0,0,0]),
(oD 17 (.nilck 16),[1,0,0,0,0]),
(oA 18 1 17,[2,0,0,0,0]),
(oL 19 18,[3,0,0,0,0]),
(oD 20 (.slice 1 15 (some 19) none none),[8]),
(oC 21 140 [11,20],[]),
(oM 10 21,[]),
(oX 22 10 0,[]),
(oX 23 10 1,[0]),
(oM 5 22,[0]),
(oM 6 23,[])])
(sq (sq (kr [0,1,5,6] [oM 24 6])
(.block 0
(sq (.reg [oB 35 .eql 24 (cI 1),
oM 34 35])
(.cond 34
(kr [0,5] [oM 36 0,
oM 37 0,
oD 38 (.nilck 37),
oA 39 2 38,
oL 40 39,
oC 41 110 [36,40]])
(sq (.reg [oB 43 .eql 24 (cI 2),
oM 42 43])
(.cond 42
(kr [0,5] [oM 44 0,
oM 45 0,
oD 46 (.nilck 45),
oA 47 3 46,
oL 48 47,
oC 49 110 [44,48]])
(kd [0,1,5] [(oM 25 0,[]),
(oD 26 (.nilck 25),[]),
(oA 27 1 26,[]),
(oL 28 27,[]),
(oM 29 1,[0,0,0,0]),
(oC 30 141 [29],[1,0,0,0]),
(oB 31 .add 28 30,[]),
(oD 32 (.nilck 25),[]),
(oA 33 1 32,[]),
(oS 1 33 31,[])])))))))
(sq (kr [5] [oM 50 5,
oM 4 50])
.ret)))))
def w1_:List RD:=[.tmp 4 true (some (.int .u64))]
theorem Wa_:zo_ Tryz.prog Tryz.f89 Wm_ w1_=true:=by kernel_rfl
def ZM_:List AV->List Obj->Option (Prop × AV × List Obj)
 | [.ptr 0 0,.imm (.int .i64) w],[.box [.imm (.int .u8) b,.int .i64 p,.int .i64 sh,.int .i64 od,.int .i64 e,.bool true]]=>some ((0<=p/\p<=b.length/\b.length<=140737488355328,.imm (.int .u64) (wK_ w b p e),[.box [.imm (.int .u8) b,.int .i64 (ZV_ w b p e),.int .i64 sh,.int .i64 od,.int .i64 (ZH_ w b p sh od e),.bool true]]))
 | _,_=>none
theorem qv_:ze_ Tryz.prog 89 (RwF ZM_).sum:=by
 refine qh_ Tryz.func89 Wa_ (zb_ (s:=RoF zA_) zE_ (zb_ (s:=RoF yY_) gp_ (zb_ (s:=RwF zw_) zC_ (zb_ (s:=RoF je_) Jq_ (zf_ _))))) fun args objs p v o e=>?_
 unfold ZM_ at e
 split at e
 ·rename_i w b p sh od e
  cases e
  refine ⟨rfl,fun hw ho hp=>?_⟩
  change List Int at w
  change List Int at b
  have hz:=wS_ w
  repeat'(intro t ht;first|(cases t<;>first|(cases ht;done)|(try simp only[zh_]at ht))|((first|refine za_ ht ?_|refine ht ?_ ?_|refine ht.1 ?_ ?_|refine ht ?_)<;>clear ht))
  all_goals first
   | exact True.intro
   | ((try simp only [zI_,zK_,zn_] at*);omega)
   | (unfold wK_ ZV_ ZH_;simp_all [zl_];done)
 ·cases e
def wy_ (w:Int) (b:List Int) (p e:Int):Int:=if 1<=w/\w<=8 then (wK_ [w] b p e).getD 0 0 else 0
def zg_ (w:Int) (b:List Int) (p e:Int):Int:=if 1<=w/\w<=8 then ZV_ [w] b p e else p
def zk_ (w:Int) (b:List Int) (p sh od e:Int):Int:=if 1<=w/\w<=8 then ZH_ [w] b p sh od e else zl_ e 10001
def Wn_:IR:=
(sq (kr [0,1] [oD 4 (.mov (.c (.int .u64 0)))])
(sq (sq (kr [0,1] [oM 7 1,
oB 8 .lss 7 (cI 1),
oM 9 8,
oF 9 10 (.mov 1),
oF 9 11 (.bin .gtr 10 (cI 8)),
oP 12 9 cT 11])
(.cond 12
(sq (kr [0] [oM 13 0,
oC 14 110 [13,(cI 10001)]])
(sq (.reg [oD 4 (.mov (.c (.int .u64 0)))])
.ret))
.skip))
(sq (kr [0,1] [oM 15 0,
oD 16 (.mkfn 89 [15] []),
oM 5 16])
(sq (sq (kr [1,5] [oM 17 5,
oM 18 1,
oD 19 (.sliceAll (.int .i64) 1 [(0,1,18)]),
oD 20 (.call false 17 [19]),
oM 6 20])
(sq (.reg [oM 21 6,
oE 22 21,
oB 23 .gtr 22 (cI 0)])
(.cond 23
(sq (kr [6] [oM 24 6,
oD 25 (.indexSl 1 24 (cI 0)),
oL 26 25,
oM 4 26])
.ret)
.skip)))
(sq (kr [] [oD 4 (.mov (.c (.int .u64 0)))])
.ret)))))
def w2_:List RD:=[.tmp 4 true none]
theorem Wb_:zo_ Tryz.prog Tryz.f85 Wn_ w2_=true:=by kernel_rfl
def Z8_:List AV->List Obj->Option (Prop × AV × List Obj)
 | [.ptr 0 0,.int .i64 w],[.box [.imm (.int .u8) b,.int .i64 p,.int .i64 sh,.int .i64 od,.int .i64 e,.bool true]]=>some ((0<=p/\p<=b.length/\b.length<=140737488355328,.int .u64 (wy_ w b p e),[.box [.imm (.int .u8) b,.int .i64 (zg_ w b p e),.int .i64 sh,.int .i64 od,.int .i64 (zk_ w b p sh od e),.bool true]]))
 | _,_=>none
theorem kw_:ze_ Tryz.prog 85 (RwF Z8_).sum:=by
 refine qh_ Tryz.func85 Wb_ (zb_ (s:=RwF zw_) zC_ (zb_ (s:=RwF ZM_) qv_ (zf_ _))) fun args objs p v o e=>?_
 unfold Z8_ at e
 split at e
 ·rename_i w b p sh od e
  cases e
  refine ⟨rfl,fun hw ho hp=>?_⟩
  change List Int at b
  repeat'(intro t ht;first|(cases t<;>first|(cases ht;done)|(try simp only[zh_]at ht))|((first|refine za_ ht ?_|refine ht ?_ ?_|refine ht.1 ?_ ?_|refine ht ?_)<;>clear ht))
  all_goals first
   | exact True.intro
   | exact hp
   | ((try simp only [zI_,zK_,zn_] at*);omega)
   | (have hc:1<=w/\w<=8:=by omega
      unfold wy_ zg_ zk_
      rw [if_pos hc,if_pos hc,if_pos hc]
      first
       | exact ⟨rfl,rfl⟩
       | (have hl:wK_ [w] b p e=[]:=List.eq_nil_of_length_eq_zero (by omega)
          refine ⟨?_,rfl⟩;rw [hl];rfl))
   | (have hc:¬ (1<=w/\w<=8):=by omega
      unfold wy_ zg_ zk_
      rw [if_neg hc,if_neg hc,if_neg hc]
      exact ⟨rfl,rfl⟩)
 ·cases e
theorem ja_ {e x:Int} (h:x ≠ 0):zl_ e x ≠ 0:=by unfold zl_;split<;>assumption
def Zj_ (n:Int) (b:List Int) (p sh e:Int):Int:=if n < 0 then zl_ e 10001 else if b.length - p < n then zl_ e sh else e
def zm_ (n:Int) (b:List Int) (p sh e:Int):List Int:=if Zj_ n b p sh e=0 then (b.take (p+n).toNat).drop p.toNat else []
def q6_ (n:Int) (b:List Int) (p sh e:Int):Int:=if Zj_ n b p sh e=0 then p+n else p
def wA_:IR:=
(sq (kr [0,1] [oD 4 (.mov (.c (.imm (.int .u8) []))),
oD 5 (.mov cF)])
(sq (sq (.reg [oM 7 1,
oB 8 .lss 7 (cI 0)])
(.cond 8
(.reg [oM 9 0,
oC 10 110 [9,(cI 10001)]])
(sq (kr [0,1] [oM 11 1,
oM 12 0,
oC 13 108 [12],
oB 14 .gtr 11 13,
oM 15 14,
oT 15 16 (.mov 0),
oT 15 17 (.call false (.f 111) [16]),
oT 15 18 (.un .not 17),
oP 19 15 18 cF])
(.cond 19
(kr [0,1] [oM 20 0,
oM 21 0,
oD 22 (.nilck 21),
oA 23 2 22,
oL 24 23,
oC 25 110 [20,24]])
.skip))))
(sq (sq (kr [0,1] [oM 26 0,
oC 27 53 [26],
oB 28 .neq 27 (cI 0)])
(.cond 28
(sq (.reg [oD 4 (.mov (.c (.imm (.int .u8) []))),
oD 5 (.mov cF)])
.ret)
.skip))
(sq (kd [0,1] [(oM 29 0,[]),
(oD 30 (.nilck 29),[]),
(oA 31 0 30,[]),
(oL 32 31,[]),
(oM 33 0,[0,0,0,0]),
(oD 34 (.nilck 33),[1,0,0,0]),
(oA 35 1 34,[2,0,0,0]),
(oL 36 35,[3,0,0,0]),
(oM 37 0,[0,0,0,0,0,0,0,0]),
(oD 38 (.nilck 37),[1,0,0,0,0,0,0,0]),
(oA 39 1 38,[2,0,0,0,0,0,0,0]),
(oL 40 39,[3,0,0,0,0,0,0,0]),
(oM 41 1,[0,0,0,0,0,0,0,0,0,0,0,0]),
(oB 42 .add 40 41,[5,0,0,0,0,0,0,0]),
(oM 43 0,[0,0,0,0,0,0,0,0,0,0,0,0,0,0]),
(oD 44 (.nilck 43),[1,0,0,0,0,0,0,0,0,0,0,0,0,0]),
(oA 45 1 44,[2,0,0,0,0,0,0,0,0,0,0,0,0,0]),
(oL 46 45,[3,0,0,0,0,0,0,0,0,0,0,0,0,0]),
(oM 47 1,[0,0,0,0,0,0,0,0,0,0,0,0,0,0,0,0,0,0]),
(oB 48 .add 46 47,[5,0,0,0,0,0,0,0,0,0,0,0,0,0]),
(oD 49 (.slice 1 32 (some 36) (some 42) (some 48)),[]),
(oM 6 49,[])])
(sq (kr [0,1,6] [oM 50 0,
oD 51 (.nilck 50),
oA 52 1 51,
oL 53 52,
oM 54 1,
oB 55 .add 53 54,
oD 56 (.nilck 50),
oA 57 1 56,
oS 1 57 55])
(sq (kr [6] [oM 58 6,
oM 4 58,
oD 5 (.mov cT)])
.ret))))))
def wd_:List RD:=[.tmp 4 true (some (.int .u8)),.tmp 5 true none]
theorem wo_:zo_ Tryz.prog Tryz.f139 wA_ wd_=true:=by kernel_rfl
def qO_:List AV->List Obj->Option (Prop × AV × List Obj)
 | [.ptr 0 0,.int .i64 n],[.box [.imm (.int .u8) b,.int .i64 p,.int .i64 sh,.int .i64 od,.int .i64 e,.bool true]]=>some ((0<=p/\p<=b.length/\b.length<=140737488355328/\sh ≠ 0,.tup [.imm (.int .u8) (zm_ n b p sh e),.bool (decide (Zj_ n b p sh e=0))],[.box [.imm (.int .u8) b,.int .i64 (q6_ n b p sh e),.int .i64 sh,.int .i64 od,.int .i64 (Zj_ n b p sh e),.bool true]]))
 | _,_=>none
theorem Jr_:ze_ Tryz.prog 139 (RwF qO_).sum:=by
 refine qh_ Tryz.func139 wo_ (zb_ (s:=RwF zw_) zC_ (zb_ (s:=RoF zT_) Zb_ (zb_ (s:=RoF zS_) Za_ (zb_ (s:=RoF zA_) zE_ (zf_ _))))) fun args objs p v o e=>?_
 unfold qO_ at e
 split at e
 ·rename_i n b p sh od e
  cases e
  refine ⟨rfl,fun hw ho hp=>?_⟩
  change List Int at b
  have hf1:zl_ e 10001 ≠ 0:=ja_ (by decide)
  have hf2:zl_ e sh ≠ 0:=ja_ hp.2.2.2
  repeat'(intro t ht;first|(cases t<;>first|(cases ht;done)|(try simp only[zh_]at ht))|((first|refine za_ ht ?_|refine ht ?_ ?_|refine ht.1 ?_ ?_|refine ht ?_)<;>clear ht))
  all_goals first
   | exact True.intro
   | (exfalso;omega)
   | omega
   | ((try simp only [zI_,zK_,zn_] at*);omega)
   | (first
       | (have hE:Zj_ n b p sh e=e:=by unfold Zj_;rw [if_neg (by assumption),if_neg (by assumption)]
          unfold zm_ q6_;rw [hE]
          first
           | (have h0:e=0:=by assumption
              rw [if_pos h0,if_pos h0,decide_eq_true h0];exact ⟨rfl,rfl⟩)
           | (have h0:¬ e=0:=by assumption
              rw [if_neg h0,if_neg h0,decide_eq_false h0];exact ⟨rfl,rfl⟩))
       | (have hE:Zj_ n b p sh e=zl_ e sh:=by unfold Zj_;rw [if_neg (by assumption),if_pos (by assumption)]
          unfold zm_ q6_;rw [hE,if_neg hf2,if_neg hf2,decide_eq_false hf2];exact ⟨rfl,rfl⟩)
       | (have hE:Zj_ n b p sh e=zl_ e 10001:=by unfold Zj_;rw [if_pos (by assumption)]
          unfold zm_ q6_;rw [hE,if_neg hf1,if_neg hf1,decide_eq_false hf1];exact ⟨rfl,rfl⟩))
 ·cases e
def JR_:IR:=
(sq (kr [0,1] [oD 4 (.mov (.c (.imm (.int .u8) [])))])
(sq (kr [0,1] [oM 8 0,
oM 9 1,
oC 10 139 [8,9],
oM 7 10,
oX 11 7 0,
oX 12 7 1,
oM 5 11,
oM 6 12])
(sq (kr [5] [oM 13 5,
oC 14 68 [13],
oM 4 14])
.ret)))
def JA_:List RD:=[.tmp 4 true (some (.int .u8))]
theorem JH_:zo_ Tryz.prog Tryz.f88 JR_ JA_=true:=by kernel_rfl
def zW_:List AV->List Obj->Option (Prop × AV × List Obj)
 | [.ptr 0 0,.int .i64 n],[.box [.imm (.int .u8) b,.int .i64 p,.int .i64 sh,.int .i64 od,.int .i64 e,.bool true]]=>some ((0<=p/\p<=b.length/\b.length<=140737488355328/\sh ≠ 0,.imm (.int .u8) (zm_ n b p sh e),[.box [.imm (.int .u8) b,.int .i64 (q6_ n b p sh e),.int .i64 sh,.int .i64 od,.int .i64 (Zj_ n b p sh e),.bool true]]))
 | _,_=>none
theorem ZD_:ze_ Tryz.prog 88 (RwF zW_).sum:=by
 refine qh_ Tryz.func88 JH_ (zb_ (s:=RwF qO_) Jr_ (zb_ (s:=RoF Qy_) Ko_ (zf_ _))) fun args objs p v o e=>?_
 unfold zW_ at e
 split at e
 ·rename_i n b p sh od e
  cases e
  refine ⟨rfl,fun hw ho hp=>?_⟩
  change List Int at b
  have hlen:(zm_ n b p sh e).length<=140737488355328:=by
   unfold zm_;split
   ·rw [List.length_drop,List.length_take];omega
   ·exact Nat.zero_le _
  repeat'(intro t ht;first|(cases t<;>first|(cases ht;done)|(try simp only[zh_]at ht))|((first|refine za_ ht ?_|refine ht ?_ ?_|refine ht.1 ?_ ?_|refine ht ?_)<;>clear ht))
  all_goals first
   | exact hp
   | exact hlen
   | exact ⟨rfl,rfl⟩
 ·cases e
def wH_:IR:=
(sq (kr [0] [oD 2 (.mov cF)])
(sq (kr [0] [oM 3 0,
oD 4 (.eqp false 3 (.c (.nilp))),
oM 5 4,
oF 5 6 (.mov 0),
oF 5 7 (.nilck 6),
oF 5 8 (.fieldAddr 2 7),
oF 5 9 (.load none 8),
oF 5 10 (.eqn false 9 (.c (.nilm))),
oP 11 5 cT 10,
oM 2 11])
.ret))
def wk_:List RD:=[.tmp 2 true none]
theorem wv_:zo_ Tryz.prog Tryz.f107 wH_ wk_=true:=by kernel_rfl
def Zw_:List AV->List Obj->Option (Prop × AV)
 | [.ptr 0 0],[.box [.own 1,.int .i64 room,.mapv 2,.int .i64 e],.row false (.int .u8) l,.map sq (.int .i64) (.int .i64) h]=>some ((True,.bool false))
 | _,_=>none
theorem qk_:ze_ Tryz.prog 107 (RoF Zw_).sum:=by
 refine zz_ Tryz.func107 wv_ (zf_ _) fun args objs p v e=>?_
 unfold Zw_ at e
 split at e
 ·rename_i room e l sq h
  cases e
  refine ⟨rfl,fun hw ho hp=>?_⟩
  change List Int at l
  repeat'(intro t ht;first|(cases t<;>first|(cases ht;done)|(try simp only[zh_]at ht))|((first|refine za_ ht ?_|refine ht ?_ ?_|refine ht.1 ?_ ?_|refine ht ?_)<;>clear ht))
  all_goals exact ⟨rfl,rfl⟩
 ·cases e
def vs_ (n:Int):Int:=if 1000000 < (if 0 > n then 0 else n) then 1000000 else (if 0 > n then 0 else n)
def V4_:IR:=
(sq (kr [0] [oD 2 (.mov (.c (.nilp)))])
(sq (kr [0] [oM 3 0,
oD 4 (.minmax true 3 (cI 0)),
oD 5 (.minmax false 4 (cI 1000000)),
oD 6 (.mkmap (.int .i64) (.int .i64)),
oD 7 (.build [.nils,.int .i64 0,.nilm,.int .i64 0] [(1,1,5),(2,1,6)]),
oD 8 (.boxv 7),
oM 2 8])
.ret))
def VT_:List RD:=[.tmp 2 true none]
theorem VY_:zo_ Tryz.prog Tryz.f48 V4_ VT_=true:=by kernel_rfl
def XU_:List AV->List Obj->Option (Prop × AV × List Obj)
 | [.int .i64 n],[]=>some (True,.ptr 0 0,[.box [.nils,.int .i64 (vs_ n),.mapv 1,.int .i64 0],.map true (.int .i64) (.int .i64) ([])])
 | _,_=>none
def km_:List AV->List Obj->Option (Prop × AV × List Obj)
 | [.int .i64 n],[]=>some (True,.ptr 0 0,[.box [.own 2,.int .i64 (vs_ n),.mapv 1,.int .i64 0],.map true (.int .i64) (.int .i64) ([]),.row false (.int .u8) ([])])
 | _,_=>none
theorem K5_:ze_ Tryz.prog 48 (RwF km_).sum:=by
 have h0:ze_ Tryz.prog 48 (RwF XU_).sum:=by
  refine qh_ Tryz.func48 VY_ (zf_ _) fun args objs p v o e=>?_
  unfold XU_ at e
  split at e
  ·rename_i n
   cases e
   refine ⟨rfl,fun hw ho hp=>?_⟩
   repeat'(intro t ht;first|(cases t<;>first|(cases ht;done)|(try simp only[zh_]at ht))|((first|refine za_ ht ?_|refine ht ?_ ?_|refine ht.1 ?_ ?_|refine ht ?_)<;>clear ht))
   all_goals exact ⟨rfl,rfl⟩
  ·cases e
 refine gH_ (t:=.int .u8) h0 fun args objs p v o e=>?_
 unfold km_ at e
 split at e
 ·rename_i n
  cases e
  exact ⟨0,[],[.int .i64 (vs_ n),.mapv 1,.int .i64 0],_,rfl,rfl,rfl⟩
 ·cases e
def wI_:IR:=
(sq (kr [0,1] [oM 4 0,
oC 5 107 [4],
oD 6 (.un .not 5),
oM 7 6,
oT 7 8 (.mov 0),
oT 7 9 (.nilck 8),
oT 7 10 (.fieldAddr 3 9),
oT 7 11 (.load none 10),
oT 7 12 (.bin .eql 11 (cI 0)),
oP 13 7 12 cF])
(.cond 13
(kr [0,1] [oM 14 0,
oM 15 1,
oD 16 (.nilck 14),
oA 17 3 16,
oS 1 17 15])
.skip))
def wl_:List RD:=[]
theorem ww_:zo_ Tryz.prog Tryz.f103 wI_ wl_=true:=by kernel_rfl
def zU_:List AV->List Obj->Option (Prop × AV × List Obj)
 | [.ptr 0 0,.int .i64 x],[.box [.own 1,.int .i64 room,.mapv 2,.int .i64 e],.row false (.int .u8) l,.map sq (.int .i64) (.int .i64) h]=>some ((True,.tup [],[.box [.own 1,.int .i64 room,.mapv 2,.int .i64 (zl_ e x)],.row false (.int .u8) l,.map sq (.int .i64) (.int .i64) h]))
 | _,_=>none
theorem Zc_:ze_ Tryz.prog 103 (RwF zU_).sum:=by
 refine qh_ Tryz.func103 ww_ (zb_ (s:=RoF Zw_) qk_ (zf_ _)) fun args objs p v o e=>?_
 unfold zU_ at e
 split at e
 ·rename_i x room e l sq h
  cases e
  refine ⟨rfl,fun hw ho hp=>?_⟩
  change List Int at l
  repeat'(intro t ht;first|(cases t<;>first|(cases ht;done)|(try simp only[zh_]at ht))|((first|refine za_ ht ?_|refine ht ?_ ?_|refine ht.1 ?_ ?_|refine ht ?_)<;>clear ht))
  all_goals first
   | exact True.intro
   | (unfold zl_;simp_all;done)
 ·cases e
def Wx_ (x l:List Int) (room e:Int):Bool:=decide (e=0) && decide ((x.length:Int)<=room - l.length)
def xd_ (x l:List Int) (room e:Int):List Int:=if Wx_ x l room e=true then l++x else l
def Wy_ (x l:List Int) (room e:Int):Int:=if e=0 then (if (x.length:Int)<=room - l.length then 0 else 10003) else e
def JT_:IR:=
(.block 0
(sq (kr [0,1] [oM 14 0,
oC 15 107 [14],
oM 16 15,
oF 16 17 (.mov 0),
oF 16 18 (.nilck 17),
oF 16 19 (.fieldAddr 3 18),
oF 16 20 (.load none 19),
oF 16 21 (.bin .neq 20 (cI 0)),
oP 22 16 cT 21,
oM 13 22])
(.cond 13
.skip
(sq (kd [0,1] [(oM 24 1,[]),
(oE 25 24,[]),
(oM 26 0,[0,0]),
(oD 27 (.nilck 26),[1,0]),
(oA 28 1 27,[2,0]),
(oL 29 28,[3,0]),
(oM 30 0,[0,0,0,0,0,0]),
(oD 31 (.nilck 30),[1,0,0,0,0,0]),
(oA 32 0 31,[2,0,0,0,0,0]),
(oL 33 32,[3,0,0,0,0,0]),
(oE 34 33,[4,0,0,0,0,0]),
(oB 35 .sub 29 34,[9,0]),
(oB 36 .gtr 25 35,[]),
(oM 23 36,[])])
(.cond 23
(kr [0] [oM 37 0,
oC 38 103 [37,(cI 10003)]])
(kr [0,1] [oM 4 0,
oM 5 0,
oD 6 (.nilck 5),
oA 7 0 6,
oL 8 7,
oM 9 1,
oD 10 (.append (.int .u8) 1 8 9),
oD 11 (.nilck 4),
oA 12 0 11,
oS 1 12 10]))))))
def JC_:List RD:=[]
theorem JJ_:zo_ Tryz.prog Tryz.f122 JT_ JC_=true:=by kernel_rfl
def kA_:List AV->List Obj->Option (Prop × Res)
 | [.ptr 0 0,.imm (.int .u8) x],[.box [.own 1,.int .i64 room,.mapv 2,.int .i64 e],.row false (.int .u8) l,.map sq (.int .i64) (.int .i64) h]=>some (0<=room/\room<=1000000/\l.length<=1000000/\x.length<=1000000,.br (Wx_ x l room e) (.one (.tup []) [.box [.own 3,.int .i64 room,.mapv 2,.int .i64 e],.dead,.map sq (.int .i64) (.int .i64) h,.row false (.int .u8) (xd_ x l room e)]) (.one (.tup []) [.box [.own 1,.int .i64 room,.mapv 2,.int .i64 (Wy_ x l room e)],.row false (.int .u8) l,.map sq (.int .i64) (.int .i64) h]))
 | _,_=>none
def zX_:List AV->List Obj->Option (Prop × AV × List Obj)
 | [.ptr 0 0,.imm (.int .u8) x],[.box [.own 1,.int .i64 room,.mapv 2,.int .i64 e],.row false (.int .u8) l,.map sq (.int .i64) (.int .i64) h]=>some (0<=room/\room<=1000000/\l.length<=1000000/\x.length<=1000000,.tup [],[.box [.own 3,.int .i64 room,.mapv 2,.int .i64 (Wy_ x l room e)],.dead,.map sq (.int .i64) (.int .i64) h,.row false (.int .u8) (xd_ x l room e)])
 | _,_=>none
theorem jR_:ze_ Tryz.prog 122 (RcF kA_).sum:=by
 refine gE_ Tryz.func122 JJ_ (zb_ (s:=RoF Zw_) qk_ (zb_ (s:=RwF zU_) Zc_ (zf_ _))) fun args objs p v e=>?_
 unfold kA_ at e
 split at e
 ·rename_i x room e l sq h
  cases e
  change List Int at x
  change List Int at l
  refine ⟨rfl,fun hw ho hp=>?_⟩
  repeat'(intro t ht;first|(cases t<;>first|(cases ht;done)|(try simp only[zh_]at ht))|((first|refine za_ ht ?_|refine ht ?_ ?_|refine ht.1 ?_ ?_|refine ht ?_)<;>clear ht))
  all_goals first
   | exact True.intro
   | ((try simp only [zI_,zK_,zn_] at*);omega)
   | (simp only [Qx_];omega)
   | (have hb:Wx_ x l room e=true:=by unfold Wx_;simp only [Bool.and_eq_true,decide_eq_true_eq];omega
      have hbb:xd_ x l room e=l++x:=by unfold xd_;rw [hb];rfl
      rw [jH_ hb,hbb];exact ⟨rfl,rfl⟩)
   | (have hb:Wx_ x l room e=false:=by unfold Wx_;simp only [Bool.and_eq_false_iff,decide_eq_false_iff_not];omega
      rw [jI_ hb]
      unfold Wy_
      first
       | (rw [if_neg (by assumption)];exact ⟨rfl,rfl⟩)
       | (have h0:e=0:=by assumption
          have h1:¬ (x.length:Int)<=room - l.length:=by omega
          rw [if_pos h0,if_neg h1]
          refine ⟨rfl,?_⟩;unfold zl_;rw [if_pos h0];rfl))
 ·cases e
theorem ZE_:ze_ Tryz.prog 122 (RwF zX_).sum:=by
 refine Y0_ jR_ fun args objs p v o e=>?_
 unfold zX_ at e
 split at e
 ·rename_i x room e l sq h
  cases e
  cases hb:Wx_ x l room e with
  | true=>
    have h1:e=0:=by unfold Wx_ at hb;simp_all
    have h2:(x.length:Int)<=room - l.length:=by unfold Wx_ at hb;simp_all
    refine ⟨_,_,rfl,jH_ hb,.inl ?_⟩
    unfold Wy_;rw [if_pos h1,if_pos h2,h1]
  | false=>
    refine ⟨_,_,rfl,jI_ hb,.inr ⟨0,1,[],[.int .i64 room,.mapv 2,.int .i64 (Wy_ x l room e)],.int .u8,l,rfl,rfl,?_⟩⟩
    have hbb:xd_ x l room e=l:=by unfold xd_;rw [hb];rfl
    rw [hbb];rfl
 ·cases e
theorem vD_:∀ (w xs b r:List Int),(∀ n ∈ w,n ≠ 0/\n<=8/\-64<=n)->qE_ w xs b=some r->(r.length:Int)=b.length+(w.map zp_).sum
 | [],xs,b,r,_,h=>by simp only [qE_,Option.some.injEq] at h;subst h;simp
 | n :: w,xs,b,r,hw,h=>by
   have hn:=hw n (by simp)
   have hw':∀ n ∈ w,n ≠ 0/\n<=8/\-64<=n:=fun m hm=>hw m (by simp [hm])
   simp only [qE_] at h
   split at h
   ·have ih:=vD_ w _ _ r hw' h
    have hl:=z1_ (n:=0) (w:=0 - n) (by omega)
    rw [List.length_append] at ih
    rw [List.map_cons,List.sum_cons,jd_ (by assumption)];omega
   ·cases xs with
    | nil=>cases h
    | cons x ys=>
      simp only at h
      split at h
      ·cases h
      ·have ih:=vD_ w _ _ r hw' h
       have hl:=z1_ (n:=x) (w:=n) (by omega)
       rw [List.length_append] at ih
       rw [List.map_cons,List.sum_cons,J0_ (by assumption)];omega
theorem Bx_ (w xs:List Int):(Qb_ w xs).length<=4096:=by
 unfold Qb_ jG_
 split
 ·rename_i h
  cases hp:qE_ w xs [] with
  | none=>simp
  | some r=>
    have h1:=vD_ w xs [] r (Zu_.1 h.1).2 hp
    have h2:=wS_ w
    unfold ZT_ at h2;rw [if_pos h.1] at h2
    simp at h1 ⊢;omega
 ·simp
def j0_ (w xs l:List Int) (room e:Int):List Int:=if Kr_ w xs=true then xd_ (Qb_ w xs) l room e else l
def wV_ (w xs l:List Int) (room e:Int):Int:=if Kr_ w xs=true then Wy_ (Qb_ w xs) l room e else zl_ e 10001
def Wp_:IR:=
(sq (kr [0,1,2] [oM 9 1,
oM 10 2,
oC 11 149 [9,10],
oM 8 11,
oX 12 8 0,
oX 13 8 1,
oM 6 12,
oM 7 13])
(sq (sq (kr [0,6,7] [oM 14 7,
oD 15 (.un .not 14)])
(.cond 15
(sq (.reg [oM 16 0,
oC 17 103 [16,(cI 10001)]])
.ret)
.skip))
(.reg [oM 18 0,
oM 19 6,
oC 20 122 [18,19]])))
def w4_:List RD:=[]
theorem Wd_:zo_ Tryz.prog Tryz.f105 Wp_ w4_=true:=by kernel_rfl
def KI_:List AV->List Obj->Option (Prop × Res)
 | [.ptr 0 0,.imm (.int .i64) w,.imm (.int .u64) xs],[.box [.own 1,.int .i64 room,.mapv 2,.int .i64 e],.row false (.int .u8) l,.map sq (.int .i64) (.int .i64) h]=>some (0<=room/\room<=1000000/\l.length<=1000000,.br (Kr_ w xs) (.one (.tup []) [.box [.own 3,.int .i64 room,.mapv 2,.int .i64 (Wy_ (Qb_ w xs) l room e)],.dead,.map sq (.int .i64) (.int .i64) h,.row false (.int .u8) (xd_ (Qb_ w xs) l room e)]) (.one (.tup []) [.box [.own 1,.int .i64 room,.mapv 2,.int .i64 (zl_ e 10001)],.row false (.int .u8) l,.map sq (.int .i64) (.int .i64) h]))
 | _,_=>none
def Zh_:List AV->List Obj->Option (Prop × AV × List Obj)
 | [.ptr 0 0,.imm (.int .i64) w,.imm (.int .u64) xs],[.box [.own 1,.int .i64 room,.mapv 2,.int .i64 e],.row false (.int .u8) l,.map sq (.int .i64) (.int .i64) h]=>some (0<=room/\room<=1000000/\l.length<=1000000,.tup [],[.box [.own 3,.int .i64 room,.mapv 2,.int .i64 (wV_ w xs l room e)],.dead,.map sq (.int .i64) (.int .i64) h,.row false (.int .u8) (j0_ w xs l room e)])
 | _,_=>none
theorem J7_:ze_ Tryz.prog 105 (RcF KI_).sum:=by
 refine gE_ Tryz.func105 Wd_ (zb_ (s:=RoF yX_) go_ (zb_ (s:=RwF zU_) Zc_ (zb_ (s:=RwF zX_) ZE_ (zf_ _)))) fun args objs p v e=>?_
 unfold KI_ at e
 split at e
 ·rename_i w xs room e l sq h
  cases e
  refine ⟨rfl,fun hw ho hp=>?_⟩
  have hz:=Bx_ w xs
  repeat'(intro t ht;first|(cases t<;>first|(cases ht;done)|(try simp only[zh_]at ht))|((first|refine za_ ht ?_|refine ht ?_ ?_|refine ht.1 ?_ ?_|refine ht ?_)<;>clear ht))
  all_goals first
   | exact True.intro
   | exact ⟨hp.1,hp.2.1,hp.2.2,by omega⟩
   | (rw [jH_ (by assumption)];exact ⟨rfl,rfl⟩)
   | (rw [jI_ (by assumption)];exact ⟨rfl,rfl⟩)
 ·cases e
theorem Z0_:ze_ Tryz.prog 105 (RwF Zh_).sum:=by
 refine Y0_ J7_ fun args objs p v o e=>?_
 unfold Zh_ at e
 split at e
 ·rename_i w xs room e l sq h
  cases e
  cases hb:Kr_ w xs with
  | true=>
    refine ⟨_,_,rfl,jH_ hb,.inl ?_⟩
    unfold wV_ j0_;rw [if_pos hb,if_pos hb]
  | false=>
    refine ⟨_,_,rfl,jI_ hb,.inr ⟨0,1,[],[.int .i64 room,.mapv 2,.int .i64 (zl_ e 10001)],.int .u8,l,rfl,rfl,?_⟩⟩
    unfold wV_ j0_;rw [hb];rfl
 ·cases e
def jp_ (w:Int):Bool:=decide (1<=w) && decide (w<=8)
def xe_ (w e:Int):Int:=if jp_ w=true then e else zl_ e 10001
def wG_:IR:=
(sq (kr [0,1] [oD 4 (.mov cF)])
(sq (kr [0,1] [oM 6 1,
oB 7 .geq 6 (cI 1),
oM 8 7,
oT 8 9 (.mov 1),
oT 8 10 (.bin .leq 9 (cI 8)),
oP 11 8 10 cF,
oM 5 11])
(sq (sq (kr [0,5] [oM 12 5,
oD 13 (.un .not 12)])
(.cond 13
(.reg [oM 14 0,
oC 15 103 [14,(cI 10001)]])
.skip))
(sq (.reg [oM 16 5,
oM 4 16])
.ret))))
def wj_:List RD:=[.tmp 4 true none]
theorem wu_:zo_ Tryz.prog Tryz.f193 wG_ wj_=true:=by kernel_rfl
def qR_:List AV->List Obj->Option (Prop × AV × List Obj)
 | [.ptr 0 0,.int .i64 w],[.box [.own 1,.int .i64 room,.mapv 2,.int .i64 e],.row false (.int .u8) l,.map sq (.int .i64) (.int .i64) h]=>some ((True,.bool (jp_ w),[.box [.own 1,.int .i64 room,.mapv 2,.int .i64 (xe_ w e)],.row false (.int .u8) l,.map sq (.int .i64) (.int .i64) h]))
 | _,_=>none
theorem Ju_:ze_ Tryz.prog 193 (RwF qR_).sum:=by
 refine qh_ Tryz.func193 wu_ (zb_ (s:=RwF zU_) Zc_ (zf_ _)) fun args objs p v o e=>?_
 unfold qR_ at e
 split at e
 ·rename_i w room e l sq h
  cases e
  refine ⟨rfl,fun hw ho hp=>?_⟩
  change List Int at l
  repeat'(intro t ht;first|(cases t<;>first|(cases ht;done)|(try simp only[zh_]at ht))|((first|refine za_ ht ?_|refine ht ?_ ?_|refine ht.1 ?_ ?_|refine ht ?_)<;>clear ht))
  all_goals first
   | exact True.intro
   | (have hb:jp_ w=true:=by unfold jp_;simp_all
      have h8:decide (w<=8)=true:=decide_eq_true (by assumption)
      unfold xe_;rw [hb,h8];exact ⟨rfl,rfl⟩)
   | (have hb:jp_ w=false:=by unfold jp_;simp_all
      have h8:decide (w<=8)=false:=decide_eq_false (by assumption)
      unfold xe_;rw [hb,h8];exact ⟨rfl,rfl⟩)
   | (have hb:jp_ w=false:=by unfold jp_;simp only [Bool.and_eq_false_iff,decide_eq_false_iff_not];omega
      unfold xe_;rw [hb];exact ⟨rfl,rfl⟩)
 ·cases e
def nmB (w n:Int) (l:List Int) (room e:Int):List Int:=if jp_ w=true then j0_ [w] [n] l room e else l
def nmE (w n:Int) (l:List Int) (room e:Int):Int:=if jp_ w=true then wV_ [w] [n] l room e else zl_ e 10001
def Wq_:IR:=
(sq (kr [0,1,2] [oM 6 0,
oM 7 1,
oC 8 193 [6,7]])
(.cond 8
(kr [0,1,2] [oM 9 0,
oM 10 1,
oD 11 (.sliceAll (.int .i64) 1 [(0,1,10)]),
oM 12 2,
oD 13 (.sliceAll (.int .u64) 1 [(0,1,12)]),
oC 14 105 [9,11,13]])
.skip))
def w5_:List RD:=[]
theorem We_:zo_ Tryz.prog Tryz.f161 Wq_ w5_=true:=by kernel_rfl
def KJ_:List AV->List Obj->Option (Prop × Res)
 | [.ptr 0 0,.int .i64 w,.int .u64 n],[.box [.own 1,.int .i64 room,.mapv 2,.int .i64 e],.row false (.int .u8) l,.map sq (.int .i64) (.int .i64) h]=>some (0<=room/\room<=1000000/\l.length<=1000000,.br (jp_ w) (.one (.tup []) [.box [.own 3,.int .i64 room,.mapv 2,.int .i64 (wV_ [w] [n] l room (xe_ w e))],.dead,.map sq (.int .i64) (.int .i64) h,.row false (.int .u8) (j0_ [w] [n] l room (xe_ w e))]) (.one (.tup []) [.box [.own 1,.int .i64 room,.mapv 2,.int .i64 (xe_ w e)],.row false (.int .u8) l,.map sq (.int .i64) (.int .i64) h]))
 | _,_=>none
def Qf_:List AV->List Obj->Option (Prop × AV × List Obj)
 | [.ptr 0 0,.int .i64 w,.int .u64 n],[.box [.own 1,.int .i64 room,.mapv 2,.int .i64 e],.row false (.int .u8) l,.map sq (.int .i64) (.int .i64) h]=>some (0<=room/\room<=1000000/\l.length<=1000000,.tup [],[.box [.own 3,.int .i64 room,.mapv 2,.int .i64 (nmE w n l room e)],.dead,.map sq (.int .i64) (.int .i64) h,.row false (.int .u8) (nmB w n l room e)])
 | _,_=>none
theorem J8_:ze_ Tryz.prog 161 (RcF KJ_).sum:=by
 refine gE_ Tryz.func161 We_ (zb_ (s:=RwF qR_) Ju_ (zb_ (s:=RwF Zh_) Z0_ (zf_ _))) fun args objs p v e=>?_
 unfold KJ_ at e
 split at e
 ·rename_i w n room e l sq h
  cases e
  refine ⟨rfl,fun hw ho hp=>?_⟩
  repeat'(intro t ht;first|(cases t<;>first|(cases ht;done)|(try simp only[zh_]at ht))|((first|refine za_ ht ?_|refine ht ?_ ?_|refine ht.1 ?_ ?_|refine ht ?_)<;>clear ht))
  all_goals first
   | exact True.intro
   | exact hp
   | (rw [jH_ (by assumption)];exact ⟨rfl,rfl⟩)
   | (rw [jI_ (by assumption)];exact ⟨rfl,rfl⟩)
 ·cases e
theorem wc_:ze_ Tryz.prog 161 (RwF Qf_).sum:=by
 refine Y0_ J8_ fun args objs p v o e=>?_
 unfold Qf_ at e
 split at e
 ·rename_i w n room e l sq h
  cases e
  cases hb:jp_ w with
  | true=>
    refine ⟨_,_,rfl,jH_ hb,.inl ?_⟩
    unfold nmE nmB xe_;rw [hb];rfl
  | false=>
    refine ⟨_,_,rfl,jI_ hb,.inr ⟨0,1,[],[.int .i64 room,.mapv 2,.int .i64 (xe_ w e)],.int .u8,l,rfl,rfl,?_⟩⟩
    unfold nmE nmB xe_;rw [hb];rfl
 ·cases e
def xh_ (h:List (Int × Int)) (e:Int):Bool:=decide (e=0) && decide (h.length=0)
def Vm_ (l:List Int) (h:List (Int × Int)) (e:Int):List Int:=if xh_ h e=true then l else []
def Ye_ (h:List (Int × Int)) (e:Int):Int:=if e=0 then (if h.length=0 then 0 else 10001) else e
def wJ_:IR:=
(sq (kr [0] [oD 2 (.mov (.c (.imm (.int .u8) []))),
oD 3 (.mov (cI 0))])
(sq (.block 0
(sq (.reg [oM 5 0,
oC 6 107 [5],
oM 4 6])
(.cond 4
(sq (.reg [oD 2 (.mov (.c (.imm (.int .u8) []))),
oD 3 (.mov (cI 10001))])
.ret)
(sq (kr [0] [oM 8 0,
oD 9 (.nilck 8),
oA 10 3 9,
oL 11 10,
oB 12 .neq 11 (cI 0),
oM 7 12])
(.cond 7
(sq (kd [0] [(oM 13 0,[]),
(oD 14 (.nilck 13),[]),
(oA 15 3 14,[]),
(oL 16 15,[]),
(oD 2 (.mov (.c (.imm (.int .u8) []))),[0,0,0,0]),
(oM 3 16,[])])
.ret)
(sq (kr [0] [oM 18 0,
oD 19 (.nilck 18),
oA 20 2 19,
oL 21 20,
oD 22 (.mlen 21),
oB 23 .gtr 22 (cI 0),
oM 17 23])
(.cond 17
(sq (kr [] [oD 2 (.mov (.c (.imm (.int .u8) []))),
oD 3 (.mov (cI 10001))])
.ret)
.skip)))))))
(sq (kr [0] [oM 24 0,
oD 25 (.nilck 24),
oA 26 0 25,
oL 27 26,
oC 28 68 [27],
oM 2 28,
oD 3 (.mov (cI 0))])
.ret)))
def wm_:List RD:=[.tmp 2 true (some (.int .u8)),.tmp 3 true none]
theorem wx_:zo_ Tryz.prog Tryz.f50 wJ_ wm_=true:=by kernel_rfl
def Kk_:List AV->List Obj->Option (Prop × Res)
 | [.ptr 0 0],[.box [.own 1,.int .i64 room,.mapv 2,.int .i64 e],.row false (.int .u8) l,.map sq (.int .i64) (.int .i64) h]=>some (l.length<=140737488355328/\h.length<=140737488355328,.br (xh_ h e) (.one (.tup [.imm (.int .u8) l,.int .i64 0]) [.box [.own 1,.int .i64 room,.mapv 2,.int .i64 e],.row true (.int .u8) l,.map sq (.int .i64) (.int .i64) h]) (.one (.tup [.imm (.int .u8) [],.int .i64 (Ye_ h e)]) [.box [.own 1,.int .i64 room,.mapv 2,.int .i64 e],.row false (.int .u8) l,.map sq (.int .i64) (.int .i64) h]))
 | _,_=>none
def Zx_:List AV->List Obj->Option (Prop × AV × List Obj)
 | [.ptr 0 0],[.box [.own 1,.int .i64 room,.mapv 2,.int .i64 e],.row false (.int .u8) l,.map sq (.int .i64) (.int .i64) h]=>some (l.length<=140737488355328/\h.length<=140737488355328,.tup [.imm (.int .u8) (Vm_ l h e),.int .i64 (Ye_ h e)],[.box [.own 1,.int .i64 room,.mapv 2,.int .i64 e],.dead,.map sq (.int .i64) (.int .i64) h])
 | _,_=>none
theorem Jn_:ze_ Tryz.prog 50 (RcF Kk_).sum:=by
 refine gE_ Tryz.func50 wx_ (zb_ (s:=RoF Zw_) qk_ (zb_ (s:=RoF Qy_) Ko_ (zf_ _))) fun args objs p v e=>?_
 unfold Kk_ at e
 split at e
 ·rename_i room e l sq h
  cases e
  change List (Int × Int) at h
  refine ⟨rfl,fun hw ho hp=>?_⟩
  repeat'(intro t ht;first|(cases t<;>first|(cases ht;done)|(try simp only[zh_]at ht))|((first|refine za_ ht ?_|refine ht ?_ ?_|refine ht.1 ?_ ?_|refine ht ?_)<;>clear ht))
  all_goals first
   | exact True.intro
   | exact hp.1
   | exact hp.2
   | (have hb:xh_ h e=true:=by unfold xh_;simp only [Bool.and_eq_true,decide_eq_true_eq];omega
      rw [jH_ hb];exact ⟨rfl,rfl⟩)
   | (have hb:xh_ h e=false:=by unfold xh_;simp only [Bool.and_eq_false_iff,decide_eq_false_iff_not];omega
      rw [jI_ hb]
      unfold Ye_
      first
       | (rw [if_neg (by assumption)];exact ⟨rfl,rfl⟩)
       | (have h0:e=0:=by assumption
          have h1:¬ h.length=0:=by omega
          rw [if_pos h0,if_neg h1];exact ⟨rfl,rfl⟩))
 ·cases e
theorem ql_:ze_ Tryz.prog 50 (RwF Zx_).sum:=by
 refine zbB_ Jn_ fun args objs p v o e=>?_
 unfold Zx_ at e
 split at e
 ·rename_i room e l sq h
  cases e
  change List (Int × Int) at h
  cases hb:xh_ h e with
  | true=>
    have h1:e=0:=by unfold xh_ at hb;simp_all
    have h2:h.length=0:=by unfold xh_ at hb;simp_all
    refine ⟨_,[.box [.own 1,.int .i64 room,.mapv 2,.int .i64 e],.row true (.int .u8) l,.map sq (.int .i64) (.int .i64) h],1,rfl,?_,by simp,rfl⟩
    rw [jH_ hb];unfold Vm_ Ye_;rw [if_pos hb,if_pos h1,if_pos h2];rfl
  | false=>
    refine ⟨_,[.box [.own 1,.int .i64 room,.mapv 2,.int .i64 e],.row false (.int .u8) l,.map sq (.int .i64) (.int .i64) h],1,rfl,?_,by simp,rfl⟩
    rw [jI_ hb];unfold Vm_;rw [hb];rfl
 ·cases e
def UK_:IR:=
(sq (kr [0,1] [oD 4 (.nilrow (.int .u64)),
oD 5 (.mov (cI 0))])
(sq (sq (.reg [oM 10 0,
oC 11 164 [10],
oD 12 (.un .not 11)])
(.cond 12
(sq (.reg [oD 4 (.nilrow (.int .u64)),
oD 5 (.mov (cI 2))])
.ret)
.skip))
(sq (kr [0,1] [oD 6 (.nilrow (.int .u64))])
(sq (sq (.reg [oM 13 0,
oE 14 13,
oD 15 (.mov (cI 0))])
(.block 0
(.loop
(sq (kr [1,6,13,14,15] [oB 16 .lss 15 14])
(sq (.cond 16
.skip
(.exit 0))
(sq (.block 1
(sq (.reg [oI 17 1 13 15,
oL 18 17,
oM 8 18])
(sq (kr [1,6,8,13,14,15] [oM 19 8,
oM 20 8,
oD 21 (.un .neg 20),
oD 22 (.minmax true 19 21),
oM 9 22])
(sq (.block 2
(sq (kr [1,6,8,9,13,14,15] [oM 24 1,
oE 25 24,
oM 26 9,
oB 27 .lss 25 26,
oM 23 27])
(.cond 23
(sq (.reg [oD 4 (.nilrow (.int .u64)),
oD 5 (.mov (cI 1))])
.ret)
(sq (.reg [oM 29 8,
oB 30 .gtr 29 (cI 0),
oM 28 30])
(.cond 28
(kr [1,6,9,13,14,15] [oM 31 6,
oM 32 1,
oM 33 9,
oD 34 (.slice 1 32 none (some 33) none),
oC 35 165 [34],
oD 36 (.sliceAll (.int .u64) 1 [(0,1,35)]),
oD 37 (.append (.int .u64) 8 31 36),
oM 6 37])
(sq (kr [1,6,9,13,14,15] [oM 39 1,
oM 40 9,
oD 41 (.slice 1 39 none (some 40) none),
oC 42 166 [41],
oD 43 (.un .not 42),
oM 38 43])
(.cond 38
(sq (kr [] [oD 4 (.nilrow (.int .u64)),
oD 5 (.mov (cI 2))])
.ret)
.skip)))))))
(kr [1,6,9,13,14,15] [oM 44 1,
oM 45 9,
oD 46 (.slice 1 44 (some 45) none none),
oM 1 46])))))
(kr [1,6,13,14,15] [oB 47 .add 15 (cI 1),
oM 15 47])))))))
(sq (kr [6] [oM 48 6,
oM 4 48,
oD 5 (.mov (cI 0))])
.ret)))))
def Ug_:List RD:=[.tmp 4 false none,.tmp 5 false none]
theorem Ut_:zo_ Tryz.prog Tryz.f140 UK_ Ug_=true:=by kernel_rfl
def WE_:List AV->List Obj->Option (Prop × AV × List Obj)
 | [.imm (.int .i64) w,.imm (.int .u8) b],[]=>some ((True,.tup [.own 0,.int .i64 (Q3_ w b)],[.row false (.int .u64) (KV_ w b)]))
 | _,_=>none
theorem VJ_:ze_ Tryz.prog 140 (RwF WE_).sum:=by
 refine qh_ Tryz.func140 Ut_ (zb_ (s:=RoF qN_) Qk_ (zb_ (s:=RoF KX_) wQ_ (zb_ (s:=RoF J2_) x4_ (zf_ _)))) fun args objs p v o e=>?_
 unfold WE_ at e
 split at e
 ·rename_i w b
  cases e
  refine ⟨rfl,fun hw ho hp=>?_⟩
  change List Int at w
  change List Int at b
  have hb:b.length<=maxLen:=(hw (.imm (.int .u8) b) (by simp)).2
  unfold maxLen at hb
  repeat'(intro t ht;first|(cases t<;>first|(cases ht;done)|(try simp only[zh_]at ht))|((first|refine za_ ht ?_|refine ht ?_ ?_|refine ht.1 ?_ ?_|refine ht ?_)<;>clear ht))
  all_goals first
   | exact True.intro
   | (intro r h1 h2;clear h1;refine h2 ⟨[],[1,6,13,14,15],Nat × List Int × List Int,(fun a=>a.1<=w.length/\a.2.1.length<=b.length/\a.2.2.length<=a.1/\qg_ w b []=qg_ (w.drop a.1) a.2.1 a.2.2),fun a=>[.imm (.int .u8) a.2.1,.own 0,.imm (.int .i64) w,.int .i64 w.length,.int .i64 a.1],fun a=>[.row false (.int .u64) a.2.2],fun a=>w.length - a.1,⟨(0,b,[]),⟨Nat.zero_le _,Nat.le_refl _,Nat.zero_le _,rfl⟩,rfl,rfl⟩,?_⟩;clear h2)
   | (have hr:Zr_ w=false:=by assumption
      have hf:qY_ w b=([],2):=by unfold qY_;rw [hr];rfl
      unfold KV_ Q3_;rw [hf];exact ⟨rfl,rfl⟩)
  rintro ⟨i,c,o⟩ ⟨hi,hc,ho,he⟩
  dsimp only at hi hc ho he
  have hr:Zr_ w=true:=by assumption
  have hl:=(Zu_.1 hr).1
  repeat'(intro t ht;first|(cases t<;>first|(cases ht;done)|(try simp only[zh_]at ht))|((first|refine za_ ht ?_|refine ht ?_ ?_|refine ht.1 ?_ ?_|refine ht ?_)<;>clear ht))
  all_goals first
   | ((try simp only [zI_,zK_,zn_] at*);omega)
   | (have hge:w.length<=i:=by omega
      rw [List.drop_of_length_le hge] at he
      have hf:qY_ w b=(o,0):=by unfold qY_;rw [if_pos hr,he];rfl
      unfold KV_ Q3_;rw [hf];exact ⟨rfl,rfl⟩)
   | skip
  all_goals have hlt:i < w.length:=by omega
  all_goals have hkk:=(Zu_.1 hr).2 _ (zv_ (α:=Int) hlt 0)
  all_goals have ha:=J1_ (n:=w.getD i 0)
  all_goals have hA:(if 0 - w.getD i 0 > w.getD i 0 then 0 - w.getD i 0 else w.getD i 0)=zp_ (w.getD i 0):=rfl
  all_goals first
   | exact True.intro
   | ((try simp only [zI_,zK_,zn_] at*);omega)
   | (have h1:(c.length:Int) < zp_ (w.getD i 0):=by assumption
      have hf:qY_ w b=([],1):=by unfold qY_;rw [if_pos hr,he];exact v5_ hlt h1
      unfold KV_ Q3_;rw [hf];exact ⟨rfl,rfl⟩)
   | (have h1:¬ (c.length:Int) < zp_ (w.getD i 0):=by assumption
      first
       | (have h2:¬ 0 < w.getD i 0:=by assumption
          first
           | (have h3:zY_ (c.take (zp_ (w.getD i 0)).toNat)=true:=by assumption
              refine ⟨(i+1,c.drop (zp_ (w.getD i 0)).toNat,o),⟨hlt,?_,by dsimp only;omega,?_⟩,by dsimp only;omega,rfl,rfl⟩
              ·dsimp only;rw [List.length_drop];omega
              ·rw [he];exact uz_ hlt h1 h2 h3)
           | (have h3:zY_ (c.take (zp_ (w.getD i 0)).toNat)=false:=by assumption
              have hf:qY_ w b=([],2):=by unfold qY_;rw [if_pos hr,he];exact Gj_ hlt h1 h2 h3
              unfold KV_ Q3_;rw [hf];exact ⟨rfl,rfl⟩))
       | (have h2:0 < w.getD i 0:=by assumption
          first
           | (show (c.take (zp_ (w.getD i 0)).toNat).length<=8;rw [List.length_take];omega)
           | (simp only [Qx_,List.length_append,List.length_cons,List.length_nil];omega)
           | (refine ⟨(i+1,c.drop (zp_ (w.getD i 0)).toNat,o++[zs_ (c.take (zp_ (w.getD i 0)).toNat)]),⟨hlt,?_,?_,?_⟩,by dsimp only;omega,rfl,rfl⟩
              ·dsimp only;rw [List.length_drop];omega
              ·simp only [List.length_append,List.length_cons,List.length_nil];omega
              ·rw [he];exact Gk_ hlt h1 h2)))
 ·cases e
def JQ_:IR:=
(sq (kr [0,1] [oD 4 (.nilrow (.int .u64))])
(sq (sq (.reg [oM 7 0,
oC 8 53 [7],
oB 9 .neq 8 (cI 0)])
(.cond 9
(sq (.reg [oD 4 (.nilrow (.int .u64))])
.ret)
.skip))
(sq (kd [0,1] [(oM 11 1,[]),
(oM 12 0,[0]),
(oD 13 (.nilck 12),[1]),
(oA 14 0 13,[2]),
(oL 15 14,[3]),
(oM 16 0,[0,0,0,0,0]),
(oD 17 (.nilck 16),[1,0,0,0,0]),
(oA 18 1 17,[2,0,0,0,0]),
(oL 19 18,[3,0,0,0,0]),
(oD 20 (.slice 1 15 (some 19) none none),[8]),
(oC 21 140 [11,20],[]),
(oM 10 21,[]),
(oX 22 10 0,[]),
(oX 23 10 1,[0]),
(oM 5 22,[0]),
(oM 6 23,[])])
(sq (sq (kr [0,1,5,6] [oM 24 6])
(.block 0
(sq (.reg [oB 35 .eql 24 (cI 1),
oM 34 35])
(.cond 34
(kr [0,5] [oM 36 0,
oM 37 0,
oD 38 (.nilck 37),
oA 39 2 38,
oL 40 39,
oC 41 110 [36,40]])
(sq (.reg [oB 43 .eql 24 (cI 2),
oM 42 43])
(.cond 42
(kr [0,5] [oM 44 0,
oM 45 0,
oD 46 (.nilck 45),
oA 47 3 46,
oL 48 47,
oC 49 110 [44,48]])
(kd [0,1,5] [(oM 25 0,[]),
(oD 26 (.nilck 25),[]),
(oA 27 1 26,[]),
(oL 28 27,[]),
(oM 29 1,[0,0,0,0]),
(oC 30 141 [29],[1,0,0,0]),
(oB 31 .add 28 30,[]),
(oD 32 (.nilck 25),[]),
(oA 33 1 32,[]),
(oS 1 33 31,[])])))))))
(sq (kr [5] [oM 50 5,
oM 4 50])
.ret)))))
def Jz_:List RD:=[.tmp 4 false none]
theorem JG_:zo_ Tryz.prog Tryz.f89 JQ_ Jz_=true:=by kernel_rfl
def qx_:List AV->List Obj->Option (Prop × AV × List Obj)
 | [.ptr 0 0,.imm (.int .i64) w],[.box [.imm (.int .u8) b,.int .i64 p,.int .i64 sh,.int .i64 od,.int .i64 e,.bool true]]=>some ((0<=p/\p<=b.length/\b.length<=140737488355328,.own 1,[.box [.imm (.int .u8) b,.int .i64 (ZV_ w b p e),.int .i64 sh,.int .i64 od,.int .i64 (ZH_ w b p sh od e),.bool true],.row false (.int .u64) (wK_ w b p e)]))
 | _,_=>none
theorem jW_:ze_ Tryz.prog 89 (RwF qx_).sum:=by
 refine qh_ Tryz.func89 JG_ (zb_ (s:=RoF zA_) zE_ (zb_ (s:=RwF WE_) VJ_ (zb_ (s:=RwF zw_) zC_ (zb_ (s:=RoF je_) Jq_ (zf_ _))))) fun args objs p v o e=>?_
 unfold qx_ at e
 split at e
 ·rename_i w b p sh od e
  cases e
  refine ⟨rfl,fun hw ho hp=>?_⟩
  change List Int at w
  change List Int at b
  have hz:=wS_ w
  repeat'(intro t ht;first|(cases t<;>first|(cases ht;done)|(try simp only[zh_]at ht))|((first|refine za_ ht ?_|refine ht ?_ ?_|refine ht.1 ?_ ?_|refine ht ?_)<;>clear ht))
  all_goals first
   | exact True.intro
   | ((try simp only [zI_,zK_,zn_] at*);omega)
   | (refine ⟨rfl,?_⟩;unfold wK_ ZV_ ZH_;simp_all [zl_];done)
 ·cases e
theorem v6_:∀ (w b o:List Int),(qg_ w b o).1.length<=o.length+w.length
 | [],b,o=>by simp [qg_]
 | n :: r,b,o=>by
   simp only [qg_]
   split
   ·simp
   ·split
    ·have ih:=v6_ r (b.drop (zp_ n).toNat) (o++[zs_ (b.take (zp_ n).toNat)])
     simp only [List.length_append,List.length_cons,List.length_nil] at ih ⊢;omega
    ·split
     ·have ih:=v6_ r (b.drop (zp_ n).toNat) o
      simp only [List.length_cons];omega
     ·simp
theorem zch_ (w b:List Int) (p e:Int):(wK_ w b p e).length<=w.length:=by
 unfold wK_ KV_ qY_
 split
 ·split
  ·have:=v6_ w (b.drop p.toNat) [];simpa using this
  ·simp
 ·simp
theorem v7_:∀ (w b o:List Int),((qg_ w b o).2=0\/(qg_ w b o).2=1\/(qg_ w b o).2=2)/\((qg_ w b o).2=0->(w.map zp_).sum<=b.length)
 | [],b,o=>⟨.inl rfl,fun _=>by simp⟩
 | n :: r,b,o=>by
   have ha:=J1_ (n:=n)
   have hd:(b.drop (zp_ n).toNat).length=b.length - (zp_ n).toNat:=List.length_drop
   simp only [qg_]
   rw [List.map_cons,List.sum_cons]
   split
   ·exact ⟨.inr (.inl rfl),fun h=>by cases h⟩
   ·split
    ·have ih:=v7_ r (b.drop (zp_ n).toNat) (o++[zs_ (b.take (zp_ n).toNat)])
     exact ⟨ih.1,fun h=>by have:=ih.2 h;omega⟩
    ·split
     ·have ih:=v7_ r (b.drop (zp_ n).toNat) o
      exact ⟨ih.1,fun h=>by have:=ih.2 h;omega⟩
     ·exact ⟨.inr (.inr rfl),fun h=>by cases h⟩
theorem zay_ (w b:List Int):(Q3_ w b=0\/Q3_ w b=1\/Q3_ w b=2)/\(Q3_ w b=0->ZT_ w<=b.length):=by
 unfold Q3_ qY_ ZT_
 split
 ·exact v7_ w b []
 ·exact ⟨.inr (.inr rfl),fun h=>by cases h⟩
theorem HP_ {w b:List Int} {p e:Int} (h0:0<=p) (h1:p<=b.length):0<=ZV_ w b p e/\ZV_ w b p e<=b.length:=by
 have hk:=zay_ w (b.drop p.toNat)
 have hz:=wS_ w
 have hd:(b.drop p.toNat).length=b.length - p.toNat:=List.length_drop
 unfold ZV_
 by_cases he:e=0
 ·rw [if_pos he]
  by_cases h2:Q3_ w (b.drop p.toNat)=1
  ·rw [if_pos h2];exact ⟨h0,h1⟩
  ·rw [if_neg h2]
   by_cases h3:Q3_ w (b.drop p.toNat)=2
   ·rw [if_pos h3];exact ⟨h0,h1⟩
   ·rw [if_neg h3]
    have:=hk.2 (by omega)
    omega
 ·rw [if_neg he];exact ⟨h0,h1⟩
theorem Bh_ {n:Int} {b:List Int} {p sh e:Int} (h0:0<=p) (h1:p<=b.length) (hs:sh ≠ 0):0<=q6_ n b p sh e/\q6_ n b p sh e<=b.length:=by
 have h2:zl_ e 10001 ≠ 0:=ja_ (by decide)
 have h3:zl_ e sh ≠ 0:=ja_ hs
 unfold q6_
 by_cases h:Zj_ n b p sh e=0
 ·rw [if_pos h]
  unfold Zj_ at h
  by_cases hn:n < 0
  ·rw [if_pos hn] at h;exact absurd h h2
  ·rw [if_neg hn] at h
   by_cases hl:(b.length:Int) - p < n
   ·rw [if_pos hl] at h;exact absurd h h3
   ·omega
 ·rw [if_neg h];exact ⟨h0,h1⟩
theorem zdI_ {s:List Int} {c:Int}:(ctR s c).length<=s.length:=by
 unfold ctR;split
 ·rw [List.length_drop];omega
 ·simp
theorem gk_ {n:Int} {b:List Int} {p sh e:Int}:(zm_ n b p sh e).length<=b.length:=by
 unfold zm_;split
 ·rw [List.length_drop,List.length_take];omega
 ·simp
def zi (b:List Int):Nat:=if 0<=kf_ 0 b 0 then (kf_ 0 b 0).toNat else b.length
theorem zdQ_ (b:List Int):zi b<=b.length:=by
 have:=XC_ (c:=0) b 0 (Int.le_refl _)
 unfold zi;split<;>omega
def nmS (b:List Int):List Int:=if zY_ (b.drop (zi b))=true then b.take (zi b) else []
theorem GE_ {n:Int} {k j:Nat} (h:j < k) (hk:k<=7):Ku_ n ((k+1:Nat):Int) j=Ku_ (n / 256) k j:=by
 unfold Ku_
 have e:min (8*(((k+1:Nat):Int) - 1 - j)).toNat 64=8+8*(k - 1 - j):=by omega
 have e':min (8*((k:Int) - 1 - j)).toNat 64=8*(k - 1 - j):=by omega
 have hp:∀ m:Nat,(0:Int)<=2 ^ m:=fun m=>Int.le_of_lt (Int.pow_pos (by decide))
 rw [e,e',Int.fdiv_eq_ediv_of_nonneg _ (hp _),Int.fdiv_eq_ediv_of_nonneg _ (hp _),Int.pow_add,<- Int.ediv_ediv_of_nonneg (hp 8)]
 rfl
theorem Yk_ {n:Int} {k:Nat} (hk:k<=7):zi_ n ((k+1:Nat):Int)=zi_ (n / 256) k++[n % 256]:=by
 unfold zi_ kM_
 rw [Int.toNat_natCast,Int.toNat_natCast,List.range_succ,List.map_append]
 congr 1
 ·apply List.map_congr_left
  intro j hj
  exact GE_ (List.mem_range.1 hj) hk
 ·show [Ku_ n ((k+1:Nat):Int) k]=_
  unfold Ku_
  have e:min (8*(((k+1:Nat):Int) - 1 - k)).toNat 64=0:=by omega
  rw [e,Int.pow_zero,Int.fdiv_one]
theorem jx_:∀ (k:Nat) (n:Int),k<=8->0<=n->n < 256 ^ k->zs_ (zi_ n k)=n
 | 0,n,_,h0,h1=>by
   have:n=0:=by rw [Int.pow_zero] at h1;omega
   subst this;rfl
 | k+1,n,hk,h0,h1=>by
   rw [Yk_ (by omega),yz_,jx_ k (n / 256) (by omega) (by omega) (by rw [Int.pow_succ] at h1;exact Int.ediv_lt_of_lt_mul (by decide) h1)]
   omega
theorem Ki_:∀ (k:Nat) (b:List Int),k<=8->b.length=k->(∀ x ∈ b,0<=x/\x<=255)->zi_ (zs_ b) k=b
 | 0,b,_,hl,_=>by
   have:b=[]:=List.eq_nil_of_length_eq_zero hl
   subst this;rfl
 | k+1,b,hk,hl,hb=>by
   rcases List.eq_nil_or_concat b with rfl | ⟨l,c,rfl⟩
   ·cases hl
   ·rw [List.concat_eq_append] at hl hb ⊢
    have hc:=hb c (by simp)
    have hl':l.length=k:=by simpa using hl
    rw [yz_,Yk_ (by omega)]
    rw [show (zs_ l*256+c) / 256=zs_ l by omega,show (zs_ l*256+c) % 256=c by omega,Ki_ k l (by omega) hl' fun x hx=>hb x (by simp [hx])]
theorem GD_ (n w:Int):∀ x ∈ zi_ n w,0<=x/\x<=255:=by
 intro x hx
 unfold zi_ kM_ at hx
 obtain ⟨j,_,rfl⟩:=List.mem_map.1 hx
 exact bX_ n w j
theorem Vq_ (w:Int):zi_ 0 w=List.replicate w.toNat 0:=(GC_ w).symm
theorem XY_ (k:Nat):zY_ (List.replicate k 0)=true:=by
 unfold zY_;rw [List.all_eq_true];intro x hx;rw [List.eq_of_mem_replicate hx];rfl
theorem xY_ {b:List Int} (h:zY_ b=true):b=List.replicate b.length 0:=by
 unfold zY_ at h
 rw [List.all_eq_true] at h
 exact List.eq_replicate_iff.2 ⟨rfl,fun x hx=>by simpa using h x hx⟩
theorem Qp_:∀ (w xs b:List Int),qE_ w xs b=(qE_ w xs []).map (b++·)
 | [],xs,b=>by simp [qE_]
 | n :: r,xs,b=>by
   simp only [qE_]
   split
   ·rw [Qp_ r xs (b++zi_ 0 (0 - n)),Qp_ r xs ([]++zi_ 0 (0 - n)),Option.map_map]
    congr 1;funext z;simp
   ·cases xs with
    | nil=>rfl
    | cons x ys=>
      dsimp only
      split
      ·rfl
      ·rw [Qp_ r ys (b++zi_ x n),Qp_ r ys ([]++zi_ x n),Option.map_map]
       congr 1;funext z;simp
theorem Wr_:∀ (w b o:List Int),(qg_ w b o).2=(qg_ w b []).2/\((qg_ w b []).2=0->(qg_ w b o).1=o++(qg_ w b []).1)
 | [],b,o=>by simp [qg_]
 | n :: r,b,o=>by
   simp only [qg_]
   split
   ·exact ⟨rfl,fun h=>by cases h⟩
   ·split
    ·have h1:=Wr_ r (b.drop (zp_ n).toNat) (o++[zs_ (b.take (zp_ n).toNat)])
     have h2:=Wr_ r (b.drop (zp_ n).toNat) ([]++[zs_ (b.take (zp_ n).toNat)])
     refine ⟨h1.1.trans h2.1.symm,fun h=>?_⟩
     have h0:=h2.1.symm.trans h
     rw [h1.2 h0,h2.2 h0];simp
    ·split
     ·exact Wr_ r (b.drop (zp_ n).toNat) o
     ·exact ⟨rfl,fun h=>by cases h⟩
theorem hN_ {x n:Int} (h0:0<=x) (h1:x<=18446744073709551615) (hn:0 < n) (h8:n<=8) (hf:¬ (n < 8/\x.fdiv (2 ^ (min (8*n).toNat 64)) ≠ 0)):x < 256 ^ n.toNat:=by
 by_cases hlt:n < 8
 ·have hz:x.fdiv (2 ^ (min (8*n).toNat 64))=0:=Classical.byContradiction fun h=>hf ⟨hlt,h⟩
  have e:min (8*n).toNat 64=8*n.toNat:=by omega
  have hp:(0:Int) < 2 ^ (8*n.toNat):=Int.pow_pos (by decide)
  rw [e,Int.fdiv_eq_ediv_of_nonneg _ (Int.le_of_lt hp)] at hz
  have h2:=Int.lt_ediv_add_one_mul_self x hp
  rw [hz] at h2
  have e2:(2:Int) ^ (8*n.toNat)=256 ^ n.toNat:=by rw [Int.pow_mul];rfl
  rw [<- e2];omega
 ·have:n=8:=by omega
  subst this
  show x < 256 ^ 8
  omega
theorem B7_ {x n:Int} (h0:0<=x) (hn:0 < n) (h8:n<=8) (hx:x < 256 ^ n.toNat):¬ (n < 8/\x.fdiv (2 ^ (min (8*n).toNat 64)) ≠ 0):=by
 rintro ⟨hlt,hz⟩
 apply hz
 have e:min (8*n).toNat 64=8*n.toNat:=by omega
 have hp:(0:Int) < 2 ^ (8*n.toNat):=Int.pow_pos (by decide)
 have e2:(2:Int) ^ (8*n.toNat)=256 ^ n.toNat:=by rw [Int.pow_mul];rfl
 rw [e,Int.fdiv_eq_ediv_of_nonneg _ (Int.le_of_lt hp),e2]
 exact Int.ediv_eq_zero_of_lt h0 hx
def okR (w:List Int):Prop:=∀ n ∈ w,n ≠ 0/\n<=8/\-64<=n
theorem Ul_:∀ (w xs r rest:List Int),okR w->(∀ x ∈ xs,0<=x/\x<=18446744073709551615)->(w.map qL_).sum=xs.length->qE_ w xs []=some r->qg_ w (r++rest) []=(xs,0)
 | [],xs,r,rest,_,_,hc,h=>by
   simp at hc
   have:xs=[]:=List.eq_nil_of_length_eq_zero (by omega)
   subst this;rfl
 | n :: w,xs,r,rest,hw,hx,hc,h=>by
   have hn:=hw n (by simp)
   have hw':okR w:=fun m hm=>hw m (by simp [hm])
   simp only [qE_] at h
   rw [List.map_cons,List.sum_cons] at hc
   by_cases hneg:n < 0
   ·rw [if_pos hneg,List.nil_append,Qp_] at h
    have h1:qL_ n=0:=if_neg (by omega)
    obtain ⟨r',hr',rfl⟩:=Option.map_eq_some_iff.1 h
    have ih:=Ul_ w xs r' rest hw' hx (by omega) hr'
    have hl:=z1_ (n:=0) (w:=0 - n) (by omega)
    have ha:=jd_ hneg
    have hln:(zi_ 0 (0 - n)).length=(zp_ n).toNat:=by omega
    simp only [qg_]
    rw [List.append_assoc,if_neg (by rw [List.length_append];omega),if_neg (by omega),<- hln,List.take_left,List.drop_left,Vq_,XY_,if_pos rfl,ih]
   ·rw [if_neg hneg] at h
    have h1:qL_ n=1:=if_pos (by omega)
    cases xs with
    | nil=>cases h
    | cons x ys=>
      dsimp only at h
      by_cases hf:n < 8/\x.fdiv (2 ^ (min (8*n).toNat 64)) ≠ 0
      ·rw [if_pos hf] at h;cases h
      ·rw [if_neg hf,List.nil_append,Qp_] at h
       obtain ⟨r',hr',rfl⟩:=Option.map_eq_some_iff.1 h
       have hx0:=hx x (by simp)
       have hlt:=hN_ hx0.1 hx0.2 (by omega) hn.2.1 hf
       have ih:=Ul_ w ys r' rest hw' (fun y hy=>hx y (by simp [hy])) (by rw [List.length_cons] at hc;omega) hr'
       have hl:=z1_ (n:=x) (w:=n) (by omega)
       have ha:=J0_ hneg
       have hln:(zi_ x n).length=(zp_ n).toNat:=by omega
       have hnum:zs_ (zi_ x n)=x:=by
        have:=jx_ n.toNat x (by omega) hx0.1 hlt
        rwa [show ((n.toNat:Nat):Int)=n by omega] at this
       simp only [qg_]
       have hacc:=Wr_ w (r'++rest) ([]++[x])
       rw [List.append_assoc,if_neg (by rw [List.length_append];omega),if_pos (by omega),<- hln,List.take_left,List.drop_left,hnum]
       rw [ih] at hacc
       exact Prod.ext ((hacc.2 rfl).trans (by simp)) hacc.1
theorem UQ_:∀ (w b xs:List Int),okR w->(∀ x ∈ b,0<=x/\x<=255)->qg_ w b []=(xs,0)->(w.map qL_).sum=xs.length/\(w.map zp_).sum<=b.length/\qE_ w xs []=some (b.take (w.map zp_).sum.toNat)
 | [],b,xs,_,_,h=>by
   simp only [qg_,Prod.mk.injEq] at h
   obtain ⟨rfl,_⟩:=h
   exact ⟨rfl,Int.natCast_nonneg _,rfl⟩
 | n :: w,b,xs,hw,hb,h=>by
   have hn:=hw n (by simp)
   have hw':okR w:=fun m hm=>hw m (by simp [hm])
   have ha:=J1_ (n:=n)
   have hs:0<=(w.map zp_).sum:=by
    have:∀ l:List Int,0<=(l.map zp_).sum:=fun l=>by
     induction l with
     | nil=>simp
     | cons a l ih=>rw [List.map_cons,List.sum_cons];have:=J1_ (n:=a);omega
    exact this w
   have hd:(b.drop (zp_ n).toNat).length=b.length - (zp_ n).toNat:=List.length_drop
   have hbd:∀ x ∈ b.drop (zp_ n).toNat,0<=x/\x<=255:=fun x hx=>hb x (List.mem_of_mem_drop hx)
   have htk:∀ k:Nat,(b.take (zp_ n).toNat)++(b.drop (zp_ n).toNat).take k=b.take ((zp_ n).toNat+k):=fun k=>by rw [List.take_add]
   simp only [qg_] at h
   rw [List.map_cons,List.sum_cons,List.map_cons,List.sum_cons]
   by_cases hsh:(b.length:Int) < zp_ n
   ·rw [if_pos hsh] at h;cases h
   ·rw [if_neg hsh] at h
    have htl:(b.take (zp_ n).toNat).length=(zp_ n).toNat:=by rw [List.length_take];omega
    by_cases hp:0 < n
    ·rw [if_pos hp] at h
     have hacc:=Wr_ w (b.drop (zp_ n).toNat) ([]++[zs_ (b.take (zp_ n).toNat)])
     rw [h] at hacc
     have h0:=hacc.1.symm
     obtain ⟨ys,hys⟩:∃ ys,qg_ w (b.drop (zp_ n).toNat) []=(ys,0):=⟨_,Prod.ext rfl h0⟩
     rw [hys] at hacc
     have hxs:=hacc.2 rfl
     obtain ⟨i1,i2,i3⟩:=UQ_ w _ ys hw' hbd hys
     have e1:qL_ n=1:=if_pos hp
     have ea:=J0_ (n:=n) (by omega)
     dsimp only [List.nil_append] at hxs
     rw [List.singleton_append] at hxs
     subst hxs
     have hbt:∀ x ∈ b.take (zp_ n).toNat,0<=x/\x<=255:=fun x hx=>hb x (List.mem_of_mem_take hx)
     have hnl:=Y6_ (b.take (zp_ n).toNat) hbt
     have h2:=hnl.2
     rw [htl] at h2
     have e3:(zp_ n).toNat=n.toNat:=by rw [ea]
     have h4:zs_ (b.take (zp_ n).toNat) < 256 ^ n.toNat:=by rw [<- e3];exact h2
     have hfit:¬ (n < 8/\(zs_ (b.take (zp_ n).toNat)).fdiv (2 ^ (min (8*n).toNat 64)) ≠ 0):=B7_ hnl.1 hp hn.2.1 h4
     have hbk:=Ki_ (zp_ n).toNat (b.take (zp_ n).toNat) (by omega) htl hbt
     rw [show (((zp_ n).toNat:Nat):Int)=n by omega] at hbk
     refine ⟨by rw [List.length_cons];omega,by omega,?_⟩
     simp only [qE_]
     rw [if_neg (by omega),if_neg hfit,List.nil_append,Qp_,i3,hbk]
     show some _=_
     dsimp only;rw [htk];congr 2;omega
    ·rw [if_neg hp] at h
     by_cases hz:zY_ (b.take (zp_ n).toNat)=true
     ·rw [if_pos hz] at h
      obtain ⟨i1,i2,i3⟩:=UQ_ w _ xs hw' hbd h
      have e1:qL_ n=0:=if_neg hp
      have hze:=xY_ hz
      rw [htl] at hze
      have ea:=jd_ (n:=n) (by omega)
      refine ⟨by omega,by omega,?_⟩
      simp only [qE_]
      rw [if_pos (by omega),List.nil_append,Qp_,i3,Vq_,show (0 - n).toNat=(zp_ n).toNat by omega,<- hze]
      show some _=_
      dsimp only;rw [htk];congr 2;omega
     ·rw [if_neg hz] at h;cases h
theorem bg_ {w xs:List Int} (rest:List Int) (hx:∀ x ∈ xs,0<=x/\x<=18446744073709551615) (hk:Kr_ w xs=true):qY_ w (Qb_ w xs++rest)=(xs,0)/\(Qb_ w xs).length=(ZT_ w).toNat:=by
 unfold Kr_ at hk
 obtain ⟨r,hr⟩:=Option.isSome_iff_exists.1 hk
 have hb:Qb_ w xs=r:=by unfold Qb_;rw [hr];rfl
 rw [hb]
 unfold jG_ at hr
 split at hr
 ·rename_i h
  have hw:okR w:=(Zu_.1 h.1).2
  have hc:(w.map qL_).sum=xs.length:=by have:=h.2;unfold ki_ at this;rwa [if_pos h.1] at this
  unfold qY_ ZT_
  rw [if_pos h.1,if_pos h.1]
  refine ⟨Ul_ w xs r rest hw hx hc hr,?_⟩
  have hl:∀ (w xs r:List Int),okR w->qE_ w xs []=some r->(r.length:Int)=(w.map zp_).sum:=by
   intro w
   induction w with
   | nil=>intro xs r _ h;simp only [qE_,Option.some.injEq] at h;subst h;rfl
   | cons n w ih=>
     intro xs r hw h
     have hn:=hw n (by simp)
     have hw':okR w:=fun m hm=>hw m (by simp [hm])
     simp only [qE_] at h
     rw [List.map_cons,List.sum_cons]
     split at h
     ·rw [Qp_] at h
      obtain ⟨r',hr',rfl⟩:=Option.map_eq_some_iff.1 h
      have:=ih _ _ hw' hr'
      have hl:=z1_ (n:=0) (w:=0 - n) (by omega)
      have ha:=jd_ (n:=n) (by assumption)
      simp only [List.nil_append,List.length_append];omega
     ·cases xs with
      | nil=>cases h
      | cons x ys=>
        dsimp only at h
        split at h
        ·cases h
        ·rw [Qp_] at h
         obtain ⟨r',hr',rfl⟩:=Option.map_eq_some_iff.1 h
         have:=ih _ _ hw' hr'
         have hl:=z1_ (n:=x) (w:=n) (by omega)
         have ha:=J0_ (n:=n) (by assumption)
         simp only [List.nil_append,List.length_append];omega
  have:=hl w xs r hw hr
  omega
 ·cases hr
theorem bH_ {w b xs:List Int} (hb:∀ x ∈ b,0<=x/\x<=255) (h:qY_ w b=(xs,0)):Kr_ w xs=true/\Qb_ w xs=b.take (ZT_ w).toNat/\ZT_ w<=b.length:=by
 unfold qY_ at h
 split at h
 ·rename_i hr
  obtain ⟨h1,h2,h3⟩:=UQ_ w b xs (Zu_.1 hr).2 hb h
  have hF:jG_ w xs=some (b.take (w.map zp_).sum.toNat):=by
   unfold jG_ ki_;rw [if_pos hr,if_pos ⟨hr,h1⟩,h3]
  unfold Kr_ Qb_ ZT_
  rw [hF,if_pos hr];exact ⟨rfl,rfl,h2⟩
 ·cases h
end Go.Eng
