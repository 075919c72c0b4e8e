/- Parts of the proof: C1, B1. No condition. -/
import Derived.Test.YtodnkagabgglfaaGreatDoorProg
import Derived.Test.YtodnkagabgglfaaGreatDoorWB10
import Derived.KernelRfl
import Derived.Test.YtodnkagabgglfaaGreatDoorWB11
namespace Go.Eng
open Go.Proofs
set_option linter.unusedVariables false
set_option linter.unusedSimpArgs false
set_option maxRecDepth 100000
set_option maxHeartbeats 1000000
def v3_:IR:=
(sq (kr [0] [oD 2 (.mov (.c (.imm (.int .u8) [])))])
(sq (sq (.reg [oM 3 0,
oD 4 (.isnil false 3)])
(.cond 4
(sq (.reg [oD 2 (.mov (.c (.imm (.int .u8) [])))])
.ret)
.skip))
(sq (.reg [oD 5 (.slice0 (.int .u8)),
oM 6 0,
oD 7 (.append (.int .u8) 1 5 6),
oM 2 7])
.ret)))
def vs_:List RD:=[.tmp 2 true (some (.int .u8))]
theorem vK_:zl_ Tryz.prog Tryz.f36 v3_ vs_=true:=by kernel_rfl
def Qn_:List AV->List Obj->Option (Prop × AV)
 | [.imm (.int .u8) b],[]=>some ((b.length<=140737488355328,.imm (.int .u8) b))
 | _,_=>none
theorem k1_:ze_ Tryz.prog 36 (RoF Qn_).sum:=by
 refine zm_ Tryz.func36 vK_ (zd_ _) fun args objs p v e=>?_
 unfold Qn_ at e
 split at e
 ·rename_i b
  cases e
  refine ⟨rfl,fun hw ho hp=>?_⟩
  change List Int at b
  repeat'(intro t ht;first|(cases t<;>first|(cases ht;done)|(try simp only[zh_]at ht))|((first|refine za_ ht ?_|refine ht ?_ ?_|refine ht.1 ?_ ?_|refine ht ?_)<;>clear ht))
  all_goals first
   | (simp only [ZF_,List.length_nil,Nat.zero_add,Nat.mul_one];omega)
   | exact ⟨rfl,rfl⟩
   | (have e:b=[]:=by simp_all
      refine ⟨?_,rfl⟩;rw [e])
 ·cases e
def wh_:IR:=
(sq (kr [0] [oD 2 (.mov cF)])
(sq (kr [0] [oM 3 0,
oD 4 (.eqp false 3 (.c (.nilp))),
oM 5 4,
oF 5 6 (.mov 0),
oF 5 7 (.nilck 6),
oF 5 8 (.fieldAddr 5 7),
oF 5 9 (.load none 8),
oF 5 10 (.un .not 9),
oP 11 5 cT 10,
oM 2 11])
.ret))
def JU_:List RD:=[.tmp 2 true none]
theorem J6_:zl_ Tryz.prog Tryz.f44 wh_ JU_=true:=by kernel_rfl
def zF_:List AV->List Obj->Option (Prop × AV)
 | [.ptr 0 0],[.box [.imm (.int .u8) b,.int .i64 p,.int .i64 sh,.int .i64 od,.int .i64 e,.bool true]]=>some ((True,.bool false))
 | _,_=>none
theorem z7_:ze_ Tryz.prog 44 (RoF zF_).sum:=by
 refine zm_ Tryz.func44 J6_ (zd_ _) fun args objs p v e=>?_
 unfold zF_ at e
 split at e
 ·rename_i b p sh od e
  cases e
  refine ⟨rfl,fun hw ho hp=>?_⟩
  change List Int at b
  repeat'(intro t ht;first|(cases t<;>first|(cases ht;done)|(try simp only[zh_]at ht))|((first|refine za_ ht ?_|refine ht ?_ ?_|refine ht.1 ?_ ?_|refine ht ?_)<;>clear ht))
  all_goals exact ⟨rfl,rfl⟩
 ·cases e
def uJ_:IR:=
(sq (kr [0,1,2] [oD 6 (.mov (.c (.nilp)))])
(sq (kr [0,1,2] [oM 7 0,
oC 8 36 [7],
oM 9 1,
oM 10 2,
oD 11 (.build [.imm (.int .u8) [],.int .i64 0,.int .i64 0,.int .i64 0,.int .i64 0,.kb false] [(0,1,8),(2,1,9),(3,1,10),(5,1,cT)]),
oD 12 (.boxv 11),
oM 6 12])
.ret))
def ua_:List RD:=[.tmp 6 true none]
theorem ur_:zl_ Tryz.prog Tryz.f24 uJ_ ua_=true:=by kernel_rfl
def Q3_:List AV->List Obj->Option (Prop × AV × List Obj)
 | [.imm (.int .u8) b,.int .i64 sh,.int .i64 od],[]=>some ((b.length<=140737488355328,.ptr 0 0,[.box [.imm (.int .u8) b,.int .i64 0,.int .i64 sh,.int .i64 od,.int .i64 0,.bool true]]))
 | _,_=>none
theorem KI_:ze_ Tryz.prog 24 (RwF Q3_).sum:=by
 refine qn_ Tryz.func24 ur_ (zb_ (s:=RoF Qn_) k1_ (zd_ _)) fun args objs p v o e=>?_
 unfold Q3_ at e
 split at e
 ·rename_i b sh od
  cases e
  refine ⟨rfl,fun hw ho hp=>?_⟩
  change List Int at b
  repeat'(intro t ht;first|(cases t<;>first|(cases ht;done)|(try simp only[zh_]at ht))|((first|refine za_ ht ?_|refine ht ?_ ?_|refine ht.1 ?_ ?_|refine ht ?_)<;>clear ht))
  all_goals first
   | exact hp
   | exact ⟨rfl,rfl⟩
 ·cases e
def Zh_ (e x:Int):Int:=if e=0 then x else e
def wk_:IR:=
(sq (kr [0,1] [oM 4 0,
oC 5 44 [4],
oD 6 (.un .not 5),
oM 7 6,
oT 7 8 (.mov 0),
oT 7 9 (.nilck 8),
oT 7 10 (.fieldAddr 4 9),
oT 7 11 (.load none 10),
oT 7 12 (.bin .eql 11 (cI 0)),
oP 13 7 12 cF])
(.cond 13
(kr [0,1] [oM 14 0,
oM 15 1,
oD 16 (.nilck 14),
oA 17 4 16,
oS 1 17 15])
.skip))
def JX_:List RD:=[]
theorem J9_:zl_ Tryz.prog Tryz.f43 wk_ JX_=true:=by kernel_rfl
def z0_:List AV->List Obj->Option (Prop × AV × List Obj)
 | [.ptr 0 0,.int .i64 x],[.box [.imm (.int .u8) b,.int .i64 p,.int .i64 sh,.int .i64 od,.int .i64 e,.bool true]]=>some ((True,.tup [],[.box [.imm (.int .u8) b,.int .i64 p,.int .i64 sh,.int .i64 od,.int .i64 (Zh_ e x),.bool true]]))
 | _,_=>none
theorem Zv_:ze_ Tryz.prog 43 (RwF z0_).sum:=by
 refine qn_ Tryz.func43 J9_ (zb_ (s:=RoF zF_) z7_ (zd_ _)) fun args objs p v o e=>?_
 unfold z0_ at e
 split at e
 ·rename_i x b p sh od e
  cases e
  refine ⟨rfl,fun hw ho hp=>?_⟩
  change List Int at b
  repeat'(intro t ht;first|(cases t<;>first|(cases ht;done)|(try simp only[zh_]at ht))|((first|refine za_ ht ?_|refine ht ?_ ?_|refine ht.1 ?_ ?_|refine ht ?_)<;>clear ht))
  all_goals first
   | exact True.intro
   | (unfold Zh_;simp_all;done)
 ·cases e
def wV_:IR:=
(sq (kr [0] [oD 2 (.mov (cI 0))])
(sq (sq (.reg [oM 3 0,
oC 4 44 [3]])
(.cond 4
(sq (.reg [oD 2 (.mov (cI 10001))])
.ret)
.skip))
(sq (kr [0] [oM 5 0,
oD 6 (.nilck 5),
oA 7 4 6,
oL 8 7,
oM 2 8])
.ret)))
def wE_:List RD:=[.tmp 2 true none]
theorem wL_:zl_ Tryz.prog Tryz.f27 wV_ wE_=true:=by kernel_rfl
def zQ_:List AV->List Obj->Option (Prop × AV)
 | [.ptr 0 0],[.box [.imm (.int .u8) b,.int .i64 p,.int .i64 sh,.int .i64 od,.int .i64 e,.bool true]]=>some ((True,.int .i64 e))
 | _,_=>none
theorem Zf_:ze_ Tryz.prog 27 (RoF zQ_).sum:=by
 refine zm_ Tryz.func27 wL_ (zb_ (s:=RoF zF_) z7_ (zd_ _)) fun args objs p v e=>?_
 unfold zQ_ at e
 split at e
 ·rename_i b p sh od e
  cases e
  refine ⟨rfl,fun hw ho hp=>?_⟩
  change List Int at b
  repeat'(intro t ht;first|(cases t<;>first|(cases ht;done)|(try simp only[zh_]at ht))|((first|refine za_ ht ?_|refine ht ?_ ?_|refine ht.1 ?_ ?_|refine ht ?_)<;>clear ht))
  all_goals first
   | exact True.intro
   | exact ⟨rfl,rfl⟩
 ·cases e
def wj_:IR:=
(sq (kr [0] [oD 2 (.mov (cI 0))])
(sq (sq (.reg [oM 3 0,
oC 4 44 [3]])
(.cond 4
(sq (.reg [oD 2 (.mov (cI 0))])
.ret)
.skip))
(sq (kd [0] [(oM 5 0,[]),
(oD 6 (.nilck 5),[]),
(oA 7 0 6,[]),
(oL 8 7,[]),
(oE 9 8,[]),
(oM 10 0,[0,0,0,0,0]),
(oD 11 (.nilck 10),[1,0,0,0,0]),
(oA 12 1 11,[2,0,0,0,0]),
(oL 13 12,[3,0,0,0,0]),
(oB 14 .sub 9 13,[]),
(oM 2 14,[])])
.ret)))
def JW_:List RD:=[.tmp 2 true none]
theorem J8_:zl_ Tryz.prog Tryz.f70 wj_ JW_=true:=by kernel_rfl
def Zo_:List AV->List Obj->Option (Prop × AV)
 | [.ptr 0 0],[.box [.imm (.int .u8) b,.int .i64 p,.int .i64 sh,.int .i64 od,.int .i64 e,.bool true]]=>some ((0<=p/\p<=b.length,.int .i64 (b.length - p)))
 | _,_=>none
theorem Z6_:ze_ Tryz.prog 70 (RoF Zo_).sum:=by
 refine zm_ Tryz.func70 J8_ (zb_ (s:=RoF zF_) z7_ (zd_ _)) fun args objs p v e=>?_
 unfold Zo_ at e
 split at e
 ·rename_i b p sh od e
  cases e
  refine ⟨rfl,fun hw ho hp=>?_⟩
  change List Int at b
  have hb:b.length<=maxLen:=(ho _ (List.mem_cons_self ..) (.imm (.int .u8) b) (by simp)).2
  unfold maxLen at hb
  repeat'(intro t ht;first|(cases t<;>first|(cases ht;done)|(try simp only[zh_]at ht))|((first|refine za_ ht ?_|refine ht ?_ ?_|refine ht.1 ?_ ?_|refine ht ?_)<;>clear ht))
  all_goals first
   | exact True.intro
   | ((try simp only [zn_,zo_,zi_] at*);omega)
   | exact ⟨rfl,rfl⟩
 ·cases e
def WU_:IR:=
(sq (kr [0] [oD 2 (.mov (cI 0))])
(sq (sq (.reg [oM 3 0,
oC 4 44 [3]])
(.cond 4
(sq (.reg [oD 2 (.mov (cI 0))])
.ret)
.skip))
(sq (kr [0] [oM 5 0,
oD 6 (.nilck 5),
oA 7 1 6,
oL 8 7,
oM 2 8])
.ret)))
def WP_:List RD:=[.tmp 2 true none]
theorem WR_:zl_ Tryz.prog Tryz.f28 WU_ WP_=true:=by kernel_rfl
def qa_:List AV->List Obj->Option (Prop × AV)
 | [.ptr 0 0],[.box [.imm (.int .u8) b,.int .i64 p,.int .i64 sh,.int .i64 od,.int .i64 e,.bool true]]=>some ((True,.int .i64 p))
 | _,_=>none
theorem kP_:ze_ Tryz.prog 28 (RoF qa_).sum:=by
 refine zm_ Tryz.func28 WR_ (zb_ (s:=RoF zF_) z7_ (zd_ _)) fun args objs p v e=>?_
 unfold qa_ at e
 split at e
 ·rename_i b p sh od e
  cases e
  refine ⟨rfl,fun hw ho hp=>?_⟩
  change List Int at b
  repeat'(intro t ht;first|(cases t<;>first|(cases ht;done)|(try simp only[zh_]at ht))|((first|refine za_ ht ?_|refine ht ?_ ?_|refine ht.1 ?_ ?_|refine ht ?_)<;>clear ht))
  all_goals first
   | exact True.intro
   | exact ⟨rfl,rfl⟩
 ·cases e
def yw_ (w b:List Int) (p e:Int):List Int:=if e=0 then k6_ w (b.drop p.toNat) else []
def YJ_ (w b:List Int) (p e:Int):Int:=if e=0 then (if qZ_ w (b.drop p.toNat)=1 then p else if qZ_ w (b.drop p.toNat)=2 then p else p+Zl_ w) else p
def YK_ (w b:List Int) (p sh od e:Int):Int:=if e=0 then (if qZ_ w (b.drop p.toNat)=1 then sh else if qZ_ w (b.drop p.toNat)=2 then od else 0) else e
def wT_:IR:=
(sq (kr [0,1] [oD 4 (.mov (.c (.imm (.int .u64) [])))])
(sq (sq (.reg [oM 7 0,
oC 8 27 [7],
oB 9 .neq 8 (cI 0)])
(.cond 9
(sq (.reg [oD 4 (.mov (.c (.imm (.int .u64) [])))])
.ret)
.skip))
(sq (kd [0,1] [(oM 11 1,[]),
(oM 12 0,[0]),
(oD 13 (.nilck 12),[1]),
(oA 14 0 13,[2]),
(oL 15 14,[3]),
(oM 16 0,[0,0,0,0,0]),
(oD 17 (.nilck 16),[1,0,0,0,0]),
(oA 18 1 17,[2,0,0,0,0]),
(oL 19 18,[3,0,0,0,0]),
(oD 20 (.slice 1 15 (some 19) none none),[8]),
(oC 21 143 [11,20],[]),
(oM 10 21,[]),
(oX 22 10 0,[]),
(oX 23 10 1,[0]),
(oM 5 22,[0]),
(oM 6 23,[])])
(sq (sq (kr [0,1,5,6] [oM 24 6])
(.block 0
(sq (.reg [oB 35 .eql 24 (cI 1),
oM 34 35])
(.cond 34
(kr [0,5] [oM 36 0,
oM 37 0,
oD 38 (.nilck 37),
oA 39 2 38,
oL 40 39,
oC 41 43 [36,40]])
(sq (.reg [oB 43 .eql 24 (cI 2),
oM 42 43])
(.cond 42
(kr [0,5] [oM 44 0,
oM 45 0,
oD 46 (.nilck 45),
oA 47 3 46,
oL 48 47,
oC 49 43 [44,48]])
(kd [0,1,5] [(oM 25 0,[]),
(oD 26 (.nilck 25),[]),
(oA 27 1 26,[]),
(oL 28 27,[]),
(oM 29 1,[0,0,0,0]),
(oC 30 58 [29],[1,0,0,0]),
(oB 31 .add 28 30,[]),
(oD 32 (.nilck 25),[]),
(oA 33 1 32,[]),
(oS 1 33 31,[])])))))))
(sq (kr [5] [oM 50 5,
oM 4 50])
.ret)))))
def wC_:List RD:=[.tmp 4 true (some (.int .u64))]
theorem wJ_:zl_ Tryz.prog Tryz.f125 wT_ wC_=true:=by kernel_rfl
def Zb_:List AV->List Obj->Option (Prop × AV × List Obj)
 | [.ptr 0 0,.imm (.int .i64) w],[.box [.imm (.int .u8) b,.int .i64 p,.int .i64 sh,.int .i64 od,.int .i64 e,.bool true]]=>some ((0<=p/\p<=b.length/\b.length<=140737488355328,.imm (.int .u64) (yw_ w b p e),[.box [.imm (.int .u8) b,.int .i64 (YJ_ w b p e),.int .i64 sh,.int .i64 od,.int .i64 (YK_ w b p sh od e),.bool true]]))
 | _,_=>none
theorem ZG_:ze_ Tryz.prog 125 (RwF Zb_).sum:=by
 refine qn_ Tryz.func125 wJ_ (zb_ (s:=RoF zQ_) Zf_ (zb_ (s:=RoF yL_) GT_ (zb_ (s:=RwF z0_) Zv_ (zb_ (s:=RoF kA_) Ko_ (zd_ _))))) fun args objs p v o e=>?_
 unfold Zb_ at e
 split at e
 ·rename_i w b p sh od e
  cases e
  refine ⟨rfl,fun hw ho hp=>?_⟩
  change List Int at w
  change List Int at b
  have hz:=vg_ w
  repeat'(intro t ht;first|(cases t<;>first|(cases ht;done)|(try simp only[zh_]at ht))|((first|refine za_ ht ?_|refine ht ?_ ?_|refine ht.1 ?_ ?_|refine ht ?_)<;>clear ht))
  all_goals first
   | exact True.intro
   | ((try simp only [zn_,zo_,zi_] at*);omega)
   | (unfold yw_ YJ_ YK_;simp_all [Zh_];done)
 ·cases e
def numV (w:Int) (b:List Int) (p e:Int):Int:=if 1<=w/\w<=8 then (yw_ [w] b p e).getD 0 0 else 0
def numP (w:Int) (b:List Int) (p e:Int):Int:=if 1<=w/\w<=8 then YJ_ [w] b p e else p
def numE (w:Int) (b:List Int) (p sh od e:Int):Int:=if 1<=w/\w<=8 then YK_ [w] b p sh od e else Zh_ e 10001
def wU_:IR:=
(sq (kr [0,1] [oD 4 (.mov (.c (.int .u64 0)))])
(sq (sq (kr [0,1] [oM 7 1,
oB 8 .lss 7 (cI 1),
oM 9 8,
oF 9 10 (.mov 1),
oF 9 11 (.bin .gtr 10 (cI 8)),
oP 12 9 cT 11])
(.cond 12
(sq (kr [0] [oM 13 0,
oC 14 43 [13,(cI 10001)]])
(sq (.reg [oD 4 (.mov (.c (.int .u64 0)))])
.ret))
.skip))
(sq (kr [0,1] [oM 15 0,
oD 16 (.mkfn 125 [15] []),
oM 5 16])
(sq (sq (kr [1,5] [oM 17 5,
oM 18 1,
oD 19 (.sliceAll (.int .i64) 1 [(0,1,18)]),
oD 20 (.call false 17 [19]),
oM 6 20])
(sq (.reg [oM 21 6,
oE 22 21,
oB 23 .gtr 22 (cI 0)])
(.cond 23
(sq (kr [6] [oM 24 6,
oD 25 (.indexSl 1 24 (cI 0)),
oL 26 25,
oM 4 26])
.ret)
.skip)))
(sq (kr [] [oD 4 (.mov (.c (.int .u64 0)))])
.ret)))))
def wD_:List RD:=[.tmp 4 true none]
theorem wK_:zl_ Tryz.prog Tryz.f145 wU_ wD_=true:=by kernel_rfl
def Qa_:List AV->List Obj->Option (Prop × AV × List Obj)
 | [.ptr 0 0,.int .i64 w],[.box [.imm (.int .u8) b,.int .i64 p,.int .i64 sh,.int .i64 od,.int .i64 e,.bool true]]=>some ((0<=p/\p<=b.length/\b.length<=140737488355328,.int .u64 (numV w b p e),[.box [.imm (.int .u8) b,.int .i64 (numP w b p e),.int .i64 sh,.int .i64 od,.int .i64 (numE w b p sh od e),.bool true]]))
 | _,_=>none
theorem JQ_:ze_ Tryz.prog 145 (RwF Qa_).sum:=by
 refine qn_ Tryz.func145 wK_ (zb_ (s:=RwF z0_) Zv_ (zb_ (s:=RwF Zb_) ZG_ (zd_ _))) fun args objs p v o e=>?_
 unfold Qa_ at e
 split at e
 ·rename_i w b p sh od e
  cases e
  refine ⟨rfl,fun hw ho hp=>?_⟩
  change List Int at b
  repeat'(intro t ht;first|(cases t<;>first|(cases ht;done)|(try simp only[zh_]at ht))|((first|refine za_ ht ?_|refine ht ?_ ?_|refine ht.1 ?_ ?_|refine ht ?_)<;>clear ht))
  all_goals first
   | exact True.intro
   | exact hp
   | ((try simp only [zn_,zo_,zi_] at*);omega)
   | (have hc:1<=w/\w<=8:=by omega
      unfold numV numP numE
      rw [if_pos hc,if_pos hc,if_pos hc]
      first
       | exact ⟨rfl,rfl⟩
       | (have hl:yw_ [w] b p e=[]:=List.eq_nil_of_length_eq_zero (by omega)
          refine ⟨?_,rfl⟩;rw [hl];rfl))
   | (have hc:¬ (1<=w/\w<=8):=by omega
      unfold numV numP numE
      rw [if_neg hc,if_neg hc,if_neg hc]
      exact ⟨rfl,rfl⟩)
 ·cases e
theorem Hu_ {e x:Int} (h:x ≠ 0):Zh_ e x ≠ 0:=by unfold Zh_;split<;>assumption
def QG_ (n:Int) (b:List Int) (p sh e:Int):Int:=if n < 0 then Zh_ e 10001 else if b.length - p < n then Zh_ e sh else e
def jy_ (n:Int) (b:List Int) (p sh e:Int):List Int:=if QG_ n b p sh e=0 then (b.take (p+n).toNat).drop p.toNat else []
def wu_ (n:Int) (b:List Int) (p sh e:Int):Int:=if QG_ n b p sh e=0 then p+n else p
def wg_:IR:=
(sq (kr [0,1] [oD 4 (.mov (.c (.imm (.int .u8) []))),
oD 5 (.mov cF)])
(sq (sq (.reg [oM 7 1,
oB 8 .lss 7 (cI 0)])
(.cond 8
(.reg [oM 9 0,
oC 10 43 [9,(cI 10001)]])
(sq (kr [0,1] [oM 11 1,
oM 12 0,
oC 13 70 [12],
oB 14 .gtr 11 13,
oM 15 14,
oT 15 16 (.mov 0),
oT 15 17 (.call false (.f 44) [16]),
oT 15 18 (.un .not 17),
oP 19 15 18 cF])
(.cond 19
(kr [0,1] [oM 20 0,
oM 21 0,
oD 22 (.nilck 21),
oA 23 2 22,
oL 24 23,
oC 25 43 [20,24]])
.skip))))
(sq (sq (kr [0,1] [oM 26 0,
oC 27 27 [26],
oB 28 .neq 27 (cI 0)])
(.cond 28
(sq (.reg [oD 4 (.mov (.c (.imm (.int .u8) []))),
oD 5 (.mov cF)])
.ret)
.skip))
(sq (kd [0,1] [(oM 29 0,[]),
(oD 30 (.nilck 29),[]),
(oA 31 0 30,[]),
(oL 32 31,[]),
(oM 33 0,[0,0,0,0]),
(oD 34 (.nilck 33),[1,0,0,0]),
(oA 35 1 34,[2,0,0,0]),
(oL 36 35,[3,0,0,0]),
(oM 37 0,[0,0,0,0,0,0,0,0]),
(oD 38 (.nilck 37),[1,0,0,0,0,0,0,0]),
(oA 39 1 38,[2,0,0,0,0,0,0,0]),
(oL 40 39,[3,0,0,0,0,0,0,0]),
(oM 41 1,[0,0,0,0,0,0,0,0,0,0,0,0]),
(oB 42 .add 40 41,[5,0,0,0,0,0,0,0]),
(oM 43 0,[0,0,0,0,0,0,0,0,0,0,0,0,0,0]),
(oD 44 (.nilck 43),[1,0,0,0,0,0,0,0,0,0,0,0,0,0]),
(oA 45 1 44,[2,0,0,0,0,0,0,0,0,0,0,0,0,0]),
(oL 46 45,[3,0,0,0,0,0,0,0,0,0,0,0,0,0]),
(oM 47 1,[0,0,0,0,0,0,0,0,0,0,0,0,0,0,0,0,0,0]),
(oB 48 .add 46 47,[5,0,0,0,0,0,0,0,0,0,0,0,0,0]),
(oD 49 (.slice 1 32 (some 36) (some 42) (some 48)),[]),
(oM 6 49,[])])
(sq (kr [0,1,6] [oM 50 0,
oD 51 (.nilck 50),
oA 52 1 51,
oL 53 52,
oM 54 1,
oB 55 .add 53 54,
oD 56 (.nilck 50),
oA 57 1 56,
oS 1 57 55])
(sq (kr [6] [oM 58 6,
oM 4 58,
oD 5 (.mov cT)])
.ret))))))
def JT_:List RD:=[.tmp 4 true (some (.int .u8)),.tmp 5 true none]
theorem J5_:zl_ Tryz.prog Tryz.f42 wg_ JT_=true:=by kernel_rfl
def qI_:List AV->List Obj->Option (Prop × AV × List Obj)
 | [.ptr 0 0,.int .i64 n],[.box [.imm (.int .u8) b,.int .i64 p,.int .i64 sh,.int .i64 od,.int .i64 e,.bool true]]=>some ((0<=p/\p<=b.length/\b.length<=140737488355328/\sh ≠ 0,.tup [.imm (.int .u8) (jy_ n b p sh e),.bool (decide (QG_ n b p sh e=0))],[.box [.imm (.int .u8) b,.int .i64 (wu_ n b p sh e),.int .i64 sh,.int .i64 od,.int .i64 (QG_ n b p sh e),.bool true]]))
 | _,_=>none
theorem j4_:ze_ Tryz.prog 42 (RwF qI_).sum:=by
 refine qn_ Tryz.func42 J5_ (zb_ (s:=RwF z0_) Zv_ (zb_ (s:=RoF Zo_) Z6_ (zb_ (s:=RoF zF_) z7_ (zb_ (s:=RoF zQ_) Zf_ (zd_ _))))) fun args objs p v o e=>?_
 unfold qI_ at e
 split at e
 ·rename_i n b p sh od e
  cases e
  refine ⟨rfl,fun hw ho hp=>?_⟩
  change List Int at b
  have hf1:Zh_ e 10001 ≠ 0:=Hu_ (by decide)
  have hf2:Zh_ e sh ≠ 0:=Hu_ hp.2.2.2
  repeat'(intro t ht;first|(cases t<;>first|(cases ht;done)|(try simp only[zh_]at ht))|((first|refine za_ ht ?_|refine ht ?_ ?_|refine ht.1 ?_ ?_|refine ht ?_)<;>clear ht))
  all_goals first
   | exact True.intro
   | (exfalso;omega)
   | omega
   | ((try simp only [zn_,zo_,zi_] at*);omega)
   | (first
       | (have hE:QG_ n b p sh e=e:=by unfold QG_;rw [if_neg (by assumption),if_neg (by assumption)]
          unfold jy_ wu_;rw [hE]
          first
           | (have h0:e=0:=by assumption
              rw [if_pos h0,if_pos h0,decide_eq_true h0];exact ⟨rfl,rfl⟩)
           | (have h0:¬ e=0:=by assumption
              rw [if_neg h0,if_neg h0,decide_eq_false h0];exact ⟨rfl,rfl⟩))
       | (have hE:QG_ n b p sh e=Zh_ e sh:=by unfold QG_;rw [if_neg (by assumption),if_pos (by assumption)]
          unfold jy_ wu_;rw [hE,if_neg hf2,if_neg hf2,decide_eq_false hf2];exact ⟨rfl,rfl⟩)
       | (have hE:QG_ n b p sh e=Zh_ e 10001:=by unfold QG_;rw [if_pos (by assumption)]
          unfold jy_ wu_;rw [hE,if_neg hf1,if_neg hf1,decide_eq_false hf1];exact ⟨rfl,rfl⟩))
 ·cases e
def Jm_:IR:=
(sq (kr [0,1] [oD 4 (.mov (.c (.imm (.int .u8) [])))])
(sq (kr [0,1] [oM 8 0,
oM 9 1,
oC 10 42 [8,9],
oM 7 10,
oX 11 7 0,
oX 12 7 1,
oM 5 11,
oM 6 12])
(sq (kr [5] [oM 13 5,
oC 14 36 [13],
oM 4 14])
.ret)))
def Jb_:List RD:=[.tmp 4 true (some (.int .u8))]
theorem Jg_:zl_ Tryz.prog Tryz.f25 Jm_ Jb_=true:=by kernel_rfl
def Zi_:List AV->List Obj->Option (Prop × AV × List Obj)
 | [.ptr 0 0,.int .i64 n],[.box [.imm (.int .u8) b,.int .i64 p,.int .i64 sh,.int .i64 od,.int .i64 e,.bool true]]=>some ((0<=p/\p<=b.length/\b.length<=140737488355328/\sh ≠ 0,.imm (.int .u8) (jy_ n b p sh e),[.box [.imm (.int .u8) b,.int .i64 (wu_ n b p sh e),.int .i64 sh,.int .i64 od,.int .i64 (QG_ n b p sh e),.bool true]]))
 | _,_=>none
theorem ZW_:ze_ Tryz.prog 25 (RwF Zi_).sum:=by
 refine qn_ Tryz.func25 Jg_ (zb_ (s:=RwF qI_) j4_ (zb_ (s:=RoF Qn_) k1_ (zd_ _))) fun args objs p v o e=>?_
 unfold Zi_ at e
 split at e
 ·rename_i n b p sh od e
  cases e
  refine ⟨rfl,fun hw ho hp=>?_⟩
  change List Int at b
  have hlen:(jy_ n b p sh e).length<=140737488355328:=by
   unfold jy_;split
   ·rw [List.length_drop,List.length_take];omega
   ·exact Nat.zero_le _
  repeat'(intro t ht;first|(cases t<;>first|(cases ht;done)|(try simp only[zh_]at ht))|((first|refine za_ ht ?_|refine ht ?_ ?_|refine ht.1 ?_ ?_|refine ht ?_)<;>clear ht))
  all_goals first
   | exact hp
   | exact hlen
   | exact ⟨rfl,rfl⟩
 ·cases e
def wn_:IR:=
(sq (kr [0] [oD 2 (.mov cF)])
(sq (kr [0] [oM 3 0,
oD 4 (.eqp false 3 (.c (.nilp))),
oM 5 4,
oF 5 6 (.mov 0),
oF 5 7 (.nilck 6),
oF 5 8 (.fieldAddr 2 7),
oF 5 9 (.load none 8),
oF 5 10 (.eqn false 9 (.c (.nilm))),
oP 11 5 cT 10,
oM 2 11])
.ret))
def J0_:List RD:=[.tmp 2 true none]
theorem wc_:zl_ Tryz.prog Tryz.f33 wn_ J0_=true:=by kernel_rfl
def z1_:List AV->List Obj->Option (Prop × AV)
 | [.ptr 0 0],[.box [.own 1,.int .i64 room,.mapv 2,.int .i64 e],.row false (.int .u8) l,.map sq (.int .i64) (.int .i64) h]=>some ((True,.bool false))
 | _,_=>none
theorem Zw_:ze_ Tryz.prog 33 (RoF z1_).sum:=by
 refine zm_ Tryz.func33 wc_ (zd_ _) fun args objs p v e=>?_
 unfold z1_ at e
 split at e
 ·rename_i room e l sq h
  cases e
  refine ⟨rfl,fun hw ho hp=>?_⟩
  change List Int at l
  repeat'(intro t ht;first|(cases t<;>first|(cases ht;done)|(try simp only[zh_]at ht))|((first|refine za_ ht ?_|refine ht ?_ ?_|refine ht.1 ?_ ?_|refine ht ?_)<;>clear ht))
  all_goals exact ⟨rfl,rfl⟩
 ·cases e
def W3_ (n:Int):Int:=if 1000000 < (if 0 > n then 0 else n) then 1000000 else (if 0 > n then 0 else n)
def uL_:IR:=
(sq (kr [0] [oD 2 (.mov (.c (.nilp)))])
(sq (kr [0] [oM 3 0,
oD 4 (.minmax true 3 (cI 0)),
oD 5 (.minmax false 4 (cI 1000000)),
oD 6 (.mkmap (.int .i64) (.int .i64)),
oD 7 (.build [.nils,.int .i64 0,.nilm,.int .i64 0] [(1,1,5),(2,1,6)]),
oD 8 (.boxv 7),
oM 2 8])
.ret))
def uc_:List RD:=[.tmp 2 true none]
theorem ut_:zl_ Tryz.prog Tryz.f11 uL_ uc_=true:=by kernel_rfl
def XR_:List AV->List Obj->Option (Prop × AV × List Obj)
 | [.int .i64 n],[]=>some (True,.ptr 0 0,[.box [.nils,.int .i64 (W3_ n),.mapv 1,.int .i64 0],.map true (.int .i64) (.int .i64) ([])])
 | _,_=>none
def q1_:List AV->List Obj->Option (Prop × AV × List Obj)
 | [.int .i64 n],[]=>some (True,.ptr 0 0,[.box [.own 2,.int .i64 (W3_ n),.mapv 1,.int .i64 0],.map true (.int .i64) (.int .i64) ([]),.row false (.int .u8) ([])])
 | _,_=>none
theorem QJ_:ze_ Tryz.prog 11 (RwF q1_).sum:=by
 have h0:ze_ Tryz.prog 11 (RwF XR_).sum:=by
  refine qn_ Tryz.func11 ut_ (zd_ _) fun args objs p v o e=>?_
  unfold XR_ at e
  split at e
  ·rename_i n
   cases e
   refine ⟨rfl,fun hw ho hp=>?_⟩
   repeat'(intro t ht;first|(cases t<;>first|(cases ht;done)|(try simp only[zh_]at ht))|((first|refine za_ ht ?_|refine ht ?_ ?_|refine ht.1 ?_ ?_|refine ht ?_)<;>clear ht))
   all_goals exact ⟨rfl,rfl⟩
  ·cases e
 refine hr_ (t:=.int .u8) h0 fun args objs p v o e=>?_
 unfold q1_ at e
 split at e
 ·rename_i n
  cases e
  exact ⟨0,[],[.int .i64 (W3_ n),.mapv 1,.int .i64 0],_,rfl,rfl,rfl⟩
 ·cases e
def wo_:IR:=
(sq (kr [0,1] [oM 4 0,
oC 5 33 [4],
oD 6 (.un .not 5),
oM 7 6,
oT 7 8 (.mov 0),
oT 7 9 (.nilck 8),
oT 7 10 (.fieldAddr 3 9),
oT 7 11 (.load none 10),
oT 7 12 (.bin .eql 11 (cI 0)),
oP 13 7 12 cF])
(.cond 13
(kr [0,1] [oM 14 0,
oM 15 1,
oD 16 (.nilck 14),
oA 17 3 16,
oS 1 17 15])
.skip))
def J1_:List RD:=[]
theorem wd_:zl_ Tryz.prog Tryz.f34 wo_ J1_=true:=by kernel_rfl
def zG_:List AV->List Obj->Option (Prop × AV × List Obj)
 | [.ptr 0 0,.int .i64 x],[.box [.own 1,.int .i64 room,.mapv 2,.int .i64 e],.row false (.int .u8) l,.map sq (.int .i64) (.int .i64) h]=>some ((True,.tup [],[.box [.own 1,.int .i64 room,.mapv 2,.int .i64 (Zh_ e x)],.row false (.int .u8) l,.map sq (.int .i64) (.int .i64) h]))
 | _,_=>none
theorem z8_:ze_ Tryz.prog 34 (RwF zG_).sum:=by
 refine qn_ Tryz.func34 wd_ (zb_ (s:=RoF z1_) Zw_ (zd_ _)) fun args objs p v o e=>?_
 unfold zG_ at e
 split at e
 ·rename_i x room e l sq h
  cases e
  refine ⟨rfl,fun hw ho hp=>?_⟩
  change List Int at l
  repeat'(intro t ht;first|(cases t<;>first|(cases ht;done)|(try simp only[zh_]at ht))|((first|refine za_ ht ?_|refine ht ?_ ?_|refine ht.1 ?_ ?_|refine ht ?_)<;>clear ht))
  all_goals first
   | exact True.intro
   | (unfold Zh_;simp_all;done)
 ·cases e
def jP_ (x l:List Int) (room e:Int):Bool:=decide (e=0) && decide ((x.length:Int)<=room - l.length)
def Jt_ (x l:List Int) (room e:Int):List Int:=if jP_ x l room e=true then l++x else l
def WW_ (x l:List Int) (room e:Int):Int:=if e=0 then (if (x.length:Int)<=room - l.length then 0 else 10003) else e
def Jo_:IR:=
(.block 0
(sq (kr [0,1] [oM 14 0,
oC 15 33 [14],
oM 16 15,
oF 16 17 (.mov 0),
oF 16 18 (.nilck 17),
oF 16 19 (.fieldAddr 3 18),
oF 16 20 (.load none 19),
oF 16 21 (.bin .neq 20 (cI 0)),
oP 22 16 cT 21,
oM 13 22])
(.cond 13
.skip
(sq (kd [0,1] [(oM 24 1,[]),
(oE 25 24,[]),
(oM 26 0,[0,0]),
(oD 27 (.nilck 26),[1,0]),
(oA 28 1 27,[2,0]),
(oL 29 28,[3,0]),
(oM 30 0,[0,0,0,0,0,0]),
(oD 31 (.nilck 30),[1,0,0,0,0,0]),
(oA 32 0 31,[2,0,0,0,0,0]),
(oL 33 32,[3,0,0,0,0,0]),
(oE 34 33,[4,0,0,0,0,0]),
(oB 35 .sub 29 34,[9,0]),
(oB 36 .gtr 25 35,[]),
(oM 23 36,[])])
(.cond 23
(kr [0] [oM 37 0,
oC 38 34 [37,(cI 10003)]])
(kr [0,1] [oM 4 0,
oM 5 0,
oD 6 (.nilck 5),
oA 7 0 6,
oL 8 7,
oM 9 1,
oD 10 (.append (.int .u8) 1 8 9),
oD 11 (.nilck 4),
oA 12 0 11,
oS 1 12 10]))))))
def Jd_:List RD:=[]
theorem Ji_:zl_ Tryz.prog Tryz.f12 Jo_ Jd_=true:=by kernel_rfl
def ke_:List AV->List Obj->Option (Prop × Res)
 | [.ptr 0 0,.imm (.int .u8) x],[.box [.own 1,.int .i64 room,.mapv 2,.int .i64 e],.row false (.int .u8) l,.map sq (.int .i64) (.int .i64) h]=>some (0<=room/\room<=1000000/\l.length<=1000000/\x.length<=1000000,.br (jP_ x l room e) (.one (.tup []) [.box [.own 3,.int .i64 room,.mapv 2,.int .i64 e],.dead,.map sq (.int .i64) (.int .i64) h,.row false (.int .u8) (Jt_ x l room e)]) (.one (.tup []) [.box [.own 1,.int .i64 room,.mapv 2,.int .i64 (WW_ x l room e)],.row false (.int .u8) l,.map sq (.int .i64) (.int .i64) h]))
 | _,_=>none
def zx_:List AV->List Obj->Option (Prop × AV × List Obj)
 | [.ptr 0 0,.imm (.int .u8) x],[.box [.own 1,.int .i64 room,.mapv 2,.int .i64 e],.row false (.int .u8) l,.map sq (.int .i64) (.int .i64) h]=>some (0<=room/\room<=1000000/\l.length<=1000000/\x.length<=1000000,.tup [],[.box [.own 3,.int .i64 room,.mapv 2,.int .i64 (WW_ x l room e)],.dead,.map sq (.int .i64) (.int .i64) h,.row false (.int .u8) (Jt_ x l room e)])
 | _,_=>none
theorem jw_:ze_ Tryz.prog 12 (RcF ke_).sum:=by
 refine hn_ Tryz.func12 Ji_ (zb_ (s:=RoF z1_) Zw_ (zb_ (s:=RwF zG_) z8_ (zd_ _))) fun args objs p v e=>?_
 unfold ke_ at e
 split at e
 ·rename_i x room e l sq h
  cases e
  change List Int at x
  change List Int at l
  refine ⟨rfl,fun hw ho hp=>?_⟩
  repeat'(intro t ht;first|(cases t<;>first|(cases ht;done)|(try simp only[zh_]at ht))|((first|refine za_ ht ?_|refine ht ?_ ?_|refine ht.1 ?_ ?_|refine ht ?_)<;>clear ht))
  all_goals first
   | exact True.intro
   | ((try simp only [zn_,zo_,zi_] at*);omega)
   | (simp only [ZF_];omega)
   | (have hb:jP_ x l room e=true:=by unfold jP_;simp only [Bool.and_eq_true,decide_eq_true_eq];omega
      have hbb:Jt_ x l room e=l++x:=by unfold Jt_;rw [hb];rfl
      rw [Je_ hb,hbb];exact ⟨rfl,rfl⟩)
   | (have hb:jP_ x l room e=false:=by unfold jP_;simp only [Bool.and_eq_false_iff,decide_eq_false_iff_not];omega
      rw [Jf_ hb]
      unfold WW_
      first
       | (rw [if_neg (by assumption)];exact ⟨rfl,rfl⟩)
       | (have h0:e=0:=by assumption
          have h1:¬ (x.length:Int)<=room - l.length:=by omega
          rw [if_pos h0,if_neg h1]
          refine ⟨rfl,?_⟩;unfold Zh_;rw [if_pos h0];rfl))
 ·cases e
theorem zD_:ze_ Tryz.prog 12 (RwF zx_).sum:=by
 refine YP_ jw_ fun args objs p v o e=>?_
 unfold zx_ at e
 split at e
 ·rename_i x room e l sq h
  cases e
  cases hb:jP_ x l room e with
  | true=>
    have h1:e=0:=by unfold jP_ at hb;simp_all
    have h2:(x.length:Int)<=room - l.length:=by unfold jP_ at hb;simp_all
    refine ⟨_,_,rfl,Je_ hb,.inl ?_⟩
    unfold WW_;rw [if_pos h1,if_pos h2,h1]
  | false=>
    refine ⟨_,_,rfl,Jf_ hb,.inr ⟨0,1,[],[.int .i64 room,.mapv 2,.int .i64 (WW_ x l room e)],.int .u8,l,rfl,rfl,?_⟩⟩
    have hbb:Jt_ x l room e=l:=by unfold Jt_;rw [hb];rfl
    rw [hbb];rfl
 ·cases e
theorem Xe_:∀ (w xs b r:List Int),(∀ n ∈ w,n ≠ 0/\n<=8/\-64<=n)->qA_ w xs b=some r->(r.length:Int)=b.length+(w.map zr_).sum
 | [],xs,b,r,_,h=>by simp only [qA_,Option.some.injEq] at h;subst h;simp
 | n :: w,xs,b,r,hw,h=>by
   have hn:=hw n (by simp)
   have hw':∀ n ∈ w,n ≠ 0/\n<=8/\-64<=n:=fun m hm=>hw m (by simp [hm])
   simp only [qA_] at h
   split at h
   ·have ih:=Xe_ w _ _ r hw' h
    have hl:=zk_ (n:=0) (w:=0 - n) (by omega)
    rw [List.length_append] at ih
    rw [List.map_cons,List.sum_cons,jQ_ (by assumption)];omega
   ·cases xs with
    | nil=>cases h
    | cons x ys=>
      simp only at h
      split at h
      ·cases h
      ·have ih:=Xe_ w _ _ r hw' h
       have hl:=zk_ (n:=x) (w:=n) (by omega)
       rw [List.length_append] at ih
       rw [List.map_cons,List.sum_cons,WF_ (by assumption)];omega
theorem zbD_ (w xs:List Int):(qd_ w xs).length<=4096:=by
 unfold qd_ Kq_
 split
 ·rename_i h
  cases hp:qA_ w xs [] with
  | none=>simp
  | some r=>
    have h1:=Xe_ w xs [] r (Zt_.1 h.1).2 hp
    have h2:=vg_ w
    unfold Zl_ at h2;rw [if_pos h.1] at h2
    simp at h1 ⊢;omega
 ·simp
def VY_ (w xs l:List Int) (room e:Int):List Int:=if QN_ w xs=true then Jt_ (qd_ w xs) l room e else l
def VX_ (w xs l:List Int) (room e:Int):Int:=if QN_ w xs=true then WW_ (qd_ w xs) l room e else Zh_ e 10001
def wW_:IR:=
(sq (kr [0,1,2] [oM 9 1,
oM 10 2,
oC 11 82 [9,10],
oM 8 11,
oX 12 8 0,
oX 13 8 1,
oM 6 12,
oM 7 13])
(sq (sq (kr [0,6,7] [oM 14 7,
oD 15 (.un .not 14)])
(.cond 15
(sq (.reg [oM 16 0,
oC 17 34 [16,(cI 10001)]])
.ret)
.skip))
(.reg [oM 18 0,
oM 19 6,
oC 20 12 [18,19]])))
def wF_:List RD:=[]
theorem wM_:zl_ Tryz.prog Tryz.f52 wW_ wF_=true:=by kernel_rfl
def Kk_:List AV->List Obj->Option (Prop × Res)
 | [.ptr 0 0,.imm (.int .i64) w,.imm (.int .u64) xs],[.box [.own 1,.int .i64 room,.mapv 2,.int .i64 e],.row false (.int .u8) l,.map sq (.int .i64) (.int .i64) h]=>some (0<=room/\room<=1000000/\l.length<=1000000,.br (QN_ w xs) (.one (.tup []) [.box [.own 3,.int .i64 room,.mapv 2,.int .i64 (WW_ (qd_ w xs) l room e)],.dead,.map sq (.int .i64) (.int .i64) h,.row false (.int .u8) (Jt_ (qd_ w xs) l room e)]) (.one (.tup []) [.box [.own 1,.int .i64 room,.mapv 2,.int .i64 (Zh_ e 10001)],.row false (.int .u8) l,.map sq (.int .i64) (.int .i64) h]))
 | _,_=>none
def Zu_:List AV->List Obj->Option (Prop × AV × List Obj)
 | [.ptr 0 0,.imm (.int .i64) w,.imm (.int .u64) xs],[.box [.own 1,.int .i64 room,.mapv 2,.int .i64 e],.row false (.int .u8) l,.map sq (.int .i64) (.int .i64) h]=>some (0<=room/\room<=1000000/\l.length<=1000000,.tup [],[.box [.own 3,.int .i64 room,.mapv 2,.int .i64 (VX_ w xs l room e)],.dead,.map sq (.int .i64) (.int .i64) h,.row false (.int .u8) (VY_ w xs l room e)])
 | _,_=>none
theorem JO_:ze_ Tryz.prog 52 (RcF Kk_).sum:=by
 refine hn_ Tryz.func52 wM_ (zb_ (s:=RoF WG_) yZ_ (zb_ (s:=RwF zG_) z8_ (zb_ (s:=RwF zx_) zD_ (zd_ _)))) fun args objs p v e=>?_
 unfold Kk_ at e
 split at e
 ·rename_i w xs room e l sq h
  cases e
  refine ⟨rfl,fun hw ho hp=>?_⟩
  have hz:=zbD_ w xs
  repeat'(intro t ht;first|(cases t<;>first|(cases ht;done)|(try simp only[zh_]at ht))|((first|refine za_ ht ?_|refine ht ?_ ?_|refine ht.1 ?_ ?_|refine ht ?_)<;>clear ht))
  all_goals first
   | exact True.intro
   | exact ⟨hp.1,hp.2.1,hp.2.2,by omega⟩
   | (rw [Je_ (by assumption)];exact ⟨rfl,rfl⟩)
   | (rw [Jf_ (by assumption)];exact ⟨rfl,rfl⟩)
 ·cases e
theorem qg_:ze_ Tryz.prog 52 (RwF Zu_).sum:=by
 refine YP_ JO_ fun args objs p v o e=>?_
 unfold Zu_ at e
 split at e
 ·rename_i w xs room e l sq h
  cases e
  cases hb:QN_ w xs with
  | true=>
    refine ⟨_,_,rfl,Je_ hb,.inl ?_⟩
    unfold VX_ VY_;rw [if_pos hb,if_pos hb]
  | false=>
    refine ⟨_,_,rfl,Jf_ hb,.inr ⟨0,1,[],[.int .i64 room,.mapv 2,.int .i64 (Zh_ e 10001)],.int .u8,l,rfl,rfl,?_⟩⟩
    unfold VX_ VY_;rw [hb];rfl
 ·cases e
def jx_ (w:Int):Bool:=decide (1<=w) && decide (w<=8)
def WX_ (w e:Int):Int:=if jx_ w=true then e else Zh_ e 10001
def wm_:IR:=
(sq (kr [0,1] [oD 4 (.mov cF)])
(sq (kr [0,1] [oM 6 1,
oB 7 .geq 6 (cI 1),
oM 8 7,
oT 8 9 (.mov 1),
oT 8 10 (.bin .leq 9 (cI 8)),
oP 11 8 10 cF,
oM 5 11])
(sq (sq (kr [0,5] [oM 12 5,
oD 13 (.un .not 12)])
(.cond 13
(.reg [oM 14 0,
oC 15 34 [14,(cI 10001)]])
.skip))
(sq (.reg [oM 16 5,
oM 4 16])
.ret))))
def JZ_:List RD:=[.tmp 4 true none]
theorem wb_:zl_ Tryz.prog Tryz.f117 wm_ JZ_=true:=by kernel_rfl
def qL_:List AV->List Obj->Option (Prop × AV × List Obj)
 | [.ptr 0 0,.int .i64 w],[.box [.own 1,.int .i64 room,.mapv 2,.int .i64 e],.row false (.int .u8) l,.map sq (.int .i64) (.int .i64) h]=>some ((True,.bool (jx_ w),[.box [.own 1,.int .i64 room,.mapv 2,.int .i64 (WX_ w e)],.row false (.int .u8) l,.map sq (.int .i64) (.int .i64) h]))
 | _,_=>none
theorem j7_:ze_ Tryz.prog 117 (RwF qL_).sum:=by
 refine qn_ Tryz.func117 wb_ (zb_ (s:=RwF zG_) z8_ (zd_ _)) fun args objs p v o e=>?_
 unfold qL_ at e
 split at e
 ·rename_i w room e l sq h
  cases e
  refine ⟨rfl,fun hw ho hp=>?_⟩
  change List Int at l
  repeat'(intro t ht;first|(cases t<;>first|(cases ht;done)|(try simp only[zh_]at ht))|((first|refine za_ ht ?_|refine ht ?_ ?_|refine ht.1 ?_ ?_|refine ht ?_)<;>clear ht))
  all_goals first
   | exact True.intro
   | (have hb:jx_ w=true:=by unfold jx_;simp_all
      have h8:decide (w<=8)=true:=decide_eq_true (by assumption)
      unfold WX_;rw [hb,h8];exact ⟨rfl,rfl⟩)
   | (have hb:jx_ w=false:=by unfold jx_;simp_all
      have h8:decide (w<=8)=false:=decide_eq_false (by assumption)
      unfold WX_;rw [hb,h8];exact ⟨rfl,rfl⟩)
   | (have hb:jx_ w=false:=by unfold jx_;simp only [Bool.and_eq_false_iff,decide_eq_false_iff_not];omega
      unfold WX_;rw [hb];exact ⟨rfl,rfl⟩)
 ·cases e
def nmB (w n:Int) (l:List Int) (room e:Int):List Int:=if jx_ w=true then VY_ [w] [n] l room e else l
def nmE (w n:Int) (l:List Int) (room e:Int):Int:=if jx_ w=true then VX_ [w] [n] l room e else Zh_ e 10001
def wX_:IR:=
(sq (kr [0,1,2] [oM 6 0,
oM 7 1,
oC 8 117 [6,7]])
(.cond 8
(kr [0,1,2] [oM 9 0,
oM 10 1,
oD 11 (.sliceAll (.int .i64) 1 [(0,1,10)]),
oM 12 2,
oD 13 (.sliceAll (.int .u64) 1 [(0,1,12)]),
oC 14 52 [9,11,13]])
.skip))
def wG_:List RD:=[]
theorem wN_:zl_ Tryz.prog Tryz.f85 wX_ wG_=true:=by kernel_rfl
def Kl_:List AV->List Obj->Option (Prop × Res)
 | [.ptr 0 0,.int .i64 w,.int .u64 n],[.box [.own 1,.int .i64 room,.mapv 2,.int .i64 e],.row false (.int .u8) l,.map sq (.int .i64) (.int .i64) h]=>some (0<=room/\room<=1000000/\l.length<=1000000,.br (jx_ w) (.one (.tup []) [.box [.own 3,.int .i64 room,.mapv 2,.int .i64 (VX_ [w] [n] l room (WX_ w e))],.dead,.map sq (.int .i64) (.int .i64) h,.row false (.int .u8) (VY_ [w] [n] l room (WX_ w e))]) (.one (.tup []) [.box [.own 1,.int .i64 room,.mapv 2,.int .i64 (WX_ w e)],.row false (.int .u8) l,.map sq (.int .i64) (.int .i64) h]))
 | _,_=>none
def Qb_:List AV->List Obj->Option (Prop × AV × List Obj)
 | [.ptr 0 0,.int .i64 w,.int .u64 n],[.box [.own 1,.int .i64 room,.mapv 2,.int .i64 e],.row false (.int .u8) l,.map sq (.int .i64) (.int .i64) h]=>some (0<=room/\room<=1000000/\l.length<=1000000,.tup [],[.box [.own 3,.int .i64 room,.mapv 2,.int .i64 (nmE w n l room e)],.dead,.map sq (.int .i64) (.int .i64) h,.row false (.int .u8) (nmB w n l room e)])
 | _,_=>none
theorem JP_:ze_ Tryz.prog 85 (RcF Kl_).sum:=by
 refine hn_ Tryz.func85 wN_ (zb_ (s:=RwF qL_) j7_ (zb_ (s:=RwF Zu_) qg_ (zd_ _))) fun args objs p v e=>?_
 unfold Kl_ at e
 split at e
 ·rename_i w n room e l sq h
  cases e
  refine ⟨rfl,fun hw ho hp=>?_⟩
  repeat'(intro t ht;first|(cases t<;>first|(cases ht;done)|(try simp only[zh_]at ht))|((first|refine za_ ht ?_|refine ht ?_ ?_|refine ht.1 ?_ ?_|refine ht ?_)<;>clear ht))
  all_goals first
   | exact True.intro
   | exact hp
   | (rw [Je_ (by assumption)];exact ⟨rfl,rfl⟩)
   | (rw [Jf_ (by assumption)];exact ⟨rfl,rfl⟩)
 ·cases e
theorem JR_:ze_ Tryz.prog 85 (RwF Qb_).sum:=by
 refine YP_ JP_ fun args objs p v o e=>?_
 unfold Qb_ at e
 split at e
 ·rename_i w n room e l sq h
  cases e
  cases hb:jx_ w with
  | true=>
    refine ⟨_,_,rfl,Je_ hb,.inl ?_⟩
    unfold nmE nmB WX_;rw [hb];rfl
  | false=>
    refine ⟨_,_,rfl,Jf_ hb,.inr ⟨0,1,[],[.int .i64 room,.mapv 2,.int .i64 (WX_ w e)],.int .u8,l,rfl,rfl,?_⟩⟩
    unfold nmE nmB WX_;rw [hb];rfl
 ·cases e
def w5_ (h:List (Int × Int)) (e:Int):Bool:=decide (e=0) && decide (h.length=0)
def Xz_ (l:List Int) (h:List (Int × Int)) (e:Int):List Int:=if w5_ h e=true then l else []
def XA_ (h:List (Int × Int)) (e:Int):Int:=if e=0 then (if h.length=0 then 0 else 10001) else e
def wq_:IR:=
(sq (kr [0] [oD 2 (.mov (.c (.imm (.int .u8) []))),
oD 3 (.mov (cI 0))])
(sq (.block 0
(sq (.reg [oM 5 0,
oC 6 33 [5],
oM 4 6])
(.cond 4
(sq (.reg [oD 2 (.mov (.c (.imm (.int .u8) []))),
oD 3 (.mov (cI 10001))])
.ret)
(sq (kr [0] [oM 8 0,
oD 9 (.nilck 8),
oA 10 3 9,
oL 11 10,
oB 12 .neq 11 (cI 0),
oM 7 12])
(.cond 7
(sq (kd [0] [(oM 13 0,[]),
(oD 14 (.nilck 13),[]),
(oA 15 3 14,[]),
(oL 16 15,[]),
(oD 2 (.mov (.c (.imm (.int .u8) []))),[0,0,0,0]),
(oM 3 16,[])])
.ret)
(sq (kr [0] [oM 18 0,
oD 19 (.nilck 18),
oA 20 2 19,
oL 21 20,
oD 22 (.mlen 21),
oB 23 .gtr 22 (cI 0),
oM 17 23])
(.cond 17
(sq (kr [] [oD 2 (.mov (.c (.imm (.int .u8) []))),
oD 3 (.mov (cI 10001))])
.ret)
.skip)))))))
(sq (kr [0] [oM 24 0,
oD 25 (.nilck 24),
oA 26 0 25,
oL 27 26,
oC 28 36 [27],
oM 2 28,
oD 3 (.mov (cI 0))])
.ret)))
def J3_:List RD:=[.tmp 2 true (some (.int .u8)),.tmp 3 true none]
theorem wf_:zl_ Tryz.prog Tryz.f14 wq_ J3_=true:=by kernel_rfl
def kW_:List AV->List Obj->Option (Prop × Res)
 | [.ptr 0 0],[.box [.own 1,.int .i64 room,.mapv 2,.int .i64 e],.row false (.int .u8) l,.map sq (.int .i64) (.int .i64) h]=>some (l.length<=140737488355328/\h.length<=140737488355328,.br (w5_ h e) (.one (.tup [.imm (.int .u8) l,.int .i64 0]) [.box [.own 1,.int .i64 room,.mapv 2,.int .i64 e],.row true (.int .u8) l,.map sq (.int .i64) (.int .i64) h]) (.one (.tup [.imm (.int .u8) [],.int .i64 (XA_ h e)]) [.box [.own 1,.int .i64 room,.mapv 2,.int .i64 e],.row false (.int .u8) l,.map sq (.int .i64) (.int .i64) h]))
 | _,_=>none
def z2_:List AV->List Obj->Option (Prop × AV × List Obj)
 | [.ptr 0 0],[.box [.own 1,.int .i64 room,.mapv 2,.int .i64 e],.row false (.int .u8) l,.map sq (.int .i64) (.int .i64) h]=>some (l.length<=140737488355328/\h.length<=140737488355328,.tup [.imm (.int .u8) (Xz_ l h e),.int .i64 (XA_ h e)],[.box [.own 1,.int .i64 room,.mapv 2,.int .i64 e],.dead,.map sq (.int .i64) (.int .i64) h])
 | _,_=>none
theorem jX_:ze_ Tryz.prog 14 (RcF kW_).sum:=by
 refine hn_ Tryz.func14 wf_ (zb_ (s:=RoF z1_) Zw_ (zb_ (s:=RoF Qn_) k1_ (zd_ _))) fun args objs p v e=>?_
 unfold kW_ at e
 split at e
 ·rename_i room e l sq h
  cases e
  change List (Int × Int) at h
  refine ⟨rfl,fun hw ho hp=>?_⟩
  repeat'(intro t ht;first|(cases t<;>first|(cases ht;done)|(try simp only[zh_]at ht))|((first|refine za_ ht ?_|refine ht ?_ ?_|refine ht.1 ?_ ?_|refine ht ?_)<;>clear ht))
  all_goals first
   | exact True.intro
   | exact hp.1
   | exact hp.2
   | (have hb:w5_ h e=true:=by unfold w5_;simp only [Bool.and_eq_true,decide_eq_true_eq];omega
      rw [Je_ hb];exact ⟨rfl,rfl⟩)
   | (have hb:w5_ h e=false:=by unfold w5_;simp only [Bool.and_eq_false_iff,decide_eq_false_iff_not];omega
      rw [Jf_ hb]
      unfold XA_
      first
       | (rw [if_neg (by assumption)];exact ⟨rfl,rfl⟩)
       | (have h0:e=0:=by assumption
          have h1:¬ h.length=0:=by omega
          rw [if_pos h0,if_neg h1];exact ⟨rfl,rfl⟩))
 ·cases e
theorem Zx_:ze_ Tryz.prog 14 (RwF z2_).sum:=by
 refine zdr_ jX_ fun args objs p v o e=>?_
 unfold z2_ at e
 split at e
 ·rename_i room e l sq h
  cases e
  change List (Int × Int) at h
  cases hb:w5_ h e with
  | true=>
    have h1:e=0:=by unfold w5_ at hb;simp_all
    have h2:h.length=0:=by unfold w5_ at hb;simp_all
    refine ⟨_,[.box [.own 1,.int .i64 room,.mapv 2,.int .i64 e],.row true (.int .u8) l,.map sq (.int .i64) (.int .i64) h],1,rfl,?_,by simp,rfl⟩
    rw [Je_ hb];unfold Xz_ XA_;rw [if_pos hb,if_pos h1,if_pos h2];rfl
  | false=>
    refine ⟨_,[.box [.own 1,.int .i64 room,.mapv 2,.int .i64 e],.row false (.int .u8) l,.map sq (.int .i64) (.int .i64) h],1,rfl,?_,by simp,rfl⟩
    rw [Jf_ hb];unfold Xz_;rw [hb];rfl
 ·cases e
end Go.Eng
