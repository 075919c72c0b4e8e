/- Parts of the proof: H4, Z1, F6, Z3, Z4, Z2, H5, H6, K1, H7, K3, K4, K5, K6. No condition. -/
import Derived.Test.YtimkdohmkfjfaaaGreatDoorProg
import Derived.Test.YtimkdohmkfjfaaaGreatDoorXI10
import Derived.KernelRfl
import Derived.Test.YtimkdohmkfjfaaaGreatDoorXI15
import Derived.Test.YtimkdohmkfjfaaaGreatDoorXI13
import Derived.Test.YtimkdohmkfjfaaaGreatDoorXI12
namespace Go.Eng
open Go.Proofs
set_option linter.unusedVariables false
set_option linter.unusedSimpArgs false
set_option maxRecDepth 100000
set_option maxHeartbeats 1000000
def smA (a b:AC):Bool:=XF_ a.1 a.2.1 a.2.2.1 a.2.2.2.1.1 a.2.2.2.1.2.1 a.2.2.2.1.2.2.1 a.2.2.2.1.2.2.2.1 a.2.2.2.1.2.2.2.2.1 a.2.2.2.1.2.2.2.2.2.1 a.2.2.2.2.1 b.1 b.2.1 b.2.2.1 b.2.2.2.1.1 b.2.2.2.1.2.1 b.2.2.2.1.2.2.1 b.2.2.2.1.2.2.2.1 b.2.2.2.1.2.2.2.2.1 b.2.2.2.1.2.2.2.2.2.1 b.2.2.2.2.1
theorem zbc_ {a b:AC} (h:smA a b=true):a=b:=by
 obtain ⟨a1,a2,a3,⟨a4,a5,a6,a7,a8,a9,_⟩,a10,_⟩:=a
 obtain ⟨b1,b2,b3,⟨b4,b5,b6,b7,b8,b9,_⟩,b10,_⟩:=b
 unfold smA XF_ Qw_ at h
 simp only [Bool.and_eq_true,decide_eq_true_eq,beq_iff_eq] at h
 obtain ⟨⟨⟨⟨h1,h2⟩,h3⟩,⟨⟨⟨⟨⟨h4,h5⟩,h7⟩,h6⟩,h8⟩,h9⟩⟩,h10⟩:=h
 rw [h1,h2,h3,h4,h5,h6,h7,h8,h9,h10]
theorem zbd_ {a b:AC} (h:smA a b=false):¬ a=b:=fun e=>by
 rw [e] at h;unfold smA at h;rw [GN_] at h;cases h
def gP_:IR:=
(sq (kr [0,1] [oD 4 (.mov cF)])
(sq (sq (kr [0,1] [oM 6 0,
oE 7 6,
oM 8 1,
oE 9 8,
oB 10 .neq 7 9])
(.cond 10
(sq (.reg [oD 4 (.mov cF)])
.ret)
.skip))
(sq (sq (kr [0,1] [oD 5 (.mov (cI 0))])
(.block 0
(.loop
(sq (sq (kr [0,1,5] [oM 11 5,
oM 12 0,
oE 13 12,
oB 14 .lss 11 13])
(.cond 14
.skip
(.exit 0)))
(sq (.block 1
(sq (kd [0,1,5] [(oM 17 0,[]),
(oM 18 5,[0]),
(oI 19 10 17 18,[]),
(oK 20 10 19,[]),
(oM 21 1,[0,0,0,0]),
(oM 22 5,[0,0,0,0,0]),
(oI 23 10 21 22,[2,0,0,0]),
(oK 24 10 23,[3,0,0,0]),
(oC 25 112 [20,24],[]),
(oD 26 (.un .not 25),[])])
(.cond 26
(sq (kr [] [oD 4 (.mov cF)])
.ret)
.skip)))
(kr [0,1,5] [oM 15 5,
oB 16 .add 15 (cI 1),
oM 5 16]))))))
(sq (kr [] [oD 4 (.mov cT)])
.ret))))
def U7_:List RD:=[.tmp 4 true none]
theorem gp_:zo_ Tryz.prog Tryz.f54 gP_ U7_=true:=by kernel_rfl
def Wh_:List AV->List Obj->Option (Prop × AV)
 | [.imm ty0 a,.imm ty1 b],[]=>Zw_ ty0 Y2 a fun a=>Zw_ ty1 Y2 b fun b=>some ((True,.bool (decide ((a:List AC)=b))))
 | _,_=>none
theorem ub_:ze_ Tryz.prog 54 (RoF Wh_).sum:=by
 refine zk_ Tryz.func54 gp_ (za_ (s:=RoF Wi_) uc_ (zf_ _)) fun args objs p v e=>?_
 unfold Wh_ at e
 split at e
 ·rename_i ty0 a ty1 b
  obtain rfl:=zz_ e
  replace e:=zA_ e
  obtain rfl:=zz_ e
  replace e:=zA_ e
  cases e
  refine ⟨rfl,fun hw ho hp=>?_⟩
  change List AC at a
  change List AC at b
  have hl:a.length<=maxLen:=(hw (.imm Y2 a) (by simp)).2
  unfold maxLen at hl
  clear hw ho
  repeat'(intro t ht;first|(cases t<;>first|(cases ht;done)|(try simp only[zh_]at ht))|((first|refine zb_ ht ?_|refine ht ?_ ?_|refine ht.1 ?_ ?_|refine ht ?_)<;>clear ht))
  all_goals first
   | (have hne:a ≠ b:=fun h=>(by assumption:¬ (a.length:Int)=b.length) (by rw [h])
      refine ⟨?_,rfl⟩;rw [decide_eq_false hne];done)
   | (intro r h1 h2;clear h1;refine h2 ⟨[],[0,1,5],Nat,(fun i=>i<=a.length/\a.take i=b.take i),fun i=>[.imm Y2 a,.imm Y2 b,.int .i64 i],fun _=>[],fun i=>a.length - i,⟨0,⟨Nat.zero_le _,rfl⟩,rfl,rfl⟩,?_⟩;clear h2)
  rintro i ⟨hi,he⟩
  have hl2:a.length=b.length:=by omega
  repeat'(intro t ht;first|(cases t<;>first|(cases ht;done)|(try simp only[zh_]at ht;try(exfalso;first|contradiction|omega)))|((first|refine zb_ ht ?_|refine ht ?_ ?_|refine ht.1 ?_ ?_|refine ht ?_)<;>clear ht))
  all_goals (try generalize (Ty.dflt Y2)=od at*)
  all_goals first
   | exact True.intro
   | ((try simp only [zl_,zp_,zm_] at*);omega)
   | (have e:=UL_ he (by omega) hl2
      refine ⟨?_,rfl⟩;rw [decide_eq_true e];done)
   | (have hs:smA (a.getD i od) (b.getD i od)=false:=by assumption
      have hne:a ≠ b:=br_ (d:=od) (i:=i) (zbd_ hs)
      refine ⟨?_,rfl⟩;rw [decide_eq_false hne];done)
   | (have hs:smA (a.getD i od) (b.getD i od)=true:=by assumption
      exact ⟨i+1,⟨by omega,yG_ he (by omega) hl2 (d:=od) (zbc_ hs)⟩,by (try simp only [zl_,zp_,zm_] at*);omega,rfl,rfl⟩)
 ·cases e
def ZH_:IR:=
(sq (kr [0,1,2] [oD 6 (.mov cF)])
(sq (sq (kr [0,1,2] [oM 10 0,
oE 11 10,
oM 12 1,
oE 13 12,
oB 14 .neq 11 13])
(.cond 14
(sq (.reg [oD 6 (.mov cF)])
.ret)
.skip))
(sq (sq (kr [0,1,2] [oM 15 0,
oE 16 15,
oD 17 (.mov (cI 0))])
(.block 0
(.loop
(sq (kr [1,2,15,16,17] [oB 18 .lss 17 16])
(sq (.cond 18
.skip
(.exit 0))
(sq (.block 1
(sq (kr [1,2,15,16,17] [oM 19 17,
oI 20 10 15 17,
oK 21 10 20,
oD 8 (.box [.int .i64 0,.int .u64 0,.int .u64 0,.int .i64 0,.int .i64 0,.kb false,.int .u64 0,.imm (.int .u8) [],.imm (.int .u8) [],.imm (.int .u8) []]),
oM 7 19,
oS 10 8 21])
(sq (kr [1,2,7,8,15,16,17] [oM 22 1,
oM 23 7,
oI 24 10 22 23,
oK 25 10 24,
oD 9 (.box [.int .i64 0,.int .u64 0,.int .u64 0,.int .i64 0,.int .i64 0,.kb false,.int .u64 0,.imm (.int .u8) [],.imm (.int .u8) [],.imm (.int .u8) []]),
oS 10 9 25])
(sq (kr [1,2,8,9,15,16,17] [oM 26 2,
oK 27 10 8,
oK 28 10 9,
oD 29 (.call false 26 [27,28]),
oD 30 (.un .not 29)])
(.cond 30
(sq (.reg [oD 6 (.mov cF)])
.ret)
.skip)))))
(kr [1,2,15,16,17] [oB 31 .add 17 (cI 1),
oM 17 31])))))))
(sq (kr [] [oD 6 (.mov cT)])
.ret))))
def ZF_:List RD:=[.tmp 6 true none]
theorem ZG_:zo_ Tryz.prog Tryz.f114 ZH_ ZF_=true:=by kernel_rfl
def zv_:List AV->List Obj->Option (Prop × AV)
 | [.imm ty0 a,.imm ty1 b,.fn 115 [] []],[]=>Zw_ ty0 Y2 a fun a=>Zw_ ty1 Y2 b fun b=>some ((True,.bool (decide ((a:List AC)=b))))
 | _,_=>none
theorem ZB_:ze_ Tryz.prog 114 (RoF zv_).sum:=by
 refine zk_ Tryz.func114 ZG_ (za_ (s:=RoF QZ_) jy_ (zf_ _)) fun args objs p v e=>?_
 unfold zv_ at e
 split at e
 ·rename_i ty0 a ty1 b
  obtain rfl:=zz_ e
  replace e:=zA_ e
  obtain rfl:=zz_ e
  replace e:=zA_ e
  cases e
  refine ⟨rfl,fun hw ho hp=>?_⟩
  change List AC at a
  change List AC at b
  have hl:a.length<=maxLen:=(hw (.imm Y2 a) (by simp)).2
  unfold maxLen at hl
  clear hw ho
  repeat'(intro t ht;first|(cases t<;>first|(cases ht;done)|(try simp only[zh_]at ht))|((first|refine zb_ ht ?_|refine ht ?_ ?_|refine ht.1 ?_ ?_|refine ht ?_)<;>clear ht))
  all_goals first
   | (have hne:a ≠ b:=fun h=>(by assumption:¬ (a.length:Int)=b.length) (by rw [h])
      refine ⟨?_,rfl⟩;rw [decide_eq_false hne];done)
   | (intro r h1 h2;clear h1;refine h2 ⟨[],[1,2,15,16,17],Nat,(fun i=>i<=a.length/\a.take i=b.take i),fun i=>[.imm Y2 b,.fn 115 [] [],.imm Y2 a,.int .i64 a.length,.int .i64 i],fun _=>[],fun i=>a.length - i,⟨0,⟨Nat.zero_le _,rfl⟩,rfl,rfl⟩,?_⟩;clear h2)
  rintro i ⟨hi,he⟩
  have hl2:a.length=b.length:=by omega
  repeat'(intro t ht;first|(cases t<;>first|(cases ht;done)|(try simp only[zh_]at ht;try(exfalso;first|contradiction|omega)))|((first|refine zb_ ht ?_|refine ht ?_ ?_|refine ht.1 ?_ ?_|refine ht ?_)<;>clear ht))
  all_goals (try generalize (Ty.dflt Y2)=od at*)
  all_goals first
   | exact True.intro
   | ((try simp only [zl_,zp_,zm_] at*);omega)
   | (have e:=UL_ he (by omega) hl2
      refine ⟨?_,rfl⟩;rw [decide_eq_true e];done)
   | (have hs:smA (a.getD i od) (b.getD i od)=false:=by assumption
      have hne:a ≠ b:=br_ (d:=od) (i:=i) (zbd_ hs)
      refine ⟨?_,rfl⟩;rw [decide_eq_false hne];done)
   | (have hs:smA (a.getD i od) (b.getD i od)=true:=by assumption
      exact ⟨i+1,⟨by omega,yG_ he (by omega) hl2 (d:=od) (zbc_ hs)⟩,by (try simp only [zl_,zp_,zm_] at*);omega,rfl,rfl⟩)
 ·cases e
def Ud_:IR:=
(sq (kr [0,1] [oD 4 (.mov cF)])
(sq (.reg [oM 5 0,
oM 6 1,
oC 7 114 [5,6,.f 115],
oM 4 7])
.ret))
def uC_:List RD:=[.tmp 4 true none]
theorem uR_:zo_ Tryz.prog Tryz.f59 Ud_ uC_=true:=by kernel_rfl
def J7_:List AV->List Obj->Option (Prop × AV)
 | [.imm ty0 a,.imm ty1 b],[]=>Zw_ ty0 Y2 a fun a=>Zw_ ty1 Y2 b fun b=>some ((True,.bool (decide ((a:List AC)=b))))
 | _,_=>none
theorem vu_:ze_ Tryz.prog 59 (RoF J7_).sum:=by
 refine zk_ Tryz.func59 uR_ (za_ (s:=RoF zv_) ZB_ (za_ (s:=RoF QZ_) jy_ (zf_ _))) fun args objs p v e=>?_
 unfold J7_ at e
 split at e
 ·rename_i ty0 a ty1 b
  obtain rfl:=zz_ e
  replace e:=zA_ e
  obtain rfl:=zz_ e
  replace e:=zA_ e
  cases e
  refine ⟨rfl,fun hw ho hp=>?_⟩
  repeat'(intro t ht;first|(cases t<;>first|(cases ht;done)|(try simp only[zh_]at ht;try(exfalso;first|contradiction|omega)))|((first|refine zb_ ht ?_|refine ht ?_ ?_|refine ht.1 ?_ ?_|refine ht ?_)<;>clear ht))
  all_goals first
   | exact True.intro
   | exact ⟨rfl,rfl⟩
   | exact rfl
 ·cases e
theorem HB_ {α:Type} {l:List α} {i:Nat} {d:α} (h:i < l.length):l.take i++[l.getD i d]=l.take (i+1):=by
 rw [List.take_succ_eq_append_getElem h,List.getD_eq_getElem?_getD,List.getElem?_eq_getElem h];rfl
end Go.Eng
namespace Go.Eng
open Go.Proofs
set_option linter.unusedVariables false
set_option linter.unusedSimpArgs false
set_option maxRecDepth 100000
set_option maxHeartbeats 1000000
set_option maxHeartbeats 8000000
end Go.Eng
namespace Go.Eng
open Go.Proofs
set_option linter.unusedVariables false
set_option linter.unusedSimpArgs false
set_option maxRecDepth 100000
set_option maxHeartbeats 1000000
def bysA (a:AC):Prop:=0<=a.2.2.2.1.2.2.2.1/\(∀ x ∈ a.2.2.2.1.2.2.2.2.1,0<=x/\x<=255)/\(∀ x ∈ a.2.2.2.1.2.2.2.2.2.1,0<=x/\x<=255)/\(∀ x ∈ a.2.2.2.2.1,0<=x/\x<=255)/\(0<=a.2.1/\a.2.1<=18446744073709551615)/\(0<=a.2.2.1/\a.2.2.1<=18446744073709551615)
theorem zcc_ {l:List AC} (h:Ty.wf (.sl Y2) l):∀ o ∈ l,bysA o:=fun o ho=>by
 obtain ⟨h1,h2,h3,⟨g1,g2,g3,g4,g5,g6,_⟩,h5,_⟩:=h.1 o ho
 have u8:∀ {v:List Int},Ty.wf (.sl (.int .u8)) v->∀ x ∈ v,0<=x/\x<=255:=fun {v} hv x hx=>by
  have:=hv.1 x hx;unfold Ty.wf inK at this;rw [zbJ_,zbK_] at this;exact this
 have u64:∀ {n:Int},Ty.wf (.int .u64) n->0<=n/\n<=18446744073709551615:=fun {n} hn=>by
  unfold Ty.wf inK at hn;rw [uX_,uY_] at hn;exact hn
 exact ⟨(u64 g4).1,u8 g5,u8 g6,u8 h5,u64 h2,u64 h3⟩
def atL (n:Int) (b:List Int) (p sh e:Int):List AC:=if qt_ n b p sh e=0 then adL (qO_ n b p sh e) else []
def atE (n:Int) (b:List Int) (p sh e:Int):Int:=if qt_ n b p sh e=0 then adE (qO_ n b p sh e) else qt_ n b p sh e
theorem HC_ {n:Int} {b:List Int} {p sh e:Int}:(qO_ n b p sh e).length<=b.length:=by
 unfold qO_;split
 ·rw [List.length_drop,List.length_take];omega
 ·simp
def Ub_:IR:=
(sq (kr [0,1] [oD 4 (.mov (.c (.imm Y2 [])))])
(sq (.reg [oM 8 0,
oM 9 1,
oC 10 88 [8,9],
oM 5 10])
(sq (sq (.reg [oM 11 0,
oC 12 53 [11],
oB 13 .neq 12 (cI 0)])
(.cond 13
(sq (kr [] [oD 4 (.mov (.c (.imm Y2 [])))])
.ret)
.skip))
(sq (kr [0,5] [oM 15 5,
oC 16 152 [15],
oM 14 16,
oX 17 14 0,
oX 18 14 1,
oM 6 17,
oM 7 18])
(sq (kr [0,6,7] [oM 19 0,
oM 20 7,
oC 21 110 [19,20]])
(sq (.reg [oM 22 6,
oM 4 22])
.ret))))))
def uA_:List RD:=[.tmp 4 true (some Y2)]
theorem uP_:zo_ Tryz.prog Tryz.f126 Ub_ uA_=true:=by kernel_rfl
def J6_:List AV->List Obj->Option (Prop × AV × List Obj)
 | [.ptr 0 0,.int .i64 n],[.box [.imm (.int .u8) b,.int .i64 p,.int .i64 sh,.int .i64 od,.int .i64 e,.bool true]]=>some ((0<=p/\p<=b.length/\b.length<=100000000/\sh ≠ 0,.imm Y2 (atL n b p sh e),[.box [.imm (.int .u8) b,.int .i64 (jv_ n b p sh e),.int .i64 sh,.int .i64 od,.int .i64 (atE n b p sh e),.bool true]]))
 | _,_=>none
theorem vt_:ze_ Tryz.prog 126 (RwF J6_).sum:=by
 refine qv_ Tryz.func126 uP_ (za_ (s:=RwF zO_) z3_ (za_ (s:=RoF zt_) zw_ (za_ (s:=RoF Kp_) X5_ (za_ (s:=RwF zB_) zF_ (zf_ _))))) fun args objs p v o e=>?_
 unfold J6_ at e
 split at e
 ·rename_i n b p sh od e
  cases e
  refine ⟨rfl,fun hw ho hp=>?_⟩
  change List Int at b
  clear hw ho
  obtain ⟨h1,h2,h3,h4⟩:=hp
  have hl:=HC_ (n:=n) (b:=b) (p:=p) (sh:=sh) (e:=e)
  by_cases he:qt_ n b p sh e=0
  ·have f0:∀ x,z0_ 0 x=x:=fun x=>if_pos rfl
   have k1:atL n b p sh e=adL (qO_ n b p sh e):=if_pos he
   have k2:atE n b p sh e=adE (qO_ n b p sh e):=if_pos he
   rw [k1,k2]
   clear k1 k2
   repeat'(intro t ht;first|(cases t<;>first|(cases ht;done)|(try simp only[zh_]at ht))|((first|refine zb_ ht ?_|refine ht ?_ ?_|refine ht.1 ?_ ?_|refine ht ?_)<;>clear ht))
   all_goals (try simp only [he,f0] at*)
   all_goals first
    | exact True.intro
    | contradiction
    | exact ⟨h1,h2,by omega,h4⟩
    | omega
    | exact ⟨rfl,by first | rfl | exact True.intro⟩
    | exact ⟨True.intro,True.intro⟩
    | (exfalso;simp_all;done)
  ·repeat'(intro t ht;first|(cases t<;>first|(cases ht;done)|(try simp only[zh_]at ht;try(exfalso;first|contradiction|omega)))|((first|refine zb_ ht ?_|refine ht ?_ ?_|refine ht.1 ?_ ?_|refine ht ?_)<;>clear ht))
   all_goals first
    | exact True.intro
    | exact ⟨h1,h2,by omega,h4⟩
    | (unfold atL atE;rw [if_neg he,if_neg he];exact ⟨rfl,by first | rfl | exact True.intro⟩)
    | (exfalso;simp_all;done)
 ·cases e
abbrev BK:=Int × Int × Int × List AC × Unit
instance:DecidableEq (List AC × Unit):=inferInstance
instance:DecidableEq BK:=inferInstance
def w5:List Int:=[2,2,4,4,-4]
def bkN (x:BK):List Int:=[16+szL x.2.2.2.1,x.1,x.2.1,x.2.2.1]
structure okB (l:List BK):Prop where
 a:∀ o ∈ l,okL o.2.2.2.1
 n:l.length<=1000000
def bpB (x:BK) (l:List Int) (room e:Int):List Int:=if rgL x.2.2.2.1=true then apB x.2.2.2.1 (Jk_ w5 (bkN x) l room e) room (KC_ w5 (bkN x) l room e) else l
def bpE (x:BK) (l:List Int) (room e:Int):Int:=if rgL x.2.2.2.1=true then apE x.2.2.2.1 (Jk_ w5 (bkN x) l room e) room (KC_ w5 (bkN x) l room e) else z0_ e 10001
theorem hT_ {α:Type} {x:α->List Int} {f:α->Int} {room:Int} (hr:room<=1000000):∀ (r:List α) (l:List Int) (e:Int),l.length<=1000000->(wrS x f room r l e).1.length<=1000000
 | [],l,e,h=>h
 | o :: r,l,e,h=>hT_ hr r _ _ (xc_ h hr)
theorem zaV_ {x:BK} {l:List Int} {room e:Int} (h:l.length<=1000000) (hr:room<=1000000):(bpB x l room e).length<=1000000:=by
 unfold bpB apB;split
 ·exact hT_ hr _ _ _ (UZ_ h hr)
 ·exact h
def Ve_:IR:=
(sq (kr [0,1] [oD 3 (.boxv 1)])
(sq (sq (.reg [oA 5 3 3,
oL 6 5,
oC 7 102 [6],
oD 8 (.un .not 7)])
(.cond 8
(sq (.reg [oM 9 0,
oC 10 103 [9,(cI 10001)]])
.ret)
.skip))
(sq (kr [0,3] [oD 4 (.mov (.f 104))])
(sq (kd [0,3,4] [(oM 11 0,[]),
(oD 12 (.sliceAll (.int .i64) 5 [(0,1,(cI 2)),(1,1,(cI 2)),(2,1,(cI 4)),(3,1,(cI 4)),(4,1,(cI (-4)))]),[0]),
(oM 13 4,[0,0]),
(oA 14 3 3,[0,0,0]),
(oL 15 14,[1,0,0]),
(oD 16 (.call false 13 [15]),[3,0]),
(oB 17 .add (cI 16) 16,[4,0]),
(oD 18 (.conv .u64 17),[5,0]),
(oA 19 0 3,[0,0,0,0,0,0,0,0]),
(oL 20 19,[1,0,0,0,0,0,0,0]),
(oA 21 1 3,[0,0,0,0,0,0,0,0,0,0]),
(oL 22 21,[1,0,0,0,0,0,0,0,0,0]),
(oA 23 2 3,[0,0,0,0,0,0,0,0,0,0,0,0]),
(oL 24 23,[1,0,0,0,0,0,0,0,0,0,0,0]),
(oD 25 (.sliceAll (.int .u64) 4 [(0,1,18),(1,1,20),(2,1,22),(3,1,24)]),[12,0]),
(oC 26 105 [11,12,25],[])])
(kr [0,3] [oM 27 0,
oA 28 3 3,
oL 29 28,
oC 30 106 [27,29]])))))
def vJ_:List RD:=[]
theorem vY_:zo_ Tryz.prog Tryz.f49 Ve_ vJ_=true:=by kernel_rfl
def xh_:List AV->List Obj->Option (Prop × Res)
 | [.ptr 0 0,.agg [.int .u64 w,.int .u64 q,.int .u64 g,.imm (.cons (.int .i64) (.cons (.int .u64) (.cons (.int .u64) (.cons (.cons (.int .i64) (.cons (.int .i64) (.cons .bool (.cons (.int .u64) (.cons (.sl (.int .u8)) (.cons (.sl (.int .u8)) .nil)))))) (.cons (.sl (.int .u8)) .nil))))) a]],[.box [.own 1,.int .i64 room,.mapv 2,.int .i64 e],.row false (.int .u8) l,.map sq (.int .i64) (.int .i64) h]=>some (okL a/\0<=room/\room<=1000000/\l.length<=1000000,.br (rgL a) (.one (.tup []) [.box [.own 3,.int .i64 room,.mapv 2,.int .i64 (bpE (w,q,g,a,()) l room e)],.dead,.map sq (.int .i64) (.int .i64) h,.row false (.int .u8) (bpB (w,q,g,a,()) l room e)]) (.one (.tup []) [.box [.own 1,.int .i64 room,.mapv 2,.int .i64 (z0_ e 10001)],.row false (.int .u8) l,.map sq (.int .i64) (.int .i64) h]))
 | _,_=>none
def js_:List AV->List Obj->Option (Prop × AV × List Obj)
 | [.ptr 0 0,.agg [.int .u64 w,.int .u64 q,.int .u64 g,.imm (.cons (.int .i64) (.cons (.int .u64) (.cons (.int .u64) (.cons (.cons (.int .i64) (.cons (.int .i64) (.cons .bool (.cons (.int .u64) (.cons (.sl (.int .u8)) (.cons (.sl (.int .u8)) .nil)))))) (.cons (.sl (.int .u8)) .nil))))) a]],[.box [.own 1,.int .i64 room,.mapv 2,.int .i64 e],.row false (.int .u8) l,.map sq (.int .i64) (.int .i64) h]=>some (okL a/\0<=room/\room<=1000000/\l.length<=1000000,.tup [],[.box [.own 3,.int .i64 room,.mapv 2,.int .i64 (bpE (w,q,g,a,()) l room e)],.dead,.map sq (.int .i64) (.int .i64) h,.row false (.int .u8) (bpB (w,q,g,a,()) l room e)])
 | _,_=>none
theorem yE_:ze_ Tryz.prog 49 (RcF xh_).sum:=by
 refine Vv_ Tryz.func49 vY_ (za_ (s:=RoF kE_) Jj_ (za_ (s:=RwF zE_) zX_ (za_ (s:=RoF Kd_) wG_ (za_ (s:=RwF Zk_) ZO_ (za_ (s:=RwF Wo_) ui_ (zf_ _)))))) fun args objs p v e=>?_
 unfold xh_ at e
 split at e
 ·rename_i w q g a room e l sq h
  cases e
  change List Int at l
  change List AC at a
  refine ⟨rfl,fun hw' ho hp=>?_⟩
  clear hw' ho
  obtain ⟨hok,hp1,hp2,hp3⟩:=hp
  have hok':=hok
  have hl1:(Jk_ [2,2,4,4,-4] [16+szL a,w,q,g] l room e).length<=1000000:=UZ_ hp3 hp2
  have hsz:0<=szL a/\szL a<=65528:=by
   cases hr:rgL a with
   | true=>have:=QA_ hr;omega
   | false=>rw [zbu_ hr];decide
  cases hr:rgL a with
  | false=>
    repeat'(intro t ht;first|(cases t<;>first|(cases ht;done)|(try simp only[zh_]at ht;try(exfalso;first|contradiction|omega)))|((first|refine zb_ ht ?_|refine ht ?_ ?_|refine ht.1 ?_ ?_|refine ht ?_)<;>clear ht))
    all_goals first
     | exact True.intro
     | exact hok'
     | (exfalso;simp_all;done)
     | exact ⟨rfl,rfl⟩
  | true=>
    have q1:bpE (w,q,g,a,()) l room e=apE a (Jk_ [2,2,4,4,-4] [16+szL a,w,q,g] l room e) room (KC_ [2,2,4,4,-4] [16+szL a,w,q,g] l room e):=if_pos hr
    have q2:bpB (w,q,g,a,()) l room e=apB a (Jk_ [2,2,4,4,-4] [16+szL a,w,q,g] l room e) room (KC_ [2,2,4,4,-4] [16+szL a,w,q,g] l room e):=if_pos hr
    rw [q1,q2]
    repeat'(intro t ht;first|(cases t<;>first|(cases ht;done)|(try simp only[zh_]at ht;try(exfalso;first|contradiction|omega)))|((first|refine zb_ ht ?_|refine ht ?_ ?_|refine ht.1 ?_ ?_|refine ht ?_)<;>clear ht))
    all_goals first
     | exact True.intro
     | exact hok'
     | (exfalso;simp_all;done)
     | ((try simp only [zl_,zp_,zm_] at*);omega)
     | exact ⟨hp1,hp2,hp3⟩
     | exact ⟨hok',hp1,hp2,hl1⟩
     | exact ⟨rfl,rfl⟩
 ·cases e
theorem yU_:ze_ Tryz.prog 49 (RwF js_).sum:=by
 refine WK_ yE_ fun args objs p v o e=>?_
 unfold js_ at e
 split at e
 ·rename_i w q g a room e l sq h
  cases e
  cases hb:rgL a with
  | true=>exact ⟨_,_,rfl,Kh_ hb,.inl rfl⟩
  | false=>
    refine ⟨_,_,rfl,Ki_ hb,.inr ⟨0,1,[],[.int .i64 room,.mapv 2,.int .i64 (z0_ e 10001)],.int .u8,l,rfl,rfl,?_⟩⟩
    unfold bpE bpB;rw [if_neg (show ¬ rgL (w,q,g,a,()).2.2.2.1=true by rw [show (w,q,g,a,()).2.2.2.1=a from rfl,hb];decide),if_neg (show ¬ rgL (w,q,g,a,()).2.2.2.1=true by rw [show (w,q,g,a,()).2.2.2.1=a from rfl,hb];decide)];rfl
 ·cases e
def bkS:List BK->List Int->Int->List Int × Int
 | [],l,e=>(l,e)
 | x :: r,l,e=>bkS r (bpB x l 65528 e) (bpE x l 65528 e)
theorem BT_ {l:List BK} {i:Nat} {d:BK} {b:List Int} {e:Int} (h:i < l.length):bkS (l.drop i) b e=bkS (l.drop (i+1)) (bpB (l.getD i d) b 65528 e) (bpE (l.getD i d) b 65528 e):=by
 rw [zK_ h d];rfl
def bkL (l:List BK):List Int:=if (bkS l [] 0).2=0 then (bkS l [] 0).1 else []
def bkE (l:List BK):Int:=if (bkS l [] 0).2=0 then 0 else 10001
def bbF (x:BK):Option (List Int):=if rgL x.2.2.2.1=true/\Qd_ w5 (bkN x)=true then some (ZD_ w5 (bkN x)++boA x.2.2.2.1) else none
theorem wm_ {e x:Int} (h:e ≠ 0):z0_ e x ≠ 0:=by unfold z0_;rw [if_neg h];exact h
theorem Hl_ {x l:List Int} {room e:Int} (h:e ≠ 0):KM_ x l room e ≠ 0:=by unfold KM_;rw [if_neg h];exact h
theorem zal_ {w xs l:List Int} {room e:Int} (h:e ≠ 0):KC_ w xs l room e ≠ 0:=by
 unfold KC_;split
 ·exact Hl_ h
 ·exact wm_ h
theorem GC_ {α:Type} {x:α->List Int} {f:α->Int} {room:Int}:∀ (r:List α) (l:List Int) (e:Int),e ≠ 0->(wrS x f room r l e).2 ≠ 0
 | [],l,e,h=>h
 | o :: r,l,e,h=>GC_ r _ _ (Hl_ (wm_ h))
theorem hI_ {x:List AC} {l:List Int} {room e:Int} (h:e ≠ 0):apE x l room e ≠ 0:=by
 unfold apE;split
 ·exact GC_ _ _ _ h
 ·exact wm_ h
theorem zb4_ {x:BK} {l:List Int} {room e:Int} (h:e ≠ 0):bpE x l room e ≠ 0:=by
 unfold bpE;split
 ·exact hI_ (zal_ h)
 ·exact wm_ h
theorem Gk_ {x l:List Int} {room:Int} (h:¬ (x.length:Int)<=room - l.length):KM_ x l room 0 ≠ 0:=by
 unfold KM_;rw [if_pos rfl,if_neg h];decide
theorem UJ_ {room:Int}:∀ (r:List AC) (l:List Int),r.all rgA=true->(l.length:Int)<=room->¬ ((l.length:Int)+(boA r).length<=room)->(wrS exA eeA room r l 0).2 ≠ 0
 | [],l,_,h0,h1=>by exfalso;apply h1;show (l.length:Int)+0<=room;omega
 | o :: r,l,h,h0,h1=>by
   rw [List.all_cons,Bool.and_eq_true] at h
   obtain ⟨h2,h3⟩:=zbk_ h.1
   rw [kS_,List.length_append] at h1
   have f0:z0_ 0 0=0:=rfl
   unfold wrS
   rw [h2,h3,f0]
   by_cases hf:((ebA o).length:Int)<=room - l.length
   ·obtain ⟨b1,b2⟩:=Xi_ hf
    rw [b1,b2]
    exact UJ_ r _ h.2 (by rw [List.length_append];omega) (by rw [List.length_append];omega)
   ·exact GC_ _ _ _ (Gk_ hf)
theorem zcD_ {x:BK} {y l:List Int} (h:bbF x=some y) (hl:l.length+y.length<=65528):bpB x l 65528 0=l++y/\bpE x l 65528 0=0:=by
 unfold bbF at h
 split at h
 ·rename_i hk
  cases h
  rw [List.length_append] at hl
  obtain ⟨r1,r2⟩:=yY_ (l:=l) (room:=65528) hk.2 (by omega)
  obtain ⟨a1,a2⟩:=zcN_ (x:=x.2.2.2.1) (l:=l++ZD_ w5 (bkN x)) (room:=65528) hk.1 (by rw [List.length_append];omega)
  unfold bpB bpE
  rw [if_pos hk.1,if_pos hk.1,r1,r2,a1,a2,List.append_assoc];exact ⟨rfl,rfl⟩
 ·cases h
theorem zcE_ {x:BK} {l:List Int} (h:bbF x=none):bpE x l 65528 0 ≠ 0:=by
 unfold bbF at h
 split at h
 ·cases h
 ·rename_i hk
  unfold bpE
  by_cases h1:rgL x.2.2.2.1=true
  ·rw [if_pos h1]
   have h2:Qd_ w5 (bkN x)=false:=by
    cases hp:Qd_ w5 (bkN x) with
    | false=>rfl
    | true=>exact absurd ⟨h1,hp⟩ hk
   have:KC_ w5 (bkN x) l 65528 0=10001:=by unfold KC_;rw [h2];rfl
   rw [this];exact hI_ (by decide)
  ·rw [if_neg h1];decide
theorem zaU_ {x:BK} {y l:List Int} (h:bbF x=some y) (h0:l.length<=65528) (hl:¬ l.length+y.length<=65528):bpE x l 65528 0 ≠ 0:=by
 unfold bbF at h
 split at h
 ·rename_i hk
  cases h
  rw [List.length_append] at hl
  unfold bpE
  rw [if_pos hk.1]
  by_cases hf:((ZD_ w5 (bkN x)).length:Int)<=65528 - l.length
  ·obtain ⟨r1,r2⟩:=yY_ (l:=l) (room:=65528) hk.2 hf
   rw [r1,r2]
   unfold apE
   rw [if_pos hk.1]
   exact UJ_ _ _ (QA_ hk.1).1 (by rw [List.length_append];omega) (by rw [List.length_append];omega)
  ·have:KC_ w5 (bkN x) l 65528 0 ≠ 0:=by
    unfold KC_;rw [if_pos hk.2];exact Gk_ hf
   exact hI_ this
 ·cases h
theorem hF_:∀ (r:List BK) (l:List Int) (e:Int),e ≠ 0->(bkS r l e).2 ≠ 0
 | [],l,e,h=>h
 | x :: r,l,e,h=>hF_ r _ _ (zb4_ h)
def bbA:List BK->List Int->Option (List Int)
 | [],o=>some o
 | x :: r,o=>match bbF x with
   | some y=>bbA r (o++y)
   | none=>none
theorem Ho_:∀ (l:List BK) (o r:List Int),bbA l o=some r->∃ t,r=o++t
 | [],o,r,h=>by cases h;exact ⟨[],by rw [List.append_nil]⟩
 | x :: l,o,r,h=>by
   unfold bbA at h
   split at h
   ·rename_i y hy
    obtain ⟨t,ht⟩:=Ho_ l _ _ h
    exact ⟨y++t,by rw [ht,List.append_assoc]⟩
   ·cases h
theorem Hm_:∀ (l:List BK) (o:List Int),o.length<=65528->(match bbA l o with | some r=>if r.length<=65528 then bkS l o 0=(r,0) else (bkS l o 0).2 ≠ 0 | none=>(bkS l o 0).2 ≠ 0)
 | [],o,h=>by simp [bbA,bkS,h]
 | x :: l,o,h=>by
   unfold bbA bkS
   cases hb:bbF x with
   | none=>simp only [];exact hF_ _ _ _ (zcE_ hb)
   | some y=>
     simp only []
     by_cases hl:o.length+y.length<=65528
     ·obtain ⟨b1,b2⟩:=zcD_ hb hl
      rw [b1,b2]
      exact Hm_ l (o++y) (by rw [List.length_append];omega)
     ·have hne:=hF_ l (bpB x o 65528 0) _ (zaU_ hb h hl)
      split
      ·rename_i r hr
       obtain ⟨t,ht⟩:=Ho_ l _ _ hr
       rw [if_neg (by rw [ht];simp only [List.length_append];omega)]
       exact hne
      ·exact hne
def rbO (l:List BK):Option (List Int):=match bbA l [] with
 | some r=>if r.length<=65528 then some r else none
 | none=>none
theorem BR_ (l:List BK):bkL l=(rbO l).getD []/\bkE l=(match rbO l with | some _=>0 | none=>10001):=by
 have h:=Hm_ l [] (Nat.zero_le _)
 unfold rbO bkL bkE
 cases hb:bbA l [] with
 | none=>
   rw [hb] at h
   simp only [] at h ⊢
   rw [if_neg h,if_neg h];exact ⟨rfl,rfl⟩
 | some r=>
   rw [hb] at h
   simp only [] at h ⊢
   by_cases hr:r.length<=65528
   ·rw [if_pos hr] at h ⊢
    rw [h];exact ⟨rfl,rfl⟩
   ·rw [if_neg hr] at h ⊢
    rw [if_neg h,if_neg h];exact ⟨rfl,rfl⟩
def bysU (a:AC):Prop:=0<=a.2.2.2.1.2.2.2.1/\(0<=a.2.1/\a.2.1<=18446744073709551615)/\(0<=a.2.2.1/\a.2.2.1<=18446744073709551615)
theorem zbo_ {a:AC} {rest:List Int} (hr:rgA a=true) (hu:bysU a):acE (ebA a++rest)=0/\vA (ebA a++rest)=a/\tN (ebA a++rest)=(ebA a).length:=by
 obtain ⟨E1,E2,E3,E4,E5,E6,E7,E8,E9,E10,E11,E12⟩:=zcf_ (rest:=rest) (show ZQ_ (zI_ a.2.2.2.1.1 a.2.2.2.1.2.1 a.2.2.2.1.2.2.1 a.2.2.2.1.2.2.2.1 a.2.2.2.1.2.2.2.2.1 a.2.2.2.1.2.2.2.2.2.1) a.1 a.2.1 a.2.2.1 a.2.2.2.1.1 a.2.2.2.1.2.1 a.2.2.2.1.2.2.1 a.2.2.2.1.2.2.2.1 a.2.2.2.1.2.2.2.2.1 a.2.2.2.1.2.2.2.2.2.1 a.2.2.2.2.1=true from hr) hu.2.1 hu.2.2 hu.1
 have hs:=yH_ hr
 have e:szA a=4+((ZT_ a.1 a.2.1 a.2.2.1 (Zq_ a.2.2.2.1.1 a.2.2.2.1.2.1 a.2.2.2.1.2.2.1 a.2.2.2.1.2.2.2.1 a.2.2.2.1.2.2.2.2.1 a.2.2.2.1.2.2.2.2.2.1) a.2.2.2.2.1).length:Int):=(wd_ hr).1
 refine ⟨E1,?_,?_⟩
 ·show (tT _,acA _ 0,acA _ 1,(acS _ _,acS _ _,acH _,acS _ _,acV _ _,acV _ _,()),acD _,())=a
  unfold ebA
  rw [E2,E4,E5,E6,E7,E8,E9,E10,E11,E12]
 ·unfold ebA at hs ⊢
  rw [E3];omega
theorem Hq_:∀ (r acc:List AC),r.all rgA=true->(∀ a ∈ r,bysU a)->acc.length+r.length<=64->alG acc (boA r)=(acc++r,0)
 | [],acc,_,_,_=>by rw [ws_ (by rfl),List.append_nil]
 | a :: r,acc,h,hu,hl=>by
   rw [List.all_cons,Bool.and_eq_true] at h
   obtain ⟨e1,e2,e3⟩:=zbo_ (rest:=boA r) h.1 (hu a (List.mem_cons_self ..))
   have hs:=yH_ h.1
   rw [List.length_cons] at hl
   have ha:acc++a :: r=(acc++[a])++r:=by rw [List.append_assoc];rfl
   rw [kS_,Uv_ (by rw [List.length_append];omega) (by omega) e1 (by rw [e3];omega),e2,e3,Int.toNat_natCast,List.drop_left]
   rw [Hq_ r (acc++[a]) h.2 (fun o ho=>hu o (List.mem_cons_of_mem _ ho)) (by rw [List.length_append,List.length_singleton];omega),<- ha]
theorem Hr_:∀ (n:Nat) (y:List Int) (acc l:List AC),y.length<=n->(∀ x ∈ y,0<=x/\x<=255)->acc.length<=64->alG acc y=(l,0)->∃ r,l=acc++r/\r.all rgA=true/\boA r=y/\l.length<=64
 | 0,y,acc,l,hn,hb,ha,h=>by
   rw [ws_ (by omega)] at h
   cases h
   refine ⟨[],by rw [List.append_nil],rfl,?_,ha⟩
   rw [List.eq_nil_of_length_eq_zero (show y.length=0 by omega)];rfl
 | n+1,y,acc,l,hn,hb,ha,h=>by
   by_cases h0:y.length=0
   ·rw [ws_ h0] at h
    cases h
    refine ⟨[],by rw [List.append_nil],rfl,?_,ha⟩
    rw [List.eq_nil_of_length_eq_zero h0];rfl
   ·by_cases h1:acc.length=64
    ·rw [Gr_ h0 h1] at h
     exact absurd (congrArg Prod.snd h) (show ¬ (520:Int)=0 by decide)
    ·by_cases h2:acE y=0
     ·obtain ⟨g1,g2,_⟩:=hM_ h2
      rw [Uv_ h0 h1 h2 (by omega)] at h
      obtain ⟨r,e1,e2,e3,e4⟩:=Hr_ n (y.drop (tN y).toNat) (acc++[vA y]) l (by rw [List.length_drop];omega) (fun x hx=>hb x (List.mem_of_mem_drop hx)) (by rw [List.length_append,List.length_singleton];omega) h
      obtain ⟨f1,f2,_,_⟩:=zcg_ hb h2
      refine ⟨vA y :: r,?_,?_,?_,e4⟩
      ·rw [e1,List.append_assoc];rfl
      ·rw [List.all_cons,e2,Bool.and_true];exact f1
      ·rw [kS_,e3]
       have:ebA (vA y)=y.take (tN y).toNat:=f2
       rw [this,List.take_append_drop]
     ·rw [Uw_ h0 h1 h2] at h
      exact absurd (congrArg Prod.snd h) h2
theorem zca_ {l:List AC} (h:rgL l=true) (hu:∀ a ∈ l,bysU a):adL (boA l)=l/\adE (boA l)=0:=by
 obtain ⟨h1,h2,h3,_⟩:=QA_ h
 have hg:=Hq_ l [] h1 hu (by simpa using h2)
 rw [List.nil_append] at hg
 exact (Xm_ hg).2 (by omega)
theorem zcb_ {b:List Int} (hb:∀ x ∈ b,0<=x/\x<=255) (h:adE b=0):rgL (adL b)=true/\boA (adL b)=b/\b.length<=65528:=by
 have h1:(alG [] b).2=0:=Classical.byContradiction fun hn=>by
  unfold adE at h;rw [if_pos hn] at h;exact hn h
 have h2:¬ 65528 < b.length:=fun hl=>by
  unfold adE at h;rw [if_neg (not_not_intro h1),if_pos hl] at h;cases h
 have hL:adL b=(alG [] b).1:=if_pos h
 obtain ⟨r,e1,e2,e3,e4⟩:=Hr_ b.length b [] (alG [] b).1 (Nat.le_refl _) hb (Nat.zero_le _) (Prod.ext rfl h1)
 rw [List.nil_append] at e1
 rw [hL]
 rw [<- e1] at e2 e3
 exact ⟨zbz_ e2 e4 (by rw [e3];omega),e3,by omega⟩
theorem get5 {y:List Int} (h:16<=y.length):qM_ w5 y=if ZA_ ((y.drop 12).take 4)=true then ([zM_ (y.take 2),zM_ ((y.drop 2).take 2),zM_ ((y.drop 4).take 4),zM_ ((y.drop 8).take 4)],0) else ([],2):=by
 have hr:ZJ_ w5=true:=by decide
 unfold qM_
 rw [if_pos hr]
 have a4:zu_ 4=4:=by decide
 have a4':zu_ (-4)=4:=by decide
 have a2:zu_ 2=2:=by decide
 have t2:Int.toNat 2=2:=rfl
 have t4:Int.toNat 4=4:=rfl
 have p2:(0:Int) < 2:=by decide
 have p4:(0:Int) < 4:=by decide
 have n4:¬ (0:Int) < -4:=by decide
 unfold w5
 simp only [ZZ_,a4,a4',a2,t2,t4,if_pos p2,if_pos p4,if_neg n4,List.length_drop,List.drop_drop]
 rw [if_neg (by omega),if_neg (by omega),if_neg (by omega),if_neg (by omega),if_neg (by omega)]
 rfl
def btN (y:List Int):Int:=zM_ (y.take 2)
def btK (y:List Int):Bool:=decide (16<=y.length) && ZA_ ((y.drop 12).take 4) && decide (16<=btN y) && decide ((btN y).tmod 8=0) && decide (btN y<=y.length)
def btA (y:List Int):List Int:=(y.take (btN y).toNat).drop 16
def btE (y:List Int):Int:=if btK y=true then adE (btA y) else 1549
def btV (y:List Int):BK:=if btK y=true then (zM_ ((y.drop 2).take 2),zM_ ((y.drop 4).take 4),zM_ ((y.drop 8).take 4),adL (btA y),()) else (0,0,0,[],())
def btP (y:List Int):Int:=if btK y=true then btN y else if 16<=y.length then 16 else y.length
theorem QG_ {y:List Int} (h:btK y=true):16<=y.length/\ZA_ ((y.drop 12).take 4)=true/\16<=btN y/\(btN y).tmod 8=0/\btN y<=y.length:=by
 unfold btK at h
 simp only [Bool.and_eq_true,decide_eq_true_eq] at h
 exact ⟨h.1.1.1.1,h.1.1.1.2,h.1.1.2,h.1.2,h.2⟩
theorem VS_ {y:List Int} (h:btE y=0):btK y=true:=by
 cases hk:btK y with
 | true=>rfl
 | false=>unfold btE at h;rw [hk] at h;cases h
def bG (y:List Int):List BK × Int × Int:=
 if y.length=0 then ([],0,0) else if btE y=0 then (btV y :: (bG (y.drop (max 1 (btN y).toNat))).1,(bG (y.drop (max 1 (btN y).toNat))).2.1,btN y+(bG (y.drop (max 1 (btN y).toNat))).2.2) else ([],btE y,btP y)
termination_by y.length
decreasing_by all_goals (rw [List.length_drop];omega)
theorem Ur_ {y:List Int} (h:y.length=0):bG y=([],0,0):=by rw [bG,if_pos h]
theorem Hp_ {y:List Int} (h:¬ y.length=0) (h1:btE y=0):bG y=(btV y :: (bG (y.drop (btN y).toNat)).1,(bG (y.drop (btN y).toNat)).2.1,btN y+(bG (y.drop (btN y).toNat)).2.2):=by
 have hk:=QG_ (VS_ h1)
 rw [bG,if_neg h,if_pos h1,show max 1 (btN y).toNat=(btN y).toNat by omega]
theorem Us_ {y:List Int} (h:¬ y.length=0) (h1:¬ btE y=0):bG y=([],btE y,btP y):=by rw [bG,if_neg h,if_neg h1]
def bdE (y:List Int):Int:=if ¬ (bG y).2.1=0 then (bG y).2.1 else if 65528 < y.length then 1549 else 0
def bdL (y:List Int):List BK:=if bdE y=0 then (bG y).1 else []
theorem zcp_ {x:BK} (h:Qd_ w5 (bkN x)=true) (h0:0<=szL x.2.2.2.1/\szL x.2.2.2.1<=65528) (hx:(0<=x.1/\x.1<=18446744073709551615)/\(0<=x.2.1/\x.2.1<=18446744073709551615)/\(0<=x.2.2.1/\x.2.2.1<=18446744073709551615)) (r:List Int):qM_ w5 (ZD_ w5 (bkN x)++r)=(bkN x,0)/\(ZD_ w5 (bkN x)).length=16:=by
 have hn64:∀ z ∈ bkN x,0<=z/\z<=18446744073709551615:=fun z hz=>by
  unfold bkN at hz
  simp only [List.mem_cons,List.not_mem_nil,or_false] at hz
  rcases hz with rfl | rfl | rfl | rfl
  ·omega
  ·exact hx.1
  ·exact hx.2.1
  ·exact hx.2.2
 obtain ⟨g1,_⟩:=Vy_ r hn64 h
 have hs:=wf_ h
 have e:zY_ w5=16:=by decide
 rw [e] at hs
 exact ⟨g1,by omega⟩
theorem zb2_ {x:BK} {y r:List Int} (h:bbF x=some y) (hx:(0<=x.1/\x.1<=18446744073709551615)/\(0<=x.2.1/\x.2.1<=18446744073709551615)/\(0<=x.2.2.1/\x.2.2.1<=18446744073709551615)) (hd:adL (boA x.2.2.2.1)=x.2.2.2.1/\adE (boA x.2.2.2.1)=0):btE (y++r)=0/\btV (y++r)=x/\btN (y++r)=y.length/\16<=y.length:=by
 unfold bbF at h
 split at h
 case isFalse=>cases h
 rename_i hk
 cases h
 obtain ⟨p1,p2,p3,p4⟩:=QA_ hk.1
 obtain ⟨b1,b2⟩:=yz_ x.2.2.2.1 p1
 obtain ⟨g1,g2⟩:=zcp_ hk.2 (by omega) hx (boA x.2.2.2.1++r)
 have hl:(ZD_ w5 (bkN x)++boA x.2.2.2.1++r).length=16+(boA x.2.2.2.1).length+r.length:=by simp only [List.length_append];omega
 rw [<- List.append_assoc] at g1
 have h5:=get5 (y:=ZD_ w5 (bkN x)++boA x.2.2.2.1++r) (by omega)
 rw [g1] at h5
 cases hz:ZA_ (((ZD_ w5 (bkN x)++boA x.2.2.2.1++r).drop 12).take 4) with
 | false=>rw [hz] at h5;exact absurd (congrArg Prod.snd h5) (show ¬ (0:Int)=2 by decide)
 | true=>
   rw [hz,if_pos rfl] at h5
   have h6:=congrArg Prod.fst h5
   have e1:16+szL x.2.2.2.1=zM_ ((ZD_ w5 (bkN x)++boA x.2.2.2.1++r).take 2):=congrArg (fun l:List Int=>l.getD 0 0) h6
   have e2:x.1=zM_ (((ZD_ w5 (bkN x)++boA x.2.2.2.1++r).drop 2).take 2):=congrArg (fun l:List Int=>l.getD 1 0) h6
   have e3:x.2.1=zM_ (((ZD_ w5 (bkN x)++boA x.2.2.2.1++r).drop 4).take 4):=congrArg (fun l:List Int=>l.getD 2 0) h6
   have e4:x.2.2.1=zM_ (((ZD_ w5 (bkN x)++boA x.2.2.2.1++r).drop 8).take 4):=congrArg (fun l:List Int=>l.getD 3 0) h6
   have hN:btN (ZD_ w5 (bkN x)++boA x.2.2.2.1++r)=16+szL x.2.2.2.1:=e1.symm
   have h8:(16+szL x.2.2.2.1).tmod 8=0:=by
    rw [Int.tmod_eq_emod_of_nonneg (by omega),p4]
    have:∀ l:List AC,l.all rgA=true->(boA l).length % 8=0:=by
     intro l
     induction l with
     | nil=>intro _;rfl
     | cons o r ih=>
       intro h
       rw [List.all_cons,Bool.and_eq_true] at h
       have i1:=ih h.2
       have i2:=(yH_ h.1).2.2.2
       rw [kS_,List.length_append];omega
    have:=this _ p1
    omega
   have hK:btK (ZD_ w5 (bkN x)++boA x.2.2.2.1++r)=true:=by
    unfold btK;rw [hN,hz,hl,h8,decide_eq_true (show 16<=16+(boA x.2.2.2.1).length+r.length by omega),decide_eq_true (show 16<=16+szL x.2.2.2.1 by omega),decide_eq_true (show 16+szL x.2.2.2.1<=((16+(boA x.2.2.2.1).length+r.length:Nat):Int) by omega)];rfl
   have hA:btA (ZD_ w5 (bkN x)++boA x.2.2.2.1++r)=boA x.2.2.2.1:=by
    unfold btA;rw [hN,List.take_left' (by rw [List.length_append];omega)]
    exact List.drop_left' g2
   refine ⟨?_,?_,?_,?_⟩
   ·unfold btE;rw [if_pos hK,hA];exact hd.2
   ·unfold btV;rw [if_pos hK,hA,hd.1,<- e2,<- e3,<- e4]
   ·rw [hN,List.length_append];omega
   ·rw [List.length_append];omega
theorem zaI_ {y:List Int} (h:y.length < 16):ZV_ w5 y ≠ 0:=by
 have hr:ZJ_ w5=true:=by decide
 have a4:zu_ 4=4:=by decide
 have a4':zu_ (-4)=4:=by decide
 have a2:zu_ 2=2:=by decide
 have t2:Int.toNat 2=2:=rfl
 have t4:Int.toNat 4=4:=rfl
 have p2:(0:Int) < 2:=by decide
 have p4:(0:Int) < 4:=by decide
 unfold ZV_ qM_
 rw [if_pos hr]
 unfold w5
 simp only [ZZ_,a4,a4',a2,t2,t4,if_pos p2,if_pos p4,List.length_drop,List.drop_drop]
 by_cases h1:(y.length:Int) < 2
 ·rw [if_pos h1];decide
 ·rw [if_neg h1]
  by_cases h2:((y.length - 2:Nat):Int) < 2
  ·rw [if_pos h2];decide
  ·rw [if_neg h2]
   by_cases h3:((y.length - (2+2):Nat):Int) < 4
   ·rw [if_pos h3];decide
   ·rw [if_neg h3]
    by_cases h4:((y.length - (2+2+4):Nat):Int) < 4
    ·rw [if_pos h4];decide
    ·rw [if_neg h4,if_pos (by omega)];decide
theorem own5 {y:List Int} (h:16<=y.length):JT_ w5 (y.take 16) 0 0=(if ZA_ ((y.drop 12).take 4)=true then [zM_ (y.take 2),zM_ ((y.drop 2).take 2),zM_ ((y.drop 4).take 4),zM_ ((y.drop 8).take 4)] else [])/\wD_ w5 (y.take 16) 0 1549 1549 0=(if ZA_ ((y.drop 12).take 4)=true then 0 else 1549):=by
 have hl:16<=(y.take 16).length:=by rw [List.length_take];omega
 have g:=get5 hl
 have e1:((y.take 16).drop 12).take 4=(y.drop 12).take 4:=by rw [List.drop_take,List.take_take];rfl
 have e2:(y.take 16).take 2=y.take 2:=by rw [List.take_take];rfl
 have e3:((y.take 16).drop 2).take 2=(y.drop 2).take 2:=by rw [List.drop_take,List.take_take];rfl
 have e4:((y.take 16).drop 4).take 4=(y.drop 4).take 4:=by rw [List.drop_take,List.take_take];rfl
 have e5:((y.take 16).drop 8).take 4=(y.drop 8).take 4:=by rw [List.drop_take,List.take_take];rfl
 rw [e1,e2,e3,e4,e5] at g
 have d0:(y.take 16).drop (0:Int).toNat=y.take 16:=rfl
 unfold JT_ wD_ q0_ ZV_
 rw [d0,g]
 cases ZA_ ((y.drop 12).take 4)<;>exact ⟨rfl,rfl⟩
theorem zau_ {y:List Int} (h:y.length < 16):JT_ w5 y 0 0=[]/\wD_ w5 y 0 1549 1549 0=1549:=by
 have g:=zaI_ h
 have d0:y.drop (0:Int).toNat=y:=rfl
 have hk:ZV_ w5 y=1\/ZV_ w5 y=2:=by
  rcases Ug_ w5 y with h | h | h
  ·exact absurd h g
  ·exact .inl h
  ·exact .inr h
 have hL:q0_ w5 y=[]:=g3_ g
 unfold JT_ wD_
 rw [d0,if_pos rfl,if_pos rfl,hL]
 refine ⟨rfl,?_⟩
 rcases hk with hk | hk
 ·rw [if_pos hk]
 ·rw [hk];rfl
def YJ_:IR:=
(sq (kr [0] [oD 2 (.box [.int .u64 0,.int .u64 0,.int .u64 0,.imm Y2 []])])
(sq (.reg [oM 7 0,
oC 8 108 [7],
oM 3 8])
(sq (kr [0,2,3] [oM 9 0,
oM 10 3,
oD 11 (.minmax false (cI 16) 10),
oC 12 88 [9,11],
oC 13 51 [12,(cI 1549),(cI 1549)],
oM 4 13])
(sq (.reg [oM 14 4,
oD 15 (.sliceAll (.int .i64) 5 [(0,1,(cI 2)),(1,1,(cI 2)),(2,1,(cI 4)),(3,1,(cI 4)),(4,1,(cI (-4)))]),
oC 16 89 [14,15],
oM 5 16])
(sq (sq (kr [0,2,3,4,5] [oM 17 5,
oE 18 17,
oB 19 .eql 18 (cI 0)])
(.cond 19
(sq (.reg [oM 20 0,
oM 21 4,
oC 22 53 [21],
oC 23 110 [20,22]])
(sq (kr [2] [oK 24 4 2,
oS 4 2 24])
.ret))
.skip))
(sq (kr [0,2,3,5] [oM 25 5,
oD 26 (.indexSl 1 25 (cI 0)),
oL 27 26,
oD 28 (.conv .i64 27),
oM 6 28])
(sq (sq (kr [0,2,3,5,6] [oM 29 6,
oB 30 .lss 29 (cI 16),
oM 31 30,
oF 31 32 (.mov 6),
oF 31 33 (.bin .rem 32 (cI 8)),
oF 31 34 (.bin .neq 33 (cI 0)),
oP 35 31 cT 34,
oM 36 35,
oF 36 37 (.mov 6),
oF 36 38 (.mov 3),
oF 36 39 (.bin .gtr 37 38),
oP 40 36 cT 39])
(.cond 40
(sq (kr [0,2] [oM 41 0,
oC 42 110 [41,(cI 1549)]])
(sq (.reg [oK 43 4 2,
oS 4 2 43])
.ret))
.skip))
(sq (kd [0,2,5,6] [(oM 44 5,[]),
(oD 45 (.indexSl 1 44 (cI 1)),[]),
(oL 46 45,[]),
(oM 47 5,[0,0,0]),
(oD 48 (.indexSl 1 47 (cI 2)),[1,0,0]),
(oL 49 48,[2,0,0]),
(oM 50 5,[0,0,0,0,0,0]),
(oD 51 (.indexSl 1 50 (cI 3)),[1,0,0,0,0,0]),
(oL 52 51,[2,0,0,0,0,0]),
(oM 53 0,[0,0,0,0,0,0,0,0,0]),
(oM 54 6,[0,0,0,0,0,0,0,0,0,0]),
(oB 55 .sub 54 (cI 16),[1,0,0,0,0,0,0,0,0,0]),
(oC 56 126 [53,55],[3,0,0,0,0,0,0,0,0]),
(oD 57 (.buildAll 4 [(0,1,46),(1,1,49),(2,1,52),(3,1,56)]),[]),
(oS 4 2 57,[])])
.ret))))))))
def y5_:List RD:=[.cell 2 (some 4) true []]
theorem Yo_:zo_ Tryz.prog Tryz.f109 YJ_ y5_=true:=by kernel_rfl
def Km_:List AV->List Obj->Option (Prop × AV × List Obj)
 | [.ptr 0 0],[.box [.imm (.int .u8) b,.int .i64 p,.int .i64 sh,.int .i64 od,.int .i64 e,.bool true]]=>some ((0<=p/\p<=b.length/\b.length<=100000/\sh ≠ 0/\e=0,.agg [.int .u64 ((btV (b.drop p.toNat)).1),.int .u64 ((btV (b.drop p.toNat)).2.1),.int .u64 ((btV (b.drop p.toNat)).2.2.1),.imm Y2 ((btV (b.drop p.toNat)).2.2.2.1)],[.box [.imm (.int .u8) b,.int .i64 (p+btP (b.drop p.toNat)),.int .i64 sh,.int .i64 od,.int .i64 (btE (b.drop p.toNat)),.bool true]]))
 | _,_=>none
theorem X2_:ze_ Tryz.prog 109 (RwF Km_).sum:=by
 refine qv_ Tryz.func109 Yo_ (za_ (s:=RoF zW_) Zi_ (za_ (s:=RwF zO_) z3_ (za_ (s:=RwF Z7_) qu_ (za_ (s:=RwF zZ_) Zp_ (za_ (s:=RoF zt_) zw_ (za_ (s:=RwF zB_) zF_ (za_ (s:=RwF J6_) vt_ (zf_ _)))))))) fun args objs p v o e=>?_
 unfold Km_ at e
 split at e
 ·rename_i b p sh od e
  cases e
  refine ⟨rfl,fun hw ho hp=>?_⟩
  change List Int at b
  have hb:∀ x ∈ b,0<=x/\x<=255:=fun x hx=>(ho _ (List.mem_singleton.2 rfl) (.imm (.int .u8) b) (by simp)).1 x hx
  clear hw ho
  obtain ⟨hp0,hp1,hp2,hp3,rfl⟩:=hp
  obtain ⟨p,rfl⟩:=Int.eq_ofNat_of_zero_le hp0
  rw [Int.toNat_natCast]
  have hyl:(b.drop p).length=b.length - p:=List.length_drop
  have f1:z0_ 0 1549=1549:=rfl
  by_cases hs:(b.length:Int) - p < 16
  ·have hm:(if (b.length:Int) - p < 16 then (b.length:Int) - p else 16)=(b.length:Int) - p:=if_pos hs
   obtain ⟨k1,k2,k3⟩:=kv_ (n:=(b.length:Int) - p) (p:=p) (sh:=sh) (b:=b) (by omega) (by omega)
   have k1':qO_ ((b.length:Int) - p) b p sh 0=b.drop p:=by rw [k1,Int.toNat_natCast,List.take_of_length_le (by omega)]
   obtain ⟨o1,o2⟩:=zau_ (y:=b.drop p) (by omega)
   unfold w5 at o1 o2
   have hK:btK (b.drop p)=false:=by unfold btK;rw [decide_eq_false (show ¬ 16<=(b.drop p).length by omega)];rfl
   have e1:btV (b.drop p)=(0,0,0,[],()):=if_neg (by rw [hK];decide)
   have e2:btE (b.drop p)=1549:=if_neg (by rw [hK];decide)
   have e3:btP (b.drop p)=(b.length:Int) - p:=by unfold btP;rw [hK,if_neg (by decide),if_neg (by omega)];omega
   rw [e1,e2,e3]
   repeat'(intro t ht;first|(cases t<;>first|(cases ht;done)|(try simp only[zh_]at ht))|((first|refine zb_ ht ?_|refine ht ?_ ?_|refine ht.1 ?_ ?_|refine ht ?_)<;>clear ht))
   all_goals (try simp only [hm,k1',k2,k3,o1,o2,f1] at*)
   all_goals first
    | exact True.intro
    | contradiction
    | exact ⟨hp0,hp1⟩
    | exact ⟨hp0,hp1,by omega,hp3⟩
    | omega
    | exact ⟨rfl,by first | rfl | exact True.intro⟩
    | (refine ⟨Int.le_refl _,?_,?_⟩<;>omega)
    | (constructor<;>omega)
    | ((try simp only [zl_,zp_,zm_] at*);omega)
    | (exfalso;omega)
    | (exfalso;simp_all;done)
  ·have hm:(if (b.length:Int) - p < 16 then (b.length:Int) - p else 16)=16:=if_neg hs
   obtain ⟨k1,k2,k3⟩:=kv_ (n:=16) (p:=p) (sh:=sh) (b:=b) (by omega) (by omega)
   have k1':qO_ 16 b p sh 0=(b.drop p).take 16:=by rw [k1,Int.toNat_natCast,List.drop_take];congr 1;omega
   obtain ⟨o1,o2⟩:=own5 (y:=b.drop p) (by omega)
   unfold w5 at o1 o2
   have hx16:((b.drop p).take 16).length=16:=by rw [List.length_take];omega
   have hN:=wg_ ((b.drop p).take 2) fun x hx=>hb x (List.mem_of_mem_drop (List.mem_of_mem_take hx))
   have hN2:(256:Int) ^ ((b.drop p).take 2).length=65536:=by rw [List.length_take,hyl,show min 2 (b.length - p)=2 by omega];rfl
   rw [hN2] at hN
   have hNe:zM_ ((b.drop p).take 2)=btN (b.drop p):=rfl
   cases hz:ZA_ (((b.drop p).drop 12).take 4) with
   | false=>
     rw [hz] at o1 o2
     rw [if_neg (by decide)] at o1 o2
     have hK:btK (b.drop p)=false:=by unfold btK;rw [hz];simp
     have e1:btV (b.drop p)=(0,0,0,[],()):=if_neg (by rw [hK];decide)
     have e2:btE (b.drop p)=1549:=if_neg (by rw [hK];decide)
     have e3:btP (b.drop p)=16:=by unfold btP;rw [hK,if_neg (by decide),if_pos (by omega)]
     rw [e1,e2,e3]
     repeat'(intro t ht;first|(cases t<;>first|(cases ht;done)|(try simp only[zh_]at ht))|((first|refine zb_ ht ?_|refine ht ?_ ?_|refine ht.1 ?_ ?_|refine ht ?_)<;>clear ht))
     all_goals (try simp only [hm,k1',k2,k3,o1,o2,f1] at*)
     all_goals first
      | exact True.intro
      | contradiction
      | (rw [hx16];decide)
      | (refine ⟨Int.le_refl _,?_,?_⟩<;>rw [hx16]<;>decide)
      | exact ⟨hp0,hp1⟩
      | exact ⟨hp0,hp1,by omega,hp3⟩
      | omega
      | exact ⟨rfl,by first | rfl | exact True.intro⟩
      | (refine ⟨Int.le_refl _,?_,?_⟩<;>omega)
      | (constructor<;>omega)
      | ((try simp only [zl_,zp_,zm_] at*);omega)
      | (exfalso;omega)
      | (exfalso;simp_all;done)
   | true=>
     rw [hz,if_pos rfl] at o1
     rw [hz,if_pos rfl] at o2
     rw [hNe] at o1 hN
     have g0:∀ (a c d e z:Int),[a,c,d,e].getD (Int.toNat 0) z=a:=fun _ _ _ _ _=>rfl
     have g1:∀ (a c d e z:Int),[a,c,d,e].getD (Int.toNat 1) z=c:=fun _ _ _ _ _=>rfl
     have g2:∀ (a c d e z:Int),[a,c,d,e].getD (Int.toNat 2) z=d:=fun _ _ _ _ _=>rfl
     have g3:∀ (a c d e z:Int),[a,c,d,e].getD (Int.toNat 3) z=e:=fun _ _ _ _ _=>rfl
     have gl:∀ (a c d e:Int),((([a,c,d,e]).length:Nat):Int)=4:=fun _ _ _ _=>rfl
     cases hK:btK (b.drop p) with
     | false=>
       have e1:btV (b.drop p)=(0,0,0,[],()):=if_neg (by rw [hK];decide)
       have e2:btE (b.drop p)=1549:=if_neg (by rw [hK];decide)
       have e3:btP (b.drop p)=16:=by unfold btP;rw [hK,if_neg (by decide),if_pos (by omega)]
       have hno:¬ (16<=btN (b.drop p)/\(btN (b.drop p)).tmod 8=0/\btN (b.drop p)<=(b.drop p).length):=fun h=>by
        unfold btK at hK
        rw [hz,decide_eq_true (show 16<=(b.drop p).length by omega),decide_eq_true h.1,decide_eq_true h.2.1,decide_eq_true h.2.2] at hK
        cases hK
       rw [hyl] at hno
       rw [e1,e2,e3]
       repeat'(intro t ht;first|(cases t<;>first|(cases ht;done)|(try simp only[zh_]at ht))|((first|refine zb_ ht ?_|refine ht ?_ ?_|refine ht.1 ?_ ?_|refine ht ?_)<;>clear ht))
       all_goals (try simp only [hm,k1',k2,k3,o1,o2,f1,g0,g1,g2,g3,gl,zl_] at*)
       all_goals first
        | exact True.intro
        | contradiction
        | (rw [hx16];decide)
        | (refine ⟨Int.le_refl _,?_,?_⟩<;>rw [hx16]<;>decide)
        | exact ⟨hp0,hp1⟩
        | exact ⟨hp0,hp1,by omega,hp3⟩
        | omega
        | exact ⟨rfl,by first | rfl | exact True.intro⟩
        | (refine ⟨Int.le_refl _,?_,?_⟩<;>omega)
        | (constructor<;>omega)
        | ((try simp only [zl_,zp_,zm_] at*);omega)
        | (exfalso;omega)
        | (exfalso;simp_all;done)
        | (exfalso;apply hno;refine ⟨?_,?_,?_⟩<;>first | assumption | omega)
     | true=>
       obtain ⟨q1,q2,q3,q4,q5⟩:=QG_ hK
       rw [hyl] at q5
       obtain ⟨t1,t2,t3⟩:=kv_ (n:=btN (b.drop p) - 16) (p:=(p:Int)+16) (sh:=sh) (b:=b) (by omega) (by omega)
       have t1':qO_ (btN (b.drop p) - 16) b ((p:Int)+16) sh 0=btA (b.drop p):=by
        rw [t1];unfold btA
        rw [show ((p:Int)+16+(btN (b.drop p) - 16)).toNat=p+(btN (b.drop p)).toNat by omega,show ((p:Int)+16).toNat=p+16 by omega,<- List.drop_drop,List.drop_take,List.drop_take,List.drop_take]
        congr 2;omega
       have e1:btV (b.drop p)=(zM_ (((b.drop p).drop 2).take 2),zM_ (((b.drop p).drop 4).take 4),zM_ (((b.drop p).drop 8).take 4),adL (btA (b.drop p)),()):=if_pos hK
       have e2:btE (b.drop p)=adE (btA (b.drop p)):=if_pos hK
       have e3:btP (b.drop p)=btN (b.drop p):=if_pos hK
       have a1:atL (btN (b.drop p) - 16) b ((p:Int)+16) sh 0=adL (btA (b.drop p)):=by unfold atL;rw [t3,if_pos rfl,t1']
       have a2:atE (btN (b.drop p) - 16) b ((p:Int)+16) sh 0=adE (btA (b.drop p)):=by unfold atE;rw [t3,if_pos rfl,t1']
       have a3:(p:Int)+16+(btN (b.drop p) - 16)=p+btN (b.drop p):=by omega
       rw [e1,e2,e3]
       repeat'(intro t ht;first|(cases t<;>first|(cases ht;done)|(try simp only[zh_]at ht))|((first|refine zb_ ht ?_|refine ht ?_ ?_|refine ht.1 ?_ ?_|refine ht ?_)<;>clear ht))
       all_goals (try simp only [hm,k1',k2,k3,o1,o2,f1,g0,g1,g2,g3,gl,zl_,a1,a2,t2,a3] at*)
       all_goals first
        | exact True.intro
        | contradiction
        | (rw [hx16];decide)
        | (refine ⟨Int.le_refl _,?_,?_⟩<;>rw [hx16]<;>decide)
        | exact ⟨hp0,hp1⟩
        | exact ⟨hp0,hp1,by omega,hp3⟩
        | omega
        | exact ⟨rfl,by first | rfl | exact True.intro⟩
        | (refine ⟨Int.le_refl _,?_,?_⟩<;>omega)
        | (constructor<;>omega)
        | ((try simp only [zl_,zp_,zm_] at*);omega)
        | (exfalso;omega)
        | (exfalso;simp_all;done)
 ·cases e
def YK_:IR:=
(sq (kr [0] [oD 2 (.nilrow Y4)])
(sq (.reg [oM 4 0,
oC 5 108 [4],
oM 3 5])
(sq (.block 0
(.loop
(sq (sq (kr [0,2,3] [oM 6 0,
oC 7 53 [6],
oB 8 .eql 7 (cI 0),
oM 9 8,
oT 9 10 (.mov 0),
oT 9 11 (.call false (.f 108) [10]),
oT 9 12 (.bin .gtr 11 (cI 0)),
oP 13 9 12 cF])
(.cond 13
.skip
(.exit 0)))
(.block 1
(kr [0,2,3] [oM 14 2,
oM 15 0,
oC 16 109 [15],
oD 17 (.sliceAll Y4 1 [(0,4,16)]),
oD 18 (.append Y4 48 14 17),
oM 2 18])))))
(sq (sq (kr [0,2,3] [oM 19 3,
oB 20 .gtr 19 (cI 65528)])
(.cond 20
(.reg [oM 21 0,
oC 22 110 [21,(cI 1549)]])
.skip))
(sq (sq (.reg [oM 23 0,
oC 24 53 [23],
oB 25 .neq 24 (cI 0)])
(.cond 25
(sq (kr [] [oD 2 (.nilrow Y4)])
.ret)
.skip))
(sq (kr [2] [oM 26 2,
oM 2 26])
.ret))))))
def y6_:List RD:=[.tmp 2 true (some Y4)]
theorem Yp_:zo_ Tryz.prog Tryz.f52 YK_ y6_=true:=by kernel_rfl
def Kn_:List AV->List Obj->Option (Prop × AV × List Obj)
 | [.ptr 0 0],[.box [.imm (.int .u8) b,.int .i64 p,.int .i64 sh,.int .i64 od,.int .i64 e,.bool true]]=>some ((0<=p/\p<=b.length/\b.length<=65528/\sh ≠ 0/\e=0,.imm Y4 (bdL (b.drop p.toNat)),[.box [.imm (.int .u8) b,.int .i64 (p+(bG (b.drop p.toNat)).2.2),.int .i64 sh,.int .i64 od,.int .i64 (bdE (b.drop p.toNat)),.bool true]]))
 | _,_=>none
theorem X3_:ze_ Tryz.prog 52 (RwF Kn_).sum:=by
 refine qv_ Tryz.func52 Yp_ (za_ (s:=RoF zW_) Zi_ (za_ (s:=RoF zt_) zw_ (za_ (s:=RwF Km_) X2_ (za_ (s:=RwF zB_) zF_ (zf_ _))))) fun args objs p v o e=>?_
 unfold Kn_ at e
 split at e
 ·rename_i b p sh od e
  cases e
  refine ⟨rfl,fun hw ho hp=>?_⟩
  change List Int at b
  clear hw ho
  obtain ⟨hp0,hp1,hp2,hp3,rfl⟩:=hp
  obtain ⟨p,rfl⟩:=Int.eq_ofNat_of_zero_le hp0
  rw [Int.toNat_natCast]
  repeat'(intro t ht;first|(cases t<;>first|(cases ht;done)|(try simp only[zh_]at ht;try(exfalso;first|contradiction|omega)))|((first|refine zb_ ht ?_|refine ht ?_ ?_|refine ht.1 ?_ ?_|refine ht ?_)<;>clear ht))
  all_goals first
   | exact True.intro
   | exact ⟨hp0,hp1⟩
   | (intro r h1 h2;clear h1;refine h2 ⟨[],[0,2,3],Nat × Int × List BK,(fun a=>a.1<=b.length/\16*a.2.2.length<=a.1+16/\((a.2.1=0/\16*a.2.2.length<=a.1/\(bG (b.drop p)).1=a.2.2++(bG (b.drop a.1)).1/\(bG (b.drop p)).2.1=(bG (b.drop a.1)).2.1/\p+(bG (b.drop p)).2.2=a.1+(bG (b.drop a.1)).2.2)\/(a.2.1 ≠ 0/\(bG (b.drop p)).2.1=a.2.1/\p+(bG (b.drop p)).2.2=a.1))),fun a=>[.ptr 0 0,.own 1,.int .i64 (b.length - p)],fun a=>[.box [.imm (.int .u8) b,.int .i64 a.1,.int .i64 sh,.int .i64 od,.int .i64 a.2.1,.bool true],.row false Y4 a.2.2],fun a=>2*(b.length - a.1)+(if a.2.1=0 then 1 else 0),⟨(p,0,[]),⟨by dsimp only;omega,by simp,.inl ⟨rfl,by simp,rfl,rfl,rfl⟩⟩,rfl,rfl⟩,?_⟩;clear h2)
  rintro ⟨q,e,acc⟩ ⟨hq,hl,hJ⟩
  dsimp only at hq hl hJ
  have hdq:(b.drop q).length=b.length - q:=List.length_drop
  repeat'(intro t ht;first|(cases t<;>first|(cases ht;done)|(try simp only[zh_]at ht;try(exfalso;first|contradiction|omega)))|((first|refine zb_ ht ?_|refine ht ?_ ?_|refine ht.1 ?_ ?_|refine ht ?_)<;>clear ht))
  all_goals (try dsimp only)
  all_goals (try simp only [Int.toNat_natCast] at*)
  all_goals first
   | exact True.intro
   | exact ⟨Int.natCast_nonneg _,by omega⟩
   | exact ⟨Int.natCast_nonneg _,by omega,by omega,hp3,by assumption⟩
   | (simp only [List.length_cons,List.length_nil];omega)
   | (have h0:¬ e=0:=by assumption
      rcases hJ with hJ | ⟨_,j2,j3⟩
      ·exact absurd hJ.1 h0
      ·have hb0:¬ (bG (b.drop p)).2.1=0:=by rw [j2];exact h0
       have d2:bdE (b.drop p)=e:=by unfold bdE;rw [if_pos hb0];exact j2
       have d1:bdL (b.drop p)=[]:=by unfold bdL;rw [d2,if_neg h0]
       have f1:z0_ e 1549=e:=if_neg h0
       first
        | (rw [d1,d2,j3,f1];exact ⟨rfl,rfl⟩)
        | (rw [d1,d2,j3];exact ⟨rfl,rfl⟩)
        | (exfalso;rw [f1] at*;contradiction))
   | (have h0:e=0:=by assumption
      subst h0
      rcases hJ with ⟨_,j1,j2,j3,j4⟩ | hJ
      ·have hn:(b.drop q).length=0:=by omega
       rw [Ur_ hn] at j2 j3 j4
       dsimp only at j2 j3 j4
       have hb0:¬ ¬ (bG (b.drop p)).2.1=0:=not_not_intro j3
       have hdp:(b.drop p).length=b.length - p:=List.length_drop
       have f1:z0_ 0 1549=1549:=rfl
       by_cases hbig:65528 < (b.drop p).length
       ·have d2:bdE (b.drop p)=1549:=by unfold bdE;rw [if_neg hb0,if_pos hbig]
        have d1:bdL (b.drop p)=[]:=by unfold bdL;rw [d2];rfl
        first
         | (exfalso;omega)
         | (rw [d1,d2,j4,Int.add_zero];exact ⟨rfl,rfl⟩)
       ·have d2:bdE (b.drop p)=0:=by unfold bdE;rw [if_neg hb0,if_neg hbig]
        have d1:bdL (b.drop p)=acc:=by unfold bdL;rw [d2,if_pos rfl,j2,List.append_nil]
        first
         | (exfalso;omega)
         | (rw [d1,d2,j4,Int.add_zero];exact ⟨rfl,rfl⟩)
      ·exact absurd rfl hJ.1)
   | skip
  all_goals have h0:e=0:=by assumption
  all_goals subst h0
  all_goals rcases hJ with ⟨_,j1,j2,j3,j4⟩ | hJ
  all_goals first
   | exact absurd rfl hJ.1
   | skip
  all_goals have hn:¬ (b.drop q).length=0:=by omega
  all_goals first
   | (by_cases h5:btE (b.drop q)=0
      ·have hk:=QG_ (VS_ h5)
       have hP:btP (b.drop q)=btN (b.drop q):=if_pos (VS_ h5)
       obtain ⟨n,hnn⟩:=Int.eq_ofNat_of_zero_le (show 0<=btN (b.drop q) by omega)
       rw [Hp_ hn h5,List.drop_drop,hnn,Int.toNat_natCast] at j2 j3 j4
       dsimp only at j2 j3 j4
       rw [hP,hnn]
       rw [hnn] at hk
       refine ⟨(q+n,btE (b.drop q),acc++[btV (b.drop q)]),⟨?_,?_,.inl ⟨h5,?_,?_,j3,?_⟩⟩,?_,rfl,rfl⟩
       ·dsimp only;omega
       ·simp only [List.length_append,List.length_cons,List.length_nil];omega
       ·simp only [List.length_append,List.length_cons,List.length_nil];omega
       ·dsimp only;rw [j2,List.append_assoc];rfl
       ·dsimp only at j4 ⊢;omega
       ·dsimp only;rw [h5];omega
      ·have hPl:0<=btP (b.drop q)/\btP (b.drop q)<=(b.drop q).length:=by
        unfold btP
        cases hk:btK (b.drop q) with
        | true=>rw [if_pos rfl];have:=QG_ hk;omega
        | false=>rw [if_neg (by decide)];split<;>omega
       obtain ⟨n,hnn⟩:=Int.eq_ofNat_of_zero_le hPl.1
       rw [Us_ hn h5] at j2 j3 j4
       dsimp only at j2 j3 j4
       rw [hnn] at hPl j4 ⊢
       refine ⟨(q+n,btE (b.drop q),acc++[btV (b.drop q)]),⟨?_,?_,.inr ⟨h5,j3,?_⟩⟩,?_,rfl,rfl⟩
       ·dsimp only;omega
       ·simp only [List.length_append,List.length_cons,List.length_nil];omega
       ·dsimp only at j4 ⊢;omega
       ·dsimp only;rw [if_neg h5,if_pos rfl];omega)
 ·cases e
def x2_:IR:=
(sq (kr [0] [oD 2 (.mov (.c (.imm Y4 []))),
oD 3 (.mov (cI 0))])
(sq (.reg [oM 6 0,
oC 7 51 [6,(cI 1549),(cI 1549)],
oM 4 7])
(sq (.reg [oM 8 4,
oC 9 52 [8],
oM 5 9])
(sq (kr [4,5] [oM 10 5,
oM 11 4,
oC 12 53 [11],
oM 2 10,
oM 3 12])
.ret))))
def xF_:List RD:=[.tmp 2 true (some Y4),.tmp 3 true none]
theorem xP_:zo_ Tryz.prog Tryz.f15 x2_ xF_=true:=by kernel_rfl
def q4_:List AV->List Obj->Option (Prop × AV)
 | [.imm (.int .u8) b],[]=>some ((b.length<=65528,.tup [.imm Y4 (bdL b),.int .i64 (bdE b)]))
 | _,_=>none
theorem k3_:ze_ Tryz.prog 15 (RoF q4_).sum:=by
 refine zk_ Tryz.func15 xP_ (za_ (s:=RwF Z7_) qu_ (za_ (s:=RwF Kn_) X3_ (za_ (s:=RoF zt_) zw_ (zf_ _)))) fun args objs p v e=>?_
 unfold q4_ at e
 split at e
 ·rename_i b
  cases e
  refine ⟨rfl,fun hw ho hp=>?_⟩
  change List Int at b
  clear hw ho
  repeat'(intro t ht;first|(cases t<;>first|(cases ht;done)|(try simp only[zh_]at ht;try(exfalso;first|contradiction|omega)))|((first|refine zb_ ht ?_|refine ht ?_ ?_|refine ht.1 ?_ ?_|refine ht ?_)<;>clear ht))
  all_goals first
   | exact True.intro
   | omega
   | ((try simp only [zl_,zp_,zm_] at*);omega)
   | exact ⟨by decide,Int.natCast_nonneg _,Nat.le_trans hp (by decide),by decide,rfl⟩
   | exact ⟨rfl,rfl⟩
 ·cases e
def chT (l:List BK) (s:Int):Int:=l.foldl (fun s x=>IntKind.u64.wrap (s+x.1)) s
def chI (n:Int):List BK->Int->Nat->Int × Int
 | [],s,_=>(-1,s)
 | x :: r,s,i=>if n < IntKind.u64.wrap (s+x.1) then ((i:Int),IntKind.u64.wrap (s+x.1)) else chI n r (IntKind.u64.wrap (s+x.1)) (i+1)
def chR (l:List BK) (n:Int):Int:=if chT l 0=0 then -1 else (chI (n.tmod (chT l 0)) l 0 0).1
theorem BI_ {l:List BK} {i:Nat} {d:BK} {s:Int} (h:i < l.length):chT (l.drop i) s=chT (l.drop (i+1)) (IntKind.u64.wrap (s+(l.getD i d).1)):=by
 rw [zK_ h d];rfl
theorem zb0_ {l:List BK} {i:Nat} {d:BK} {s n:Int} (h:i < l.length) (hn:n < IntKind.u64.wrap (s+(l.getD i d).1)):chI n (l.drop i) s i=((i:Int),IntKind.u64.wrap (s+(l.getD i d).1)):=by
 rw [zK_ h d];exact if_pos hn
theorem zb1_ {l:List BK} {i:Nat} {d:BK} {s n:Int} (h:i < l.length) (hn:¬ n < IntKind.u64.wrap (s+(l.getD i d).1)):chI n (l.drop i) s i=chI n (l.drop (i+1)) (IntKind.u64.wrap (s+(l.getD i d).1)) (i+1):=by
 rw [zK_ h d];exact if_neg hn
theorem zaS_ {l:List BK} {i:Nat} {s n:Int} (h:l.length<=i):chI n (l.drop i) s i=(-1,s):=by
 rw [List.drop_of_length_le h];rfl
def w5_:IR:=
(sq (kr [0,1] [oD 2 (.boxv 0),
oD 3 (.mov (.c (.int .u64 0)))])
(sq (.reg [oL 4 1,
oA 5 0 2,
oL 6 5,
oB 7 .add 4 6,
oS 1 1 7])
(sq (.reg [oL 8 1,
oM 3 8])
.ret)))
def wT_:List RD:=[.tmp 3 true none]
theorem w0_:zo_ Tryz.prog Tryz.f99 w5_ wT_=true:=by kernel_rfl
def qn_:List AV->List Obj->Option (Prop × AV × List Obj)
 | [.agg [.int .u64 w,.int .u64 q,.int .u64 g,.imm ty0 a],.ptr 0 0],[.box [.int .u64 s]]=>Zw_ ty0 Y2 a fun a=>some ((True,.int .u64 (IntKind.u64.wrap (s+w)),[.box [.int .u64 (IntKind.u64.wrap (s+w))]]))
 | _,_=>none
theorem kq_:ze_ Tryz.prog 99 (RwF qn_).sum:=by
 refine qv_ Tryz.func99 w0_ (zf_ _) fun args objs p v o e=>?_
 unfold qn_ at e
 split at e
 ·rename_i w q g ty0 a s
  obtain rfl:=zz_ e
  replace e:=zA_ e
  cases e
  refine ⟨rfl,fun hw ho hp=>?_⟩
  clear hw ho
  repeat'(intro t ht;first|(cases t<;>first|(cases ht;done)|(try simp only[zh_]at ht;try(exfalso;first|contradiction|omega)))|((first|refine zb_ ht ?_|refine ht ?_ ?_)<;>clear ht)|(refine ht.1 (by simp only[zm_];omega) ?_;clear ht)|(refine ht.2 ?_;clear ht)|(refine ht ?_;clear ht))
  all_goals first
   | exact True.intro
   | exact ⟨rfl,rfl⟩
 ·cases e
def w4_:IR:=
(sq (kr [0,1,2] [oD 3 (.boxv 0),
oD 4 (.mov cF)])
(sq (kd [1,2,3] [(oL 5 1,[]),
(oK 6 4 3,[0]),
(oD 7 (.call false 5 [6]),[]),
(oL 8 2,[0,0,0]),
(oB 9 .gtr 7 8,[]),
(oM 4 9,[])])
.ret))
def wS_:List RD:=[.tmp 4 true none]
theorem wZ_:zo_ Tryz.prog Tryz.f101 w4_ wS_=true:=by kernel_rfl
def qm_:List AV->List Obj->Option (Prop × AV × List Obj)
 | [.agg [.int .u64 w,.int .u64 q,.int .u64 g,.imm ty0 a],.ptr 0 0,.ptr 1 0],[.box [.fnp 99 2],.box [.int .u64 n],.box [.int .u64 s]]=>Zw_ ty0 Y2 a fun a=>some ((True,.bool (decide (n < IntKind.u64.wrap (s+w))),[.box [.fnp 99 2],.box [.int .u64 n],.box [.int .u64 (IntKind.u64.wrap (s+w))]]))
 | _,_=>none
theorem kp_:ze_ Tryz.prog 101 (RwF qm_).sum:=by
 refine qv_ Tryz.func101 wZ_ (za_ (s:=RwF qn_) kq_ (zf_ _)) fun args objs p v o e=>?_
 unfold qm_ at e
 split at e
 ·rename_i w q g ty0 a n s
  obtain rfl:=zz_ e
  replace e:=zA_ e
  cases e
  refine ⟨rfl,fun hw ho hp=>?_⟩
  clear hw ho
  repeat'(intro t ht;first|(cases t<;>first|(cases ht;done)|(try simp only[zh_]at ht;try(exfalso;first|contradiction|omega)))|((first|refine zb_ ht ?_|refine ht ?_ ?_|refine ht.1 ?_ ?_|refine ht ?_)<;>clear ht))
  all_goals first
   | exact True.intro
   | exact ⟨rfl,rfl⟩
 ·cases e
def qc_:IR:=
(sq (kr [0,1] [oD 4 (.mov (cI 0))])
(sq (sq (.reg [oM 6 0,
oE 7 6,
oD 8 (.mov (cI 0))])
(.block 0
(.loop
(sq (kr [0,1,7,8] [oB 9 .lss 8 7])
(sq (.cond 9
.skip
(.exit 0))
(sq (.block 1
(sq (.reg [oM 10 8,
oM 5 10])
(sq (kr [0,1,5,7,8] [oM 11 1,
oM 12 0,
oM 13 5,
oI 14 4 12 13,
oK 15 4 14,
oD 16 (.call false 11 [15])])
(.cond 16
(sq (kr [5] [oM 17 5,
oM 4 17])
.ret)
.skip))))
(kr [0,1,7,8] [oB 18 .add 8 (cI 1),
oM 8 18])))))))
(sq (kr [] [oD 4 (.mov (cI (-1)))])
.ret)))
def qa_:List RD:=[.tmp 4 true none]
theorem qb_:zo_ Tryz.prog Tryz.f100 qc_ qa_=true:=by kernel_rfl
def zN_:List AV->List Obj->Option (Prop × AV × List Obj)
 | [.imm ty0 l,.fn 101 [] [.ptr 0 0,.ptr 1 0]],[.box [.fnp 99 2],.box [.int .u64 n],.box [.int .u64 s]]=>Zw_ ty0 Y4 l fun l=>some ((True,.int .i64 (chI n l s 0).1,[.box [.fnp 99 2],.box [.int .u64 n],.box [.int .u64 (chI n l s 0).2]]))
 | _,_=>none
theorem Z4_:ze_ Tryz.prog 100 (RwF zN_).sum:=by
 refine qv_ Tryz.func100 qb_ (za_ (s:=RwF qm_) kp_ (zf_ _)) fun args objs p v o e=>?_
 unfold zN_ at e
 split at e
 ·rename_i ty0 l n s
  obtain rfl:=zz_ e
  replace e:=zA_ e
  cases e
  refine ⟨rfl,fun hw ho hp=>?_⟩
  change List BK at l
  have hl:l.length<=maxLen:=(hw (.imm Y4 l) (by simp)).2
  unfold maxLen at hl
  clear hw ho
  repeat'(intro t ht;first|(cases t<;>first|(cases ht;done)|(try simp only[zh_]at ht))|((first|refine zb_ ht ?_|refine ht ?_ ?_|refine ht.1 ?_ ?_|refine ht ?_)<;>clear ht))
  all_goals first
   | (intro r h1 h2;clear h1;refine h2 ⟨[],[0,1,7,8],Nat × Int,(fun a=>a.1<=l.length/\chI n l s 0=chI n (l.drop a.1) a.2 a.1),fun a=>[.imm Y4 l,.fn 101 [] [.ptr 0 0,.ptr 1 0],.int .i64 l.length,.int .i64 a.1],fun a=>[.box [.fnp 99 2],.box [.int .u64 n],.box [.int .u64 a.2]],fun a=>l.length - a.1,⟨(0,s),⟨Nat.zero_le _,rfl⟩,rfl,rfl⟩,?_⟩;clear h2)
  rintro ⟨i,u⟩ ⟨hi,he⟩
  dsimp only at hi he
  repeat'(intro t ht;first|(cases t<;>first|(cases ht;done)|(try simp only[zh_]at ht;try(exfalso;first|contradiction|omega)))|((first|refine zb_ ht ?_|refine ht ?_ ?_|refine ht.1 ?_ ?_|refine ht ?_)<;>clear ht))
  all_goals (try generalize (Ty.dflt Y4)=od at*)
  all_goals first
   | exact True.intro
   | ((try simp only [zl_,zp_,zm_] at*);omega)
   | (rw [he,zaS_ (by omega)];exact ⟨rfl,rfl⟩)
   | (rw [he,zb0_ (d:=od) (by omega) (by assumption)];exact ⟨rfl,rfl⟩)
   | exact ⟨(i+1,_),⟨by dsimp only;omega,he.trans (zb1_ (d:=od) (by omega) (by assumption))⟩,by dsimp only;omega,rfl,rfl⟩
 ·cases e
def x4_:IR:=
(sq (kr [0,1] [oD 3 (.boxv 1),
oD 4 (.mov (cI 0))])
(sq (.reg [oD 5 (.box [.int .u64 0]),
oN (.store 1 5 (.c (.int .u64 0)))])
(sq (.reg [oD 9 (.mkfn 99 [] [5]),
oD 6 (.box [.undef]),
oS 1 6 9])
(sq (sq (.reg [oM 10 0,
oE 11 10,
oD 12 (.mov (cI 0))])
(.block 0
(.loop
(sq (kr [0,3,5,6,10,11,12] [oB 13 .lss 12 11])
(sq (.cond 13
.skip
(.exit 0))
(sq (.block 1
(sq (.reg [oI 14 4 10 12,
oK 15 4 14,
oD 8 (.box [.int .u64 0,.int .u64 0,.int .u64 0,.imm Y2 []]),
oS 4 8 15])
(.reg [oL 16 6,
oK 17 4 8,
oD 18 (.call false 16 [17])])))
(kr [0,3,5,6,10,11,12] [oB 19 .add 12 (cI 1),
oM 12 19])))))))
(sq (sq (kr [0,3,5,6] [oL 20 5,
oB 21 .eql 20 (.c (.int .u64 0))])
(.cond 21
(sq (.reg [oD 4 (.mov (cI (-1)))])
.ret)
.skip))
(sq (.reg [oL 22 3,
oL 23 5,
oB 24 .rem 22 23,
oS 1 3 24])
(sq (kr [0,3,5,6] [oN (.store 1 5 (.c (.int .u64 0)))])
(sq (.reg [oM 25 0,
oD 26 (.mkfn 101 [] [6,3]),
oC 27 100 [25,26],
oM 4 27])
.ret))))))))
def xH_:List RD:=[.tmp 4 true none]
theorem xR_:zo_ Tryz.prog Tryz.f47 x4_ xH_=true:=by kernel_rfl
def kk_:List AV->List Obj->Option (Prop × AV)
 | [.imm ty0 l,.int .u64 n],[]=>Zw_ ty0 Y4 l fun l=>some ((True,.int .i64 (chR l n)))
 | _,_=>none
theorem WB_:ze_ Tryz.prog 47 (RoF kk_).sum:=by
 refine zk_ Tryz.func47 xR_ (za_ (s:=RwF qn_) kq_ (za_ (s:=RwF qm_) kp_ (za_ (s:=RwF zN_) Z4_ (zf_ _)))) fun args objs p v e=>?_
 unfold kk_ at e
 split at e
 ·rename_i ty0 l n
  obtain rfl:=zz_ e
  replace e:=zA_ e
  cases e
  refine ⟨rfl,fun hw ho hp=>?_⟩
  change List BK at l
  have hl:l.length<=maxLen:=(hw (.imm Y4 l) (by simp)).2
  unfold maxLen at hl
  clear hw ho
  repeat'(intro t ht;first|(cases t<;>first|(cases ht;done)|(try simp only[zh_]at ht))|((first|refine zb_ ht ?_|refine ht ?_ ?_|refine ht.1 ?_ ?_|refine ht ?_)<;>clear ht))
  all_goals first
   | exact True.intro
   | (intro r h1 h2;clear h1;refine h2 ⟨[],[0,3,5,6,10,11,12],Nat × Int,(fun a=>a.1<=l.length/\chT l 0=chT (l.drop a.1) a.2),fun a=>[.imm Y4 l,.ptr 0 0,.ptr 1 0,.ptr 2 0,.imm Y4 l,.int .i64 l.length,.int .i64 a.1],fun a=>[.box [.int .u64 n],.box [.int .u64 a.2],.box [.fnp 99 1]],fun a=>l.length - a.1,⟨(0,0),⟨Nat.zero_le _,rfl⟩,rfl,rfl⟩,?_⟩;clear h2)
  rintro ⟨i,u⟩ ⟨hi,he⟩
  dsimp only at hi he
  repeat'(intro t ht;first|(cases t<;>first|(cases ht;done)|(try simp only[zh_]at ht;try(exfalso;first|contradiction|omega)))|((first|refine zb_ ht ?_|refine ht ?_ ?_|refine ht.1 ?_ ?_|refine ht ?_)<;>clear ht))
  all_goals (try generalize (Ty.dflt Y4)=od at*)
  all_goals first
   | exact True.intro
   | ((try simp only [zl_,zp_,zm_] at*);omega)
   | omega
   | assumption
   | (rw [List.drop_of_length_le (show l.length<=i by omega)] at he
      have he:chT l 0=u:=he
      unfold chR;rw [he]
      first
       | (rw [if_pos (by assumption)];exact ⟨rfl,rfl⟩)
       | (rw [if_neg (by assumption)];exact ⟨rfl,rfl⟩))
   | exact ⟨(i+1,_),⟨by dsimp only;omega,he.trans (BI_ (d:=od) (by omega))⟩,by dsimp only;omega,rfl,rfl⟩
 ·cases e
def x1_:IR:=
(sq (kr [0] [oD 2 (.mov (.c (.imm (.int .u8) []))),
oD 3 (.mov (cI 0))])
(sq (.reg [oC 9 48 [(cI 65528)],
oM 4 9])
(sq (sq (.reg [oM 10 0,
oE 11 10,
oD 12 (.mov (cI 0))])
(.block 0
(.loop
(sq (kr [4,10,11,12] [oB 13 .lss 12 11])
(sq (.cond 13
.skip
(.exit 0))
(sq (.block 1
(sq (.reg [oI 14 4 10 12,
oK 15 4 14,
oD 6 (.box [.int .u64 0,.int .u64 0,.int .u64 0,.imm Y2 []]),
oS 4 6 15])
(.reg [oM 16 4,
oK 17 4 6,
oC 18 49 [16,17]])))
(kr [4,10,11,12] [oB 19 .add 12 (cI 1),
oM 12 19])))))))
(sq (kr [4] [oM 21 4,
oC 22 50 [21],
oM 20 22,
oX 23 20 0,
oX 24 20 1,
oM 7 23,
oM 8 24])
(sq (sq (kr [7,8] [oM 25 8,
oB 26 .neq 25 (cI 0)])
(.cond 26
(sq (.reg [oD 2 (.mov (.c (.imm (.int .u8) []))),
oD 3 (.mov (cI 10001))])
.ret)
.skip))
(sq (.reg [oM 27 7,
oM 2 27,
oD 3 (.mov (cI 0))])
.ret))))))
def xE_:List RD:=[.tmp 2 true (some (.int .u8)),.tmp 3 true none]
theorem xO_:zo_ Tryz.prog Tryz.f14 x1_ xE_=true:=by kernel_rfl
def qe_:List AV->List Obj->Option (Prop × AV)
 | [.imm ty0 l],[]=>Zw_ ty0 Y4 l fun l=>some ((okB l,.tup [.imm (.int .u8) (bkL l),.int .i64 (bkE l)]))
 | _,_=>none
theorem Qe_:ze_ Tryz.prog 14 (RoF qe_).sum:=by
 refine zk_ Tryz.func14 xO_ (za_ (s:=RwF Qp_) kL_ (za_ (s:=RwF js_) yU_ (za_ (s:=RwF Zt_) Z5_ (zf_ _)))) fun args objs p v e=>?_
 unfold qe_ at e
 split at e
 ·rename_i ty0 l
  obtain rfl:=zz_ e
  replace e:=zA_ e
  cases e
  refine ⟨rfl,fun hw ho hp=>?_⟩
  change List BK at l
  clear hw ho
  have hok:=hp
  have hn:=hok.n
  have hroom:XG_ 65528=65528:=by decide
  repeat'(intro t ht;first|(cases t<;>first|(cases ht;done)|(try simp only[zh_]at ht))|((first|refine zb_ ht ?_|refine ht ?_ ?_|refine ht.1 ?_ ?_|refine ht ?_)<;>clear ht))
  all_goals first
   | exact True.intro
   | (intro r h1 h2;clear h1;refine h2 ⟨[],[4,10,11,12],Nat × List Int × Int,(fun a=>a.1<=l.length/\a.2.1.length<=1000000/\bkS l [] 0=bkS (l.drop a.1) a.2.1 a.2.2),fun a=>[.ptr 0 0,.imm Y4 l,.int .i64 l.length,.int .i64 a.1],fun a=>[.box [.own 1,.int .i64 65528,.mapv 2,.int .i64 a.2.2],.row false (.int .u8) a.2.1,.map true (.int .i64) (.int .i64) ([])],fun a=>l.length - a.1,⟨(0,[],0),⟨Nat.zero_le _,by simp,rfl⟩,rfl,by rw [hroom];rfl⟩,?_⟩;clear h2)
  rintro ⟨i,b,e⟩ ⟨hi,hb,he⟩
  dsimp only at hi hb he
  repeat'(intro t ht;first|(cases t<;>first|(cases ht;done)|(try simp only[zh_]at ht))|((first|refine zb_ ht ?_|refine ht ?_ ?_|refine ht.1 ?_ ?_|refine ht ?_)<;>clear ht))
  all_goals (try generalize (Ty.dflt Y4)=pd at*)
  all_goals first
   | exact True.intro
   | ((try simp only [zl_,zp_,zm_] at*);omega)
   | exact ⟨hok.a _ (ZI_ (by omega) pd),by decide,by decide,hb⟩
   | (simp only [List.length_nil];(try simp only [zl_,zp_,zm_] at*);omega)
   | (have h0:e=0:=by unfold XR_ at ht;split at ht<;>first | assumption | exact ht
      subst h0
      rw [List.drop_of_length_le (by omega)] at he
      have h1:bkS l [] 0=(b,0):=he
      refine ⟨?_,rfl⟩;unfold bkL bkE W7_ jz_;rw [h1];rfl)
   | (have h0:¬ e=0:=fun h=>ht (by rw [h];rfl)
      rw [List.drop_of_length_le (by omega)] at he
      have h1:bkS l [] 0=(b,e):=he
      refine ⟨?_,rfl⟩;unfold bkL bkE;rw [h1,if_neg h0,if_neg h0])
   | (refine ⟨(i+1,_,_),⟨?_,?_,he.trans (BT_ (d:=pd) (by omega))⟩,?_,?_,?_⟩
      ·dsimp only;omega
      ·exact zaV_ hb (by decide)
      ·dsimp only;omega
      ·rfl
      ·rfl)
 ·cases e
def yk_:IR:=
(sq (kr [0] [oD 2 (.mov cF)])
(sq (kr [0] [oM 6 0,
oC 7 14 [6],
oM 5 7,
oX 8 5 0,
oX 9 5 1,
oM 3 8,
oM 4 9])
(sq (kr [4] [oM 10 4,
oB 11 .eql 10 (cI 0),
oM 2 11])
.ret)))
def ya_:List RD:=[.tmp 2 true none]
theorem yf_:zo_ Tryz.prog Tryz.f19 yk_ ya_=true:=by kernel_rfl
def kW_:List AV->List Obj->Option (Prop × AV)
 | [.imm ty0 l],[]=>Zw_ ty0 Y4 l fun l=>some ((okB l,.bool (decide (bkE l=0))))
 | _,_=>none
theorem xz_:ze_ Tryz.prog 19 (RoF kW_).sum:=by
 refine zk_ Tryz.func19 yf_ (za_ (s:=RoF qe_) Qe_ (zf_ _)) fun args objs p v e=>?_
 unfold kW_ at e
 split at e
 ·rename_i ty0 l
  obtain rfl:=zz_ e
  replace e:=zA_ e
  cases e
  refine ⟨rfl,fun hw ho hp=>?_⟩
  repeat'(intro t ht;first|(cases t<;>first|(cases ht;done)|(try simp only[zh_]at ht;try(exfalso;first|contradiction|omega)))|((first|refine zb_ ht ?_|refine ht ?_ ?_|refine ht.1 ?_ ?_|refine ht ?_)<;>clear ht))
  all_goals first
   | exact True.intro
   | exact hp
   | exact ⟨rfl,rfl⟩
 ·cases e
theorem wq_ {l:List BK} {r:List Int} (h:bbA l []=some r):(r.length<=65528->bkL l=r/\bkE l=0)/\(¬ r.length<=65528->bkL l=[]/\bkE l=10001):=by
 obtain ⟨h1,h2⟩:=BR_ l
 unfold rbO at h1 h2
 rw [h] at h1 h2
 simp only [] at h1 h2
 constructor
 ·intro hr
  rw [if_pos hr] at h1 h2;exact ⟨h1,h2⟩
 ·intro hr
  rw [if_neg hr] at h1 h2;exact ⟨h1,h2⟩
theorem Uq_ {l:List BK} (h:bbA l []=none):bkL l=[]/\bkE l=10001:=by
 obtain ⟨h1,h2⟩:=BR_ l
 unfold rbO at h1 h2
 rw [h] at h1 h2;exact ⟨h1,h2⟩
end Go.Eng
