/- Parts of the proof: TB, T9. No condition. -/
import Derived.Test.YtppgebehmmldfaaGreatDoorProg
import Derived.Test.YtppgebehmmldfaaGreatDoorXE10
import Derived.KernelRfl
import Derived.Test.YtppgebehmmldfaaGreatDoorXE14
namespace Go.Eng
open Go.Proofs
set_option linter.unusedVariables false
set_option linter.unusedSimpArgs false
set_option maxRecDepth 100000
set_option maxHeartbeats 1000000
def nuW (t:Int):Int:=if tyT t=true then 2 else if szT t=1 then 1 else 4
def nuV (t:Int) (y:List Int):Int:=ze_ (y.take (nuW t).toNat)
def nuX (t:Int) (y:List Int):Bool:=(tyT t && !decide (ze_ ((y.drop 2).take 2)=4)) || (decide (szT t=1) && decide (254 < nuV t y))
def nuG (t:Int) (y:List Int):List Int × Int:=
 if y.length=0 then ([],0) else if nuX t y=true then ([nuV t y],3333) else (nuV t y :: (nuG t (y.drop (max 1 (szT t).toNat))).1,(nuG t (y.drop (max 1 (szT t).toNat))).2)
termination_by y.length
decreasing_by all_goals (rw [List.length_drop];omega)
theorem k4_ {t:Int} {y:List Int} (h:y.length=0):nuG t y=([],0):=by rw [nuG,if_pos h]
theorem zbw_ {t:Int} {y:List Int} (h:¬ y.length=0) (h1:nuX t y=true):nuG t y=([nuV t y],3333):=by rw [nuG,if_neg h,if_pos h1]
theorem bt_ {t:Int} {y:List Int} (h:¬ y.length=0) (h1:nuX t y=false) (hs:1<=szT t):nuG t y=(nuV t y :: (nuG t (y.drop (szT t).toNat)).1,(nuG t (y.drop (szT t).toNat)).2):=by
 rw [nuG,if_neg h,if_neg (by rw [h1];decide),show max 1 (szT t).toNat=(szT t).toNat by omega]
def ftE (dup:Bool) (t:Int) (x:List Int):Int:=if szT t=0 then 3331 else if otT t=true then (if x.length < 8 then 3332 else 0) else if dup=true then 3333 else if ¬ (x.length:Int).tmod (szT t)=0 then 3332 else (nuG t x).2
def ftN (dup:Bool) (t:Int) (x:List Int):List Int:=if szT t=0 then [] else if otT t=true then (if x.length < 8 then [] else [ze_ (x.take 4),ze_ ((x.drop 4).take 4)]) else if dup=true then [] else if ¬ (x.length:Int).tmod (szT t)=0 then [] else (nuG t x).1
def ftD (t:Int) (x:List Int):List Int:=if otT t=true then (if x.length < 8 then [] else x.drop 8) else []
theorem zcv_ (b:List Int):ZZ_ [4,4] b=if b.length < 8 then ([],1) else ([ze_ (b.take 4),ze_ ((b.drop 4).take 4)],0):=by
 have hr:zZ_ [4,4]=true:=by decide
 unfold ZZ_
 rw [if_pos hr]
 have a2:zx_ 4=4:=by decide
 have t2:Int.toNat 4=4:=rfl
 have p2:(0:Int) < 4:=by decide
 simp only [QD_,a2,t2,if_pos p2,List.length_drop]
 by_cases h:b.length < 8
 ·rw [if_pos h]
  by_cases h2:(b.length:Int) < 4
  ·rw [if_pos h2]
  ·rw [if_neg h2,if_pos (by omega)]
 ·rw [if_neg h,if_neg (by omega),if_neg (by omega)];rfl
theorem zcE_ {b:List Int} {sh od:Int}:Jy_ [4,4] b 0 0=(if b.length < 8 then [] else [ze_ (b.take 4),ze_ ((b.drop 4).take 4)])/\Zu_ [4,4] b 0 0=(if b.length < 8 then 0 else 8)/\Zm_ [4,4] b 0 sh od 0=(if b.length < 8 then sh else 0):=by
 have e:ZZ_ [4,4] (b.drop (0:Int).toNat)=if b.length < 8 then ([],1) else ([ze_ (b.take 4),ze_ ((b.drop 4).take 4)],0):=by
  rw [show (0:Int).toNat=0 from rfl,List.drop_zero,zcv_]
 have es:kD_ [4,4]=8:=by decide
 unfold Jy_ Zu_ Zm_ ZB_ qh_
 rw [e,es]
 by_cases h:b.length < 8
 ·simp only [if_pos h];exact ⟨rfl,rfl,rfl⟩
 ·simp only [if_neg h];exact ⟨rfl,rfl,rfl⟩
theorem b0_ {w:Int} {y:List Int} (h1:1<=w) (h2:w<=8) (hl:w<=y.length):ZB_ [w] y=[ze_ (y.take w.toNat)]/\qh_ [w] y=0/\kD_ [w]=w:=by
 have hr:zZ_ [w]=true:=Zp_.2 ⟨by simp,fun n hn=>by rw [List.mem_singleton] at hn;omega⟩
 have ha:zx_ w=w:=by have:=yI_ (n:=w) (by omega);omega
 unfold ZB_ qh_ ZZ_ kD_
 rw [if_pos hr,if_pos hr]
 simp only [QD_,ha]
 rw [if_neg (by omega),if_pos (by omega)]
 refine ⟨rfl,rfl,?_⟩
 rw [List.map_cons,List.map_nil,List.sum_cons,List.sum_nil,ha,Int.add_zero]
theorem yC_ {w p sh od:Int} {b:List Int} (h1:1<=w) (h2:w<=8) (h0:0<=p) (hl:p+w<=b.length):Jm_ w b p 0=ze_ ((b.drop p.toNat).take w.toNat)/\zi_ w b p 0=p+w/\zj_ w b p sh od 0=0:=by
 obtain ⟨a,k,s⟩:=b0_ (w:=w) (y:=b.drop p.toNat) h1 h2 (by rw [List.length_drop];omega)
 have hc:1<=w/\w<=8:=⟨h1,h2⟩
 refine ⟨?_,?_,?_⟩
 ·unfold Jm_ Jy_;rw [if_pos hc,if_pos rfl,a];rfl
 ·unfold zi_ Zu_;rw [if_pos hc,if_pos rfl,k,s];rfl
 ·unfold zj_ Zm_;rw [if_pos hc,if_pos rfl,k];rfl
def Jq_:IR:=
(sq (kr [0] [oD 2 (.mov (.c (.imm (.int .u8) [])))])
(sq (kr [0] [oM 3 0,
oM 4 0,
oC 5 15 [4],
oC 6 12 [3,5],
oM 2 6])
.ret))
def j2_:List RD:=[.tmp 2 true (some (.int .u8))]
theorem Je_:zo_ Tryz.prog Tryz.f88 Jq_ j2_=true:=by kernel_rfl
def qm_:List AV->List Obj->Option (Prop × AV × List Obj)
 | [.ptr 0 0],[.box [.imm (.int .u8) b,.int .i64 p,.int .i64 sh,.int .i64 od,.int .i64 e,.bool true]]=>some ((0<=p/\p<=b.length/\b.length<=140737488355328/\sh ≠ 0,.imm (.int .u8) (if e=0 then b.drop p.toNat else []),[.box [.imm (.int .u8) b,.int .i64 ((if e=0 then (b.length:Int) else p)),.int .i64 sh,.int .i64 od,.int .i64 e,.bool true]]))
 | _,_=>none
theorem jh_:zf_ Tryz.prog 88 (RwF qm_).sum:=by
 refine ZS_ Tryz.func88 Je_ (zb_ (s:=RoF zB_) zO_ (zb_ (s:=RwF zG_) zX_ (zg_ _))) fun args objs p v o e=>?_
 unfold qm_ at e
 split at e
 ·rename_i b p sh od e
  cases e
  refine ⟨rfl,fun hw ho hp=>?_⟩
  change List Int at b
  clear hw ho
  obtain ⟨h1,h2,h3,h4⟩:=hp
  have hE:zW_ ((b.length:Int) - p) b p sh e=e:=by unfold zW_;rw [if_neg (by omega),if_neg (by omega)]
  have hL:zm_ ((b.length:Int) - p) b p sh e=if e=0 then b.drop p.toNat else []:=by
   unfold zm_;rw [hE,show (p+((b.length:Int) - p)).toNat=b.length by omega,List.take_length]
  have hP:Z5_ ((b.length:Int) - p) b p sh e=if e=0 then (b.length:Int) else p:=by
   unfold Z5_;rw [hE,show p+((b.length:Int) - p)=b.length by omega]
  repeat'(intro t ht;first|(cases t<;>first|(cases ht;done)|(try simp only[zh_]at ht))|((first|refine za_ ht ?_|refine ht ?_ ?_|refine ht.1 ?_ ?_|refine ht ?_)<;>clear ht))
  all_goals first
   | exact True.intro
   | exact ⟨h1,h2⟩
   | exact ⟨h1,h2,h3,h4⟩
   | (rw [hE,hL,hP];exact ⟨rfl,rfl⟩)
 ·cases e
theorem ft_0 {D:Bool} {t:Int} {x:List Int} (h:szT t=0):ftE D t x=3331/\ftN D t x=[]/\ftD t x=[]:=by
 have ho:otT t=false:=by
  rcases KK_ t with ⟨_,_,q⟩ | ⟨q,_⟩ | ⟨q,_⟩ | ⟨q,_⟩
  ·exact q
  all_goals omega
 unfold ftE ftN ftD
 rw [if_pos h,if_pos h,if_neg (by rw [ho];decide)];exact ⟨rfl,rfl,rfl⟩
theorem ft_o {D:Bool} {t:Int} {x:List Int} (h:¬ szT t=0) (ho:otT t=true):ftE D t x=(if x.length < 8 then 3332 else 0)/\ftN D t x=(if x.length < 8 then [] else [ze_ (x.take 4),ze_ ((x.drop 4).take 4)])/\ftD t x=(if x.length < 8 then [] else x.drop 8):=by
 unfold ftE ftN ftD
 rw [if_neg h,if_neg h,if_pos ho,if_pos ho,if_pos ho];exact ⟨rfl,rfl,rfl⟩
theorem ft_d {t:Int} {x:List Int} (h:¬ szT t=0) (ho:otT t=false):ftE true t x=3333/\ftN true t x=[]/\ftD t x=[]:=by
 unfold ftE ftN ftD
 rw [if_neg h,if_neg h,ho];exact ⟨rfl,rfl,rfl⟩
theorem ft_m {t:Int} {x:List Int} (h:¬ szT t=0) (ho:otT t=false) (hm:¬ (x.length:Int).tmod (szT t)=0):ftE false t x=3332/\ftN false t x=[]/\ftD t x=[]:=by
 unfold ftE ftN ftD
 rw [if_neg h,if_neg h,ho,if_pos hm,if_pos hm];exact ⟨rfl,rfl,rfl⟩
theorem b4_ {D:Bool} {t:Int} {x:List Int} (h:¬ szT t=0) (ho:otT t=false) (hD:D=false) (hm:(x.length:Int).tmod (szT t)=0):ftE D t x=(nuG t x).2/\ftN D t x=(nuG t x).1/\ftD t x=[]:=by
 subst hD
 unfold ftE ftN ftD
 rw [if_neg h,if_neg h,ho,if_neg (not_not_intro hm),if_neg (not_not_intro hm)];exact ⟨rfl,rfl,rfl⟩
theorem xb_ {t:Int} {x:List Int} {s:Nat} (hs:szT t=s) (h1:1<=s) (p:Nat) (h:p < x.length):(nuX t (x.drop p)=true->nuG t (x.drop p)=([nuV t (x.drop p)],3333))/\(nuX t (x.drop p)=false->nuG t (x.drop p)=(nuV t (x.drop p) :: (nuG t (x.drop (p+s))).1,(nuG t (x.drop (p+s))).2)):=by
 have hl:¬ (x.drop p).length=0:=by rw [List.length_drop];omega
 refine ⟨fun k=>zbw_ hl k,fun k=>?_⟩
 rw [bt_ hl k (by omega),List.drop_drop,hs,Int.toNat_natCast]
theorem jx_ {t:Int} {x:List Int} {p:Nat} (h:x.length<=p):nuG t (x.drop p)=([],0):=k4_ (by rw [List.length_drop];omega)
theorem w42:(4:Int) - 2=2:=rfl
theorem Hp_ {tt W:Int} {x:List Int} (hw:nuW tt=W) (h1:1<=W) (h2:W<=8) {P:Int} {p:Nat} (hP:P=p) (h:(p:Int)+W<=x.length):Jm_ W x P 0=nuV tt (x.drop p)/\zi_ W x P 0=P+W/\zj_ W x P 3332 3333 0=0:=by
 obtain ⟨a,b,c⟩:=yC_ (w:=W) (p:=P) (sh:=3332) (od:=3333) (b:=x) h1 h2 (by omega) (by omega)
 refine ⟨a.trans ?_,b,c⟩
 unfold nuV;rw [hw,hP,Int.toNat_natCast]
theorem fx_2 {x:List Int} {P:Int} {p:Nat} (hP:P=p+2) (h:p+4<=x.length):Jm_ 2 x P 0=ze_ (((x.drop p).drop 2).take 2)/\zi_ 2 x P 0=(p:Int)+4/\zj_ 2 x P 3332 3333 0=0:=by
 obtain ⟨a,b,c⟩:=yC_ (w:=2) (p:=P) (sh:=3332) (od:=3333) (b:=x) (by decide) (by decide) (by omega) (by omega)
 refine ⟨a.trans ?_,by omega,c⟩
 rw [List.drop_drop,hP,show ((p:Int)+2).toNat=p+2 by omega];rfl
theorem jT_ {t:Int} {y:List Int} (h:tyT t=true) (hs:szT t=4):nuX t y=!decide (ze_ ((y.drop 2).take 2)=4):=by
 unfold nuX;rw [h,hs];simp
theorem ym_ {t:Int} {y:List Int} (h:tyT t=false) (hs:szT t=1):nuX t y=decide (254 < nuV t y):=by
 unfold nuX;rw [h,hs];simp
theorem h9_ {t:Int} (h:tyT t=false) (hs:szT t=4) (y:List Int):nuX t y=false:=by
 unfold nuX;rw [h,hs];simp
def yq_:IR:=
(sq (kr [0,1] [oD 2 (.boxv 0),
oD 4 (.box [.int .i64 0,.nils,.nils]),
oD 5 (.mov (cI 0))])
(sq (kd [1,2,4] [(oA 11 0 2,[]),
(oL 12 11,[]),
(oD 13 (.build [.int .i64 0,.nils,.nils] [(0,1,12)]),[]),
(oA 14 0 2,[0,0,0]),
(oL 15 14,[1,0,0]),
(oC 16 42 [15],[2,0,0]),
(oD 6 (.box [.int .i64 0,.nils,.nils]),[0,0,0,0,0,0]),
(oD 7 (.box [.int .i64 0,.kb false,.kb false]),[0,0,0,0,0,0,0]),
(oS 3 6 13,[]),
(oS 3 7 16,[])])
(sq (kr [1,2,4,6,7] [oA 17 1 2,
oL 18 17,
oC 19 11 [18,(cI 3332),(cI 3333)],
oM 8 19])
(sq (.block 0
(sq (.reg [oA 21 0 7,
oL 22 21,
oB 23 .eql 22 (cI 0),
oM 20 23])
(.cond 20
(sq (kr [4,6] [oK 24 3 6,
oS 3 4 24,
oD 5 (.mov (cI 3331))])
.ret)
(sq (kr [1,2,4,6,7,8] [oA 26 2 7,
oL 27 26,
oM 25 27])
(.cond 25
(sq (kr [4,6,8] [oM 28 8,
oD 29 (.sliceAll (.int .i64) 2 [(0,1,(cI 4)),(1,1,(cI 4))]),
oC 30 81 [28,29],
oM 31 8,
oC 32 88 [31],
oA 33 1 6,
oS 1 33 30,
oA 34 2 6,
oS 1 34 32])
(sq (kd [4,6,8] [(oK 35 3 6,[]),
(oM 36 8,[0]),
(oC 37 14 [36],[1]),
(oS 3 4 35,[]),
(oM 5 37,[])])
.ret))
(sq (kr [1,2,4,6,7,8] [oM 39 1,
oA 40 0 2,
oL 41 40,
oD 42 (.mget (.int .i64) (.int .i64) (0:Int) false 39 41),
oB 43 .gtr 42 (cI 0),
oM 38 43])
(.cond 38
(sq (kr [4,6] [oK 44 3 6,
oS 3 4 44,
oD 5 (.mov (cI 3333))])
.ret)
(sq (kr [2,4,6,7,8] [oA 46 1 2,
oL 47 46,
oE 48 47,
oA 49 0 7,
oL 50 49,
oB 51 .rem 48 50,
oB 52 .neq 51 (cI 0),
oM 45 52])
(.cond 45
(sq (kr [4,6] [oK 53 3 6,
oS 3 4 53,
oD 5 (.mov (cI 3332))])
.ret)
.skip)))))))))
(sq (.block 1
(.loop
(sq (sq (kr [4,6,7,8] [oM 54 8,
oC 55 15 [54],
oB 56 .gtr 55 (cI 0),
oM 57 56,
oT 57 58 (.mov 8),
oT 57 59 (.call false (.f 14) [58]),
oT 57 60 (.bin .eql 59 (cI 0)),
oP 61 57 60 cF])
(.cond 61
.skip
(.exit 1)))
(.block 2
(sq (kr [4,6,7,8] [oA 62 0 7,
oL 63 62,
oM 9 63])
(sq (sq (.reg [oA 64 1 7,
oL 65 64])
(.cond 65
(.reg [oM 66 9,
oB 67 .sub 66 (cI 2),
oM 9 67])
.skip))
(sq (kr [4,6,7,8,9] [oM 68 8,
oM 69 9,
oC 70 80 [68,69],
oM 10 70])
(sq (sq (kr [4,6,7,8,10] [oA 71 1 7,
oL 72 71,
oM 73 72,
oT 73 74 (.mov 8),
oT 73 75 (.call false (.f 80) [74,(cI 2)]),
oT 73 76 (.bin .neq 75 (.c (.int .u64 4))),
oP 77 73 76 cF,
oM 78 77,
oF 78 79 (.fieldAddr 0 7),
oF 78 80 (.load none 79),
oF 78 81 (.bin .eql 80 (cI 1)),
oF 78 82 (.mov 81),
oT 82 83 (.mov 10),
oT 82 84 (.bin .gtr 83 (.c (.int .u64 254))),
oF 78 85 (.pick 82 84 cF),
oP 86 78 cT 85])
(.cond 86
(kr [4,6,7,8,10] [oM 87 8,
oC 88 40 [87,(cI 3333)]])
.skip))
(kr [4,6,7,8,10] [oA 89 1 6,
oL 90 89,
oM 91 10,
oD 92 (.sliceAll (.int .u64) 1 [(0,1,91)]),
oD 93 (.append (.int .u64) 8 90 92),
oA 94 1 6,
oS 1 94 93])))))))))
(sq (kd [4,6,8] [(oK 95 3 6,[]),
(oM 96 8,[0]),
(oC 97 14 [96],[1]),
(oS 3 4 95,[]),
(oM 5 97,[])])
.ret))))))
def X8_:List RD:=[.cell 4 (some 3) true [none,(some (.int .u64)),(some (.int .u8))],.tmp 5 true none]
theorem yi_:zo_ Tryz.prog Tryz.f66 yq_ X8_=true:=by kernel_rfl
def Ke_:List AV->List Obj->Option (Prop × AV)
 | [.agg [.int .i64 tt,.imm (.int .u8) x],.mapv 0],[.map sq (.int .i64) (.int .i64) m]=>some ((x.length<=100000,.tup [.agg [.int .i64 tt,.imm (.int .u64) ((ftN (decide (0 < (zs_ m tt).getD 0)) tt x)),.imm (.int .u8) ((ftD tt x))],.int .i64 (ftE (decide (0 < (zs_ m tt).getD 0)) tt x)]))
 | _,_=>none
theorem xN_:zf_ Tryz.prog 66 (RoF Ke_).sum:=by
 refine zw_ Tryz.func66 yi_ (zb_ (s:=RoF ZN_) qc_ (zb_ (s:=RwF ZO_) qd_ (zb_ (s:=RwF Zq_) ZX_ (zb_ (s:=RwF qm_) jh_ (zb_ (s:=RoF zq_) zu_ (zb_ (s:=RoF zB_) zO_ (zb_ (s:=RwF ZE_) QE_ (zb_ (s:=RwF zr_) zy_ (zg_ _))))))))) fun args objs p v e=>?_
 unfold Ke_ at e
 split at e
 ·rename_i tt x sq m
  cases e
  refine ⟨rfl,fun hw ho hp=>?_⟩
  change List Int at x
  clear hw ho
  change List Int at x
  change List (Int × Int) at m
  have hz:=KK_ tt
  obtain ⟨c1,c2,c3⟩:=zcE_ (b:=x) (sh:=3332) (od:=3333)
  repeat'(intro t ht;first|(cases t<;>first|(cases ht;done)|(try simp only[zh_]at ht;try(exfalso;first|contradiction|omega)))|((first|refine za_ ht ?_|refine ht ?_ ?_|refine ht.1 ?_ ?_|refine ht ?_)<;>clear ht))
  all_goals first
   | exact True.intro
   | exact hp
   | omega
   | exact ⟨by omega,by omega,by omega⟩
   | (refine ⟨?_,rfl⟩
      obtain ⟨q1,q2,q3⟩:=ft_0 (D:=decide (0 < (zs_ m tt).getD 0)) (x:=x) ‹szT tt=0›
      rw [q1,q2,q3];done)
   | (rw [c1,c2,c3]
      refine ⟨?_,rfl⟩
      obtain ⟨q1,q2,q3⟩:=ft_o (D:=decide (0 < (zs_ m tt).getD 0)) (x:=x) ‹¬ szT tt=0› ‹otT tt=true›
      rw [q1,q2,q3]
      by_cases h8:x.length < 8
      ·simp only [if_pos h8];rfl
      ·simp only [if_neg h8];rfl)
   | (rw [c2,c3];by_cases h8:x.length < 8
      ·simp only [if_pos h8];exact ⟨by omega,by omega,by omega,by decide⟩
      ·simp only [if_neg h8];exact ⟨by omega,by omega,by omega,by decide⟩)
   | (refine ⟨?_,rfl⟩
      have e:decide (0 < (zs_ m tt).getD 0)=true:=decide_eq_true ht
      obtain ⟨q1,q2,q3⟩:=ft_d (x:=x) ‹¬ szT tt=0› ‹otT tt=false›
      rw [e,q1,q2,q3];done)
   | (refine ⟨?_,rfl⟩
      have e:decide (0 < (zs_ m tt).getD 0)=false:=decide_eq_false ‹¬ 0 < (zs_ m tt).getD 0›
      obtain ⟨q1,q2,q3⟩:=ft_m (x:=x) ‹¬ szT tt=0› ‹otT tt=false› ht
      rw [e,q1,q2,q3];done)
   | skip
  ·have hs0:¬ szT tt=0:=by assumption
   have hot:otT tt=false:=by assumption
   have hD:decide (0 < (zs_ m tt).getD 0)=false:=decide_eq_false ‹¬ 0 < (zs_ m tt).getD 0›
   have hmod:(x.length:Int).tmod (szT tt)=0:=by assumption
   have hz2:(szT tt=1/\tyT tt=false)\/(szT tt=4/\tyT tt=true)\/(szT tt=4/\tyT tt=false):=by
    rcases hz with ⟨q,_⟩ | ⟨q,r,_⟩ | ⟨q,_⟩ | ⟨_,_,q,_⟩
    ·exact absurd q hs0
    ·exact .inl ⟨q,r⟩
    ·cases h:tyT tt
     ·exact .inr (.inr ⟨q,rfl⟩)
     ·exact .inr (.inl ⟨q,rfl⟩)
    ·rw [hot] at q;cases q
   clear hz
   rcases hz2 with ⟨hs,hty⟩ | ⟨hs,hty⟩ | ⟨hs,hty⟩
   ·-- a number has 1 bytes
    have h8:=b4_ (x:=x) hs0 hot hD hmod
    have hx4:x.length % 1=0:=by rw [hs,Int.tmod_eq_emod_of_nonneg (by omega)] at hmod;omega
    have hng:=xb_ (t:=tt) (x:=x) (s:=1) hs (by decide)
    have hnw:nuW tt=1:=by unfold nuW;rw [hty,hs];decide
    first
     | (intro r h1 h2;clear h1;refine h2 ⟨[4,6,7,8],Option (List Int × Nat × Int),(fun a=>match a with | none=>True | some a=>a.2.1<=x.length/\a.1.length<=a.2.1/\(x.length - a.2.1) % 1=0/\((a.2.2=0/\nuG tt x=(a.1++(nuG tt (x.drop a.2.1)).1,(nuG tt (x.drop a.2.1)).2))\/(a.2.2 ≠ 0/\nuG tt x=(a.1,a.2.2)))),(fun a=>[.ptr 1 0,.ptr 2 0,.ptr 3 0,.ptr 4 0]),(fun a=>match a with | none=>[.map sq (.int .i64) (.int .i64) m,.box [.int .i64 0,.nils,.nils],.box [.int .i64 tt,.nils,.nils],.box [.int .i64 1,.bool false,.bool false],.box [.imm (.int .u8) x,.int .i64 0,.int .i64 3332,.int .i64 3333,.int .i64 0,.bool true]] | some a=>[.map sq (.int .i64) (.int .i64) m,.box [.int .i64 0,.nils,.nils],.box [.int .i64 tt,.own 5,.nils],.box [.int .i64 1,.bool false,.bool false],.box [.imm (.int .u8) x,.int .i64 ((a.2.1:Int)),.int .i64 3332,.int .i64 3333,.int .i64 a.2.2,.bool true],.row false (.int .u64) a.1]),(fun a=>match a with | none=>x.length+1 | some a=>if a.2.2=0 then x.length - a.2.1 else 0),⟨none,True.intro,rfl,(by rw [hs,hty,hot])⟩,?_⟩;clear h2)
    rintro (_ | ⟨acc,p,e⟩) hJ
    ·clear hJ
     have hfit:0 < x.length->0+1<=x.length:=fun h=>by omega
     have g1:=fun h:0+1<=x.length=>Hp_ (tt:=tt) (x:=x) (W:=1) hnw (by decide) (by decide) (P:=0) (p:=0) rfl (by omega)
     have hx0:nuG tt x=(([]:List Int)++(nuG tt (x.drop 0)).1,(nuG tt (x.drop 0)).2):=rfl
     have hg:=fun h:0 < x.length=>hng 0 h
     repeat'(intro t ht;first|(cases t<;>first|(cases ht;done)|(try simp only[zh_]at ht;try(exfalso;first|contradiction|omega)))|((first|refine za_ ht ?_|refine ht ?_ ?_|refine ht.1 ?_ ?_|refine ht ?_)<;>clear ht))
     all_goals first
      | exact True.intro
      | omega
      | decide
      | exact ⟨by first | omega | (dsimp only;omega),by first | omega | (dsimp only;omega)⟩
      | exact ⟨by first | omega | (dsimp only;omega),by first | omega | (dsimp only;omega),by omega⟩
      | (simp only [List.length_cons,List.length_nil];constructor<;>omega)
      | (refine ⟨?_,rfl⟩
         have e:nuG tt x=([],0):=k4_ (by omega)
         rw [h8.1,h8.2.1,h8.2.2,e];done)
      | skip
     all_goals have hlt:0 < x.length:=by omega
     all_goals obtain ⟨a1,a2,a3⟩:=g1 (hfit hlt)
     all_goals (try simp only [a1,a2,a3] at ht)
     all_goals simp only [a1,a2,a3]
     all_goals first
      | (have e:=(hg hlt).1 (by rw [ym_ hty hs];exact decide_eq_true ht)
         refine ⟨some ([]++[nuV tt (x.drop 0)],0+1,3333),⟨by dsimp only;omega,by dsimp only;simp only [List.length_append,List.length_cons,List.length_nil];omega,by dsimp only;omega,.inr ⟨by show (3333:Int) ≠ 0;decide,?_⟩⟩,by first | (show (if (3333:Int)=0 then _ else 0) < _;rw [if_neg (by decide)];(try dsimp only);(try rw [if_pos True.intro]);omega),rfl,?_⟩
         ·rw [hx0,e]
         ·rfl)
      | (have e:=(hg hlt).2 (by rw [ym_ hty hs];exact decide_eq_false ht)
         refine ⟨some ([]++[nuV tt (x.drop 0)],0+1,0),⟨by dsimp only;omega,by dsimp only;simp only [List.length_append,List.length_cons,List.length_nil];omega,by dsimp only;omega,.inl ⟨rfl,?_⟩⟩,by first | (show (if (0:Int)=0 then _ else 0) < _;rw [if_pos rfl];(try dsimp only);(try rw [if_pos True.intro]);omega),rfl,?_⟩
         ·rw [hx0,e];dsimp only;rw [List.append_assoc];rfl
         ·rfl)
    ·obtain ⟨j1,j2,j3,j4⟩:=hJ
     dsimp only at j1 j2 j3 j4
     rcases j4 with ⟨rfl,j4⟩ | ⟨j4,j5⟩
     ·have hfit:p < x.length->p+1<=x.length:=fun h=>by omega
      have g1:=fun h:p+1<=x.length=>Hp_ (tt:=tt) (x:=x) (W:=1) hnw (by decide) (by decide) (P:=(p:Int)) (p:=p) rfl (by omega)
      have hg:=fun h:p < x.length=>hng p h
      repeat'(intro t ht;first|(cases t<;>first|(cases ht;done)|(try simp only[zh_]at ht;try(exfalso;first|contradiction|omega)))|((first|refine za_ ht ?_|refine ht ?_ ?_|refine ht.1 ?_ ?_|refine ht ?_)<;>clear ht))
      all_goals first
       | exact True.intro
       | omega
       | decide
       | exact ⟨by first | omega | (dsimp only;omega),by first | omega | (dsimp only;omega)⟩
       | exact ⟨by first | omega | (dsimp only;omega),by first | omega | (dsimp only;omega),by omega⟩
       | (simp only [List.length_cons,List.length_nil];constructor<;>omega)
       | (refine ⟨?_,rfl⟩
          have e:nuG tt x=(acc,0):=by rw [j4,jx_ (by omega),List.append_nil]
          rw [h8.1,h8.2.1,h8.2.2,e];done)
       | skip
      all_goals have hlt:p < x.length:=by omega
      all_goals obtain ⟨a1,a2,a3⟩:=g1 (hfit hlt)
      all_goals (try simp only [a1,a2,a3] at ht)
      all_goals simp only [a1,a2,a3]
      all_goals first
       | (have e:=(hg hlt).1 (by rw [ym_ hty hs];exact decide_eq_true ht)
          refine ⟨some (acc++[nuV tt (x.drop p)],p+1,3333),⟨by dsimp only;omega,by dsimp only;simp only [List.length_append,List.length_cons,List.length_nil];omega,by dsimp only;omega,.inr ⟨by show (3333:Int) ≠ 0;decide,?_⟩⟩,by first | (show (if (3333:Int)=0 then _ else 0) < _;rw [if_neg (by decide)];(try dsimp only);(try rw [if_pos True.intro]);omega),rfl,?_⟩
          ·rw [j4,e]
          ·first | rfl | (dsimp only;rw [show ((p:Int)+1)=((p+1:Nat):Int) by omega];rfl))
       | (have e:=(hg hlt).2 (by rw [ym_ hty hs];exact decide_eq_false ht)
          refine ⟨some (acc++[nuV tt (x.drop p)],p+1,0),⟨by dsimp only;omega,by dsimp only;simp only [List.length_append,List.length_cons,List.length_nil];omega,by dsimp only;omega,.inl ⟨rfl,?_⟩⟩,by first | (show (if (0:Int)=0 then _ else 0) < _;rw [if_pos rfl];(try dsimp only);(try rw [if_pos True.intro]);omega),rfl,?_⟩
          ·rw [j4,e];dsimp only;rw [List.append_assoc];rfl
          ·first | rfl | (dsimp only;rw [show ((p:Int)+1)=((p+1:Nat):Int) by omega];rfl))
     ·repeat'(intro t ht;first|(cases t<;>first|(cases ht;done)|(try simp only[zh_]at ht;try(exfalso;first|contradiction|omega)))|((first|refine za_ ht ?_|refine ht ?_ ?_|refine ht.1 ?_ ?_|refine ht ?_)<;>clear ht))
      all_goals first
       | exact True.intro
       | exact absurd ‹e=0› j4
       | exact ⟨by dsimp only;omega,by dsimp only;omega⟩
       | (refine ⟨?_,rfl⟩
          rw [h8.1,h8.2.1,h8.2.2,j5];done)
   ·-- a number has 4 bytes
    have h8:=b4_ (x:=x) hs0 hot hD hmod
    have hx4:x.length % 4=0:=by rw [hs,Int.tmod_eq_emod_of_nonneg (by omega)] at hmod;omega
    have hng:=xb_ (t:=tt) (x:=x) (s:=4) hs (by decide)
    have hnw:nuW tt=2:=by unfold nuW;rw [hty,hs];decide
    first
     | (intro r h1 h2;clear h1;refine h2 ⟨[4,6,7,8],Option (List Int × Nat × Int),(fun a=>match a with | none=>True | some a=>a.2.1<=x.length/\a.1.length<=a.2.1/\(x.length - a.2.1) % 4=0/\((a.2.2=0/\nuG tt x=(a.1++(nuG tt (x.drop a.2.1)).1,(nuG tt (x.drop a.2.1)).2))\/(a.2.2 ≠ 0/\nuG tt x=(a.1,a.2.2)))),(fun a=>[.ptr 1 0,.ptr 2 0,.ptr 3 0,.ptr 4 0]),(fun a=>match a with | none=>[.map sq (.int .i64) (.int .i64) m,.box [.int .i64 0,.nils,.nils],.box [.int .i64 tt,.nils,.nils],.box [.int .i64 4,.bool true,.bool false],.box [.imm (.int .u8) x,.int .i64 0,.int .i64 3332,.int .i64 3333,.int .i64 0,.bool true]] | some a=>[.map sq (.int .i64) (.int .i64) m,.box [.int .i64 0,.nils,.nils],.box [.int .i64 tt,.own 5,.nils],.box [.int .i64 4,.bool true,.bool false],.box [.imm (.int .u8) x,.int .i64 ((a.2.1:Int)),.int .i64 3332,.int .i64 3333,.int .i64 a.2.2,.bool true],.row false (.int .u64) a.1]),(fun a=>match a with | none=>x.length+1 | some a=>if a.2.2=0 then x.length - a.2.1 else 0),⟨none,True.intro,rfl,(by rw [hs,hty,hot])⟩,?_⟩;clear h2)
    rintro (_ | ⟨acc,p,e⟩) hJ
    ·clear hJ
     have hfit:0 < x.length->0+4<=x.length:=fun h=>by omega
     have g1:=fun h:0+4<=x.length=>Hp_ (tt:=tt) (x:=x) (W:=2) hnw (by decide) (by decide) (P:=0) (p:=0) rfl (by omega)
     have g2:=fun h:0+4<=x.length=>fx_2 (x:=x) (P:=0+2) (p:=0) rfl (by omega)
     have hx0:nuG tt x=(([]:List Int)++(nuG tt (x.drop 0)).1,(nuG tt (x.drop 0)).2):=rfl
     have hg:=fun h:0 < x.length=>hng 0 h
     repeat'(intro t ht;first|(cases t<;>first|(cases ht;done)|(try simp only[zh_]at ht;try(exfalso;first|contradiction|omega)))|((first|refine za_ ht ?_|refine ht ?_ ?_|refine ht.1 ?_ ?_|refine ht ?_)<;>clear ht))
     all_goals first
      | exact True.intro
      | omega
      | decide
      | exact ⟨by first | omega | (dsimp only;omega),by first | omega | (dsimp only;omega)⟩
      | exact ⟨by first | omega | (dsimp only;omega),by first | omega | (dsimp only;omega),by omega⟩
      | (simp only [List.length_cons,List.length_nil];constructor<;>omega)
      | (obtain ⟨a1,a2,a3⟩:=g1 (hfit (by omega));simp only [w42,a2];exact ⟨by omega,by omega,by omega⟩)
      | (refine ⟨?_,rfl⟩
         have e:nuG tt x=([],0):=k4_ (by omega)
         rw [h8.1,h8.2.1,h8.2.2,e];done)
      | skip
     all_goals have hlt:0 < x.length:=by omega
     all_goals obtain ⟨a1,a2,a3⟩:=g1 (hfit hlt)
     all_goals obtain ⟨b1,b2,b3⟩:=g2 (hfit hlt)
     all_goals simp only [w42,a1,a2,a3,b1,b2,b3]
     all_goals have hq:Jm_ 2 x (zi_ (4 - 2) x (0) 0) (zj_ (4 - 2) x (0) 3332 3333 0)=ze_ (((x.drop 0).drop 2).take 2):=by simp only [w42,a2,a3,b1]
     all_goals first
      | (have e:=(hg hlt).1 (by rw [jT_ hty hs,decide_eq_false fun c=>(show ¬ Jm_ 2 x (zi_ (4 - 2) x (0) 0) (zj_ (4 - 2) x (0) 3332 3333 0)=4 by assumption) (hq.trans c)];rfl)
         refine ⟨some ([]++[nuV tt (x.drop 0)],0+4,3333),⟨by dsimp only;omega,by dsimp only;simp only [List.length_append,List.length_cons,List.length_nil];omega,by dsimp only;omega,.inr ⟨by show (3333:Int) ≠ 0;decide,?_⟩⟩,by first | (show (if (3333:Int)=0 then _ else 0) < _;rw [if_neg (by decide)];(try dsimp only);(try rw [if_pos True.intro]);omega),rfl,?_⟩
         ·rw [hx0,e]
         ·rfl)
      | (have e:=(hg hlt).2 (by rw [jT_ hty hs,decide_eq_true (hq.symm.trans (by assumption))];rfl)
         refine ⟨some ([]++[nuV tt (x.drop 0)],0+4,0),⟨by dsimp only;omega,by dsimp only;simp only [List.length_append,List.length_cons,List.length_nil];omega,by dsimp only;omega,.inl ⟨rfl,?_⟩⟩,by first | (show (if (0:Int)=0 then _ else 0) < _;rw [if_pos rfl];(try dsimp only);(try rw [if_pos True.intro]);omega),rfl,?_⟩
         ·rw [hx0,e];dsimp only;rw [List.append_assoc];rfl
         ·rfl)
    ·obtain ⟨j1,j2,j3,j4⟩:=hJ
     dsimp only at j1 j2 j3 j4
     rcases j4 with ⟨rfl,j4⟩ | ⟨j4,j5⟩
     ·have hfit:p < x.length->p+4<=x.length:=fun h=>by omega
      have g1:=fun h:p+4<=x.length=>Hp_ (tt:=tt) (x:=x) (W:=2) hnw (by decide) (by decide) (P:=(p:Int)) (p:=p) rfl (by omega)
      have g2:=fun h:p+4<=x.length=>fx_2 (x:=x) (P:=(p:Int)+2) (p:=p) rfl (by omega)
      have hg:=fun h:p < x.length=>hng p h
      repeat'(intro t ht;first|(cases t<;>first|(cases ht;done)|(try simp only[zh_]at ht;try(exfalso;first|contradiction|omega)))|((first|refine za_ ht ?_|refine ht ?_ ?_|refine ht.1 ?_ ?_|refine ht ?_)<;>clear ht))
      all_goals first
       | exact True.intro
       | omega
       | decide
       | exact ⟨by first | omega | (dsimp only;omega),by first | omega | (dsimp only;omega)⟩
       | exact ⟨by first | omega | (dsimp only;omega),by first | omega | (dsimp only;omega),by omega⟩
       | (simp only [List.length_cons,List.length_nil];constructor<;>omega)
       | (obtain ⟨a1,a2,a3⟩:=g1 (hfit (by omega));simp only [w42,a2];exact ⟨by omega,by omega,by omega⟩)
       | (refine ⟨?_,rfl⟩
          have e:nuG tt x=(acc,0):=by rw [j4,jx_ (by omega),List.append_nil]
          rw [h8.1,h8.2.1,h8.2.2,e];done)
       | skip
      all_goals have hlt:p < x.length:=by omega
      all_goals obtain ⟨a1,a2,a3⟩:=g1 (hfit hlt)
      all_goals obtain ⟨b1,b2,b3⟩:=g2 (hfit hlt)
      all_goals simp only [w42,a1,a2,a3,b1,b2,b3]
      all_goals have hq:Jm_ 2 x (zi_ (4 - 2) x ((p:Int)) 0) (zj_ (4 - 2) x ((p:Int)) 3332 3333 0)=ze_ (((x.drop p).drop 2).take 2):=by simp only [w42,a2,a3,b1]
      all_goals first
       | (have e:=(hg hlt).1 (by rw [jT_ hty hs,decide_eq_false fun c=>(show ¬ Jm_ 2 x (zi_ (4 - 2) x ((p:Int)) 0) (zj_ (4 - 2) x ((p:Int)) 3332 3333 0)=4 by assumption) (hq.trans c)];rfl)
          refine ⟨some (acc++[nuV tt (x.drop p)],p+4,3333),⟨by dsimp only;omega,by dsimp only;simp only [List.length_append,List.length_cons,List.length_nil];omega,by dsimp only;omega,.inr ⟨by show (3333:Int) ≠ 0;decide,?_⟩⟩,by first | (show (if (3333:Int)=0 then _ else 0) < _;rw [if_neg (by decide)];(try dsimp only);(try rw [if_pos True.intro]);omega),rfl,?_⟩
          ·rw [j4,e]
          ·first | rfl | (dsimp only;rw [show ((p:Int)+4)=((p+4:Nat):Int) by omega];rfl))
       | (have e:=(hg hlt).2 (by rw [jT_ hty hs,decide_eq_true (hq.symm.trans (by assumption))];rfl)
          refine ⟨some (acc++[nuV tt (x.drop p)],p+4,0),⟨by dsimp only;omega,by dsimp only;simp only [List.length_append,List.length_cons,List.length_nil];omega,by dsimp only;omega,.inl ⟨rfl,?_⟩⟩,by first | (show (if (0:Int)=0 then _ else 0) < _;rw [if_pos rfl];(try dsimp only);(try rw [if_pos True.intro]);omega),rfl,?_⟩
          ·rw [j4,e];dsimp only;rw [List.append_assoc];rfl
          ·first | rfl | (dsimp only;rw [show ((p:Int)+4)=((p+4:Nat):Int) by omega];rfl))
     ·repeat'(intro t ht;first|(cases t<;>first|(cases ht;done)|(try simp only[zh_]at ht;try(exfalso;first|contradiction|omega)))|((first|refine za_ ht ?_|refine ht ?_ ?_|refine ht.1 ?_ ?_|refine ht ?_)<;>clear ht))
      all_goals first
       | exact True.intro
       | exact absurd ‹e=0› j4
       | exact ⟨by dsimp only;omega,by dsimp only;omega⟩
       | (refine ⟨?_,rfl⟩
          rw [h8.1,h8.2.1,h8.2.2,j5];done)
   ·-- a number has 4 bytes
    have h8:=b4_ (x:=x) hs0 hot hD hmod
    have hx4:x.length % 4=0:=by rw [hs,Int.tmod_eq_emod_of_nonneg (by omega)] at hmod;omega
    have hng:=xb_ (t:=tt) (x:=x) (s:=4) hs (by decide)
    have hnw:nuW tt=4:=by unfold nuW;rw [hty,hs];decide
    first
     | (intro r h1 h2;clear h1;refine h2 ⟨[4,6,7,8],Option (List Int × Nat × Int),(fun a=>match a with | none=>True | some a=>a.2.1<=x.length/\a.1.length<=a.2.1/\(x.length - a.2.1) % 4=0/\((a.2.2=0/\nuG tt x=(a.1++(nuG tt (x.drop a.2.1)).1,(nuG tt (x.drop a.2.1)).2))\/(a.2.2 ≠ 0/\nuG tt x=(a.1,a.2.2)))),(fun a=>[.ptr 1 0,.ptr 2 0,.ptr 3 0,.ptr 4 0]),(fun a=>match a with | none=>[.map sq (.int .i64) (.int .i64) m,.box [.int .i64 0,.nils,.nils],.box [.int .i64 tt,.nils,.nils],.box [.int .i64 4,.bool false,.bool false],.box [.imm (.int .u8) x,.int .i64 0,.int .i64 3332,.int .i64 3333,.int .i64 0,.bool true]] | some a=>[.map sq (.int .i64) (.int .i64) m,.box [.int .i64 0,.nils,.nils],.box [.int .i64 tt,.own 5,.nils],.box [.int .i64 4,.bool false,.bool false],.box [.imm (.int .u8) x,.int .i64 ((a.2.1:Int)),.int .i64 3332,.int .i64 3333,.int .i64 a.2.2,.bool true],.row false (.int .u64) a.1]),(fun a=>match a with | none=>x.length+1 | some a=>if a.2.2=0 then x.length - a.2.1 else 0),⟨none,True.intro,rfl,(by rw [hs,hty,hot])⟩,?_⟩;clear h2)
    rintro (_ | ⟨acc,p,e⟩) hJ
    ·clear hJ
     have hfit:0 < x.length->0+4<=x.length:=fun h=>by omega
     have g1:=fun h:0+4<=x.length=>Hp_ (tt:=tt) (x:=x) (W:=4) hnw (by decide) (by decide) (P:=0) (p:=0) rfl (by omega)
     have hx0:nuG tt x=(([]:List Int)++(nuG tt (x.drop 0)).1,(nuG tt (x.drop 0)).2):=rfl
     have hg:=fun h:0 < x.length=>hng 0 h
     repeat'(intro t ht;first|(cases t<;>first|(cases ht;done)|(try simp only[zh_]at ht;try(exfalso;first|contradiction|omega)))|((first|refine za_ ht ?_|refine ht ?_ ?_|refine ht.1 ?_ ?_|refine ht ?_)<;>clear ht))
     all_goals first
      | exact True.intro
      | omega
      | decide
      | exact ⟨by first | omega | (dsimp only;omega),by first | omega | (dsimp only;omega)⟩
      | exact ⟨by first | omega | (dsimp only;omega),by first | omega | (dsimp only;omega),by omega⟩
      | (simp only [List.length_cons,List.length_nil];constructor<;>omega)
      | (refine ⟨?_,rfl⟩
         have e:nuG tt x=([],0):=k4_ (by omega)
         rw [h8.1,h8.2.1,h8.2.2,e];done)
      | skip
     all_goals have hlt:0 < x.length:=by omega
     all_goals obtain ⟨a1,a2,a3⟩:=g1 (hfit hlt)
     all_goals (try simp only [a1,a2,a3] at ht)
     all_goals simp only [a1,a2,a3]
     all_goals first
      | (have e:=(hg hlt).2 (h9_ hty hs _)
         refine ⟨some ([]++[nuV tt (x.drop 0)],0+4,0),⟨by dsimp only;omega,by dsimp only;simp only [List.length_append,List.length_cons,List.length_nil];omega,by dsimp only;omega,.inl ⟨rfl,?_⟩⟩,by first | (show (if (0:Int)=0 then _ else 0) < _;rw [if_pos rfl];(try dsimp only);(try rw [if_pos True.intro]);omega),rfl,?_⟩
         ·rw [hx0,e];dsimp only;rw [List.append_assoc];rfl
         ·rfl)
    ·obtain ⟨j1,j2,j3,j4⟩:=hJ
     dsimp only at j1 j2 j3 j4
     rcases j4 with ⟨rfl,j4⟩ | ⟨j4,j5⟩
     ·have hfit:p < x.length->p+4<=x.length:=fun h=>by omega
      have g1:=fun h:p+4<=x.length=>Hp_ (tt:=tt) (x:=x) (W:=4) hnw (by decide) (by decide) (P:=(p:Int)) (p:=p) rfl (by omega)
      have hg:=fun h:p < x.length=>hng p h
      repeat'(intro t ht;first|(cases t<;>first|(cases ht;done)|(try simp only[zh_]at ht;try(exfalso;first|contradiction|omega)))|((first|refine za_ ht ?_|refine ht ?_ ?_|refine ht.1 ?_ ?_|refine ht ?_)<;>clear ht))
      all_goals first
       | exact True.intro
       | omega
       | decide
       | exact ⟨by first | omega | (dsimp only;omega),by first | omega | (dsimp only;omega)⟩
       | exact ⟨by first | omega | (dsimp only;omega),by first | omega | (dsimp only;omega),by omega⟩
       | (simp only [List.length_cons,List.length_nil];constructor<;>omega)
       | (refine ⟨?_,rfl⟩
          have e:nuG tt x=(acc,0):=by rw [j4,jx_ (by omega),List.append_nil]
          rw [h8.1,h8.2.1,h8.2.2,e];done)
       | skip
      all_goals have hlt:p < x.length:=by omega
      all_goals obtain ⟨a1,a2,a3⟩:=g1 (hfit hlt)
      all_goals (try simp only [a1,a2,a3] at ht)
      all_goals simp only [a1,a2,a3]
      all_goals first
       | (have e:=(hg hlt).2 (h9_ hty hs _)
          refine ⟨some (acc++[nuV tt (x.drop p)],p+4,0),⟨by dsimp only;omega,by dsimp only;simp only [List.length_append,List.length_cons,List.length_nil];omega,by dsimp only;omega,.inl ⟨rfl,?_⟩⟩,by first | (show (if (0:Int)=0 then _ else 0) < _;rw [if_pos rfl];(try dsimp only);(try rw [if_pos True.intro]);omega),rfl,?_⟩
          ·rw [j4,e];dsimp only;rw [List.append_assoc];rfl
          ·first | rfl | (dsimp only;rw [show ((p:Int)+4)=((p+4:Nat):Int) by omega];rfl))
     ·repeat'(intro t ht;first|(cases t<;>first|(cases ht;done)|(try simp only[zh_]at ht;try(exfalso;first|contradiction|omega)))|((first|refine za_ ht ?_|refine ht ?_ ?_|refine ht.1 ?_ ?_|refine ht ?_)<;>clear ht))
      all_goals first
       | exact True.intro
       | exact absurd ‹e=0› j4
       | exact ⟨by dsimp only;omega,by dsimp only;omega⟩
       | (refine ⟨?_,rfl⟩
          rw [h8.1,h8.2.1,h8.2.2,j5];done)
 ·cases e
theorem Bj_ {l:List FV} {k:Nat} (h:k < l.length) (d:FV) (z:Int):(tyL (l.take (k+1))).contains z=((tyL (l.take k)).contains z || decide ((l.getD k d).1=z)):=by
 rw [u0_ h d,Bool.eq_iff_iff,List.contains_iff_mem,List.mem_append,List.mem_singleton,Bool.or_eq_true,List.contains_iff_mem,decide_eq_true_eq]
 exact or_congr_right eq_comm
theorem zaI_ {l:List FV} {k i:Nat} {z:Int} (h:k < i) (hi:i<=l.length) (d:FV) (e:(l.getD k d).1=z):(tyL (l.take i)).contains z=true:=by
 rw [List.contains_iff_mem]
 unfold tyL
 refine List.mem_map.2 ⟨l.getD k d,?_,e⟩
 have hk:k < (l.take i).length:=by rw [List.length_take];omega
 have:(l.take i).getD k d=l.getD k d:=by
  rw [List.getD_eq_getElem?_getD,List.getD_eq_getElem?_getD,List.getElem?_take,if_pos h]
 rw [<- this];exact zv_ hk d
end Go.Eng
