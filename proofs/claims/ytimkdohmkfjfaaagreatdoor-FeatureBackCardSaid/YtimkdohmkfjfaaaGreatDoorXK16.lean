/- Parts of the proof: TB, T9, TC, TD, TH. No condition. -/
import Derived.Test.YtimkdohmkfjfaaaGreatDoorProg
import Derived.Test.YtimkdohmkfjfaaaGreatDoorXK11
import Derived.KernelRfl
import Derived.Test.YtimkdohmkfjfaaaGreatDoorXK15
namespace Go.Eng
open Go.Proofs
set_option linter.unusedVariables false
set_option linter.unusedSimpArgs false
set_option maxRecDepth 100000
set_option maxHeartbeats 1000000
def nuW (t:Int):Int:=if tyT t=true then 2 else if szT t=1 then 1 else 4
def nuV (t:Int) (y:List Int):Int:=zs_ (y.take (nuW t).toNat)
def nuX (t:Int) (y:List Int):Bool:=(tyT t && !decide (zs_ ((y.drop 2).take 2)=4)) || (decide (szT t=1) && decide (254 < nuV t y))
def nuG (t:Int) (y:List Int):List Int × Int:=
 if y.length=0 then ([],0) else if nuX t y=true then ([nuV t y],3333) else (nuV t y :: (nuG t (y.drop (max 1 (szT t).toNat))).1,(nuG t (y.drop (max 1 (szT t).toNat))).2)
termination_by y.length
decreasing_by all_goals (rw [List.length_drop];omega)
theorem Wf_ {t:Int} {y:List Int} (h:y.length=0):nuG t y=([],0):=by rw [nuG,if_pos h]
theorem BV_ {t:Int} {y:List Int} (h:¬ y.length=0) (h1:nuX t y=true):nuG t y=([nuV t y],3333):=by rw [nuG,if_neg h,if_pos h1]
theorem gT_ {t:Int} {y:List Int} (h:¬ y.length=0) (h1:nuX t y=false) (hs:1<=szT t):nuG t y=(nuV t y :: (nuG t (y.drop (szT t).toNat)).1,(nuG t (y.drop (szT t).toNat)).2):=by
 rw [nuG,if_neg h,if_neg (by rw [h1];decide),show max 1 (szT t).toNat=(szT t).toNat by omega]
def ftE (dup:Bool) (t:Int) (x:List Int):Int:=if szT t=0 then 3331 else if otT t=true then (if x.length < 8 then 3332 else 0) else if dup=true then 3333 else if ¬ (x.length:Int).tmod (szT t)=0 then 3332 else (nuG t x).2
def ftN (dup:Bool) (t:Int) (x:List Int):List Int:=if szT t=0 then [] else if otT t=true then (if x.length < 8 then [] else [zs_ (x.take 4),zs_ ((x.drop 4).take 4)]) else if dup=true then [] else if ¬ (x.length:Int).tmod (szT t)=0 then [] else (nuG t x).1
def ftD (t:Int) (x:List Int):List Int:=if otT t=true then (if x.length < 8 then [] else x.drop 8) else []
theorem zei_ (b:List Int):qY_ [4,4] b=if b.length < 8 then ([],1) else ([zs_ (b.take 4),zs_ ((b.drop 4).take 4)],0):=by
 have hr:Zr_ [4,4]=true:=by decide
 unfold qY_
 rw [if_pos hr]
 have a2:zp_ 4=4:=by decide
 have t2:Int.toNat 4=4:=rfl
 have p2:(0:Int) < 4:=by decide
 simp only [qg_,a2,t2,if_pos p2,List.length_drop]
 by_cases h:b.length < 8
 ·rw [if_pos h]
  by_cases h2:(b.length:Int) < 4
  ·rw [if_pos h2]
  ·rw [if_neg h2,if_pos (by omega)]
 ·rw [if_neg h,if_neg (by omega),if_neg (by omega)];rfl
theorem zep_ {b:List Int} {sh od:Int}:wK_ [4,4] b 0 0=(if b.length < 8 then [] else [zs_ (b.take 4),zs_ ((b.drop 4).take 4)])/\ZV_ [4,4] b 0 0=(if b.length < 8 then 0 else 8)/\ZH_ [4,4] b 0 sh od 0=(if b.length < 8 then sh else 0):=by
 have e:qY_ [4,4] (b.drop (0:Int).toNat)=if b.length < 8 then ([],1) else ([zs_ (b.take 4),zs_ ((b.drop 4).take 4)],0):=by
  rw [show (0:Int).toNat=0 from rfl,List.drop_zero,zei_]
 have es:ZT_ [4,4]=8:=by decide
 unfold wK_ ZV_ ZH_ KV_ Q3_
 rw [e,es]
 by_cases h:b.length < 8
 ·simp only [if_pos h];exact ⟨rfl,rfl,rfl⟩
 ·simp only [if_neg h];exact ⟨rfl,rfl,rfl⟩
theorem zaw_ {w:Int} {y:List Int} (h1:1<=w) (h2:w<=8) (hl:w<=y.length):KV_ [w] y=[zs_ (y.take w.toNat)]/\Q3_ [w] y=0/\ZT_ [w]=w:=by
 have hr:Zr_ [w]=true:=Zu_.2 ⟨by simp,fun n hn=>by rw [List.mem_singleton] at hn;omega⟩
 have ha:zp_ w=w:=by have:=J0_ (n:=w) (by omega);omega
 unfold KV_ Q3_ qY_ ZT_
 rw [if_pos hr,if_pos hr]
 simp only [qg_,ha]
 rw [if_neg (by omega),if_pos (by omega)]
 refine ⟨rfl,rfl,?_⟩
 rw [List.map_cons,List.map_nil,List.sum_cons,List.sum_nil,ha,Int.add_zero]
theorem Y5_ {w p sh od:Int} {b:List Int} (h1:1<=w) (h2:w<=8) (h0:0<=p) (hl:p+w<=b.length):wy_ w b p 0=zs_ ((b.drop p.toNat).take w.toNat)/\zg_ w b p 0=p+w/\zk_ w b p sh od 0=0:=by
 obtain ⟨a,k,s⟩:=zaw_ (w:=w) (y:=b.drop p.toNat) h1 h2 (by rw [List.length_drop];omega)
 have hc:1<=w/\w<=8:=⟨h1,h2⟩
 refine ⟨?_,?_,?_⟩
 ·unfold wy_ wK_;rw [if_pos hc,if_pos rfl,a];rfl
 ·unfold zg_ ZV_;rw [if_pos hc,if_pos rfl,k,s];rfl
 ·unfold zk_ ZH_;rw [if_pos hc,if_pos rfl,k];rfl
def wC_:IR:=
(sq (kr [0] [oD 2 (.mov (.c (.imm (.int .u8) [])))])
(sq (kr [0] [oM 3 0,
oM 4 0,
oC 5 108 [4],
oC 6 88 [3,5],
oM 2 6])
.ret))
def wf_:List RD:=[.tmp 2 true (some (.int .u8))]
theorem wq_:zo_ Tryz.prog Tryz.f124 wC_ wf_=true:=by kernel_rfl
def qP_:List AV->List Obj->Option (Prop × AV × List Obj)
 | [.ptr 0 0],[.box [.imm (.int .u8) b,.int .i64 p,.int .i64 sh,.int .i64 od,.int .i64 e,.bool true]]=>some ((0<=p/\p<=b.length/\b.length<=140737488355328/\sh ≠ 0,.imm (.int .u8) (if e=0 then b.drop p.toNat else []),[.box [.imm (.int .u8) b,.int .i64 ((if e=0 then (b.length:Int) else p)),.int .i64 sh,.int .i64 od,.int .i64 e,.bool true]]))
 | _,_=>none
theorem Js_:ze_ Tryz.prog 124 (RwF qP_).sum:=by
 refine qh_ Tryz.func124 wq_ (zb_ (s:=RoF zT_) Zb_ (zb_ (s:=RwF zW_) ZD_ (zf_ _))) fun args objs p v o e=>?_
 unfold qP_ at e
 split at e
 ·rename_i b p sh od e
  cases e
  refine ⟨rfl,fun hw ho hp=>?_⟩
  change List Int at b
  clear hw ho
  obtain ⟨h1,h2,h3,h4⟩:=hp
  have hE:Zj_ ((b.length:Int) - p) b p sh e=e:=by unfold Zj_;rw [if_neg (by omega),if_neg (by omega)]
  have hL:zm_ ((b.length:Int) - p) b p sh e=if e=0 then b.drop p.toNat else []:=by
   unfold zm_;rw [hE,show (p+((b.length:Int) - p)).toNat=b.length by omega,List.take_length]
  have hP:q6_ ((b.length:Int) - p) b p sh e=if e=0 then (b.length:Int) else p:=by
   unfold q6_;rw [hE,show p+((b.length:Int) - p)=b.length by omega]
  repeat'(intro t ht;first|(cases t<;>first|(cases ht;done)|(try simp only[zh_]at ht))|((first|refine za_ ht ?_|refine ht ?_ ?_|refine ht.1 ?_ ?_|refine ht ?_)<;>clear ht))
  all_goals first
   | exact True.intro
   | exact ⟨h1,h2⟩
   | exact ⟨h1,h2,h3,h4⟩
   | (rw [hE,hL,hP];exact ⟨rfl,rfl⟩)
 ·cases e
theorem ft_0 {D:Bool} {t:Int} {x:List Int} (h:szT t=0):ftE D t x=3331/\ftN D t x=[]/\ftD t x=[]:=by
 have ho:otT t=false:=by
  rcases Qh_ t with ⟨_,_,q⟩ | ⟨q,_⟩ | ⟨q,_⟩ | ⟨q,_⟩
  ·exact q
  all_goals omega
 unfold ftE ftN ftD
 rw [if_pos h,if_pos h,if_neg (by rw [ho];decide)];exact ⟨rfl,rfl,rfl⟩
theorem ft_o {D:Bool} {t:Int} {x:List Int} (h:¬ szT t=0) (ho:otT t=true):ftE D t x=(if x.length < 8 then 3332 else 0)/\ftN D t x=(if x.length < 8 then [] else [zs_ (x.take 4),zs_ ((x.drop 4).take 4)])/\ftD t x=(if x.length < 8 then [] else x.drop 8):=by
 unfold ftE ftN ftD
 rw [if_neg h,if_neg h,if_pos ho,if_pos ho,if_pos ho];exact ⟨rfl,rfl,rfl⟩
theorem ft_d {t:Int} {x:List Int} (h:¬ szT t=0) (ho:otT t=false):ftE true t x=3333/\ftN true t x=[]/\ftD t x=[]:=by
 unfold ftE ftN ftD
 rw [if_neg h,if_neg h,ho];exact ⟨rfl,rfl,rfl⟩
theorem ft_m {t:Int} {x:List Int} (h:¬ szT t=0) (ho:otT t=false) (hm:¬ (x.length:Int).tmod (szT t)=0):ftE false t x=3332/\ftN false t x=[]/\ftD t x=[]:=by
 unfold ftE ftN ftD
 rw [if_neg h,if_neg h,ho,if_pos hm,if_pos hm];exact ⟨rfl,rfl,rfl⟩
theorem bJ_ {D:Bool} {t:Int} {x:List Int} (h:¬ szT t=0) (ho:otT t=false) (hD:D=false) (hm:(x.length:Int).tmod (szT t)=0):ftE D t x=(nuG t x).2/\ftN D t x=(nuG t x).1/\ftD t x=[]:=by
 subst hD
 unfold ftE ftN ftD
 rw [if_neg h,if_neg h,ho,if_neg (not_not_intro hm),if_neg (not_not_intro hm)];exact ⟨rfl,rfl,rfl⟩
theorem BS_ {t:Int} {x:List Int} {s:Nat} (hs:szT t=s) (h1:1<=s) (p:Nat) (h:p < x.length):(nuX t (x.drop p)=true->nuG t (x.drop p)=([nuV t (x.drop p)],3333))/\(nuX t (x.drop p)=false->nuG t (x.drop p)=(nuV t (x.drop p) :: (nuG t (x.drop (p+s))).1,(nuG t (x.drop (p+s))).2)):=by
 have hl:¬ (x.drop p).length=0:=by rw [List.length_drop];omega
 refine ⟨fun k=>BV_ hl k,fun k=>?_⟩
 rw [gT_ hl k (by omega),List.drop_drop,hs,Int.toNat_natCast]
theorem hm_ {t:Int} {x:List Int} {p:Nat} (h:x.length<=p):nuG t (x.drop p)=([],0):=Wf_ (by rw [List.length_drop];omega)
theorem w42:(4:Int) - 2=2:=rfl
theorem bI_ {tt W:Int} {x:List Int} (hw:nuW tt=W) (h1:1<=W) (h2:W<=8) {P:Int} {p:Nat} (hP:P=p) (h:(p:Int)+W<=x.length):wy_ W x P 0=nuV tt (x.drop p)/\zg_ W x P 0=P+W/\zk_ W x P 3332 3333 0=0:=by
 obtain ⟨a,b,c⟩:=Y5_ (w:=W) (p:=P) (sh:=3332) (od:=3333) (b:=x) h1 h2 (by omega) (by omega)
 refine ⟨a.trans ?_,b,c⟩
 unfold nuV;rw [hw,hP,Int.toNat_natCast]
theorem fx_2 {x:List Int} {P:Int} {p:Nat} (hP:P=p+2) (h:p+4<=x.length):wy_ 2 x P 0=zs_ (((x.drop p).drop 2).take 2)/\zg_ 2 x P 0=(p:Int)+4/\zk_ 2 x P 3332 3333 0=0:=by
 obtain ⟨a,b,c⟩:=Y5_ (w:=2) (p:=P) (sh:=3332) (od:=3333) (b:=x) (by decide) (by decide) (by omega) (by omega)
 refine ⟨a.trans ?_,by omega,c⟩
 rw [List.drop_drop,hP,show ((p:Int)+2).toNat=p+2 by omega];rfl
theorem uq_ {t:Int} {y:List Int} (h:tyT t=true) (hs:szT t=4):nuX t y=!decide (zs_ ((y.drop 2).take 2)=4):=by
 unfold nuX;rw [h,hs];simp
theorem bp_ {t:Int} {y:List Int} (h:tyT t=false) (hs:szT t=1):nuX t y=decide (254 < nuV t y):=by
 unfold nuX;rw [h,hs];simp
theorem nx_4 {t:Int} (h:tyT t=false) (hs:szT t=4) (y:List Int):nuX t y=false:=by
 unfold nuX;rw [h,hs];simp
def YP_:IR:=
(sq (kr [0,1] [oD 2 (.boxv 0),
oD 4 (.box [.int .i64 0,.nils,.nils]),
oD 5 (.mov (cI 0))])
(sq (kd [1,2,4] [(oA 11 0 2,[]),
(oL 12 11,[]),
(oD 13 (.build [.int .i64 0,.nils,.nils] [(0,1,12)]),[]),
(oA 14 0 2,[0,0,0]),
(oL 15 14,[1,0,0]),
(oC 16 127 [15],[2,0,0]),
(oD 6 (.box [.int .i64 0,.nils,.nils]),[0,0,0,0,0,0]),
(oD 7 (.box [.int .i64 0,.kb false,.kb false]),[0,0,0,0,0,0,0]),
(oS 3 6 13,[]),
(oS 3 7 16,[])])
(sq (kr [1,2,4,6,7] [oA 17 1 2,
oL 18 17,
oC 19 51 [18,(cI 3332),(cI 3333)],
oM 8 19])
(sq (.block 0
(sq (.reg [oA 21 0 7,
oL 22 21,
oB 23 .eql 22 (cI 0),
oM 20 23])
(.cond 20
(sq (kr [4,6] [oK 24 3 6,
oS 3 4 24,
oD 5 (.mov (cI 3331))])
.ret)
(sq (kr [1,2,4,6,7,8] [oA 26 2 7,
oL 27 26,
oM 25 27])
(.cond 25
(sq (kr [4,6,8] [oM 28 8,
oD 29 (.sliceAll (.int .i64) 2 [(0,1,(cI 4)),(1,1,(cI 4))]),
oC 30 89 [28,29],
oM 31 8,
oC 32 124 [31],
oA 33 1 6,
oS 1 33 30,
oA 34 2 6,
oS 1 34 32])
(sq (kd [4,6,8] [(oK 35 3 6,[]),
(oM 36 8,[0]),
(oC 37 53 [36],[1]),
(oS 3 4 35,[]),
(oM 5 37,[])])
.ret))
(sq (kr [1,2,4,6,7,8] [oM 39 1,
oA 40 0 2,
oL 41 40,
oD 42 (.mget (.int .i64) (.int .i64) (0:Int) false 39 41),
oB 43 .gtr 42 (cI 0),
oM 38 43])
(.cond 38
(sq (kr [4,6] [oK 44 3 6,
oS 3 4 44,
oD 5 (.mov (cI 3333))])
.ret)
(sq (kr [2,4,6,7,8] [oA 46 1 2,
oL 47 46,
oE 48 47,
oA 49 0 7,
oL 50 49,
oB 51 .rem 48 50,
oB 52 .neq 51 (cI 0),
oM 45 52])
(.cond 45
(sq (kr [4,6] [oK 53 3 6,
oS 3 4 53,
oD 5 (.mov (cI 3332))])
.ret)
.skip)))))))))
(sq (.block 1
(.loop
(sq (sq (kr [4,6,7,8] [oM 54 8,
oC 55 108 [54],
oB 56 .gtr 55 (cI 0),
oM 57 56,
oT 57 58 (.mov 8),
oT 57 59 (.call false (.f 53) [58]),
oT 57 60 (.bin .eql 59 (cI 0)),
oP 61 57 60 cF])
(.cond 61
.skip
(.exit 1)))
(.block 2
(sq (kr [4,6,7,8] [oA 62 0 7,
oL 63 62,
oM 9 63])
(sq (sq (.reg [oA 64 1 7,
oL 65 64])
(.cond 65
(.reg [oM 66 9,
oB 67 .sub 66 (cI 2),
oM 9 67])
.skip))
(sq (kr [4,6,7,8,9] [oM 68 8,
oM 69 9,
oC 70 85 [68,69],
oM 10 70])
(sq (sq (kr [4,6,7,8,10] [oA 71 1 7,
oL 72 71,
oM 73 72,
oT 73 74 (.mov 8),
oT 73 75 (.call false (.f 85) [74,(cI 2)]),
oT 73 76 (.bin .neq 75 (.c (.int .u64 4))),
oP 77 73 76 cF,
oM 78 77,
oF 78 79 (.fieldAddr 0 7),
oF 78 80 (.load none 79),
oF 78 81 (.bin .eql 80 (cI 1)),
oF 78 82 (.mov 81),
oT 82 83 (.mov 10),
oT 82 84 (.bin .gtr 83 (.c (.int .u64 254))),
oF 78 85 (.pick 82 84 cF),
oP 86 78 cT 85])
(.cond 86
(kr [4,6,7,8,10] [oM 87 8,
oC 88 110 [87,(cI 3333)]])
.skip))
(kr [4,6,7,8,10] [oA 89 1 6,
oL 90 89,
oM 91 10,
oD 92 (.sliceAll (.int .u64) 1 [(0,1,91)]),
oD 93 (.append (.int .u64) 8 90 92),
oA 94 1 6,
oS 1 94 93])))))))))
(sq (kd [4,6,8] [(oK 95 3 6,[]),
(oM 96 8,[0]),
(oC 97 53 [96],[1]),
(oS 3 4 95,[]),
(oM 5 97,[])])
.ret))))))
def Yx_:List RD:=[.cell 4 (some 3) true [none,(some (.int .u64)),(some (.int .u8))],.tmp 5 true none]
theorem YH_:zo_ Tryz.prog Tryz.f159 YP_ Yx_=true:=by kernel_rfl
def ji_:List AV->List Obj->Option (Prop × AV)
 | [.agg [.int .i64 tt,.imm (.int .u8) x],.mapv 0],[.map sq (.int .i64) (.int .i64) m]=>some ((x.length<=100000,.tup [.agg [.int .i64 tt,.imm (.int .u64) ((ftN (decide (0 < (zx_ m tt).getD 0)) tt x)),.imm (.int .u8) ((ftD tt x))],.int .i64 (ftE (decide (0 < (zx_ m tt).getD 0)) tt x)]))
 | _,_=>none
theorem X8_:ze_ Tryz.prog 159 (RoF ji_).sum:=by
 refine zz_ Tryz.func159 YH_ (zb_ (s:=RoF qo_) qH_ (zb_ (s:=RwF q4_) Q6_ (zb_ (s:=RwF ZM_) qv_ (zb_ (s:=RwF qP_) Js_ (zb_ (s:=RoF zA_) zE_ (zb_ (s:=RoF zT_) Zb_ (zb_ (s:=RwF Z8_) kw_ (zb_ (s:=RwF zw_) zC_ (zf_ _))))))))) fun args objs p v e=>?_
 unfold ji_ at e
 split at e
 ·rename_i tt x sq m
  cases e
  refine ⟨rfl,fun hw ho hp=>?_⟩
  change List Int at x
  clear hw ho
  change List Int at x
  change List (Int × Int) at m
  have hz:=Qh_ tt
  obtain ⟨c1,c2,c3⟩:=zep_ (b:=x) (sh:=3332) (od:=3333)
  repeat'(intro t ht;first|(cases t<;>first|(cases ht;done)|(try simp only[zh_]at ht;try(exfalso;first|contradiction|omega)))|((first|refine za_ ht ?_|refine ht ?_ ?_|refine ht.1 ?_ ?_|refine ht ?_)<;>clear ht))
  all_goals first
   | exact True.intro
   | exact hp
   | omega
   | exact ⟨by omega,by omega,by omega⟩
   | (refine ⟨?_,rfl⟩
      obtain ⟨q1,q2,q3⟩:=ft_0 (D:=decide (0 < (zx_ m tt).getD 0)) (x:=x) ‹szT tt=0›
      rw [q1,q2,q3];done)
   | (rw [c1,c2,c3]
      refine ⟨?_,rfl⟩
      obtain ⟨q1,q2,q3⟩:=ft_o (D:=decide (0 < (zx_ m tt).getD 0)) (x:=x) ‹¬ szT tt=0› ‹otT tt=true›
      rw [q1,q2,q3]
      by_cases h8:x.length < 8
      ·simp only [if_pos h8];rfl
      ·simp only [if_neg h8];rfl)
   | (rw [c2,c3];by_cases h8:x.length < 8
      ·simp only [if_pos h8];exact ⟨by omega,by omega,by omega,by decide⟩
      ·simp only [if_neg h8];exact ⟨by omega,by omega,by omega,by decide⟩)
   | (refine ⟨?_,rfl⟩
      have e:decide (0 < (zx_ m tt).getD 0)=true:=decide_eq_true ht
      obtain ⟨q1,q2,q3⟩:=ft_d (x:=x) ‹¬ szT tt=0› ‹otT tt=false›
      rw [e,q1,q2,q3];done)
   | (refine ⟨?_,rfl⟩
      have e:decide (0 < (zx_ m tt).getD 0)=false:=decide_eq_false ‹¬ 0 < (zx_ m tt).getD 0›
      obtain ⟨q1,q2,q3⟩:=ft_m (x:=x) ‹¬ szT tt=0› ‹otT tt=false› ht
      rw [e,q1,q2,q3];done)
   | skip
  ·have hs0:¬ szT tt=0:=by assumption
   have hot:otT tt=false:=by assumption
   have hD:decide (0 < (zx_ m tt).getD 0)=false:=decide_eq_false ‹¬ 0 < (zx_ m tt).getD 0›
   have hmod:(x.length:Int).tmod (szT tt)=0:=by assumption
   have hz2:(szT tt=1/\tyT tt=false)\/(szT tt=4/\tyT tt=true)\/(szT tt=4/\tyT tt=false):=by
    rcases hz with ⟨q,_⟩ | ⟨q,r,_⟩ | ⟨q,_⟩ | ⟨_,_,q,_⟩
    ·exact absurd q hs0
    ·exact .inl ⟨q,r⟩
    ·cases h:tyT tt
     ·exact .inr (.inr ⟨q,rfl⟩)
     ·exact .inr (.inl ⟨q,rfl⟩)
    ·rw [hot] at q;cases q
   clear hz
   rcases hz2 with ⟨hs,hty⟩ | ⟨hs,hty⟩ | ⟨hs,hty⟩
   ·-- a number has 1 bytes
    have h8:=bJ_ (x:=x) hs0 hot hD hmod
    have hx4:x.length % 1=0:=by rw [hs,Int.tmod_eq_emod_of_nonneg (by omega)] at hmod;omega
    have hng:=BS_ (t:=tt) (x:=x) (s:=1) hs (by decide)
    have hnw:nuW tt=1:=by unfold nuW;rw [hty,hs];decide
    first
     | (intro r h1 h2;clear h1;refine h2 ⟨[],[4,6,7,8],Option (List Int × Nat × Int),(fun a=>match a with | none=>True | some a=>a.2.1<=x.length/\a.1.length<=a.2.1/\(x.length - a.2.1) % 1=0/\((a.2.2=0/\nuG tt x=(a.1++(nuG tt (x.drop a.2.1)).1,(nuG tt (x.drop a.2.1)).2))\/(a.2.2 ≠ 0/\nuG tt x=(a.1,a.2.2)))),(fun a=>[.ptr 1 0,.ptr 2 0,.ptr 3 0,.ptr 4 0]),(fun a=>match a with | none=>[.map sq (.int .i64) (.int .i64) m,.box [.int .i64 0,.nils,.nils],.box [.int .i64 tt,.nils,.nils],.box [.int .i64 1,.bool false,.bool false],.box [.imm (.int .u8) x,.int .i64 0,.int .i64 3332,.int .i64 3333,.int .i64 0,.bool true]] | some a=>[.map sq (.int .i64) (.int .i64) m,.box [.int .i64 0,.nils,.nils],.box [.int .i64 tt,.own 5,.nils],.box [.int .i64 1,.bool false,.bool false],.box [.imm (.int .u8) x,.int .i64 ((a.2.1:Int)),.int .i64 3332,.int .i64 3333,.int .i64 a.2.2,.bool true],.row false (.int .u64) a.1]),(fun a=>match a with | none=>x.length+1 | some a=>if a.2.2=0 then x.length - a.2.1 else 0),⟨none,True.intro,rfl,(by rw [hs,hty,hot])⟩,?_⟩;clear h2)
    rintro (_ | ⟨acc,p,e⟩) hJ
    ·clear hJ
     have hfit:0 < x.length->0+1<=x.length:=fun h=>by omega
     have g1:=fun h:0+1<=x.length=>bI_ (tt:=tt) (x:=x) (W:=1) hnw (by decide) (by decide) (P:=0) (p:=0) rfl (by omega)
     have hx0:nuG tt x=(([]:List Int)++(nuG tt (x.drop 0)).1,(nuG tt (x.drop 0)).2):=rfl
     have hg:=fun h:0 < x.length=>hng 0 h
     repeat'(intro t ht;first|(cases t<;>first|(cases ht;done)|(try simp only[zh_]at ht;try(exfalso;first|contradiction|omega)))|((first|refine za_ ht ?_|refine ht ?_ ?_|refine ht.1 ?_ ?_|refine ht ?_)<;>clear ht))
     all_goals first
      | exact True.intro
      | omega
      | decide
      | exact ⟨by first | omega | (dsimp only;omega),by first | omega | (dsimp only;omega)⟩
      | exact ⟨by first | omega | (dsimp only;omega),by first | omega | (dsimp only;omega),by omega⟩
      | (simp only [List.length_cons,List.length_nil];constructor<;>omega)
      | (refine ⟨?_,rfl⟩
         have e:nuG tt x=([],0):=Wf_ (by omega)
         rw [h8.1,h8.2.1,h8.2.2,e];done)
      | skip
     all_goals have hlt:0 < x.length:=by omega
     all_goals obtain ⟨a1,a2,a3⟩:=g1 (hfit hlt)
     all_goals (try simp only [a1,a2,a3] at ht)
     all_goals simp only [a1,a2,a3]
     all_goals first
      | (have e:=(hg hlt).1 (by rw [bp_ hty hs];exact decide_eq_true ht)
         refine ⟨some ([]++[nuV tt (x.drop 0)],0+1,3333),⟨by dsimp only;omega,by dsimp only;simp only [List.length_append,List.length_cons,List.length_nil];omega,by dsimp only;omega,.inr ⟨by show (3333:Int) ≠ 0;decide,?_⟩⟩,by first | (show (if (3333:Int)=0 then _ else 0) < _;rw [if_neg (by decide)];(try dsimp only);(try rw [if_pos True.intro]);omega),rfl,?_⟩
         ·rw [hx0,e]
         ·rfl)
      | (have e:=(hg hlt).2 (by rw [bp_ hty hs];exact decide_eq_false ht)
         refine ⟨some ([]++[nuV tt (x.drop 0)],0+1,0),⟨by dsimp only;omega,by dsimp only;simp only [List.length_append,List.length_cons,List.length_nil];omega,by dsimp only;omega,.inl ⟨rfl,?_⟩⟩,by first | (show (if (0:Int)=0 then _ else 0) < _;rw [if_pos rfl];(try dsimp only);(try rw [if_pos True.intro]);omega),rfl,?_⟩
         ·rw [hx0,e];dsimp only;rw [List.append_assoc];rfl
         ·rfl)
    ·obtain ⟨j1,j2,j3,j4⟩:=hJ
     dsimp only at j1 j2 j3 j4
     rcases j4 with ⟨rfl,j4⟩ | ⟨j4,j5⟩
     ·have hfit:p < x.length->p+1<=x.length:=fun h=>by omega
      have g1:=fun h:p+1<=x.length=>bI_ (tt:=tt) (x:=x) (W:=1) hnw (by decide) (by decide) (P:=(p:Int)) (p:=p) rfl (by omega)
      have hg:=fun h:p < x.length=>hng p h
      repeat'(intro t ht;first|(cases t<;>first|(cases ht;done)|(try simp only[zh_]at ht;try(exfalso;first|contradiction|omega)))|((first|refine za_ ht ?_|refine ht ?_ ?_|refine ht.1 ?_ ?_|refine ht ?_)<;>clear ht))
      all_goals first
       | exact True.intro
       | omega
       | decide
       | exact ⟨by first | omega | (dsimp only;omega),by first | omega | (dsimp only;omega)⟩
       | exact ⟨by first | omega | (dsimp only;omega),by first | omega | (dsimp only;omega),by omega⟩
       | (simp only [List.length_cons,List.length_nil];constructor<;>omega)
       | (refine ⟨?_,rfl⟩
          have e:nuG tt x=(acc,0):=by rw [j4,hm_ (by omega),List.append_nil]
          rw [h8.1,h8.2.1,h8.2.2,e];done)
       | skip
      all_goals have hlt:p < x.length:=by omega
      all_goals obtain ⟨a1,a2,a3⟩:=g1 (hfit hlt)
      all_goals (try simp only [a1,a2,a3] at ht)
      all_goals simp only [a1,a2,a3]
      all_goals first
       | (have e:=(hg hlt).1 (by rw [bp_ hty hs];exact decide_eq_true ht)
          refine ⟨some (acc++[nuV tt (x.drop p)],p+1,3333),⟨by dsimp only;omega,by dsimp only;simp only [List.length_append,List.length_cons,List.length_nil];omega,by dsimp only;omega,.inr ⟨by show (3333:Int) ≠ 0;decide,?_⟩⟩,by first | (show (if (3333:Int)=0 then _ else 0) < _;rw [if_neg (by decide)];(try dsimp only);(try rw [if_pos True.intro]);omega),rfl,?_⟩
          ·rw [j4,e]
          ·first | rfl | (dsimp only;rw [show ((p:Int)+1)=((p+1:Nat):Int) by omega];rfl))
       | (have e:=(hg hlt).2 (by rw [bp_ hty hs];exact decide_eq_false ht)
          refine ⟨some (acc++[nuV tt (x.drop p)],p+1,0),⟨by dsimp only;omega,by dsimp only;simp only [List.length_append,List.length_cons,List.length_nil];omega,by dsimp only;omega,.inl ⟨rfl,?_⟩⟩,by first | (show (if (0:Int)=0 then _ else 0) < _;rw [if_pos rfl];(try dsimp only);(try rw [if_pos True.intro]);omega),rfl,?_⟩
          ·rw [j4,e];dsimp only;rw [List.append_assoc];rfl
          ·first | rfl | (dsimp only;rw [show ((p:Int)+1)=((p+1:Nat):Int) by omega];rfl))
     ·repeat'(intro t ht;first|(cases t<;>first|(cases ht;done)|(try simp only[zh_]at ht;try(exfalso;first|contradiction|omega)))|((first|refine za_ ht ?_|refine ht ?_ ?_|refine ht.1 ?_ ?_|refine ht ?_)<;>clear ht))
      all_goals first
       | exact True.intro
       | exact absurd ‹e=0› j4
       | exact ⟨by dsimp only;omega,by dsimp only;omega⟩
       | (refine ⟨?_,rfl⟩
          rw [h8.1,h8.2.1,h8.2.2,j5];done)
   ·-- a number has 4 bytes
    have h8:=bJ_ (x:=x) hs0 hot hD hmod
    have hx4:x.length % 4=0:=by rw [hs,Int.tmod_eq_emod_of_nonneg (by omega)] at hmod;omega
    have hng:=BS_ (t:=tt) (x:=x) (s:=4) hs (by decide)
    have hnw:nuW tt=2:=by unfold nuW;rw [hty,hs];decide
    first
     | (intro r h1 h2;clear h1;refine h2 ⟨[],[4,6,7,8],Option (List Int × Nat × Int),(fun a=>match a with | none=>True | some a=>a.2.1<=x.length/\a.1.length<=a.2.1/\(x.length - a.2.1) % 4=0/\((a.2.2=0/\nuG tt x=(a.1++(nuG tt (x.drop a.2.1)).1,(nuG tt (x.drop a.2.1)).2))\/(a.2.2 ≠ 0/\nuG tt x=(a.1,a.2.2)))),(fun a=>[.ptr 1 0,.ptr 2 0,.ptr 3 0,.ptr 4 0]),(fun a=>match a with | none=>[.map sq (.int .i64) (.int .i64) m,.box [.int .i64 0,.nils,.nils],.box [.int .i64 tt,.nils,.nils],.box [.int .i64 4,.bool true,.bool false],.box [.imm (.int .u8) x,.int .i64 0,.int .i64 3332,.int .i64 3333,.int .i64 0,.bool true]] | some a=>[.map sq (.int .i64) (.int .i64) m,.box [.int .i64 0,.nils,.nils],.box [.int .i64 tt,.own 5,.nils],.box [.int .i64 4,.bool true,.bool false],.box [.imm (.int .u8) x,.int .i64 ((a.2.1:Int)),.int .i64 3332,.int .i64 3333,.int .i64 a.2.2,.bool true],.row false (.int .u64) a.1]),(fun a=>match a with | none=>x.length+1 | some a=>if a.2.2=0 then x.length - a.2.1 else 0),⟨none,True.intro,rfl,(by rw [hs,hty,hot])⟩,?_⟩;clear h2)
    rintro (_ | ⟨acc,p,e⟩) hJ
    ·clear hJ
     have hfit:0 < x.length->0+4<=x.length:=fun h=>by omega
     have g1:=fun h:0+4<=x.length=>bI_ (tt:=tt) (x:=x) (W:=2) hnw (by decide) (by decide) (P:=0) (p:=0) rfl (by omega)
     have g2:=fun h:0+4<=x.length=>fx_2 (x:=x) (P:=0+2) (p:=0) rfl (by omega)
     have hx0:nuG tt x=(([]:List Int)++(nuG tt (x.drop 0)).1,(nuG tt (x.drop 0)).2):=rfl
     have hg:=fun h:0 < x.length=>hng 0 h
     repeat'(intro t ht;first|(cases t<;>first|(cases ht;done)|(try simp only[zh_]at ht;try(exfalso;first|contradiction|omega)))|((first|refine za_ ht ?_|refine ht ?_ ?_|refine ht.1 ?_ ?_|refine ht ?_)<;>clear ht))
     all_goals first
      | exact True.intro
      | omega
      | decide
      | exact ⟨by first | omega | (dsimp only;omega),by first | omega | (dsimp only;omega)⟩
      | exact ⟨by first | omega | (dsimp only;omega),by first | omega | (dsimp only;omega),by omega⟩
      | (simp only [List.length_cons,List.length_nil];constructor<;>omega)
      | (obtain ⟨a1,a2,a3⟩:=g1 (hfit (by omega));simp only [w42,a2];exact ⟨by omega,by omega,by omega⟩)
      | (refine ⟨?_,rfl⟩
         have e:nuG tt x=([],0):=Wf_ (by omega)
         rw [h8.1,h8.2.1,h8.2.2,e];done)
      | skip
     all_goals have hlt:0 < x.length:=by omega
     all_goals obtain ⟨a1,a2,a3⟩:=g1 (hfit hlt)
     all_goals obtain ⟨b1,b2,b3⟩:=g2 (hfit hlt)
     all_goals simp only [w42,a1,a2,a3,b1,b2,b3]
     all_goals have hq:wy_ 2 x (zg_ (4 - 2) x (0) 0) (zk_ (4 - 2) x (0) 3332 3333 0)=zs_ (((x.drop 0).drop 2).take 2):=by simp only [w42,a2,a3,b1]
     all_goals first
      | (have e:=(hg hlt).1 (by rw [uq_ hty hs,decide_eq_false fun c=>(show ¬ wy_ 2 x (zg_ (4 - 2) x (0) 0) (zk_ (4 - 2) x (0) 3332 3333 0)=4 by assumption) (hq.trans c)];rfl)
         refine ⟨some ([]++[nuV tt (x.drop 0)],0+4,3333),⟨by dsimp only;omega,by dsimp only;simp only [List.length_append,List.length_cons,List.length_nil];omega,by dsimp only;omega,.inr ⟨by show (3333:Int) ≠ 0;decide,?_⟩⟩,by first | (show (if (3333:Int)=0 then _ else 0) < _;rw [if_neg (by decide)];(try dsimp only);(try rw [if_pos True.intro]);omega),rfl,?_⟩
         ·rw [hx0,e]
         ·rfl)
      | (have e:=(hg hlt).2 (by rw [uq_ hty hs,decide_eq_true (hq.symm.trans (by assumption))];rfl)
         refine ⟨some ([]++[nuV tt (x.drop 0)],0+4,0),⟨by dsimp only;omega,by dsimp only;simp only [List.length_append,List.length_cons,List.length_nil];omega,by dsimp only;omega,.inl ⟨rfl,?_⟩⟩,by first | (show (if (0:Int)=0 then _ else 0) < _;rw [if_pos rfl];(try dsimp only);(try rw [if_pos True.intro]);omega),rfl,?_⟩
         ·rw [hx0,e];dsimp only;rw [List.append_assoc];rfl
         ·rfl)
    ·obtain ⟨j1,j2,j3,j4⟩:=hJ
     dsimp only at j1 j2 j3 j4
     rcases j4 with ⟨rfl,j4⟩ | ⟨j4,j5⟩
     ·have hfit:p < x.length->p+4<=x.length:=fun h=>by omega
      have g1:=fun h:p+4<=x.length=>bI_ (tt:=tt) (x:=x) (W:=2) hnw (by decide) (by decide) (P:=(p:Int)) (p:=p) rfl (by omega)
      have g2:=fun h:p+4<=x.length=>fx_2 (x:=x) (P:=(p:Int)+2) (p:=p) rfl (by omega)
      have hg:=fun h:p < x.length=>hng p h
      repeat'(intro t ht;first|(cases t<;>first|(cases ht;done)|(try simp only[zh_]at ht;try(exfalso;first|contradiction|omega)))|((first|refine za_ ht ?_|refine ht ?_ ?_|refine ht.1 ?_ ?_|refine ht ?_)<;>clear ht))
      all_goals first
       | exact True.intro
       | omega
       | decide
       | exact ⟨by first | omega | (dsimp only;omega),by first | omega | (dsimp only;omega)⟩
       | exact ⟨by first | omega | (dsimp only;omega),by first | omega | (dsimp only;omega),by omega⟩
       | (simp only [List.length_cons,List.length_nil];constructor<;>omega)
       | (obtain ⟨a1,a2,a3⟩:=g1 (hfit (by omega));simp only [w42,a2];exact ⟨by omega,by omega,by omega⟩)
       | (refine ⟨?_,rfl⟩
          have e:nuG tt x=(acc,0):=by rw [j4,hm_ (by omega),List.append_nil]
          rw [h8.1,h8.2.1,h8.2.2,e];done)
       | skip
      all_goals have hlt:p < x.length:=by omega
      all_goals obtain ⟨a1,a2,a3⟩:=g1 (hfit hlt)
      all_goals obtain ⟨b1,b2,b3⟩:=g2 (hfit hlt)
      all_goals simp only [w42,a1,a2,a3,b1,b2,b3]
      all_goals have hq:wy_ 2 x (zg_ (4 - 2) x ((p:Int)) 0) (zk_ (4 - 2) x ((p:Int)) 3332 3333 0)=zs_ (((x.drop p).drop 2).take 2):=by simp only [w42,a2,a3,b1]
      all_goals first
       | (have e:=(hg hlt).1 (by rw [uq_ hty hs,decide_eq_false fun c=>(show ¬ wy_ 2 x (zg_ (4 - 2) x ((p:Int)) 0) (zk_ (4 - 2) x ((p:Int)) 3332 3333 0)=4 by assumption) (hq.trans c)];rfl)
          refine ⟨some (acc++[nuV tt (x.drop p)],p+4,3333),⟨by dsimp only;omega,by dsimp only;simp only [List.length_append,List.length_cons,List.length_nil];omega,by dsimp only;omega,.inr ⟨by show (3333:Int) ≠ 0;decide,?_⟩⟩,by first | (show (if (3333:Int)=0 then _ else 0) < _;rw [if_neg (by decide)];(try dsimp only);(try rw [if_pos True.intro]);omega),rfl,?_⟩
          ·rw [j4,e]
          ·first | rfl | (dsimp only;rw [show ((p:Int)+4)=((p+4:Nat):Int) by omega];rfl))
       | (have e:=(hg hlt).2 (by rw [uq_ hty hs,decide_eq_true (hq.symm.trans (by assumption))];rfl)
          refine ⟨some (acc++[nuV tt (x.drop p)],p+4,0),⟨by dsimp only;omega,by dsimp only;simp only [List.length_append,List.length_cons,List.length_nil];omega,by dsimp only;omega,.inl ⟨rfl,?_⟩⟩,by first | (show (if (0:Int)=0 then _ else 0) < _;rw [if_pos rfl];(try dsimp only);(try rw [if_pos True.intro]);omega),rfl,?_⟩
          ·rw [j4,e];dsimp only;rw [List.append_assoc];rfl
          ·first | rfl | (dsimp only;rw [show ((p:Int)+4)=((p+4:Nat):Int) by omega];rfl))
     ·repeat'(intro t ht;first|(cases t<;>first|(cases ht;done)|(try simp only[zh_]at ht;try(exfalso;first|contradiction|omega)))|((first|refine za_ ht ?_|refine ht ?_ ?_|refine ht.1 ?_ ?_|refine ht ?_)<;>clear ht))
      all_goals first
       | exact True.intro
       | exact absurd ‹e=0› j4
       | exact ⟨by dsimp only;omega,by dsimp only;omega⟩
       | (refine ⟨?_,rfl⟩
          rw [h8.1,h8.2.1,h8.2.2,j5];done)
   ·-- a number has 4 bytes
    have h8:=bJ_ (x:=x) hs0 hot hD hmod
    have hx4:x.length % 4=0:=by rw [hs,Int.tmod_eq_emod_of_nonneg (by omega)] at hmod;omega
    have hng:=BS_ (t:=tt) (x:=x) (s:=4) hs (by decide)
    have hnw:nuW tt=4:=by unfold nuW;rw [hty,hs];decide
    first
     | (intro r h1 h2;clear h1;refine h2 ⟨[],[4,6,7,8],Option (List Int × Nat × Int),(fun a=>match a with | none=>True | some a=>a.2.1<=x.length/\a.1.length<=a.2.1/\(x.length - a.2.1) % 4=0/\((a.2.2=0/\nuG tt x=(a.1++(nuG tt (x.drop a.2.1)).1,(nuG tt (x.drop a.2.1)).2))\/(a.2.2 ≠ 0/\nuG tt x=(a.1,a.2.2)))),(fun a=>[.ptr 1 0,.ptr 2 0,.ptr 3 0,.ptr 4 0]),(fun a=>match a with | none=>[.map sq (.int .i64) (.int .i64) m,.box [.int .i64 0,.nils,.nils],.box [.int .i64 tt,.nils,.nils],.box [.int .i64 4,.bool false,.bool false],.box [.imm (.int .u8) x,.int .i64 0,.int .i64 3332,.int .i64 3333,.int .i64 0,.bool true]] | some a=>[.map sq (.int .i64) (.int .i64) m,.box [.int .i64 0,.nils,.nils],.box [.int .i64 tt,.own 5,.nils],.box [.int .i64 4,.bool false,.bool false],.box [.imm (.int .u8) x,.int .i64 ((a.2.1:Int)),.int .i64 3332,.int .i64 3333,.int .i64 a.2.2,.bool true],.row false (.int .u64) a.1]),(fun a=>match a with | none=>x.length+1 | some a=>if a.2.2=0 then x.length - a.2.1 else 0),⟨none,True.intro,rfl,(by rw [hs,hty,hot])⟩,?_⟩;clear h2)
    rintro (_ | ⟨acc,p,e⟩) hJ
    ·clear hJ
     have hfit:0 < x.length->0+4<=x.length:=fun h=>by omega
     have g1:=fun h:0+4<=x.length=>bI_ (tt:=tt) (x:=x) (W:=4) hnw (by decide) (by decide) (P:=0) (p:=0) rfl (by omega)
     have hx0:nuG tt x=(([]:List Int)++(nuG tt (x.drop 0)).1,(nuG tt (x.drop 0)).2):=rfl
     have hg:=fun h:0 < x.length=>hng 0 h
     repeat'(intro t ht;first|(cases t<;>first|(cases ht;done)|(try simp only[zh_]at ht;try(exfalso;first|contradiction|omega)))|((first|refine za_ ht ?_|refine ht ?_ ?_|refine ht.1 ?_ ?_|refine ht ?_)<;>clear ht))
     all_goals first
      | exact True.intro
      | omega
      | decide
      | exact ⟨by first | omega | (dsimp only;omega),by first | omega | (dsimp only;omega)⟩
      | exact ⟨by first | omega | (dsimp only;omega),by first | omega | (dsimp only;omega),by omega⟩
      | (simp only [List.length_cons,List.length_nil];constructor<;>omega)
      | (refine ⟨?_,rfl⟩
         have e:nuG tt x=([],0):=Wf_ (by omega)
         rw [h8.1,h8.2.1,h8.2.2,e];done)
      | skip
     all_goals have hlt:0 < x.length:=by omega
     all_goals obtain ⟨a1,a2,a3⟩:=g1 (hfit hlt)
     all_goals (try simp only [a1,a2,a3] at ht)
     all_goals simp only [a1,a2,a3]
     all_goals first
      | (have e:=(hg hlt).2 (nx_4 hty hs _)
         refine ⟨some ([]++[nuV tt (x.drop 0)],0+4,0),⟨by dsimp only;omega,by dsimp only;simp only [List.length_append,List.length_cons,List.length_nil];omega,by dsimp only;omega,.inl ⟨rfl,?_⟩⟩,by first | (show (if (0:Int)=0 then _ else 0) < _;rw [if_pos rfl];(try dsimp only);(try rw [if_pos True.intro]);omega),rfl,?_⟩
         ·rw [hx0,e];dsimp only;rw [List.append_assoc];rfl
         ·rfl)
    ·obtain ⟨j1,j2,j3,j4⟩:=hJ
     dsimp only at j1 j2 j3 j4
     rcases j4 with ⟨rfl,j4⟩ | ⟨j4,j5⟩
     ·have hfit:p < x.length->p+4<=x.length:=fun h=>by omega
      have g1:=fun h:p+4<=x.length=>bI_ (tt:=tt) (x:=x) (W:=4) hnw (by decide) (by decide) (P:=(p:Int)) (p:=p) rfl (by omega)
      have hg:=fun h:p < x.length=>hng p h
      repeat'(intro t ht;first|(cases t<;>first|(cases ht;done)|(try simp only[zh_]at ht;try(exfalso;first|contradiction|omega)))|((first|refine za_ ht ?_|refine ht ?_ ?_|refine ht.1 ?_ ?_|refine ht ?_)<;>clear ht))
      all_goals first
       | exact True.intro
       | omega
       | decide
       | exact ⟨by first | omega | (dsimp only;omega),by first | omega | (dsimp only;omega)⟩
       | exact ⟨by first | omega | (dsimp only;omega),by first | omega | (dsimp only;omega),by omega⟩
       | (simp only [List.length_cons,List.length_nil];constructor<;>omega)
       | (refine ⟨?_,rfl⟩
          have e:nuG tt x=(acc,0):=by rw [j4,hm_ (by omega),List.append_nil]
          rw [h8.1,h8.2.1,h8.2.2,e];done)
       | skip
      all_goals have hlt:p < x.length:=by omega
      all_goals obtain ⟨a1,a2,a3⟩:=g1 (hfit hlt)
      all_goals (try simp only [a1,a2,a3] at ht)
      all_goals simp only [a1,a2,a3]
      all_goals first
       | (have e:=(hg hlt).2 (nx_4 hty hs _)
          refine ⟨some (acc++[nuV tt (x.drop p)],p+4,0),⟨by dsimp only;omega,by dsimp only;simp only [List.length_append,List.length_cons,List.length_nil];omega,by dsimp only;omega,.inl ⟨rfl,?_⟩⟩,by first | (show (if (0:Int)=0 then _ else 0) < _;rw [if_pos rfl];(try dsimp only);(try rw [if_pos True.intro]);omega),rfl,?_⟩
          ·rw [j4,e];dsimp only;rw [List.append_assoc];rfl
          ·first | rfl | (dsimp only;rw [show ((p:Int)+4)=((p+4:Nat):Int) by omega];rfl))
     ·repeat'(intro t ht;first|(cases t<;>first|(cases ht;done)|(try simp only[zh_]at ht;try(exfalso;first|contradiction|omega)))|((first|refine za_ ht ?_|refine ht ?_ ?_|refine ht.1 ?_ ?_|refine ht ?_)<;>clear ht))
      all_goals first
       | exact True.intro
       | exact absurd ‹e=0› j4
       | exact ⟨by dsimp only;omega,by dsimp only;omega⟩
       | (refine ⟨?_,rfl⟩
          rw [h8.1,h8.2.1,h8.2.2,j5];done)
 ·cases e
def u1N (x:List Int):Int:=wy_ 2 x 0 0
def u1P (x:List Int):Int:=zg_ 2 x 0 0
def u1E (x:List Int):Int:=zk_ 2 x 0 3332 3333 0
def u2B (x:List Int) (a:Int):Bool:=decide (u1N x < 64) || (!decide ((u1N x).tmod 8=0) || decide (a < u1N x))
def u2E (x:List Int) (a:Int):Int:=if u2B x a=true then zl_ (u1E x) 3332 else u1E x
def u3V (x:List Int) (a:Int):Int:=wy_ 1 x (u1P x) (u2E x a)
def u3P (x:List Int) (a:Int):Int:=zg_ 1 x (u1P x) (u2E x a)
def u3E (x:List Int) (a:Int):Int:=zk_ 1 x (u1P x) 3332 3333 (u2E x a)
def u4P (x:List Int) (a:Int):Int:=ZV_ [-5] x (u3P x a) (u3E x a)
def u4E (x:List Int) (a:Int):Int:=ZH_ [-5] x (u3P x a) 3332 3333 (u3E x a)
def u5E (x:List Int) (a:Int):Int:=if 254 < u3V x a then zl_ (u4E x a) 266 else u4E x a
def u6N (x:List Int) (a:Int):List Int:=zm_ 32 x (u4P x a) 3332 (u5E x a)
def u6P (x:List Int) (a:Int):Int:=q6_ 32 x (u4P x a) 3332 (u5E x a)
def u6E (x:List Int) (a:Int):Int:=Zj_ 32 x (u4P x a) 3332 (u5E x a)
def u7O (x:List Int) (a:Int):Bool:=(!ctK (u6N x a) 0 || !q7_ (ctB (u6N x a) 0)) || decide (0 < (QP_ (kY_ (ctR (u6N x a) 0) 0) 0).length)
def u7E (x:List Int) (a:Int):Int:=if u7O x a=true then zl_ (u6E x a) 3333 else u6E x a
def u8L (x:List Int) (a:Int):List Int:=wK_ [8,8,4,4] x (u6P x a) (u7E x a)++[0,0,0,0]
def u8E (x:List Int) (a:Int):Int:=ZH_ [8,8,4,4] x (u6P x a) 3332 3333 (u7E x a)
def uS (x:List Int) (a:Int) (k:Nat):Int:=(u8L x a).getD k 0
theorem Hy_ {w p e:Int} {b:List Int} (h0:0<=p) (h1:p<=b.length):0<=zg_ w b p e/\zg_ w b p e<=b.length:=by
 unfold zg_;split
 ·exact HP_ h0 h1
 ·exact ⟨h0,h1⟩
theorem b64 {b:List Int} {p sh:Int} (h0:0<=p) (h:¬ (b.length:Int) - p < 64):Zj_ 64 b p sh 0=0/\zm_ 64 b p sh 0=(b.drop p.toNat).take 64/\q6_ 64 b p sh 0=p+64:=by
 have e:Zj_ 64 b p sh 0=0:=by unfold Zj_;rw [if_neg (by decide),if_neg h]
 refine ⟨e,?_,?_⟩
 ·unfold zm_;rw [if_pos e,List.drop_take];congr 1;omega
 ·unfold q6_;rw [if_pos e]
theorem Gv_ {x:List Int} (hb:∀ z ∈ x,0<=z/\z<=255) (hl:x.length=64):u1N x=zs_ (x.take 2)/\0<=u1N x/\u1N x<=65535/\u1P x=2/\u1E x=0:=by
 obtain ⟨a,b,c⟩:=Y5_ (w:=2) (p:=0) (sh:=3332) (od:=3333) (b:=x) (by decide) (by decide) (Int.le_refl _) (by omega)
 have h2:=Uy_ (a:=0) hb
 have e:u1N x=zs_ (x.take 2):=a
 rw [List.drop_zero] at h2
 rw [e]
 exact ⟨rfl,h2.1,h2.2,b,c⟩
def hdX (b:List Int) (p:Int):List Int:=(b.drop p.toNat).take 64
def hdA (b:List Int) (p:Int):Int:=(b.length:Int) - p
abbrev HV:Type:=Int × List Int × Int × Int × Int × Int × Unit
def hdT (b:List Int) (p:Int):HV:=if hdA b p < 64 then (0,[],0,0,0,0,()) else (u3V (hdX b p) (hdA b p),ctB (u6N (hdX b p) (hdA b p)) 0,uS (hdX b p) (hdA b p) 0,uS (hdX b p) (hdA b p) 1,uS (hdX b p) (hdA b p) 2,uS (hdX b p) (hdA b p) 3,())
def hdQ (b:List Int) (p:Int):Int:=if hdA b p < 64 then 0 else u1N (hdX b p) - 64
def hdP (b:List Int) (p:Int):Int:=if hdA b p < 64 then p else p+64
def hdE (b:List Int) (p:Int):Int:=if hdA b p < 64 then 3332 else u8E (hdX b p) (hdA b p)
theorem Hx_ {w p e:Int} {b:List Int} (h:e ≠ 0):wy_ w b p e=0:=by
 unfold wy_;split
 ·unfold wK_;rw [if_neg h];rfl
 ·rfl
theorem Hz_ {w p sh od e:Int} {b:List Int} (h:e ≠ 0):zk_ w b p sh od e ≠ 0:=by
 unfold zk_;split
 ·unfold ZH_;rw [if_neg h];exact h
 ·unfold zl_;rw [if_neg h];exact h
theorem UY_ {w b:List Int} {p sh od e:Int} (h:e ≠ 0):ZH_ w b p sh od e ≠ 0:=by unfold ZH_;rw [if_neg h];exact h
theorem Jc_ {e x:Int} (h:e ≠ 0):zl_ e x=e:=by unfold zl_;rw [if_neg h]
theorem x2_ {n p sh e:Int} {b:List Int} (h:e ≠ 0):Zj_ n b p sh e=e:=by
 unfold Zj_
 rw [Jc_ h,Jc_ h]
 split
 ·rfl
 ·split<;>rfl
theorem zaT_ {n p sh e:Int} {x:List Int} (h:e ≠ 0):¬ ctK (zm_ n x p sh e) 0=true:=by
 have:zm_ n x p sh e=[]:=by unfold zm_;rw [x2_ h,if_neg h]
 rw [this];decide
theorem zcw_ {x:List Int} {a:Int} (h:u1N x < 64\/¬ (u1N x).tmod 8=0\/a < u1N x):u2B x a=true:=by
 unfold u2B
 rcases h with h | h | h
 ·rw [decide_eq_true h];rfl
 ·rw [decide_eq_false h];simp
 ·rw [decide_eq_true h];simp
theorem Hg_ {x:List Int} {a:Int} (h:¬ u1N x < 64) (h1:(u1N x).tmod 8=0) (h2:¬ a < u1N x):u2B x a=false:=by
 unfold u2B;rw [decide_eq_false h,decide_eq_true h1,decide_eq_false h2];rfl
theorem vk_ {x:List Int} {A E:Int} (h2:u2E x A=E):u3V x A=wy_ 1 x (zg_ 2 x 0 0) E/\u4P x A=(ZV_ [-5] x (zg_ 1 x (zg_ 2 x 0 0) E) (zk_ 1 x (zg_ 2 x 0 0) 3332 3333 E))/\u4E x A=(ZH_ [-5] x (zg_ 1 x (zg_ 2 x 0 0) E) 3332 3333 (zk_ 1 x (zg_ 2 x 0 0) 3332 3333 E)):=by
 unfold u4P u4E u3V u3P u3E u1P;rw [h2];exact ⟨rfl,rfl,rfl⟩
theorem UP_ {x:List Int} {A E E5:Int} {O:Bool} (h2:u2E x A=E) (h5:u5E x A=E5) (h7:u7O x A=O):
 u3V x A=wy_ 1 x (zg_ 2 x 0 0) E/\u6N x A=zm_ 32 x (ZV_ [-5] x (zg_ 1 x (zg_ 2 x 0 0) E) (zk_ 1 x (zg_ 2 x 0 0) 3332 3333 E)) 3332 E5/\(∀ k,uS x A k=(wK_ [8,8,4,4] x (q6_ 32 x (ZV_ [-5] x (zg_ 1 x (zg_ 2 x 0 0) E) (zk_ 1 x (zg_ 2 x 0 0) 3332 3333 E)) 3332 E5) (if O=true then zl_ (Zj_ 32 x (ZV_ [-5] x (zg_ 1 x (zg_ 2 x 0 0) E) (zk_ 1 x (zg_ 2 x 0 0) 3332 3333 E)) 3332 E5) 3333 else Zj_ 32 x (ZV_ [-5] x (zg_ 1 x (zg_ 2 x 0 0) E) (zk_ 1 x (zg_ 2 x 0 0) 3332 3333 E)) 3332 E5)++[0,0,0,0]).getD k 0)/\u8E x A=ZH_ [8,8,4,4] x (q6_ 32 x (ZV_ [-5] x (zg_ 1 x (zg_ 2 x 0 0) E) (zk_ 1 x (zg_ 2 x 0 0) 3332 3333 E)) 3332 E5) 3332 3333 (if O=true then zl_ (Zj_ 32 x (ZV_ [-5] x (zg_ 1 x (zg_ 2 x 0 0) E) (zk_ 1 x (zg_ 2 x 0 0) 3332 3333 E)) 3332 E5) 3333 else Zj_ 32 x (ZV_ [-5] x (zg_ 1 x (zg_ 2 x 0 0) E) (zk_ 1 x (zg_ 2 x 0 0) 3332 3333 E)) 3332 E5):=by
 obtain ⟨a1,a2,a3⟩:=vk_ h2
 unfold uS u8L u8E u7E u6N u6P u6E
 rw [h7,h5,a2]
 exact ⟨a1,rfl,fun _=>rfl,rfl⟩
theorem zeg_ {b:List Int} {p:Int} (hs:hdA b p < 64):hdT b p=(0,[],0,0,0,0,())/\hdQ b p=0/\hdP b p=p/\hdE b p=3332:=⟨if_pos hs,if_pos hs,if_pos hs,if_pos hs⟩
theorem zau_ {b:List Int} {p:Int} (hs:¬ hdA b p < 64):hdT b p=(u3V (hdX b p) (hdA b p),ctB (u6N (hdX b p) (hdA b p)) 0,uS (hdX b p) (hdA b p) 0,uS (hdX b p) (hdA b p) 1,uS (hdX b p) (hdA b p) 2,uS (hdX b p) (hdA b p) 3,())/\hdQ b p=u1N (hdX b p) - 64/\hdP b p=p+64/\hdE b p=u8E (hdX b p) (hdA b p):=⟨if_neg hs,if_neg hs,if_neg hs,if_neg hs⟩
end Go.Eng
namespace Go.Eng
open Go.Proofs
set_option linter.unusedVariables false
set_option linter.unusedSimpArgs false
set_option maxRecDepth 100000
set_option maxHeartbeats 1000000
set_option maxHeartbeats 8000000
def YO_:IR:=
(sq (kr [0] [oD 2 (.box [.int .u64 0,.str [],.int .u64 0,.int .u64 0,.int .u64 0,.int .u64 0,.nils]),
oD 3 (.mov (cI 0))])
(sq (.reg [oM 11 0,
oC 12 108 [11],
oM 4 12])
(sq (sq (.reg [oM 13 4,
oB 14 .lss 13 (cI 64)])
(.cond 14
(sq (kr [0,2] [oM 15 0,
oC 16 110 [15,(cI 3332)]])
(sq (.reg [oK 17 7 2,
oS 7 2 17,
oD 3 (.mov (cI 0))])
.ret))
.skip))
(sq (kr [0,2,4] [oM 18 0,
oC 19 88 [18,(cI 64)],
oC 20 51 [19,(cI 3332),(cI 3333)],
oM 5 20])
(sq (.reg [oM 21 5,
oC 22 85 [21,(cI 2)],
oD 23 (.conv .i64 22),
oM 6 23])
(sq (sq (kr [0,2,4,5,6] [oM 24 6,
oB 25 .lss 24 (cI 64),
oM 26 25,
oF 26 27 (.mov 6),
oF 26 28 (.bin .rem 27 (cI 8)),
oF 26 29 (.bin .neq 28 (cI 0)),
oP 30 26 cT 29,
oM 31 30,
oF 31 32 (.mov 6),
oF 31 33 (.mov 4),
oF 31 34 (.bin .gtr 32 33),
oP 35 31 cT 34])
(.cond 35
(kr [0,2,5,6] [oM 36 5,
oC 37 110 [36,(cI 3332)]])
.skip))
(sq (kr [0,2,5,6] [oM 38 5,
oC 39 85 [38,(cI 1)],
oA 40 0 2,
oS 1 40 39])
(sq (.reg [oM 41 5,
oD 42 (.sliceAll (.int .i64) 1 [(0,1,(cI (-5)))]),
oC 43 89 [41,42]])
(sq (sq (.reg [oA 44 0 2,
oL 45 44,
oB 46 .gtr 45 (.c (.int .u64 254))])
(.cond 46
(kr [0,2,5,6] [oM 47 5,
oC 48 110 [47,(cI 266)]])
.skip))
(sq (kr [0,2,5,6] [oM 50 5,
oC 51 88 [50,(cI 32)],
oD 52 (.sliceAll (.int .u8) 1 [(0,1,(.c (.int .u8 0)))]),
oC 53 191 [51,52],
oM 49 53,
oX 54 49 0,
oX 55 49 1,
oX 56 49 2,
oM 7 54,
oM 8 55,
oM 9 56])
(sq (sq (kr [0,2,5,6,7,8,9] [oM 57 9,
oD 58 (.un .not 57),
oM 59 58,
oF 59 60 (.mov 7),
oF 59 61 (.b2s 60),
oF 59 62 (.call false (.f 131) [61]),
oF 59 63 (.un .not 62),
oP 64 59 cT 63,
oM 65 64,
oF 65 66 (.mov 8),
oF 65 67 (.call false (.f 192) [66,(.c (.str [0]))]),
oF 65 68 (.len 67),
oF 65 69 (.bin .gtr 68 (cI 0)),
oP 70 65 cT 69])
(.cond 70
(kr [0,2,5,6,7] [oM 71 5,
oC 72 110 [71,(cI 3333)]])
.skip))
(sq (kr [0,2,5,6,7] [oM 73 7,
oD 74 (.b2s 73),
oA 75 1 2,
oS 1 75 74])
(sq (kr [0,2,5,6] [oM 76 5,
oD 77 (.sliceAll (.int .i64) 4 [(0,1,(cI 8)),(1,1,(cI 8)),(2,1,(cI 4)),(3,1,(cI 4))]),
oC 78 89 [76,77],
oD 79 (.sliceAll (.int .u64) 4 [(0,1,(.c (.int .u64 0))),(1,1,(.c (.int .u64 0))),(2,1,(.c (.int .u64 0))),(3,1,(.c (.int .u64 0)))]),
oD 80 (.append (.int .u64) 8 78 79),
oM 10 80])
(sq (kd [0,2,5,6,10] [(oM 81 10,[]),
(oD 82 (.indexSl 1 81 (cI 0)),[]),
(oL 83 82,[]),
(oM 84 10,[0,0,0]),
(oD 85 (.indexSl 1 84 (cI 1)),[1,0,0]),
(oL 86 85,[2,0,0]),
(oM 87 10,[0,0,0,0,0,0]),
(oD 88 (.indexSl 1 87 (cI 2)),[1,0,0,0,0,0]),
(oL 89 88,[2,0,0,0,0,0]),
(oM 90 10,[0,0,0,0,0,0,0,0,0]),
(oD 91 (.indexSl 1 90 (cI 3)),[1,0,0,0,0,0,0,0,0]),
(oL 92 91,[2,0,0,0,0,0,0,0,0]),
(oA 93 2 2,[0,0,0,0,0,0,0,0,0]),
(oS 1 93 83,[1,0,0,0,0,0,0,0,0]),
(oA 94 3 2,[2,0,0,0,0,0]),
(oS 1 94 86,[3,0,0,0,0,0]),
(oA 95 4 2,[4,0,0]),
(oS 1 95 89,[5,0,0]),
(oA 96 5 2,[]),
(oS 1 96 92,[])])
(sq (kr [0,2,5,6] [oM 97 0,
oM 98 5,
oC 99 53 [98],
oC 100 110 [97,99]])
(sq (.reg [oK 101 7 2,
oM 102 6,
oB 103 .sub 102 (cI 64),
oS 7 2 101,
oM 3 103])
.ret))))))))))))))))
def Yw_:List RD:=[.cell 2 (some 7) false [],.tmp 3 false none]
theorem YG_:zo_ Tryz.prog Tryz.f158 YO_ Yw_=true:=by kernel_rfl
def jh_:List AV->List Obj->Option (Prop × AV × List Obj)
 | [.ptr 0 0],[.box [.imm (.int .u8) b,.int .i64 p,.int .i64 sh,.int .i64 od,.int .i64 e,.bool true]]=>some ((0<=p/\p<=b.length/\b.length<=100000/\sh ≠ 0/\e=0,.tup [.agg [.int .u64 (hdT b p).1,.str (hdT b p).2.1,.int .u64 (hdT b p).2.2.1,.int .u64 (hdT b p).2.2.2.1,.int .u64 (hdT b p).2.2.2.2.1,.int .u64 (hdT b p).2.2.2.2.2.1,.nils],.int .i64 (hdQ b p)],[.box [.imm (.int .u8) b,.int .i64 (hdP b p),.int .i64 sh,.int .i64 od,.int .i64 (hdE b p),.bool true]]))
 | _,_=>none
theorem X7_:ze_ Tryz.prog 158 (RwF jh_).sum:=by
 refine qh_ Tryz.func158 YG_ (zb_ (s:=RoF zT_) Zb_ (zb_ (s:=RwF zw_) zC_ (zb_ (s:=RwF zW_) ZD_ (zb_ (s:=RwF q4_) Q6_ (zb_ (s:=RwF Z8_) kw_ (zb_ (s:=RwF qx_) jW_ (zb_ (s:=RoF WH_) VM_ (zb_ (s:=RoF QC_) ju_ (zb_ (s:=RoF J3_) vp_ (zb_ (s:=RoF zA_) zE_ (zf_ _))))))))))) fun args objs p v o e=>?_
 unfold jh_ at e
 split at e
 ·rename_i b p sh od e
  cases e
  refine ⟨rfl,fun hw ho hp=>?_⟩
  change List Int at b
  have hb:∀ x ∈ (b:List Int),(0:Int)<=x/\x<=255:=fun x hx=>((ho _ (List.mem_cons_self ..)) (.imm (.int .u8) b) (by simp)).1 x hx
  clear hw ho
  change List Int at b
  obtain ⟨hp0,hp1,hp2,hp3,rfl⟩:=hp
  by_cases hs:(b.length:Int) - p < 64
  ·obtain ⟨s1,s2,s3,s4⟩:=zeg_ (b:=b) (p:=p) hs
   rw [s1,s2,s3,s4]
   repeat'(intro t ht;first|(cases t<;>first|(cases ht;done)|(try simp only[zh_]at ht;try(exfalso;first|contradiction|omega)))|((first|refine za_ ht ?_|refine ht ?_ ?_|refine ht.1 ?_ ?_|refine ht ?_)<;>clear ht))
   all_goals first
    | exact True.intro
    | exact ⟨hp0,hp1⟩
    | exact ⟨rfl,rfl⟩
    | (exfalso;omega)
  ·obtain ⟨k1,k2,k3⟩:=b64 (sh:=sh) hp0 hs
   have hxl:(zm_ 64 b p sh 0).length=64:=by rw [k2,List.length_take,List.length_drop];omega
   have hxb:∀ z ∈ zm_ 64 b p sh 0,(0:Int)<=z/\z<=255:=fun z hz=>by rw [k2] at hz;exact hb z (List.mem_of_mem_drop (List.mem_of_mem_take hz))
   obtain ⟨c1,c2,c3,c4,c5⟩:=Gv_ hxb hxl
   unfold u1N at c1 c2 c3
   have fb:(zl_ (zk_ 2 (zm_ 64 b p sh 0) 0 3332 3333 0) 3332) ≠ 0:=by show zl_ (u1E (zm_ 64 b p sh 0)) 3332 ≠ 0;rw [c5];decide
   have r1:(wy_ 1 (zm_ 64 b p sh 0) (zg_ 2 (zm_ 64 b p sh 0) 0 0) (zl_ (zk_ 2 (zm_ 64 b p sh 0) 0 3332 3333 0) 3332))=0:=Hx_ fb
   have r2:¬ ctK (zm_ 32 (zm_ 64 b p sh 0) (ZV_ [-5] (zm_ 64 b p sh 0) (zg_ 1 (zm_ 64 b p sh 0) (zg_ 2 (zm_ 64 b p sh 0) 0 0) (zl_ (zk_ 2 (zm_ 64 b p sh 0) 0 3332 3333 0) 3332)) (zk_ 1 (zm_ 64 b p sh 0) (zg_ 2 (zm_ 64 b p sh 0) 0 0) 3332 3333 (zl_ (zk_ 2 (zm_ 64 b p sh 0) 0 3332 3333 0) 3332))) 3332 (ZH_ [-5] (zm_ 64 b p sh 0) (zg_ 1 (zm_ 64 b p sh 0) (zg_ 2 (zm_ 64 b p sh 0) 0 0) (zl_ (zk_ 2 (zm_ 64 b p sh 0) 0 3332 3333 0) 3332)) 3332 3333 (zk_ 1 (zm_ 64 b p sh 0) (zg_ 2 (zm_ 64 b p sh 0) 0 0) 3332 3333 (zl_ (zk_ 2 (zm_ 64 b p sh 0) 0 3332 3333 0) 3332)))) (([0]:List Int).getD 0 0)=true:=zaT_ (UY_ (Hz_ fb))
   have r3:¬ ctK (zm_ 32 (zm_ 64 b p sh 0) (ZV_ [-5] (zm_ 64 b p sh 0) (zg_ 1 (zm_ 64 b p sh 0) (zg_ 2 (zm_ 64 b p sh 0) 0 0) (zk_ 2 (zm_ 64 b p sh 0) 0 3332 3333 0)) (zk_ 1 (zm_ 64 b p sh 0) (zg_ 2 (zm_ 64 b p sh 0) 0 0) 3332 3333 (zk_ 2 (zm_ 64 b p sh 0) 0 3332 3333 0))) 3332 (zl_ (ZH_ [-5] (zm_ 64 b p sh 0) (zg_ 1 (zm_ 64 b p sh 0) (zg_ 2 (zm_ 64 b p sh 0) 0 0) (zk_ 2 (zm_ 64 b p sh 0) 0 3332 3333 0)) 3332 3333 (zk_ 1 (zm_ 64 b p sh 0) (zg_ 2 (zm_ 64 b p sh 0) 0 0) 3332 3333 (zk_ 2 (zm_ 64 b p sh 0) 0 3332 3333 0))) 266)) (([0]:List Int).getD 0 0)=true:=zaT_ (by unfold zl_;split;decide;assumption)
   have q0:(0:Int)<=0/\(0:Int)<=(zm_ 64 b p sh 0).length:=⟨Int.le_refl _,by omega⟩
   have q1:=Hy_ (w:=2) (e:=0) q0.1 q0.2
   have q2:=fun e=>Hy_ (w:=1) (e:=e) q1.1 q1.2
   have q3:=fun e e'=>HP_ (w:=[-5]) (e:=e') (q2 e).1 (q2 e).2
   have q4:=fun e e' e2=>Bh_ (n:=32) (sh:=3332) (e:=e2) (q3 e e').1 (q3 e e').2 (by decide)
   have hxl2:(zm_ 64 b p sh 0).length<=140737488355328:=by omega
   have hyl:=fun p s e=>gk_ (n:=32) (b:=zm_ 64 b p sh 0) (p:=s) (sh:=3332) (e:=e)
   clear hxb hb c4 c5 fb
   repeat'(intro t ht;first|(cases t<;>first|(cases ht;done)|(try simp only[zh_]at ht;try(exfalso;first|contradiction|omega)))|((first|refine za_ ht ?_|refine ht ?_ ?_|refine ht.1 ?_ ?_|refine ht ?_)<;>clear ht))
   all_goals first
    | exact True.intro
    | exact rfl
    | exact ⟨hp0,hp1⟩
    | exact ⟨hp0,hp1,by omega,hp3⟩
    | exact hxl2
    | exact ⟨q0.1,q0.2,hxl2⟩
    | exact ⟨q1.1,q1.2,hxl2⟩
    | exact ⟨(q2 _).1,(q2 _).2,hxl2⟩
    | exact ⟨(q3 _ _).1,(q3 _ _).2,hxl2,by decide⟩
    | exact ⟨(q4 _ _ _).1,(q4 _ _ _).2,hxl2⟩
    | ((try dsimp only);simp only [zn_];omega)
    | decide
    | exact Nat.le_trans zdI_ (Nat.le_trans (hyl _ _ _) hxl2)
    | (generalize hz:wK_ [8,8,4,4] _ _ _=z
       have hz4:z.length<=4:=by rw [<- hz];exact zch_ _ _ _ _
       simp only [Qx_,List.length_append,List.length_cons,List.length_nil]
       first | omega | (constructor<;>omega) | (refine ⟨?_,?_,?_⟩<;>omega))
    | skip
   all_goals clear r1 r2 r3 q0 q1 q2 q3 q4 hxl2 hyl
   all_goals obtain ⟨s1,s2,s3,s4⟩:=zau_ (b:=b) (p:=p) hs
   all_goals have hX:hdX b p=zm_ 64 b p sh 0:=k2.symm
   all_goals have hA:hdA b p=(b.length:Int) - p:=rfl
   all_goals rw [hX,hA] at s1 s4
   all_goals rw [hX] at s2
   all_goals rw [s1,s2,s3,s4,k1,k3]
   all_goals clear s1 s2 s3 s4 hX hA k1 k2 k3
   all_goals generalize zm_ 64 b p sh 0=x at*
   all_goals generalize (b.length:Int) - p=A at*
   all_goals first
    | (have h2:u2E x A=(zl_ (zk_ 2 x 0 3332 3333 0) 3332):=(if_pos (zcw_ (by first | exact .inl (by assumption) | exact .inr (.inl (by assumption)) | exact .inr (.inr (by assumption)))))
       obtain ⟨a1,a2,a3⟩:=vk_ h2
       have h5:u5E x A=(ZH_ [-5] x (zg_ 1 x (zg_ 2 x 0 0) (zl_ (zk_ 2 x 0 3332 3333 0) 3332)) 3332 3333 (zk_ 1 x (zg_ 2 x 0 0) 3332 3333 (zl_ (zk_ 2 x 0 3332 3333 0) 3332))):=by unfold u5E;rw [if_neg (by rw [a1];assumption),a3]
       have h6:u6N x A=zm_ 32 x (ZV_ [-5] x (zg_ 1 x (zg_ 2 x 0 0) (zl_ (zk_ 2 x 0 3332 3333 0) 3332)) (zk_ 1 x (zg_ 2 x 0 0) 3332 3333 (zl_ (zk_ 2 x 0 3332 3333 0) 3332))) 3332 (ZH_ [-5] x (zg_ 1 x (zg_ 2 x 0 0) (zl_ (zk_ 2 x 0 3332 3333 0) 3332)) 3332 3333 (zk_ 1 x (zg_ 2 x 0 0) 3332 3333 (zl_ (zk_ 2 x 0 3332 3333 0) 3332))):=by unfold u6N;rw [a2,h5]
       have h7:u7O x A=true:=by unfold u7O;rw [h6];first | (rw [show ctK (zm_ 32 x (ZV_ [-5] x (zg_ 1 x (zg_ 2 x 0 0) (zl_ (zk_ 2 x 0 3332 3333 0) 3332)) (zk_ 1 x (zg_ 2 x 0 0) 3332 3333 (zl_ (zk_ 2 x 0 3332 3333 0) 3332))) 3332 (ZH_ [-5] x (zg_ 1 x (zg_ 2 x 0 0) (zl_ (zk_ 2 x 0 3332 3333 0) 3332)) 3332 3333 (zk_ 1 x (zg_ 2 x 0 0) 3332 3333 (zl_ (zk_ 2 x 0 3332 3333 0) 3332)))) 0=false by assumption];rfl) | (rw [show q7_ (ctB (zm_ 32 x (ZV_ [-5] x (zg_ 1 x (zg_ 2 x 0 0) (zl_ (zk_ 2 x 0 3332 3333 0) 3332)) (zk_ 1 x (zg_ 2 x 0 0) 3332 3333 (zl_ (zk_ 2 x 0 3332 3333 0) 3332))) 3332 (ZH_ [-5] x (zg_ 1 x (zg_ 2 x 0 0) (zl_ (zk_ 2 x 0 3332 3333 0) 3332)) 3332 3333 (zk_ 1 x (zg_ 2 x 0 0) 3332 3333 (zl_ (zk_ 2 x 0 3332 3333 0) 3332)))) 0)=false by assumption];simp) | (rw [show decide (0 < (QP_ (kY_ (ctR (zm_ 32 x (ZV_ [-5] x (zg_ 1 x (zg_ 2 x 0 0) (zl_ (zk_ 2 x 0 3332 3333 0) 3332)) (zk_ 1 x (zg_ 2 x 0 0) 3332 3333 (zl_ (zk_ 2 x 0 3332 3333 0) 3332))) 3332 (ZH_ [-5] x (zg_ 1 x (zg_ 2 x 0 0) (zl_ (zk_ 2 x 0 3332 3333 0) 3332)) 3332 3333 (zk_ 1 x (zg_ 2 x 0 0) 3332 3333 (zl_ (zk_ 2 x 0 3332 3333 0) 3332)))) 0) 0) 0).length)=true from decide_eq_true (by (have c:(0:Int) < ((QP_ (kY_ (ctR (zm_ 32 x (ZV_ [-5] x (zg_ 1 x (zg_ 2 x 0 0) (zl_ (zk_ 2 x 0 3332 3333 0) 3332)) (zk_ 1 x (zg_ 2 x 0 0) 3332 3333 (zl_ (zk_ 2 x 0 3332 3333 0) 3332))) 3332 (ZH_ [-5] x (zg_ 1 x (zg_ 2 x 0 0) (zl_ (zk_ 2 x 0 3332 3333 0) 3332)) 3332 3333 (zk_ 1 x (zg_ 2 x 0 0) 3332 3333 (zl_ (zk_ 2 x 0 3332 3333 0) 3332)))) 0) 0) 0).length:Int):=by assumption);omega)];simp)
       obtain ⟨d1,d2,d3,d4⟩:=UP_ h2 h5 h7
       rw [d1,d2,d3,d3,d3,d3,d4]
       exact ⟨rfl,rfl⟩)
    | (have h2:u2E x A=(zk_ 2 x 0 3332 3333 0):=(if_neg (by rw [Hg_ (by assumption) (by assumption) (by assumption)];decide))
       obtain ⟨a1,a2,a3⟩:=vk_ h2
       have h5:u5E x A=(zl_ (ZH_ [-5] x (zg_ 1 x (zg_ 2 x 0 0) (zk_ 2 x 0 3332 3333 0)) 3332 3333 (zk_ 1 x (zg_ 2 x 0 0) 3332 3333 (zk_ 2 x 0 3332 3333 0))) 266):=by unfold u5E;rw [if_pos (by rw [a1];assumption),a3]
       have h6:u6N x A=zm_ 32 x (ZV_ [-5] x (zg_ 1 x (zg_ 2 x 0 0) (zk_ 2 x 0 3332 3333 0)) (zk_ 1 x (zg_ 2 x 0 0) 3332 3333 (zk_ 2 x 0 3332 3333 0))) 3332 (zl_ (ZH_ [-5] x (zg_ 1 x (zg_ 2 x 0 0) (zk_ 2 x 0 3332 3333 0)) 3332 3333 (zk_ 1 x (zg_ 2 x 0 0) 3332 3333 (zk_ 2 x 0 3332 3333 0))) 266):=by unfold u6N;rw [a2,h5]
       have h7:u7O x A=true:=by unfold u7O;rw [h6];first | (rw [show ctK (zm_ 32 x (ZV_ [-5] x (zg_ 1 x (zg_ 2 x 0 0) (zk_ 2 x 0 3332 3333 0)) (zk_ 1 x (zg_ 2 x 0 0) 3332 3333 (zk_ 2 x 0 3332 3333 0))) 3332 (zl_ (ZH_ [-5] x (zg_ 1 x (zg_ 2 x 0 0) (zk_ 2 x 0 3332 3333 0)) 3332 3333 (zk_ 1 x (zg_ 2 x 0 0) 3332 3333 (zk_ 2 x 0 3332 3333 0))) 266)) 0=false by assumption];rfl) | (rw [show q7_ (ctB (zm_ 32 x (ZV_ [-5] x (zg_ 1 x (zg_ 2 x 0 0) (zk_ 2 x 0 3332 3333 0)) (zk_ 1 x (zg_ 2 x 0 0) 3332 3333 (zk_ 2 x 0 3332 3333 0))) 3332 (zl_ (ZH_ [-5] x (zg_ 1 x (zg_ 2 x 0 0) (zk_ 2 x 0 3332 3333 0)) 3332 3333 (zk_ 1 x (zg_ 2 x 0 0) 3332 3333 (zk_ 2 x 0 3332 3333 0))) 266)) 0)=false by assumption];simp) | (rw [show decide (0 < (QP_ (kY_ (ctR (zm_ 32 x (ZV_ [-5] x (zg_ 1 x (zg_ 2 x 0 0) (zk_ 2 x 0 3332 3333 0)) (zk_ 1 x (zg_ 2 x 0 0) 3332 3333 (zk_ 2 x 0 3332 3333 0))) 3332 (zl_ (ZH_ [-5] x (zg_ 1 x (zg_ 2 x 0 0) (zk_ 2 x 0 3332 3333 0)) 3332 3333 (zk_ 1 x (zg_ 2 x 0 0) 3332 3333 (zk_ 2 x 0 3332 3333 0))) 266)) 0) 0) 0).length)=true from decide_eq_true (by (have c:(0:Int) < ((QP_ (kY_ (ctR (zm_ 32 x (ZV_ [-5] x (zg_ 1 x (zg_ 2 x 0 0) (zk_ 2 x 0 3332 3333 0)) (zk_ 1 x (zg_ 2 x 0 0) 3332 3333 (zk_ 2 x 0 3332 3333 0))) 3332 (zl_ (ZH_ [-5] x (zg_ 1 x (zg_ 2 x 0 0) (zk_ 2 x 0 3332 3333 0)) 3332 3333 (zk_ 1 x (zg_ 2 x 0 0) 3332 3333 (zk_ 2 x 0 3332 3333 0))) 266)) 0) 0) 0).length:Int):=by assumption);omega)];simp)
       obtain ⟨d1,d2,d3,d4⟩:=UP_ h2 h5 h7
       rw [d1,d2,d3,d3,d3,d3,d4]
       exact ⟨rfl,rfl⟩)
    | (have h2:u2E x A=(zk_ 2 x 0 3332 3333 0):=(if_neg (by rw [Hg_ (by assumption) (by assumption) (by assumption)];decide))
       obtain ⟨a1,a2,a3⟩:=vk_ h2
       have h5:u5E x A=(ZH_ [-5] x (zg_ 1 x (zg_ 2 x 0 0) (zk_ 2 x 0 3332 3333 0)) 3332 3333 (zk_ 1 x (zg_ 2 x 0 0) 3332 3333 (zk_ 2 x 0 3332 3333 0))):=by unfold u5E;rw [if_neg (by rw [a1];assumption),a3]
       have h6:u6N x A=zm_ 32 x (ZV_ [-5] x (zg_ 1 x (zg_ 2 x 0 0) (zk_ 2 x 0 3332 3333 0)) (zk_ 1 x (zg_ 2 x 0 0) 3332 3333 (zk_ 2 x 0 3332 3333 0))) 3332 (ZH_ [-5] x (zg_ 1 x (zg_ 2 x 0 0) (zk_ 2 x 0 3332 3333 0)) 3332 3333 (zk_ 1 x (zg_ 2 x 0 0) 3332 3333 (zk_ 2 x 0 3332 3333 0))):=by unfold u6N;rw [a2,h5]
       have h7:u7O x A=true:=by unfold u7O;rw [h6];first | (rw [show ctK (zm_ 32 x (ZV_ [-5] x (zg_ 1 x (zg_ 2 x 0 0) (zk_ 2 x 0 3332 3333 0)) (zk_ 1 x (zg_ 2 x 0 0) 3332 3333 (zk_ 2 x 0 3332 3333 0))) 3332 (ZH_ [-5] x (zg_ 1 x (zg_ 2 x 0 0) (zk_ 2 x 0 3332 3333 0)) 3332 3333 (zk_ 1 x (zg_ 2 x 0 0) 3332 3333 (zk_ 2 x 0 3332 3333 0)))) 0=false by assumption];rfl) | (rw [show q7_ (ctB (zm_ 32 x (ZV_ [-5] x (zg_ 1 x (zg_ 2 x 0 0) (zk_ 2 x 0 3332 3333 0)) (zk_ 1 x (zg_ 2 x 0 0) 3332 3333 (zk_ 2 x 0 3332 3333 0))) 3332 (ZH_ [-5] x (zg_ 1 x (zg_ 2 x 0 0) (zk_ 2 x 0 3332 3333 0)) 3332 3333 (zk_ 1 x (zg_ 2 x 0 0) 3332 3333 (zk_ 2 x 0 3332 3333 0)))) 0)=false by assumption];simp) | (rw [show decide (0 < (QP_ (kY_ (ctR (zm_ 32 x (ZV_ [-5] x (zg_ 1 x (zg_ 2 x 0 0) (zk_ 2 x 0 3332 3333 0)) (zk_ 1 x (zg_ 2 x 0 0) 3332 3333 (zk_ 2 x 0 3332 3333 0))) 3332 (ZH_ [-5] x (zg_ 1 x (zg_ 2 x 0 0) (zk_ 2 x 0 3332 3333 0)) 3332 3333 (zk_ 1 x (zg_ 2 x 0 0) 3332 3333 (zk_ 2 x 0 3332 3333 0)))) 0) 0) 0).length)=true from decide_eq_true (by (have c:(0:Int) < ((QP_ (kY_ (ctR (zm_ 32 x (ZV_ [-5] x (zg_ 1 x (zg_ 2 x 0 0) (zk_ 2 x 0 3332 3333 0)) (zk_ 1 x (zg_ 2 x 0 0) 3332 3333 (zk_ 2 x 0 3332 3333 0))) 3332 (ZH_ [-5] x (zg_ 1 x (zg_ 2 x 0 0) (zk_ 2 x 0 3332 3333 0)) 3332 3333 (zk_ 1 x (zg_ 2 x 0 0) 3332 3333 (zk_ 2 x 0 3332 3333 0)))) 0) 0) 0).length:Int):=by assumption);omega)];simp)
       obtain ⟨d1,d2,d3,d4⟩:=UP_ h2 h5 h7
       rw [d1,d2,d3,d3,d3,d3,d4]
       exact ⟨rfl,rfl⟩)
    | (have h2:u2E x A=(zk_ 2 x 0 3332 3333 0):=(if_neg (by rw [Hg_ (by assumption) (by assumption) (by assumption)];decide))
       obtain ⟨a1,a2,a3⟩:=vk_ h2
       have h5:u5E x A=(ZH_ [-5] x (zg_ 1 x (zg_ 2 x 0 0) (zk_ 2 x 0 3332 3333 0)) 3332 3333 (zk_ 1 x (zg_ 2 x 0 0) 3332 3333 (zk_ 2 x 0 3332 3333 0))):=by unfold u5E;rw [if_neg (by rw [a1];assumption),a3]
       have h6:u6N x A=zm_ 32 x (ZV_ [-5] x (zg_ 1 x (zg_ 2 x 0 0) (zk_ 2 x 0 3332 3333 0)) (zk_ 1 x (zg_ 2 x 0 0) 3332 3333 (zk_ 2 x 0 3332 3333 0))) 3332 (ZH_ [-5] x (zg_ 1 x (zg_ 2 x 0 0) (zk_ 2 x 0 3332 3333 0)) 3332 3333 (zk_ 1 x (zg_ 2 x 0 0) 3332 3333 (zk_ 2 x 0 3332 3333 0))):=by unfold u6N;rw [a2,h5]
       have h9:decide (0 < (QP_ (kY_ (ctR (zm_ 32 x (ZV_ [-5] x (zg_ 1 x (zg_ 2 x 0 0) (zk_ 2 x 0 3332 3333 0)) (zk_ 1 x (zg_ 2 x 0 0) 3332 3333 (zk_ 2 x 0 3332 3333 0))) 3332 (ZH_ [-5] x (zg_ 1 x (zg_ 2 x 0 0) (zk_ 2 x 0 3332 3333 0)) 3332 3333 (zk_ 1 x (zg_ 2 x 0 0) 3332 3333 (zk_ 2 x 0 3332 3333 0)))) 0) 0) 0).length)=false:=decide_eq_false (fun c=>(show ¬ (0:Int) < ((QP_ (kY_ (ctR (zm_ 32 x (ZV_ [-5] x (zg_ 1 x (zg_ 2 x 0 0) (zk_ 2 x 0 3332 3333 0)) (zk_ 1 x (zg_ 2 x 0 0) 3332 3333 (zk_ 2 x 0 3332 3333 0))) 3332 (ZH_ [-5] x (zg_ 1 x (zg_ 2 x 0 0) (zk_ 2 x 0 3332 3333 0)) 3332 3333 (zk_ 1 x (zg_ 2 x 0 0) 3332 3333 (zk_ 2 x 0 3332 3333 0)))) 0) 0) 0).length:Int) by assumption) (by omega))
       have h7:u7O x A=false:=by unfold u7O;rw [h6,h9,show ctK (zm_ 32 x (ZV_ [-5] x (zg_ 1 x (zg_ 2 x 0 0) (zk_ 2 x 0 3332 3333 0)) (zk_ 1 x (zg_ 2 x 0 0) 3332 3333 (zk_ 2 x 0 3332 3333 0))) 3332 (ZH_ [-5] x (zg_ 1 x (zg_ 2 x 0 0) (zk_ 2 x 0 3332 3333 0)) 3332 3333 (zk_ 1 x (zg_ 2 x 0 0) 3332 3333 (zk_ 2 x 0 3332 3333 0)))) 0=true by assumption,show q7_ (ctB (zm_ 32 x (ZV_ [-5] x (zg_ 1 x (zg_ 2 x 0 0) (zk_ 2 x 0 3332 3333 0)) (zk_ 1 x (zg_ 2 x 0 0) 3332 3333 (zk_ 2 x 0 3332 3333 0))) 3332 (ZH_ [-5] x (zg_ 1 x (zg_ 2 x 0 0) (zk_ 2 x 0 3332 3333 0)) 3332 3333 (zk_ 1 x (zg_ 2 x 0 0) 3332 3333 (zk_ 2 x 0 3332 3333 0)))) 0)=true by assumption];rfl
       obtain ⟨d1,d2,d3,d4⟩:=UP_ h2 h5 h7
       rw [d1,d2,d3,d3,d3,d3,d4]
       exact ⟨rfl,rfl⟩)
 ·cases e
end Go.Eng
