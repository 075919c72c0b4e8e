/- Parts of the proof: TA, TB, T9, TC, TD. No condition. -/
import Derived.Test.YtppgebehmmldfaaGreatDoorProg
import Derived.Test.YtppgebehmmldfaaGreatDoorXF10
import Derived.KernelRfl
import Derived.Test.YtppgebehmmldfaaGreatDoorXF14
namespace Go.Eng
open Go.Proofs
set_option linter.unusedVariables false
set_option linter.unusedSimpArgs false
set_option maxRecDepth 100000
set_option maxHeartbeats 1000000
def tlK (b:List Int):Int:=if b.length < 4 then 3332 else if tN b < 4 then 3332 else if (b.length:Int) < tN b+zr (tN b) then 3332 else if qg_ ((b.drop (tN b).toNat).take (zr (tN b)).toNat)=true then 0 else 3333
def tlI (b:List Int) (x:Int):Int:=if tlK b=0 then x else 0
def tlR (b:List Int):List Int:=if tlK b=0 then bd b else []
theorem zb2_ {b:List Int} (h:b.length < 4):tlK b=3332:=if_pos h
theorem zb0_ {b:List Int} (h:tN b < 4):tlK b=3332:=by
 unfold tlK
 by_cases c:b.length < 4
 ·rw [if_pos c]
 ·rw [if_neg c,if_pos h]
theorem zb1_ {b:List Int} (h:(b.length:Int) < tN b+zr (tN b)):tlK b=3332:=by
 unfold tlK
 by_cases c:b.length < 4
 ·rw [if_pos c]
 ·by_cases c2:tN b < 4
  ·rw [if_neg c,if_pos c2]
  ·rw [if_neg c,if_neg c2,if_pos h]
theorem bE_ {b:List Int} (h:¬ b.length < 4) (h1:¬ tN b < 4) (h2:¬ (b.length:Int) < tN b+zr (tN b)):tlK b=if qg_ ((b.drop (tN b).toNat).take (zr (tN b)).toNat)=true then 0 else 3333:=by
 unfold tlK;rw [if_neg h,if_neg h1,if_neg h2]
theorem hO_ {b:List Int} {e:Int} (h:tlK b=e) (h0:e ≠ 0) (x:Int):tlI b x=0/\tlR b=[]:=by
 unfold tlI tlR;rw [h,if_neg h0,if_neg h0];exact ⟨rfl,rfl⟩
theorem y7_ {b:List Int} (h:tlK b=0) (x:Int):tlI b x=x/\tlR b=bd b:=by
 unfold tlI tlR;rw [h,if_pos rfl,if_pos rfl];exact ⟨rfl,rfl⟩
theorem BK_ {k:Int} {y:List Int} (h1:1<=k) (h2:k<=8) (hl:k<=y.length):QY_ [0 - k] y=(if qg_ (y.take k.toNat)=true then 0 else 2)/\QK_ [0 - k]=k:=by
 have hr:zL_ [0 - k]=true:=Zf_.2 ⟨by simp,fun n hn=>by rw [List.mem_singleton] at hn;omega⟩
 have ha:zD_ (0 - k)=k:=by have:=xP_ (n:=0 - k) (by omega);omega
 constructor
 ·unfold QY_ QH_
  rw [if_pos hr]
  simp only [kA_,ha]
  rw [if_neg (by omega),if_neg (by omega)]
  split<;>rfl
 ·unfold QK_;rw [if_pos hr,List.map_cons,List.map_nil,List.sum_cons,List.sum_nil,ha,Int.add_zero]
theorem B6_ {k p sh od:Int} {b:List Int} (h1:1<=k) (h2:k<=8) (h0:0<=p) (hl:p+k<=b.length):ZC_ [0 - k] b p sh od 0=(if qg_ ((b.drop p.toNat).take k.toNat)=true then 0 else od)/\Zz_ [0 - k] b p 0=(if qg_ ((b.drop p.toNat).take k.toNat)=true then p+k else p):=by
 obtain ⟨a,s⟩:=BK_ (k:=k) (y:=b.drop p.toNat) h1 h2 (by rw [List.length_drop];omega)
 unfold ZC_ Zz_
 rw [if_pos rfl,if_pos rfl,a,s]
 by_cases c:qg_ ((b.drop p.toNat).take k.toNat)=true
 ·rw [if_pos c,if_pos c,if_pos c];exact ⟨rfl,rfl⟩
 ·rw [if_neg c,if_neg c,if_neg c];exact ⟨rfl,rfl⟩
def ha_:IR:=
(sq (kr [0,1] [oD 2 (.boxv 0),
oD 4 (.box [.int .i64 0,.imm (.int .u8) []]),
oD 5 (.mov (cI 0)),
oD 6 (.mov (cI 0))])
(sq (sq (.reg [oK 13 5 2,
oC 14 84 [13],
oD 15 (.un .not 14)])
(.cond 15
(sq (kr [4] [oD 16 (.build [.int .i64 0,.imm (.int .u8) []] []),
oS 2 4 16,
oD 5 (.mov (cI 0)),
oD 6 (.mov (cI 10001))])
.ret)
.skip))
(sq (kr [1,2,4] [oM 17 1,
oA 18 3 2,
oL 19 18,
oA 20 4 2,
oL 21 20,
oC 22 11 [17,19,21],
oM 7 22])
(sq (kr [1,2,4,7] [oM 23 7,
oD 24 (.sliceAll (.int .i64) 2 [(0,1,(cI 2)),(1,1,(cI 2))]),
oC 25 81 [23,24],
oM 8 25])
(sq (sq (.reg [oM 26 8,
oE 27 26,
oB 28 .eql 27 (cI 0)])
(.cond 28
(sq (kr [4,7] [oD 29 (.build [.int .i64 0,.imm (.int .u8) []] []),
oM 30 7,
oC 31 14 [30],
oS 2 4 29,
oD 5 (.mov (cI 0)),
oM 6 31])
.ret)
.skip))
(sq (kr [1,2,4,7,8] [oM 32 8,
oD 33 (.indexSl 1 32 (cI 1)),
oL 34 33,
oD 35 (.conv .i64 34),
oM 9 35])
(sq (sq (kr [1,2,4,7,8,9] [oK 36 5 2,
oM 37 9,
oC 38 85 [36,37],
oD 39 (.un .not 38),
oM 40 39,
oF 40 41 (.mov 9),
oF 40 42 (.load (some 5) 2),
oF 40 43 (.mov 9),
oF 40 44 (.call false (.f 86) [42,43]),
oF 40 45 (.bin .add 41 44),
oF 40 46 (.mov 1),
oF 40 47 (.len 46),
oF 40 48 (.bin .gtr 45 47),
oP 49 40 cT 48])
(.cond 49
(sq (kd [2,4] [(oD 50 (.build [.int .i64 0,.imm (.int .u8) []] []),[]),
(oA 51 3 2,[0]),
(oL 52 51,[1]),
(oS 2 4 50,[0,0]),
(oD 5 (.mov (cI 0)),[1,0]),
(oM 6 52,[])])
.ret)
.skip))
(sq (kd [2,4,7,8,9] [(oM 53 8,[]),
(oD 54 (.indexSl 1 53 (cI 0)),[]),
(oL 55 54,[]),
(oD 56 (.conv .i64 55),[]),
(oM 57 7,[0,0,0,0]),
(oM 58 9,[0,0,0,0,0]),
(oB 59 .sub 58 (cI 4),[1,0,0,0,0]),
(oC 60 12 [57,59],[3,0,0,0]),
(oD 61 (.buildAll 2 [(0,1,56),(1,1,60)]),[]),
(oD 10 (.box [.int .i64 0,.imm (.int .u8) []]),[0,0,0,0,0,0,0,0,0]),
(oS 2 10 61,[])])
(sq (sq (kr [2,4,7,9,10] [oK 62 5 2,
oM 63 9,
oC 64 86 [62,63],
oM 11 64])
(sq (.reg [oM 65 11,
oB 66 .gtr 65 (cI 0)])
(.cond 66
(kr [4,7,10,11] [oM 67 7,
oM 68 11,
oD 69 (.un .neg 68),
oD 70 (.sliceAll (.int .i64) 1 [(0,1,69)]),
oC 71 81 [67,70]])
.skip)))
(sq (sq (kr [4,7,10] [oM 72 7,
oC 73 14 [72],
oM 12 73])
(sq (.reg [oM 74 12,
oB 75 .neq 74 (cI 0)])
(.cond 75
(sq (.reg [oD 76 (.build [.int .i64 0,.imm (.int .u8) []] []),
oM 77 12,
oS 2 4 76,
oD 5 (.mov (cI 0)),
oM 6 77])
.ret)
.skip)))
(sq (kd [4,7,10] [(oK 78 2 10,[]),
(oM 79 7,[0]),
(oC 80 87 [79],[1]),
(oS 2 4 78,[]),
(oM 5 80,[]),
(oD 6 (.mov (cI 0)),[])])
.ret)))))))))))
def Gw_:List RD:=[.cell 4 (some 2) true [],.tmp 5 true none,.tmp 6 true none]
theorem GJ_:zo_ Tryz.prog Tryz.f64 ha_ Gw_=true:=by kernel_rfl
def XP_:List AV->List Obj->Option (Prop × AV)
 | [.agg [.int .i64 least,.int .i64 step,.bool pad,.int .i64 bad,.int .i64 odd],.imm (.int .u8) b],[]=>some ((pad=true/\least=4/\step=8/\bad=3332/\odd=3333/\b.length<=140737488355328,.tup [.agg [.int .i64 (tlI b (tT b)),.imm (.int .u8) (tlR b)],.int .i64 (tlI b (tN b+zr (tN b))),.int .i64 (tlK b)]))
 | _,_=>none
theorem UF_:ze_ Tryz.prog 64 (RoF XP_).sum:=by
 refine zs_ Tryz.func64 GJ_ (za_ (s:=RoF qV_) Kw_ (za_ (s:=RwF qx_) Qo_ (za_ (s:=RwF Zp_) Z3_ (za_ (s:=RoF zv_) zy_ (za_ (s:=RoF qw_) k8_ (za_ (s:=RoF qd_) kH_ (za_ (s:=RwF zR_) Zk_ (za_ (s:=RoF q8_) JT_ (zd_ _))))))))) fun args objs p v e=>?_
 unfold XP_ at e
 split at e
 ·rename_i least step pad bad odd b
  cases e
  refine ⟨rfl,fun hw ho hp=>?_⟩
  change List Int at b
  have hb:∀ x ∈ (b:List Int),(0:Int)<=x/\x<=255:=fun x hx=>(hw _ (by simp:AV.imm (.int .u8) b ∈ _)).1 x hx
  clear hw ho
  obtain ⟨rfl,rfl,rfl,rfl,rfl,hl⟩:=hp
  have hs:(4:Int)<=4/\(4:Int)<=60000/\(1:Int)<=8/\(8:Int)<=64/\(3332:Int) ≠ 0/\(3333:Int) ≠ 0:=⟨by decide,by decide,by decide,by decide,by decide,by decide⟩
  have hT:0<=tT b/\tT b<=65535:=uL_ (a:=0) hb
  have hN:0<=tN b/\tN b<=65535:=uL_ (a:=2) hb
  have hz:=Gl_ hN.1
  obtain ⟨c1,c2,c3⟩:=zdD_ (b:=b) (sh:=3332) (od:=3333)
  by_cases h4:b.length < 4
  ·rw [if_pos h4] at c1 c2 c3
   have hE:=zb2_ h4
   have hno:=hO_ hE (by decide)
   repeat'(intro t ht;first|(cases t<;>first|(cases ht;done)|(try simp only[zg_]at ht;try(exfalso;first|contradiction|omega)))|((first|refine zb_ ht ?_|refine ht ?_ ?_|refine ht.1 ?_ ?_|refine ht ?_)<;>clear ht))
   all_goals (try simp only [c1,c2,c3,List.length_nil,not_true_eq_false] at*)
   all_goals first
    | exact True.intro
    | exact hs
    | omega
    | exact ⟨by omega,by omega,by omega⟩
    | (rw [(hno (tT b)).1,(hno (tN b+zr (tN b))).1,(hno (tT b)).2,hE];first | exact ⟨rfl,rfl⟩ | exact ⟨rfl,trivial⟩)
    | (exfalso;omega)
  ·rw [if_neg h4] at c1 c2 c3
   have g0:∀ d:Int,[tT b,tN b].getD (Int.toNat 0) d=tT b:=fun _=>rfl
   have g1:∀ d:Int,[tT b,tN b].getD (Int.toNat 1) d=tN b:=fun _=>rfl
   by_cases hn4:tN b < 4
   ·have hE:=zb0_ hn4
    have hno:=hO_ hE (by decide)
    repeat'(intro t ht;first|(cases t<;>first|(cases ht;done)|(try simp only[zg_]at ht;try(exfalso;first|contradiction|omega)))|((first|refine zb_ ht ?_|refine ht ?_ ?_|refine ht.1 ?_ ?_|refine ht ?_)<;>clear ht))
    all_goals (try simp only [c1,c2,c3,g0,g1,List.length_cons,List.length_nil,not_true_eq_false] at*)
    all_goals first
     | exact True.intro
     | exact rfl
     | exact hs
     | omega
     | exact ⟨by omega,by omega,by omega⟩
     | ((try simp only [zF_,zG_,zk_] at*);omega)
     | (exfalso;omega)
     | (rw [(hno (tT b)).1,(hno (tN b+zr (tN b))).1,(hno (tT b)).2,hE];first | exact ⟨rfl,rfl⟩ | exact ⟨rfl,trivial⟩)
   ·by_cases hnl:(b.length:Int) < tN b+zr (tN b)
    ·have hE:=zb1_ hnl
     have hno:=hO_ hE (by decide)
     repeat'(intro t ht;first|(cases t<;>first|(cases ht;done)|(try simp only[zg_]at ht;try(exfalso;first|contradiction|omega)))|((first|refine zb_ ht ?_|refine ht ?_ ?_|refine ht.1 ?_ ?_|refine ht ?_)<;>clear ht))
     all_goals (try simp only [c1,c2,c3,g0,g1,List.length_cons,List.length_nil,not_true_eq_false] at*)
     all_goals first
      | exact True.intro
      | exact rfl
      | exact hs
      | omega
      | exact ⟨by omega,by omega,by omega⟩
      | exact ⟨rfl,rfl,by omega,by omega⟩
      | ((try simp only [zF_,zG_,zk_] at*);omega)
      | (exfalso;omega)
      | (rw [(hno (tT b)).1,(hno (tN b+zr (tN b))).1,(hno (tT b)).2,hE];first | exact ⟨rfl,rfl⟩ | exact ⟨rfl,trivial⟩)
    ·have e1:Ze_ (tN b - 4) b 4 3332 0=0:=by unfold Ze_;rw [if_neg (by omega),if_neg (by omega)]
     have e2:zm_ (tN b - 4) b 4 3332 0=bd b:=by unfold zm_ bd;rw [if_pos e1];congr 2;omega
     have e3:q9_ (tN b - 4) b 4 3332 0=tN b:=by unfold q9_;rw [if_pos e1];omega
     have hK:=bE_ h4 hn4 hnl
     have hC:=fun h=>B6_ (k:=zr (tN b)) (p:=tN b) (sh:=3332) (od:=3333) (b:=b) h (by omega) hN.1 (by omega)
     repeat'(intro t ht;first|(cases t<;>first|(cases ht;done)|(try simp only[zg_]at ht;try(exfalso;first|contradiction|omega)))|((first|refine zb_ ht ?_|refine ht ?_ ?_|refine ht.1 ?_ ?_|refine ht ?_)<;>clear ht))
     all_goals (try simp only [c1,c2,c3,g0,g1,e1,e2,e3,List.length_cons,List.length_nil,not_true_eq_false] at*)
     all_goals first
      | exact True.intro
      | exact rfl
      | exact hs
      | omega
      | exact ⟨by omega,by omega,by omega⟩
      | exact ⟨by omega,by omega,by omega,by decide⟩
      | exact ⟨rfl,rfl,by omega,by omega⟩
      | ((try simp only [zF_,zG_,zk_] at*);omega)
      | (exfalso;omega)
      | (have z0:zr (tN b)=0:=by omega
         have hE:tlK b=0:=by rw [hK,z0];rfl
         have q:=fun x=>y7_ hE x
         rw [(q (tT b)).1,(q (tN b+zr (tN b))).1,(q (tT b)).2,hE,z0,Int.add_zero];first | exact ⟨rfl,rfl⟩ | exact ⟨rfl,trivial⟩)
      | (obtain ⟨d1,d2⟩:=hC (by omega)
         by_cases c:qg_ ((b.drop (tN b).toNat).take (zr (tN b)).toNat)=true
         ·rw [if_pos c] at d1 d2 hK
          have q:=fun x=>y7_ hK x
          first
           | exact absurd d1 ht
           | (rw [(q (tT b)).1,(q (tN b+zr (tN b))).1,(q (tT b)).2,hK,d2];first | exact ⟨rfl,rfl⟩ | exact ⟨rfl,trivial⟩)
         ·rw [if_neg c] at d1 d2 hK
          have q:=fun x=>hO_ hK (by decide) x
          first
           | (exfalso;rw [d1] at ht;revert ht;decide)
           | (rw [(q (tT b)).1,(q (tN b+zr (tN b))).1,(q (tT b)).2,hK,d1];first | exact ⟨rfl,rfl⟩ | exact ⟨rfl,trivial⟩))
 ·cases e
def nuW (t:Int):Int:=if tyT t=true then 2 else if szT t=1 then 1 else 4
def nuV (t:Int) (y:List Int):Int:=Zy_ (y.take (nuW t).toNat)
def nuX (t:Int) (y:List Int):Bool:=(tyT t && !decide (Zy_ ((y.drop 2).take 2)=4)) || (decide (szT t=1) && decide (254 < nuV t y))
def nuG (t:Int) (y:List Int):List Int × Int:=
 if y.length=0 then ([],0) else if nuX t y=true then ([nuV t y],3333) else (nuV t y :: (nuG t (y.drop (max 1 (szT t).toNat))).1,(nuG t (y.drop (max 1 (szT t).toNat))).2)
termination_by y.length
decreasing_by all_goals (rw [List.length_drop];omega)
theorem YB_ {t:Int} {y:List Int} (h:y.length=0):nuG t y=([],0):=by rw [nuG,if_pos h]
theorem zcG_ {t:Int} {y:List Int} (h:¬ y.length=0) (h1:nuX t y=true):nuG t y=([nuV t y],3333):=by rw [nuG,if_neg h,if_pos h1]
theorem Bc_ {t:Int} {y:List Int} (h:¬ y.length=0) (h1:nuX t y=false) (hs:1<=szT t):nuG t y=(nuV t y :: (nuG t (y.drop (szT t).toNat)).1,(nuG t (y.drop (szT t).toNat)).2):=by
 rw [nuG,if_neg h,if_neg (by rw [h1];decide),show max 1 (szT t).toNat=(szT t).toNat by omega]
def ftE (dup:Bool) (t:Int) (x:List Int):Int:=if szT t=0 then 3331 else if otT t=true then (if x.length < 8 then 3332 else 0) else if dup=true then 3333 else if ¬ (x.length:Int).tmod (szT t)=0 then 3332 else (nuG t x).2
def ftN (dup:Bool) (t:Int) (x:List Int):List Int:=if szT t=0 then [] else if otT t=true then (if x.length < 8 then [] else [Zy_ (x.take 4),Zy_ ((x.drop 4).take 4)]) else if dup=true then [] else if ¬ (x.length:Int).tmod (szT t)=0 then [] else (nuG t x).1
def ftD (t:Int) (x:List Int):List Int:=if otT t=true then (if x.length < 8 then [] else x.drop 8) else []
theorem zdy_ (b:List Int):QH_ [4,4] b=if b.length < 8 then ([],1) else ([Zy_ (b.take 4),Zy_ ((b.drop 4).take 4)],0):=by
 have hr:zL_ [4,4]=true:=by decide
 unfold QH_
 rw [if_pos hr]
 have a2:zD_ 4=4:=by decide
 have t2:Int.toNat 4=4:=rfl
 have p2:(0:Int) < 4:=by decide
 simp only [kA_,a2,t2,if_pos p2,List.length_drop]
 by_cases h:b.length < 8
 ·rw [if_pos h]
  by_cases h2:(b.length:Int) < 4
  ·rw [if_pos h2]
  ·rw [if_neg h2,if_pos (by omega)]
 ·rw [if_neg h,if_neg (by omega),if_neg (by omega)];rfl
theorem zdC_ {b:List Int} {sh od:Int}:ww_ [4,4] b 0 0=(if b.length < 8 then [] else [Zy_ (b.take 4),Zy_ ((b.drop 4).take 4)])/\Zz_ [4,4] b 0 0=(if b.length < 8 then 0 else 8)/\ZC_ [4,4] b 0 sh od 0=(if b.length < 8 then sh else 0):=by
 have e:QH_ [4,4] (b.drop (0:Int).toNat)=if b.length < 8 then ([],1) else ([Zy_ (b.take 4),Zy_ ((b.drop 4).take 4)],0):=by
  rw [show (0:Int).toNat=0 from rfl,List.drop_zero,zdy_]
 have es:QK_ [4,4]=8:=by decide
 unfold ww_ Zz_ ZC_ Wj_ QY_
 rw [e,es]
 by_cases h:b.length < 8
 ·simp only [if_pos h];exact ⟨rfl,rfl,rfl⟩
 ·simp only [if_neg h];exact ⟨rfl,rfl,rfl⟩
theorem BJ_ {w:Int} {y:List Int} (h1:1<=w) (h2:w<=8) (hl:w<=y.length):Wj_ [w] y=[Zy_ (y.take w.toNat)]/\QY_ [w] y=0/\QK_ [w]=w:=by
 have hr:zL_ [w]=true:=Zf_.2 ⟨by simp,fun n hn=>by rw [List.mem_singleton] at hn;omega⟩
 have ha:zD_ w=w:=by have:=y0_ (n:=w) (by omega);omega
 unfold Wj_ QY_ QH_ QK_
 rw [if_pos hr,if_pos hr]
 simp only [kA_,ha]
 rw [if_neg (by omega),if_pos (by omega)]
 refine ⟨rfl,rfl,?_⟩
 rw [List.map_cons,List.map_nil,List.sum_cons,List.sum_nil,ha,Int.add_zero]
theorem uJ_ {w p sh od:Int} {b:List Int} (h1:1<=w) (h2:w<=8) (h0:0<=p) (hl:p+w<=b.length):JA_ w b p 0=Zy_ ((b.drop p.toNat).take w.toNat)/\zh_ w b p 0=p+w/\zi_ w b p sh od 0=0:=by
 obtain ⟨a,k,s⟩:=BJ_ (w:=w) (y:=b.drop p.toNat) h1 h2 (by rw [List.length_drop];omega)
 have hc:1<=w/\w<=8:=⟨h1,h2⟩
 refine ⟨?_,?_,?_⟩
 ·unfold JA_ ww_;rw [if_pos hc,if_pos rfl,a];rfl
 ·unfold zh_ Zz_;rw [if_pos hc,if_pos rfl,k,s];rfl
 ·unfold zi_ ZC_;rw [if_pos hc,if_pos rfl,k];rfl
def JE_:IR:=
(sq (kr [0] [oD 2 (.mov (.c (.imm (.int .u8) [])))])
(sq (kr [0] [oM 3 0,
oM 4 0,
oC 5 15 [4],
oC 6 12 [3,5],
oM 2 6])
.ret))
def Jf_:List RD:=[.tmp 2 true (some (.int .u8))]
theorem Js_:zo_ Tryz.prog Tryz.f88 JE_ Jf_=true:=by kernel_rfl
def qp_:List AV->List Obj->Option (Prop × AV × List Obj)
 | [.ptr 0 0],[.box [.imm (.int .u8) b,.int .i64 p,.int .i64 sh,.int .i64 od,.int .i64 e,.bool true]]=>some ((0<=p/\p<=b.length/\b.length<=140737488355328/\sh ≠ 0,.imm (.int .u8) (if e=0 then b.drop p.toNat else []),[.box [.imm (.int .u8) b,.int .i64 ((if e=0 then (b.length:Int) else p)),.int .i64 sh,.int .i64 od,.int .i64 e,.bool true]]))
 | _,_=>none
theorem js_:ze_ Tryz.prog 88 (RwF qp_).sum:=by
 refine ZJ_ Tryz.func88 Js_ (za_ (s:=RoF zO_) z3_ (za_ (s:=RwF zR_) Zk_ (zd_ _))) fun args objs p v o e=>?_
 unfold qp_ at e
 split at e
 ·rename_i b p sh od e
  cases e
  refine ⟨rfl,fun hw ho hp=>?_⟩
  change List Int at b
  clear hw ho
  obtain ⟨h1,h2,h3,h4⟩:=hp
  have hE:Ze_ ((b.length:Int) - p) b p sh e=e:=by unfold Ze_;rw [if_neg (by omega),if_neg (by omega)]
  have hL:zm_ ((b.length:Int) - p) b p sh e=if e=0 then b.drop p.toNat else []:=by
   unfold zm_;rw [hE,show (p+((b.length:Int) - p)).toNat=b.length by omega,List.take_length]
  have hP:q9_ ((b.length:Int) - p) b p sh e=if e=0 then (b.length:Int) else p:=by
   unfold q9_;rw [hE,show p+((b.length:Int) - p)=b.length by omega]
  repeat'(intro t ht;first|(cases t<;>first|(cases ht;done)|(try simp only[zg_]at ht))|((first|refine zb_ ht ?_|refine ht ?_ ?_|refine ht.1 ?_ ?_|refine ht ?_)<;>clear ht))
  all_goals first
   | exact True.intro
   | exact ⟨h1,h2⟩
   | exact ⟨h1,h2,h3,h4⟩
   | (rw [hE,hL,hP];exact ⟨rfl,rfl⟩)
 ·cases e
theorem ft_0 {D:Bool} {t:Int} {x:List Int} (h:szT t=0):ftE D t x=3331/\ftN D t x=[]/\ftD t x=[]:=by
 have ho:otT t=false:=by
  rcases W6_ t with ⟨_,_,q⟩ | ⟨q,_⟩ | ⟨q,_⟩ | ⟨q,_⟩
  ·exact q
  all_goals omega
 unfold ftE ftN ftD
 rw [if_pos h,if_pos h,if_neg (by rw [ho];decide)];exact ⟨rfl,rfl,rfl⟩
theorem ft_o {D:Bool} {t:Int} {x:List Int} (h:¬ szT t=0) (ho:otT t=true):ftE D t x=(if x.length < 8 then 3332 else 0)/\ftN D t x=(if x.length < 8 then [] else [Zy_ (x.take 4),Zy_ ((x.drop 4).take 4)])/\ftD t x=(if x.length < 8 then [] else x.drop 8):=by
 unfold ftE ftN ftD
 rw [if_neg h,if_neg h,if_pos ho,if_pos ho,if_pos ho];exact ⟨rfl,rfl,rfl⟩
theorem ft_d {t:Int} {x:List Int} (h:¬ szT t=0) (ho:otT t=false):ftE true t x=3333/\ftN true t x=[]/\ftD t x=[]:=by
 unfold ftE ftN ftD
 rw [if_neg h,if_neg h,ho];exact ⟨rfl,rfl,rfl⟩
theorem ft_m {t:Int} {x:List Int} (h:¬ szT t=0) (ho:otT t=false) (hm:¬ (x.length:Int).tmod (szT t)=0):ftE false t x=3332/\ftN false t x=[]/\ftD t x=[]:=by
 unfold ftE ftN ftD
 rw [if_neg h,if_neg h,ho,if_pos hm,if_pos hm];exact ⟨rfl,rfl,rfl⟩
theorem ft_n {D:Bool} {t:Int} {x:List Int} (h:¬ szT t=0) (ho:otT t=false) (hD:D=false) (hm:(x.length:Int).tmod (szT t)=0):ftE D t x=(nuG t x).2/\ftN D t x=(nuG t x).1/\ftD t x=[]:=by
 subst hD
 unfold ftE ftN ftD
 rw [if_neg h,if_neg h,ho,if_neg (not_not_intro hm),if_neg (not_not_intro hm)];exact ⟨rfl,rfl,rfl⟩
theorem Bd_ {t:Int} {x:List Int} {s:Nat} (hs:szT t=s) (h1:1<=s) (p:Nat) (h:p < x.length):(nuX t (x.drop p)=true->nuG t (x.drop p)=([nuV t (x.drop p)],3333))/\(nuX t (x.drop p)=false->nuG t (x.drop p)=(nuV t (x.drop p) :: (nuG t (x.drop (p+s))).1,(nuG t (x.drop (p+s))).2)):=by
 have hl:¬ (x.drop p).length=0:=by rw [List.length_drop];omega
 refine ⟨fun k=>zcG_ hl k,fun k=>?_⟩
 rw [Bc_ hl k (by omega),List.drop_drop,hs,Int.toNat_natCast]
theorem GR_ {t:Int} {x:List Int} {p:Nat} (h:x.length<=p):nuG t (x.drop p)=([],0):=YB_ (by rw [List.length_drop];omega)
theorem w42:(4:Int) - 2=2:=rfl
theorem ba_ {tt W:Int} {x:List Int} (hw:nuW tt=W) (h1:1<=W) (h2:W<=8) {P:Int} {p:Nat} (hP:P=p) (h:(p:Int)+W<=x.length):JA_ W x P 0=nuV tt (x.drop p)/\zh_ W x P 0=P+W/\zi_ W x P 3332 3333 0=0:=by
 obtain ⟨a,b,c⟩:=uJ_ (w:=W) (p:=P) (sh:=3332) (od:=3333) (b:=x) h1 h2 (by omega) (by omega)
 refine ⟨a.trans ?_,b,c⟩
 unfold nuV;rw [hw,hP,Int.toNat_natCast]
theorem fx_2 {x:List Int} {P:Int} {p:Nat} (hP:P=p+2) (h:p+4<=x.length):JA_ 2 x P 0=Zy_ (((x.drop p).drop 2).take 2)/\zh_ 2 x P 0=(p:Int)+4/\zi_ 2 x P 3332 3333 0=0:=by
 obtain ⟨a,b,c⟩:=uJ_ (w:=2) (p:=P) (sh:=3332) (od:=3333) (b:=x) (by decide) (by decide) (by omega) (by omega)
 refine ⟨a.trans ?_,by omega,c⟩
 rw [List.drop_drop,hP,show ((p:Int)+2).toNat=p+2 by omega];rfl
theorem h6_ {t:Int} {y:List Int} (h:tyT t=true) (hs:szT t=4):nuX t y=!decide (Zy_ ((y.drop 2).take 2)=4):=by
 unfold nuX;rw [h,hs];simp
theorem nx_1 {t:Int} {y:List Int} (h:tyT t=false) (hs:szT t=1):nuX t y=decide (254 < nuV t y):=by
 unfold nuX;rw [h,hs];simp
theorem nx_4 {t:Int} (h:tyT t=false) (hs:szT t=4) (y:List Int):nuX t y=false:=by
 unfold nuX;rw [h,hs];simp
def yJ_:IR:=
(sq (kr [0,1] [oD 2 (.boxv 0),
oD 4 (.box [.int .i64 0,.nils,.nils]),
oD 5 (.mov (cI 0))])
(sq (kd [1,2,4] [(oA 11 0 2,[]),
(oL 12 11,[]),
(oD 13 (.build [.int .i64 0,.nils,.nils] [(0,1,12)]),[]),
(oA 14 0 2,[0,0,0]),
(oL 15 14,[1,0,0]),
(oC 16 42 [15],[2,0,0]),
(oD 6 (.box [.int .i64 0,.nils,.nils]),[0,0,0,0,0,0]),
(oD 7 (.box [.int .i64 0,.kb false,.kb false]),[0,0,0,0,0,0,0]),
(oS 3 6 13,[]),
(oS 3 7 16,[])])
(sq (kr [1,2,4,6,7] [oA 17 1 2,
oL 18 17,
oC 19 11 [18,(cI 3332),(cI 3333)],
oM 8 19])
(sq (.block 0
(sq (.reg [oA 21 0 7,
oL 22 21,
oB 23 .eql 22 (cI 0),
oM 20 23])
(.cond 20
(sq (kr [4,6] [oK 24 3 6,
oS 3 4 24,
oD 5 (.mov (cI 3331))])
.ret)
(sq (kr [1,2,4,6,7,8] [oA 26 2 7,
oL 27 26,
oM 25 27])
(.cond 25
(sq (kr [4,6,8] [oM 28 8,
oD 29 (.sliceAll (.int .i64) 2 [(0,1,(cI 4)),(1,1,(cI 4))]),
oC 30 81 [28,29],
oM 31 8,
oC 32 88 [31],
oA 33 1 6,
oS 1 33 30,
oA 34 2 6,
oS 1 34 32])
(sq (kd [4,6,8] [(oK 35 3 6,[]),
(oM 36 8,[0]),
(oC 37 14 [36],[1]),
(oS 3 4 35,[]),
(oM 5 37,[])])
.ret))
(sq (kr [1,2,4,6,7,8] [oM 39 1,
oA 40 0 2,
oL 41 40,
oD 42 (.mget (.int .i64) (.int .i64) (0:Int) false 39 41),
oB 43 .gtr 42 (cI 0),
oM 38 43])
(.cond 38
(sq (kr [4,6] [oK 44 3 6,
oS 3 4 44,
oD 5 (.mov (cI 3333))])
.ret)
(sq (kr [2,4,6,7,8] [oA 46 1 2,
oL 47 46,
oE 48 47,
oA 49 0 7,
oL 50 49,
oB 51 .rem 48 50,
oB 52 .neq 51 (cI 0),
oM 45 52])
(.cond 45
(sq (kr [4,6] [oK 53 3 6,
oS 3 4 53,
oD 5 (.mov (cI 3332))])
.ret)
.skip)))))))))
(sq (.block 1
(.loop
(sq (sq (kr [4,6,7,8] [oM 54 8,
oC 55 15 [54],
oB 56 .gtr 55 (cI 0),
oM 57 56,
oT 57 58 (.mov 8),
oT 57 59 (.call false (.f 14) [58]),
oT 57 60 (.bin .eql 59 (cI 0)),
oP 61 57 60 cF])
(.cond 61
.skip
(.exit 1)))
(.block 2
(sq (kr [4,6,7,8] [oA 62 0 7,
oL 63 62,
oM 9 63])
(sq (sq (.reg [oA 64 1 7,
oL 65 64])
(.cond 65
(.reg [oM 66 9,
oB 67 .sub 66 (cI 2),
oM 9 67])
.skip))
(sq (kr [4,6,7,8,9] [oM 68 8,
oM 69 9,
oC 70 80 [68,69],
oM 10 70])
(sq (sq (kr [4,6,7,8,10] [oA 71 1 7,
oL 72 71,
oM 73 72,
oT 73 74 (.mov 8),
oT 73 75 (.call false (.f 80) [74,(cI 2)]),
oT 73 76 (.bin .neq 75 (.c (.int .u64 4))),
oP 77 73 76 cF,
oM 78 77,
oF 78 79 (.fieldAddr 0 7),
oF 78 80 (.load none 79),
oF 78 81 (.bin .eql 80 (cI 1)),
oF 78 82 (.mov 81),
oT 82 83 (.mov 10),
oT 82 84 (.bin .gtr 83 (.c (.int .u64 254))),
oF 78 85 (.pick 82 84 cF),
oP 86 78 cT 85])
(.cond 86
(kr [4,6,7,8,10] [oM 87 8,
oC 88 40 [87,(cI 3333)]])
.skip))
(kr [4,6,7,8,10] [oA 89 1 6,
oL 90 89,
oM 91 10,
oD 92 (.sliceAll (.int .u64) 1 [(0,1,91)]),
oD 93 (.append (.int .u64) 8 90 92),
oA 94 1 6,
oS 1 94 93])))))))))
(sq (kd [4,6,8] [(oK 95 3 6,[]),
(oM 96 8,[0]),
(oC 97 14 [96],[1]),
(oS 3 4 95,[]),
(oM 5 97,[])])
.ret))))))
def yv_:List RD:=[.cell 4 (some 3) true [none,(some (.int .u64)),(some (.int .u8))],.tmp 5 true none]
theorem yC_:zo_ Tryz.prog Tryz.f66 yJ_ yv_=true:=by kernel_rfl
def Km_:List AV->List Obj->Option (Prop × AV)
 | [.agg [.int .i64 tt,.imm (.int .u8) x],.mapv 0],[.map sq (.int .i64) (.int .i64) m]=>some ((x.length<=100000,.tup [.agg [.int .i64 tt,.imm (.int .u64) ((ftN (decide (0 < (zt_ m tt).getD 0)) tt x)),.imm (.int .u8) ((ftD tt x))],.int .i64 (ftE (decide (0 < (zt_ m tt).getD 0)) tt x)]))
 | _,_=>none
theorem x4_:ze_ Tryz.prog 66 (RoF Km_).sum:=by
 refine zs_ Tryz.func66 yC_ (za_ (s:=RoF ZT_) qh_ (za_ (s:=RwF qx_) Qo_ (za_ (s:=RwF Zp_) Z3_ (za_ (s:=RwF qp_) js_ (za_ (s:=RoF zv_) zy_ (za_ (s:=RoF zO_) z3_ (za_ (s:=RwF ZI_) QJ_ (za_ (s:=RwF zr_) zw_ (zd_ _))))))))) fun args objs p v e=>?_
 unfold Km_ at e
 split at e
 ·rename_i tt x sq m
  cases e
  refine ⟨rfl,fun hw ho hp=>?_⟩
  change List Int at x
  clear hw ho
  change List Int at x
  change List (Int × Int) at m
  have hz:=W6_ tt
  obtain ⟨c1,c2,c3⟩:=zdC_ (b:=x) (sh:=3332) (od:=3333)
  repeat'(intro t ht;first|(cases t<;>first|(cases ht;done)|(try simp only[zg_]at ht;try(exfalso;first|contradiction|omega)))|((first|refine zb_ ht ?_|refine ht ?_ ?_|refine ht.1 ?_ ?_|refine ht ?_)<;>clear ht))
  all_goals first
   | exact True.intro
   | exact hp
   | omega
   | exact ⟨by omega,by omega,by omega⟩
   | (refine ⟨?_,rfl⟩
      obtain ⟨q1,q2,q3⟩:=ft_0 (D:=decide (0 < (zt_ m tt).getD 0)) (x:=x) ‹szT tt=0›
      rw [q1,q2,q3];done)
   | (rw [c1,c2,c3]
      refine ⟨?_,rfl⟩
      obtain ⟨q1,q2,q3⟩:=ft_o (D:=decide (0 < (zt_ m tt).getD 0)) (x:=x) ‹¬ szT tt=0› ‹otT tt=true›
      rw [q1,q2,q3]
      by_cases h8:x.length < 8
      ·simp only [if_pos h8];rfl
      ·simp only [if_neg h8];rfl)
   | (rw [c2,c3];by_cases h8:x.length < 8
      ·simp only [if_pos h8];exact ⟨by omega,by omega,by omega,by decide⟩
      ·simp only [if_neg h8];exact ⟨by omega,by omega,by omega,by decide⟩)
   | (refine ⟨?_,rfl⟩
      have e:decide (0 < (zt_ m tt).getD 0)=true:=decide_eq_true ht
      obtain ⟨q1,q2,q3⟩:=ft_d (x:=x) ‹¬ szT tt=0› ‹otT tt=false›
      rw [e,q1,q2,q3];done)
   | (refine ⟨?_,rfl⟩
      have e:decide (0 < (zt_ m tt).getD 0)=false:=decide_eq_false ‹¬ 0 < (zt_ m tt).getD 0›
      obtain ⟨q1,q2,q3⟩:=ft_m (x:=x) ‹¬ szT tt=0› ‹otT tt=false› ht
      rw [e,q1,q2,q3];done)
   | skip
  ·have hs0:¬ szT tt=0:=by assumption
   have hot:otT tt=false:=by assumption
   have hD:decide (0 < (zt_ m tt).getD 0)=false:=decide_eq_false ‹¬ 0 < (zt_ m tt).getD 0›
   have hmod:(x.length:Int).tmod (szT tt)=0:=by assumption
   have hz2:(szT tt=1/\tyT tt=false)\/(szT tt=4/\tyT tt=true)\/(szT tt=4/\tyT tt=false):=by
    rcases hz with ⟨q,_⟩ | ⟨q,r,_⟩ | ⟨q,_⟩ | ⟨_,_,q,_⟩
    ·exact absurd q hs0
    ·exact .inl ⟨q,r⟩
    ·cases h:tyT tt
     ·exact .inr (.inr ⟨q,rfl⟩)
     ·exact .inr (.inl ⟨q,rfl⟩)
    ·rw [hot] at q;cases q
   clear hz
   rcases hz2 with ⟨hs,hty⟩ | ⟨hs,hty⟩ | ⟨hs,hty⟩
   ·-- a number has 1 bytes
    have h8:=ft_n (x:=x) hs0 hot hD hmod
    have hx4:x.length % 1=0:=by rw [hs,Int.tmod_eq_emod_of_nonneg (by omega)] at hmod;omega
    have hng:=Bd_ (t:=tt) (x:=x) (s:=1) hs (by decide)
    have hnw:nuW tt=1:=by unfold nuW;rw [hty,hs];decide
    first
     | (intro r h1 h2;clear h1;refine h2 ⟨[4,6,7,8],Option (List Int × Nat × Int),(fun a=>match a with | none=>True | some a=>a.2.1<=x.length/\a.1.length<=a.2.1/\(x.length - a.2.1) % 1=0/\((a.2.2=0/\nuG tt x=(a.1++(nuG tt (x.drop a.2.1)).1,(nuG tt (x.drop a.2.1)).2))\/(a.2.2 ≠ 0/\nuG tt x=(a.1,a.2.2)))),(fun a=>[.ptr 1 0,.ptr 2 0,.ptr 3 0,.ptr 4 0]),(fun a=>match a with | none=>[.map sq (.int .i64) (.int .i64) m,.box [.int .i64 0,.nils,.nils],.box [.int .i64 tt,.nils,.nils],.box [.int .i64 1,.bool false,.bool false],.box [.imm (.int .u8) x,.int .i64 0,.int .i64 3332,.int .i64 3333,.int .i64 0,.bool true]] | some a=>[.map sq (.int .i64) (.int .i64) m,.box [.int .i64 0,.nils,.nils],.box [.int .i64 tt,.own 5,.nils],.box [.int .i64 1,.bool false,.bool false],.box [.imm (.int .u8) x,.int .i64 ((a.2.1:Int)),.int .i64 3332,.int .i64 3333,.int .i64 a.2.2,.bool true],.row false (.int .u64) a.1]),(fun a=>match a with | none=>x.length+1 | some a=>if a.2.2=0 then x.length - a.2.1 else 0),⟨none,True.intro,rfl,(by rw [hs,hty,hot])⟩,?_⟩;clear h2)
    rintro (_ | ⟨acc,p,e⟩) hJ
    ·clear hJ
     have hfit:0 < x.length->0+1<=x.length:=fun h=>by omega
     have g1:=fun h:0+1<=x.length=>ba_ (tt:=tt) (x:=x) (W:=1) hnw (by decide) (by decide) (P:=0) (p:=0) rfl (by omega)
     have hx0:nuG tt x=(([]:List Int)++(nuG tt (x.drop 0)).1,(nuG tt (x.drop 0)).2):=rfl
     have hg:=fun h:0 < x.length=>hng 0 h
     repeat'(intro t ht;first|(cases t<;>first|(cases ht;done)|(try simp only[zg_]at ht;try(exfalso;first|contradiction|omega)))|((first|refine zb_ ht ?_|refine ht ?_ ?_|refine ht.1 ?_ ?_|refine ht ?_)<;>clear ht))
     all_goals first
      | exact True.intro
      | omega
      | decide
      | exact ⟨by first | omega | (dsimp only;omega),by first | omega | (dsimp only;omega)⟩
      | exact ⟨by first | omega | (dsimp only;omega),by first | omega | (dsimp only;omega),by omega⟩
      | (simp only [List.length_cons,List.length_nil];constructor<;>omega)
      | (refine ⟨?_,rfl⟩
         have e:nuG tt x=([],0):=YB_ (by omega)
         rw [h8.1,h8.2.1,h8.2.2,e];done)
      | skip
     all_goals have hlt:0 < x.length:=by omega
     all_goals obtain ⟨a1,a2,a3⟩:=g1 (hfit hlt)
     all_goals (try simp only [a1,a2,a3] at ht)
     all_goals simp only [a1,a2,a3]
     all_goals first
      | (have e:=(hg hlt).1 (by rw [nx_1 hty hs];exact decide_eq_true ht)
         refine ⟨some ([]++[nuV tt (x.drop 0)],0+1,3333),⟨by dsimp only;omega,by dsimp only;simp only [List.length_append,List.length_cons,List.length_nil];omega,by dsimp only;omega,.inr ⟨by show (3333:Int) ≠ 0;decide,?_⟩⟩,by first | (show (if (3333:Int)=0 then _ else 0) < _;rw [if_neg (by decide)];(try dsimp only);(try rw [if_pos True.intro]);omega),rfl,?_⟩
         ·rw [hx0,e]
         ·rfl)
      | (have e:=(hg hlt).2 (by rw [nx_1 hty hs];exact decide_eq_false ht)
         refine ⟨some ([]++[nuV tt (x.drop 0)],0+1,0),⟨by dsimp only;omega,by dsimp only;simp only [List.length_append,List.length_cons,List.length_nil];omega,by dsimp only;omega,.inl ⟨rfl,?_⟩⟩,by first | (show (if (0:Int)=0 then _ else 0) < _;rw [if_pos rfl];(try dsimp only);(try rw [if_pos True.intro]);omega),rfl,?_⟩
         ·rw [hx0,e];dsimp only;rw [List.append_assoc];rfl
         ·rfl)
    ·obtain ⟨j1,j2,j3,j4⟩:=hJ
     dsimp only at j1 j2 j3 j4
     rcases j4 with ⟨rfl,j4⟩ | ⟨j4,j5⟩
     ·have hfit:p < x.length->p+1<=x.length:=fun h=>by omega
      have g1:=fun h:p+1<=x.length=>ba_ (tt:=tt) (x:=x) (W:=1) hnw (by decide) (by decide) (P:=(p:Int)) (p:=p) rfl (by omega)
      have hg:=fun h:p < x.length=>hng p h
      repeat'(intro t ht;first|(cases t<;>first|(cases ht;done)|(try simp only[zg_]at ht;try(exfalso;first|contradiction|omega)))|((first|refine zb_ ht ?_|refine ht ?_ ?_|refine ht.1 ?_ ?_|refine ht ?_)<;>clear ht))
      all_goals first
       | exact True.intro
       | omega
       | decide
       | exact ⟨by first | omega | (dsimp only;omega),by first | omega | (dsimp only;omega)⟩
       | exact ⟨by first | omega | (dsimp only;omega),by first | omega | (dsimp only;omega),by omega⟩
       | (simp only [List.length_cons,List.length_nil];constructor<;>omega)
       | (refine ⟨?_,rfl⟩
          have e:nuG tt x=(acc,0):=by rw [j4,GR_ (by omega),List.append_nil]
          rw [h8.1,h8.2.1,h8.2.2,e];done)
       | skip
      all_goals have hlt:p < x.length:=by omega
      all_goals obtain ⟨a1,a2,a3⟩:=g1 (hfit hlt)
      all_goals (try simp only [a1,a2,a3] at ht)
      all_goals simp only [a1,a2,a3]
      all_goals first
       | (have e:=(hg hlt).1 (by rw [nx_1 hty hs];exact decide_eq_true ht)
          refine ⟨some (acc++[nuV tt (x.drop p)],p+1,3333),⟨by dsimp only;omega,by dsimp only;simp only [List.length_append,List.length_cons,List.length_nil];omega,by dsimp only;omega,.inr ⟨by show (3333:Int) ≠ 0;decide,?_⟩⟩,by first | (show (if (3333:Int)=0 then _ else 0) < _;rw [if_neg (by decide)];(try dsimp only);(try rw [if_pos True.intro]);omega),rfl,?_⟩
          ·rw [j4,e]
          ·first | rfl | (dsimp only;rw [show ((p:Int)+1)=((p+1:Nat):Int) by omega];rfl))
       | (have e:=(hg hlt).2 (by rw [nx_1 hty hs];exact decide_eq_false ht)
          refine ⟨some (acc++[nuV tt (x.drop p)],p+1,0),⟨by dsimp only;omega,by dsimp only;simp only [List.length_append,List.length_cons,List.length_nil];omega,by dsimp only;omega,.inl ⟨rfl,?_⟩⟩,by first | (show (if (0:Int)=0 then _ else 0) < _;rw [if_pos rfl];(try dsimp only);(try rw [if_pos True.intro]);omega),rfl,?_⟩
          ·rw [j4,e];dsimp only;rw [List.append_assoc];rfl
          ·first | rfl | (dsimp only;rw [show ((p:Int)+1)=((p+1:Nat):Int) by omega];rfl))
     ·repeat'(intro t ht;first|(cases t<;>first|(cases ht;done)|(try simp only[zg_]at ht;try(exfalso;first|contradiction|omega)))|((first|refine zb_ ht ?_|refine ht ?_ ?_|refine ht.1 ?_ ?_|refine ht ?_)<;>clear ht))
      all_goals first
       | exact True.intro
       | exact absurd ‹e=0› j4
       | exact ⟨by dsimp only;omega,by dsimp only;omega⟩
       | (refine ⟨?_,rfl⟩
          rw [h8.1,h8.2.1,h8.2.2,j5];done)
   ·-- a number has 4 bytes
    have h8:=ft_n (x:=x) hs0 hot hD hmod
    have hx4:x.length % 4=0:=by rw [hs,Int.tmod_eq_emod_of_nonneg (by omega)] at hmod;omega
    have hng:=Bd_ (t:=tt) (x:=x) (s:=4) hs (by decide)
    have hnw:nuW tt=2:=by unfold nuW;rw [hty,hs];decide
    first
     | (intro r h1 h2;clear h1;refine h2 ⟨[4,6,7,8],Option (List Int × Nat × Int),(fun a=>match a with | none=>True | some a=>a.2.1<=x.length/\a.1.length<=a.2.1/\(x.length - a.2.1) % 4=0/\((a.2.2=0/\nuG tt x=(a.1++(nuG tt (x.drop a.2.1)).1,(nuG tt (x.drop a.2.1)).2))\/(a.2.2 ≠ 0/\nuG tt x=(a.1,a.2.2)))),(fun a=>[.ptr 1 0,.ptr 2 0,.ptr 3 0,.ptr 4 0]),(fun a=>match a with | none=>[.map sq (.int .i64) (.int .i64) m,.box [.int .i64 0,.nils,.nils],.box [.int .i64 tt,.nils,.nils],.box [.int .i64 4,.bool true,.bool false],.box [.imm (.int .u8) x,.int .i64 0,.int .i64 3332,.int .i64 3333,.int .i64 0,.bool true]] | some a=>[.map sq (.int .i64) (.int .i64) m,.box [.int .i64 0,.nils,.nils],.box [.int .i64 tt,.own 5,.nils],.box [.int .i64 4,.bool true,.bool false],.box [.imm (.int .u8) x,.int .i64 ((a.2.1:Int)),.int .i64 3332,.int .i64 3333,.int .i64 a.2.2,.bool true],.row false (.int .u64) a.1]),(fun a=>match a with | none=>x.length+1 | some a=>if a.2.2=0 then x.length - a.2.1 else 0),⟨none,True.intro,rfl,(by rw [hs,hty,hot])⟩,?_⟩;clear h2)
    rintro (_ | ⟨acc,p,e⟩) hJ
    ·clear hJ
     have hfit:0 < x.length->0+4<=x.length:=fun h=>by omega
     have g1:=fun h:0+4<=x.length=>ba_ (tt:=tt) (x:=x) (W:=2) hnw (by decide) (by decide) (P:=0) (p:=0) rfl (by omega)
     have g2:=fun h:0+4<=x.length=>fx_2 (x:=x) (P:=0+2) (p:=0) rfl (by omega)
     have hx0:nuG tt x=(([]:List Int)++(nuG tt (x.drop 0)).1,(nuG tt (x.drop 0)).2):=rfl
     have hg:=fun h:0 < x.length=>hng 0 h
     repeat'(intro t ht;first|(cases t<;>first|(cases ht;done)|(try simp only[zg_]at ht;try(exfalso;first|contradiction|omega)))|((first|refine zb_ ht ?_|refine ht ?_ ?_|refine ht.1 ?_ ?_|refine ht ?_)<;>clear ht))
     all_goals first
      | exact True.intro
      | omega
      | decide
      | exact ⟨by first | omega | (dsimp only;omega),by first | omega | (dsimp only;omega)⟩
      | exact ⟨by first | omega | (dsimp only;omega),by first | omega | (dsimp only;omega),by omega⟩
      | (simp only [List.length_cons,List.length_nil];constructor<;>omega)
      | (obtain ⟨a1,a2,a3⟩:=g1 (hfit (by omega));simp only [w42,a2];exact ⟨by omega,by omega,by omega⟩)
      | (refine ⟨?_,rfl⟩
         have e:nuG tt x=([],0):=YB_ (by omega)
         rw [h8.1,h8.2.1,h8.2.2,e];done)
      | skip
     all_goals have hlt:0 < x.length:=by omega
     all_goals obtain ⟨a1,a2,a3⟩:=g1 (hfit hlt)
     all_goals obtain ⟨b1,b2,b3⟩:=g2 (hfit hlt)
     all_goals simp only [w42,a1,a2,a3,b1,b2,b3]
     all_goals have hq:JA_ 2 x (zh_ (4 - 2) x (0) 0) (zi_ (4 - 2) x (0) 3332 3333 0)=Zy_ (((x.drop 0).drop 2).take 2):=by simp only [w42,a2,a3,b1]
     all_goals first
      | (have e:=(hg hlt).1 (by rw [h6_ hty hs,decide_eq_false fun c=>(show ¬ JA_ 2 x (zh_ (4 - 2) x (0) 0) (zi_ (4 - 2) x (0) 3332 3333 0)=4 by assumption) (hq.trans c)];rfl)
         refine ⟨some ([]++[nuV tt (x.drop 0)],0+4,3333),⟨by dsimp only;omega,by dsimp only;simp only [List.length_append,List.length_cons,List.length_nil];omega,by dsimp only;omega,.inr ⟨by show (3333:Int) ≠ 0;decide,?_⟩⟩,by first | (show (if (3333:Int)=0 then _ else 0) < _;rw [if_neg (by decide)];(try dsimp only);(try rw [if_pos True.intro]);omega),rfl,?_⟩
         ·rw [hx0,e]
         ·rfl)
      | (have e:=(hg hlt).2 (by rw [h6_ hty hs,decide_eq_true (hq.symm.trans (by assumption))];rfl)
         refine ⟨some ([]++[nuV tt (x.drop 0)],0+4,0),⟨by dsimp only;omega,by dsimp only;simp only [List.length_append,List.length_cons,List.length_nil];omega,by dsimp only;omega,.inl ⟨rfl,?_⟩⟩,by first | (show (if (0:Int)=0 then _ else 0) < _;rw [if_pos rfl];(try dsimp only);(try rw [if_pos True.intro]);omega),rfl,?_⟩
         ·rw [hx0,e];dsimp only;rw [List.append_assoc];rfl
         ·rfl)
    ·obtain ⟨j1,j2,j3,j4⟩:=hJ
     dsimp only at j1 j2 j3 j4
     rcases j4 with ⟨rfl,j4⟩ | ⟨j4,j5⟩
     ·have hfit:p < x.length->p+4<=x.length:=fun h=>by omega
      have g1:=fun h:p+4<=x.length=>ba_ (tt:=tt) (x:=x) (W:=2) hnw (by decide) (by decide) (P:=(p:Int)) (p:=p) rfl (by omega)
      have g2:=fun h:p+4<=x.length=>fx_2 (x:=x) (P:=(p:Int)+2) (p:=p) rfl (by omega)
      have hg:=fun h:p < x.length=>hng p h
      repeat'(intro t ht;first|(cases t<;>first|(cases ht;done)|(try simp only[zg_]at ht;try(exfalso;first|contradiction|omega)))|((first|refine zb_ ht ?_|refine ht ?_ ?_|refine ht.1 ?_ ?_|refine ht ?_)<;>clear ht))
      all_goals first
       | exact True.intro
       | omega
       | decide
       | exact ⟨by first | omega | (dsimp only;omega),by first | omega | (dsimp only;omega)⟩
       | exact ⟨by first | omega | (dsimp only;omega),by first | omega | (dsimp only;omega),by omega⟩
       | (simp only [List.length_cons,List.length_nil];constructor<;>omega)
       | (obtain ⟨a1,a2,a3⟩:=g1 (hfit (by omega));simp only [w42,a2];exact ⟨by omega,by omega,by omega⟩)
       | (refine ⟨?_,rfl⟩
          have e:nuG tt x=(acc,0):=by rw [j4,GR_ (by omega),List.append_nil]
          rw [h8.1,h8.2.1,h8.2.2,e];done)
       | skip
      all_goals have hlt:p < x.length:=by omega
      all_goals obtain ⟨a1,a2,a3⟩:=g1 (hfit hlt)
      all_goals obtain ⟨b1,b2,b3⟩:=g2 (hfit hlt)
      all_goals simp only [w42,a1,a2,a3,b1,b2,b3]
      all_goals have hq:JA_ 2 x (zh_ (4 - 2) x ((p:Int)) 0) (zi_ (4 - 2) x ((p:Int)) 3332 3333 0)=Zy_ (((x.drop p).drop 2).take 2):=by simp only [w42,a2,a3,b1]
      all_goals first
       | (have e:=(hg hlt).1 (by rw [h6_ hty hs,decide_eq_false fun c=>(show ¬ JA_ 2 x (zh_ (4 - 2) x ((p:Int)) 0) (zi_ (4 - 2) x ((p:Int)) 3332 3333 0)=4 by assumption) (hq.trans c)];rfl)
          refine ⟨some (acc++[nuV tt (x.drop p)],p+4,3333),⟨by dsimp only;omega,by dsimp only;simp only [List.length_append,List.length_cons,List.length_nil];omega,by dsimp only;omega,.inr ⟨by show (3333:Int) ≠ 0;decide,?_⟩⟩,by first | (show (if (3333:Int)=0 then _ else 0) < _;rw [if_neg (by decide)];(try dsimp only);(try rw [if_pos True.intro]);omega),rfl,?_⟩
          ·rw [j4,e]
          ·first | rfl | (dsimp only;rw [show ((p:Int)+4)=((p+4:Nat):Int) by omega];rfl))
       | (have e:=(hg hlt).2 (by rw [h6_ hty hs,decide_eq_true (hq.symm.trans (by assumption))];rfl)
          refine ⟨some (acc++[nuV tt (x.drop p)],p+4,0),⟨by dsimp only;omega,by dsimp only;simp only [List.length_append,List.length_cons,List.length_nil];omega,by dsimp only;omega,.inl ⟨rfl,?_⟩⟩,by first | (show (if (0:Int)=0 then _ else 0) < _;rw [if_pos rfl];(try dsimp only);(try rw [if_pos True.intro]);omega),rfl,?_⟩
          ·rw [j4,e];dsimp only;rw [List.append_assoc];rfl
          ·first | rfl | (dsimp only;rw [show ((p:Int)+4)=((p+4:Nat):Int) by omega];rfl))
     ·repeat'(intro t ht;first|(cases t<;>first|(cases ht;done)|(try simp only[zg_]at ht;try(exfalso;first|contradiction|omega)))|((first|refine zb_ ht ?_|refine ht ?_ ?_|refine ht.1 ?_ ?_|refine ht ?_)<;>clear ht))
      all_goals first
       | exact True.intro
       | exact absurd ‹e=0› j4
       | exact ⟨by dsimp only;omega,by dsimp only;omega⟩
       | (refine ⟨?_,rfl⟩
          rw [h8.1,h8.2.1,h8.2.2,j5];done)
   ·-- a number has 4 bytes
    have h8:=ft_n (x:=x) hs0 hot hD hmod
    have hx4:x.length % 4=0:=by rw [hs,Int.tmod_eq_emod_of_nonneg (by omega)] at hmod;omega
    have hng:=Bd_ (t:=tt) (x:=x) (s:=4) hs (by decide)
    have hnw:nuW tt=4:=by unfold nuW;rw [hty,hs];decide
    first
     | (intro r h1 h2;clear h1;refine h2 ⟨[4,6,7,8],Option (List Int × Nat × Int),(fun a=>match a with | none=>True | some a=>a.2.1<=x.length/\a.1.length<=a.2.1/\(x.length - a.2.1) % 4=0/\((a.2.2=0/\nuG tt x=(a.1++(nuG tt (x.drop a.2.1)).1,(nuG tt (x.drop a.2.1)).2))\/(a.2.2 ≠ 0/\nuG tt x=(a.1,a.2.2)))),(fun a=>[.ptr 1 0,.ptr 2 0,.ptr 3 0,.ptr 4 0]),(fun a=>match a with | none=>[.map sq (.int .i64) (.int .i64) m,.box [.int .i64 0,.nils,.nils],.box [.int .i64 tt,.nils,.nils],.box [.int .i64 4,.bool false,.bool false],.box [.imm (.int .u8) x,.int .i64 0,.int .i64 3332,.int .i64 3333,.int .i64 0,.bool true]] | some a=>[.map sq (.int .i64) (.int .i64) m,.box [.int .i64 0,.nils,.nils],.box [.int .i64 tt,.own 5,.nils],.box [.int .i64 4,.bool false,.bool false],.box [.imm (.int .u8) x,.int .i64 ((a.2.1:Int)),.int .i64 3332,.int .i64 3333,.int .i64 a.2.2,.bool true],.row false (.int .u64) a.1]),(fun a=>match a with | none=>x.length+1 | some a=>if a.2.2=0 then x.length - a.2.1 else 0),⟨none,True.intro,rfl,(by rw [hs,hty,hot])⟩,?_⟩;clear h2)
    rintro (_ | ⟨acc,p,e⟩) hJ
    ·clear hJ
     have hfit:0 < x.length->0+4<=x.length:=fun h=>by omega
     have g1:=fun h:0+4<=x.length=>ba_ (tt:=tt) (x:=x) (W:=4) hnw (by decide) (by decide) (P:=0) (p:=0) rfl (by omega)
     have hx0:nuG tt x=(([]:List Int)++(nuG tt (x.drop 0)).1,(nuG tt (x.drop 0)).2):=rfl
     have hg:=fun h:0 < x.length=>hng 0 h
     repeat'(intro t ht;first|(cases t<;>first|(cases ht;done)|(try simp only[zg_]at ht;try(exfalso;first|contradiction|omega)))|((first|refine zb_ ht ?_|refine ht ?_ ?_|refine ht.1 ?_ ?_|refine ht ?_)<;>clear ht))
     all_goals first
      | exact True.intro
      | omega
      | decide
      | exact ⟨by first | omega | (dsimp only;omega),by first | omega | (dsimp only;omega)⟩
      | exact ⟨by first | omega | (dsimp only;omega),by first | omega | (dsimp only;omega),by omega⟩
      | (simp only [List.length_cons,List.length_nil];constructor<;>omega)
      | (refine ⟨?_,rfl⟩
         have e:nuG tt x=([],0):=YB_ (by omega)
         rw [h8.1,h8.2.1,h8.2.2,e];done)
      | skip
     all_goals have hlt:0 < x.length:=by omega
     all_goals obtain ⟨a1,a2,a3⟩:=g1 (hfit hlt)
     all_goals (try simp only [a1,a2,a3] at ht)
     all_goals simp only [a1,a2,a3]
     all_goals first
      | (have e:=(hg hlt).2 (nx_4 hty hs _)
         refine ⟨some ([]++[nuV tt (x.drop 0)],0+4,0),⟨by dsimp only;omega,by dsimp only;simp only [List.length_append,List.length_cons,List.length_nil];omega,by dsimp only;omega,.inl ⟨rfl,?_⟩⟩,by first | (show (if (0:Int)=0 then _ else 0) < _;rw [if_pos rfl];(try dsimp only);(try rw [if_pos True.intro]);omega),rfl,?_⟩
         ·rw [hx0,e];dsimp only;rw [List.append_assoc];rfl
         ·rfl)
    ·obtain ⟨j1,j2,j3,j4⟩:=hJ
     dsimp only at j1 j2 j3 j4
     rcases j4 with ⟨rfl,j4⟩ | ⟨j4,j5⟩
     ·have hfit:p < x.length->p+4<=x.length:=fun h=>by omega
      have g1:=fun h:p+4<=x.length=>ba_ (tt:=tt) (x:=x) (W:=4) hnw (by decide) (by decide) (P:=(p:Int)) (p:=p) rfl (by omega)
      have hg:=fun h:p < x.length=>hng p h
      repeat'(intro t ht;first|(cases t<;>first|(cases ht;done)|(try simp only[zg_]at ht;try(exfalso;first|contradiction|omega)))|((first|refine zb_ ht ?_|refine ht ?_ ?_|refine ht.1 ?_ ?_|refine ht ?_)<;>clear ht))
      all_goals first
       | exact True.intro
       | omega
       | decide
       | exact ⟨by first | omega | (dsimp only;omega),by first | omega | (dsimp only;omega)⟩
       | exact ⟨by first | omega | (dsimp only;omega),by first | omega | (dsimp only;omega),by omega⟩
       | (simp only [List.length_cons,List.length_nil];constructor<;>omega)
       | (refine ⟨?_,rfl⟩
          have e:nuG tt x=(acc,0):=by rw [j4,GR_ (by omega),List.append_nil]
          rw [h8.1,h8.2.1,h8.2.2,e];done)
       | skip
      all_goals have hlt:p < x.length:=by omega
      all_goals obtain ⟨a1,a2,a3⟩:=g1 (hfit hlt)
      all_goals (try simp only [a1,a2,a3] at ht)
      all_goals simp only [a1,a2,a3]
      all_goals first
       | (have e:=(hg hlt).2 (nx_4 hty hs _)
          refine ⟨some (acc++[nuV tt (x.drop p)],p+4,0),⟨by dsimp only;omega,by dsimp only;simp only [List.length_append,List.length_cons,List.length_nil];omega,by dsimp only;omega,.inl ⟨rfl,?_⟩⟩,by first | (show (if (0:Int)=0 then _ else 0) < _;rw [if_pos rfl];(try dsimp only);(try rw [if_pos True.intro]);omega),rfl,?_⟩
          ·rw [j4,e];dsimp only;rw [List.append_assoc];rfl
          ·first | rfl | (dsimp only;rw [show ((p:Int)+4)=((p+4:Nat):Int) by omega];rfl))
     ·repeat'(intro t ht;first|(cases t<;>first|(cases ht;done)|(try simp only[zg_]at ht;try(exfalso;first|contradiction|omega)))|((first|refine zb_ ht ?_|refine ht ?_ ?_|refine ht.1 ?_ ?_|refine ht ?_)<;>clear ht))
      all_goals first
       | exact True.intro
       | exact absurd ‹e=0› j4
       | exact ⟨by dsimp only;omega,by dsimp only;omega⟩
       | (refine ⟨?_,rfl⟩
          rw [h8.1,h8.2.1,h8.2.2,j5];done)
 ·cases e
def Xq_ (t:TV):Bool:=ptG t && Kq_ [8,8,4,4] [t.2.2.1,t.2.2.2.1,t.2.2.2.2.1,t.2.2.2.2.2.1]
def Yu_ (t:TV):List Int:=if ptG t=true then Kr_ [2,1,-5] [64+((ptX t).length:Int),t.1]++HY_ t.2.1++Kr_ [8,8,4,4] [t.2.2.1,t.2.2.2.1,t.2.2.2.2.1,t.2.2.2.2.2.1]++ptX t else []
theorem B8_ {l:List FV} {k:Nat} (h:k < l.length) (d:FV) (z:Int):(tyL (l.take (k+1))).contains z=((tyL (l.take k)).contains z || decide ((l.getD k d).1=z)):=by
 rw [y6_ h d,Bool.eq_iff_iff,List.contains_iff_mem,List.mem_append,List.mem_singleton,Bool.or_eq_true,List.contains_iff_mem,decide_eq_true_eq]
 exact or_congr_right eq_comm
theorem zbI_ {l:List FV} {k i:Nat} {z:Int} (h:k < i) (hi:i<=l.length) (d:FV) (e:(l.getD k d).1=z):(tyL (l.take i)).contains z=true:=by
 rw [List.contains_iff_mem]
 unfold tyL
 refine List.mem_map.2 ⟨l.getD k d,?_,e⟩
 have hk:k < (l.take i).length:=by rw [List.length_take];omega
 have:(l.take i).getD k d=l.getD k d:=by
  rw [List.getD_eq_getElem?_getD,List.getD_eq_getElem?_getD,List.getElem?_take,if_pos h]
 rw [<- this];exact zn_ hk d
theorem zce_ {f:FV} (h:fbK f=true):fwY f=fbY f:=by
 cases e:fbW f with
 | none=>rw [(Ue_ e).2] at h;cases h
 | some y=>
   obtain ⟨h1,h2,h3⟩:=Hp_ e
   rw [h2] at h
   have:=of_decide_eq_true h
   rw [h1,h3 (by omega)]
theorem zcW_ (f:FV):fbK f=true->(fwY f).length<=65524:=fun h=>by rw [zce_ h];exact BW_ f
theorem zcL_ {l:List FV} {i:Nat} (h:i < l.length) (d:FV) (hk:fbK (l.getD i d)=true):(l.take (i+1)).map itF=(l.take i).map itF++[((l.getD i d).1,fwY (l.getD i d),())]:=by
 rw [Z1_ h d itF,zce_ hk];rfl
theorem BG_ {n x:Int} (hn:0<=n/\n<=65535) (hx:0<=x/\x<=255):Kq_ [2,1,-5] [n,x]=true:=by
 have hF:KN_ [2,1,-5] [n,x]=KO_ [2,1,-5] [n,x] []:=by unfold KN_;rw [if_pos ⟨by decide,(by decide:Z4_ [2,1,-5]=2)⟩]
 unfold Kq_
 rw [hF]
 simp only [KO_]
 rw [if_neg (by omega),if_neg (G2_ hn.1 (by omega) (by omega) (by show n < 65536;omega)),if_neg (by omega),if_neg (G2_ hx.1 (by omega) (by omega) (by show x < 256;omega)),if_pos (by omega)]
 rfl
theorem zdi_ {l:List TV} (h:Ty.wf (.sl YA) l):∀ x ∈ l,0<=x.1:=fun x hx=>by
 obtain ⟨h1,_⟩:=h.1 x hx
 unfold Ty.wf inK at h1;rw [yV_] at h1;exact h1.1
theorem bZ_ {t:TV} (h:0<=t.1):ptO t=if Xq_ t=true then some (Yu_ t) else none:=by
 unfold ptO Xq_ Yu_
 by_cases c:ptG t=true
 ·obtain ⟨_,g2,g3,_⟩:=xm_.1 c
  have hp:=BG_ (n:=64+((ptX t).length:Int)) (x:=t.1) (by omega) (by omega)
  rw [if_pos c,if_pos c,c,Bool.true_and]
  unfold yr_
  rw [if_pos hp]
  by_cases k:Kq_ [8,8,4,4] [t.2.2.1,t.2.2.2.1,t.2.2.2.2.1,t.2.2.2.2.2.1]=true
  ·rw [if_pos k,if_pos k];rfl
  ·rw [if_neg k,if_neg k];rfl
 ·rw [if_neg c,if_neg c]
  have:ptG t=false:=Bool.eq_false_iff.2 c
  rw [this];rfl
theorem za5_ {t:TV} (hn:t.2.2.2.2.2.2.1.length<=1000) (h:Xq_ t=true):(Yu_ t).length<=75000:=by
 unfold Xq_ at h
 rw [Bool.and_eq_true] at h
 obtain ⟨_,g2,g3,g4⟩:=xm_.1 h.1
 have g5:=(uN_.1 g4).1
 have p1:=J4_ [2,1,-5] [64+((ptX t).length:Int),t.1]
 have p2:=J4_ [8,8,4,4] [t.2.2.1,t.2.2.2.1,t.2.2.2.2.1,t.2.2.2.2.2.1]
 have s1:QK_ [2,1,-5]=8:=by decide
 have s2:QK_ [8,8,4,4]=24:=by decide
 unfold Yu_ HY_;rw [if_pos h.1]
 simp only [List.length_append,List.length_replicate];omega
theorem zbw_ {lim:Int} {v:Option (List Int)} {o:List Int} (h:v=some o):(¬ lim < o.length->fnG lim v=(o,0))/\(lim < o.length->fnG lim v=([],10001)):=by
 unfold fnG;rw [h]
 exact ⟨fun k=>if_neg k,fun k=>if_pos k⟩
theorem zcX_ {lim:Int} {v:Option (List Int)} (h:v=none):fnG lim v=([],10001):=by unfold fnG;rw [h]
def he_:IR:=
(sq (kr [0] [oD 1 (.boxv 0),
oD 2 (.nilrow (.int .u8)),
oD 3 (.mov cF)])
(sq (.reg [oD 4 (.nilrow YB)])
(sq (sq (.reg [oD 5 (.mov (cI 0))])
(.block 0
(.loop
(sq (sq (kr [1,4,5] [oM 17 5,
oA 18 6 1,
oL 19 18,
oE 20 19,
oB 21 .lss 17 20])
(.cond 21
.skip
(.exit 0)))
(sq (.block 1
(sq (kr [1,4,5] [oA 25 6 1,
oL 26 25,
oM 27 5,
oI 28 3 26 27,
oK 29 3 28,
oC 30 73 [29],
oM 24 30,
oX 31 24 0,
oX 32 24 1,
oM 6 31,
oM 7 32])
(sq (sq (kr [1,4,5,6,7] [oM 33 7,
oD 34 (.un .not 33)])
(.cond 34
(sq (.reg [oD 2 (.nilrow (.int .u8)),
oD 3 (.mov cF)])
.ret)
.skip))
(sq (sq (.reg [oD 8 (.mov (cI 0))])
(.block 2
(.loop
(sq (sq (kr [1,4,5,6,8] [oM 35 8,
oM 36 5,
oB 37 .lss 35 36])
(.cond 37
.skip
(.exit 2)))
(sq (.block 3
(sq (kd [1,4,5,6,8] [(oA 40 6 1,[]),
(oL 41 40,[]),
(oM 42 8,[0,0]),
(oI 43 3 41 42,[]),
(oA 44 0 43,[]),
(oL 45 44,[]),
(oA 46 6 1,[0,0,0,0,0,0]),
(oL 47 46,[1,0,0,0,0,0]),
(oM 48 5,[0,0,0,0,0,0,0,0]),
(oI 49 3 47 48,[3,0,0,0,0,0]),
(oA 50 0 49,[4,0,0,0,0,0]),
(oL 51 50,[5,0,0,0,0,0]),
(oB 52 .eql 45 51,[]),
(oM 53 52,[]),
(oT 53 54 (.fieldAddr 6 1),[]),
(oT 53 55 (.load none 54),[]),
(oT 53 56 (.mov 5),[0,0]),
(oT 53 57 (.indexSl 3 55 56),[]),
(oT 53 58 (.fieldAddr 0 57),[]),
(oT 53 59 (.load none 58),[]),
(oT 53 60 (.call false (.f 60) [59]),[]),
(oT 53 61 (.un .not 60),[]),
(oP 62 53 61 cF,[])])
(.cond 62
(sq (kr [] [oD 2 (.nilrow (.int .u8)),
oD 3 (.mov cF)])
.ret)
.skip)))
(kr [1,4,5,6,8] [oM 38 8,
oB 39 .add 38 (cI 1),
oM 8 39]))))))
(kr [1,4,5,6] [oM 63 4,
oA 64 6 1,
oL 65 64,
oM 66 5,
oI 67 3 65 66,
oA 68 0 67,
oL 69 68,
oM 70 6,
oD 71 (.buildAll 2 [(0,1,69),(1,1,70)]),
oD 72 (.sliceAll YB 1 [(0,2,71)]),
oD 73 (.append YB 32 63 72),
oM 4 73])))))
(kr [1,4,5] [oM 22 5,
oB 23 .add 22 (cI 1),
oM 5 23]))))))
(sq (kr [1,4] [oD 75 (.buildAll 5 [(0,1,(cI 4)),(1,1,(cI 8)),(2,1,cT),(3,1,(cI 263)),(4,1,(cI 269))]),
oM 76 4,
oC 77 74 [75,76],
oM 74 77,
oX 78 74 0,
oX 79 74 1,
oM 9 78,
oM 10 79])
(sq (kr [1,9,10] [oM 80 9,
oE 81 80,
oB 82 .add (cI 64) 81,
oM 11 82])
(sq (sq (kr [1,9,10,11] [oM 83 10,
oB 84 .neq 83 (cI 0),
oM 85 84,
oF 85 86 (.mov 11),
oF 85 87 (.bin .gtr 86 (cI 65528)),
oP 88 85 cT 87,
oM 89 88,
oF 89 90 (.fieldAddr 0 1),
oF 89 91 (.load none 90),
oF 89 92 (.bin .gtr 91 (.c (.int .u64 254))),
oP 93 89 cT 92,
oM 94 93,
oF 94 95 (.fieldAddr 1 1),
oF 94 96 (.load none 95),
oF 94 97 (.call false (.f 56) [96]),
oF 94 98 (.un .not 97),
oP 99 94 cT 98])
(.cond 99
(sq (kr [] [oD 2 (.nilrow (.int .u8)),
oD 3 (.mov cF)])
.ret)
.skip))
(sq (kr [1,9,11] [oD 101 (.sliceAll (.int .i64) 3 [(0,1,(cI 2)),(1,1,(cI 1)),(2,1,(cI (-5)))]),
oM 102 11,
oD 103 (.conv .u64 102),
oA 104 0 1,
oL 105 104,
oD 106 (.sliceAll (.int .u64) 2 [(0,1,103),(1,1,105)]),
oC 107 75 [101,106],
oM 100 107,
oX 108 100 0,
oX 109 100 1,
oM 12 108,
oM 13 109])
(sq (kr [1,9,12] [oD 111 (.sliceAll (.int .i64) 4 [(0,1,(cI 8)),(1,1,(cI 8)),(2,1,(cI 4)),(3,1,(cI 4))]),
oA 112 2 1,
oL 113 112,
oA 114 3 1,
oL 115 114,
oA 116 4 1,
oL 117 116,
oA 118 5 1,
oL 119 118,
oD 120 (.sliceAll (.int .u64) 4 [(0,1,113),(1,1,115),(2,1,117),(3,1,119)]),
oC 121 75 [111,120],
oM 110 121,
oX 122 110 0,
oX 123 110 1,
oM 14 122,
oM 15 123])
(sq (kr [1,9,12,14,15] [oA 124 1 1,
oL 125 124,
oD 126 (.s2b 125),
oA 127 1 1,
oL 128 127,
oD 129 (.slen 128),
oB 130 .sub (cI 32) 129,
oD 131 (.appendz (.int .u8) 1 (0:Int) 126 130),
oM 16 131])
(sq (kr [9,12,14,15,16] [oM 132 12,
oM 133 16,
oD 134 (.append (.int .u8) 1 132 133),
oM 135 14,
oD 136 (.append (.int .u8) 1 134 135),
oM 137 9,
oD 138 (.append (.int .u8) 1 136 137),
oM 139 15,
oM 2 138,
oM 3 139])
.ret))))))))))
def GA_:List RD:=[.tmp 2 true (some (.int .u8)),.tmp 3 true none]
theorem GN_:zo_ Tryz.prog Tryz.f45 he_ GA_=true:=by kernel_rfl
def XT_:List AV->List Obj->Option (Prop × AV)
 | [.agg [.int .u64 no,.str nm,.int .u64 a,.int .u64 b,.int .u64 c,.int .u64 d,.imm (.cons (.int .i64) (.cons (.sl (.int .u64)) (.cons (.sl (.int .u8)) .nil))) fs]],[]=>some ((okF fs/\nm.length<=100000,.tup [.imm (.int .u8) (Yu_ (no,nm,a,b,c,d,fs,())),.bool (Xq_ (no,nm,a,b,c,d,fs,()))]))
 | _,_=>none
theorem UJ_:ze_ Tryz.prog 45 (RoF XT_).sum:=by
 refine zs_ Tryz.func45 GN_ (za_ (s:=RoF WX_) V5_ (za_ (s:=RoF kZ_) JQ_ (za_ (s:=RoF WY_) V6_ (za_ (s:=RoF wF_) vw_ (za_ (s:=RwF wI_) vz_ (zd_ _)))))) fun args objs p v e=>?_
 unfold XT_ at e
 split at e
 ·rename_i no nm a b c d fs
  cases e
  refine ⟨rfl,fun hw ho hp=>?_⟩
  change List FV at fs
  clear hw ho
  obtain ⟨hf,hnm⟩:=hp
  have hj:=uI_ hf.n
  have hxl:=hX_ hf.n
  have hn:=hf.n
  repeat'(intro t ht;first|(cases t<;>first|(cases ht;done)|(try simp only[zg_]at ht;try(exfalso;first|contradiction|omega)))|((first|refine zb_ ht ?_|refine ht ?_ ?_|refine ht.1 ?_ ?_|refine ht ?_)<;>clear ht))
  all_goals first
   | exact True.intro
   | (intro r h1 h2;clear h1;refine h2 ⟨[1,4,5],Nat,(fun i=>i<=fs.length/\gdF [] fs=gdF (tyL (fs.take i)) (fs.drop i)),fun i=>[.ptr 0 0,.own 1,.int .i64 i],fun i=>[.box [.int .u64 no,.str nm,.int .u64 a,.int .u64 b,.int .u64 c,.int .u64 d,.imm (.cons (.int .i64) (.cons (.sl (.int .u64)) (.cons (.sl (.int .u8)) .nil))) fs],.row false YB ((fs.take i).map itF)],fun i=>fs.length - i,⟨0,⟨Nat.zero_le _,rfl⟩,rfl,rfl⟩,?_⟩;clear h2)
  rintro i ⟨hi,he⟩
  by_cases hlt:i < fs.length
  ·have hs:=fun z:FV=>he.trans (gK_ hlt z)
   have hsn:=fun z:FV=>y6_ hlt z
   have hmw:=fun z:FV=>zcL_ hlt z
   have hfi:=fun z:FV=>hf.a _ (zn_ hlt z)
   repeat'(intro t ht;first|(cases t<;>first|(cases ht;done)|(try simp only[zg_]at ht;try(exfalso;first|contradiction|omega)))|((first|refine zb_ ht ?_|refine ht ?_ ?_|refine ht.1 ?_ ?_|refine ht ?_)<;>clear ht))
   all_goals (try generalize hod:(Ty.dflt (.cons (.int .i64) (.cons (.sl (.int .u64)) (.cons (.sl (.int .u8)) .nil))))=od at*)
   all_goals first
    | exact True.intro
    | omega
    | exact hfi od
    | (have g:gdF [] fs=false:=by
        have h1:fbK (fs.getD i od)=false:=ht
        rw [hs od,h1];rfl
       have e:ptG (no,nm,a,b,c,d,fs,())=false:=by unfold ptG;dsimp only;rw [g];rfl
       refine ⟨?_,rfl⟩
       unfold Yu_ Xq_;rw [e];rfl)
    | (intro r h1 h2;clear h1;refine h2 ⟨[1,4,5,6,8],Nat,(fun k=>k<=i/\((tyL (fs.take k)).contains (fs.getD i od).1 && !otT (fs.getD i od).1)=false),fun k=>[.ptr 0 0,.own 1,.int .i64 i,.imm (.int .u8) (fwY (fs.getD i od)),.int .i64 k],fun k=>[.box [.int .u64 no,.str nm,.int .u64 a,.int .u64 b,.int .u64 c,.int .u64 d,.imm (.cons (.int .i64) (.cons (.sl (.int .u64)) (.cons (.sl (.int .u8)) .nil))) fs],.row false YB ((fs.take i).map itF)],fun k=>i - k,⟨0,⟨Nat.zero_le _,rfl⟩,rfl,rfl⟩,?_⟩;clear h2)
   rintro k ⟨hk,hK⟩
   have hbk:fbK (fs.getD i od)=true:=by assumption
   have hc:=fun h:k < fs.length=>B8_ h od (fs.getD i od).1
   have hcm:=fun (h:k < i) (q:(fs.getD k od).1=(fs.getD i od).1)=>zbI_ (i:=i) h hi od q
   have hlw:=zcW_ _ hbk
   have hil:((fs.take i).map itF).length<=1000:=by rw [List.length_map,List.length_take];omega
   repeat'(intro t ht;first|(cases t<;>first|(cases ht;done)|(try simp only[zg_]at ht;try(exfalso;first|contradiction|omega)))|((first|refine zb_ ht ?_|refine ht ?_ ?_|refine ht.1 ?_ ?_|refine ht ?_)<;>clear ht))
   all_goals (try subst hod)
   all_goals (try generalize (Ty.dflt (.cons (.int .i64) (.cons (.sl (.int .u64)) (.cons (.sl (.int .u8)) .nil))))=od at*)
   all_goals first
    | exact True.intro
    | omega
    | ((try dsimp only);simp only [zk_];omega)
    | (simp only [List.length_cons,List.length_nil];constructor<;>omega)
    | (have e:k=i:=by omega
       rw [e] at hK
       refine ⟨i+1,⟨by omega,?_⟩,by dsimp only;omega,rfl,?_⟩
       ·have h1:=hs od
        rw [hbk,hK,Bool.true_and,Bool.not_false,Bool.true_and] at h1
        rw [hsn od];exact h1
       ·dsimp only;rw [hmw od hbk];rfl)
    | (refine ⟨k+1,⟨by omega,?_⟩,by dsimp only;omega,rfl,rfl⟩
       first
        | (rw [hc (by omega),decide_eq_false ‹¬ (fs.getD k od).1=(fs.getD i od).1›,Bool.or_false];exact hK)
        | (rw [show otT (fs.getD i od).1=true from ‹otT (fs.getD i od).1=true›,Bool.not_true,Bool.and_false]))
    | (have g:gdF [] fs=false:=by
        rw [hs od,hcm (by omega) ‹(fs.getD k od).1=(fs.getD i od).1›,show otT (fs.getD i od).1=false from ‹otT (fs.getD i od).1=false›];simp
       have e:ptG (no,nm,a,b,c,d,fs,())=false:=by unfold ptG;dsimp only;rw [g];rfl
       refine ⟨?_,rfl⟩
       unfold Yu_ Xq_;rw [e];rfl)
  ·obtain ⟨g,hX⟩:gdF [] fs=true/\(fs.take i).map itF=itL fs:=by
    have g:gdF [] fs=true:=by rw [he,List.drop_of_length_le (by omega)];rfl
    exact ⟨g,by unfold itL;rw [if_pos g,List.take_of_length_le (by omega)]⟩
   have p1:=J4_ [2,1,-5] [64+((jnP (itL fs)).length:Int),no]
   have p2:=J4_ [8,8,4,4] [a,b,c,d]
   have hG:=@xm_ (no,nm,a,b,c,d,fs,())
   have hno:¬ (64+((jnP (itL fs)).length:Int)<=65528/\no<=254/\QL_ nm=true)->ptG (no,nm,a,b,c,d,fs,())=false:=fun h=>by
    cases k:ptG (no,nm,a,b,c,d,fs,()) with
    | false=>rfl
    | true=>exact absurd (hG.1 k).2 h
   have hnm2:=fun h=>(uN_ (s:=nm)).1 h
   repeat'(intro t ht;first|(cases t<;>first|(cases ht;done)|(try simp only[zg_]at ht;try(exfalso;first|contradiction|omega)))|((first|refine zb_ ht ?_|refine ht ?_ ?_|refine ht.1 ?_ ?_|refine ht ?_)<;>clear ht))
   all_goals (try rw [hX] at*)
   all_goals first
    | exact True.intro
    | omega
    | exact ⟨rfl,rfl,rfl,by decide,by decide,hj⟩
    | ((try dsimp only);simp only [zk_];omega)
    | (refine ⟨?_,?_,?_⟩<;>omega)
    | (have g5:=(hnm2 (by assumption)).1
       refine ⟨?_,?_,?_⟩<;>omega)
    | (simp only [List.length_append,List.length_replicate];constructor<;>omega)
    | (have hg:ptG (no,nm,a,b,c,d,fs,())=true:=hG.2 ⟨g,by show 64+((jnP (itL fs)).length:Int)<=65528;omega,by show no<=254;omega,by assumption⟩
       have g5:=(hnm2 (by assumption)).1
       have e32:(32 - (nm.length:Int)).toNat=32 - nm.length:=by omega
       refine ⟨?_,rfl⟩
       unfold Yu_ Xq_ HY_ ptX
       rw [if_pos hg,hg,Bool.true_and,e32])
    | (have hg:=hno (fun q=>by first | omega | (rw [q.2.2] at ht;cases ht))
       refine ⟨?_,rfl⟩
       unfold Yu_ Xq_;rw [hg];rfl)
 ·cases e
def vV_:IR:=
(sq (kr [0] [oD 2 (.nilrow (.int .u8)),
oD 3 (.mov (cI 0))])
(sq (.reg [oD 4 (.nilrow (.int .u8))])
(sq (sq (.reg [oD 5 (.mov (cI 0))])
(.block 0
(.loop
(sq (sq (kr [0,4,5] [oM 8 5,
oM 9 0,
oE 10 9,
oB 11 .lss 8 10])
(.cond 11
.skip
(.exit 0)))
(sq (.block 1
(sq (kr [0,4,5] [oM 15 0,
oM 16 5,
oI 17 7 15 16,
oK 18 7 17,
oC 19 45 [18],
oM 14 19,
oX 20 14 0,
oX 21 14 1,
oM 6 20,
oM 7 21])
(sq (sq (kr [0,4,5,6,7] [oM 22 7,
oD 23 (.un .not 22)])
(.cond 23
(sq (.reg [oD 2 (.nilrow (.int .u8)),
oD 3 (.mov (cI 10001))])
.ret)
.skip))
(.reg [oM 24 4,
oM 25 6,
oD 26 (.append (.int .u8) 1 24 25),
oM 4 26]))))
(kr [0,4,5] [oM 12 5,
oB 13 .add 12 (cI 1),
oM 5 13]))))))
(sq (sq (kr [4] [oM 27 4,
oE 28 27,
oB 29 .gtr 28 (cI 65528)])
(.cond 29
(sq (.reg [oD 2 (.nilrow (.int .u8)),
oD 3 (.mov (cI 10001))])
.ret)
.skip))
(sq (.reg [oM 30 4,
oM 2 30,
oD 3 (.mov (cI 0))])
.ret)))))
def vG_:List RD:=[.tmp 2 true (some (.int .u8)),.tmp 3 true none]
theorem vN_:zo_ Tryz.prog Tryz.f19 vV_ vG_=true:=by kernel_rfl
def j0_:List AV->List Obj->Option (Prop × AV)
 | [.imm ty0 l],[]=>Kf_ ty0 YA l fun l=>some ((okT l/\(∀ x ∈ (l:List TV),x.2.1.length<=100000),.tup [.imm (.int .u8) (tbL l),.int .i64 (tbE l)]))
 | _,_=>none
theorem Yb_:ze_ Tryz.prog 19 (RoF j0_).sum:=by
 refine zs_ Tryz.func19 vN_ (za_ (s:=RoF XT_) UJ_ (zd_ _)) fun args objs p v e=>?_
 unfold j0_ at e
 split at e
 ·rename_i ty0 l
  obtain rfl:=qS_ e
  replace e:=qT_ e
  cases e
  refine ⟨rfl,fun hw ho hp=>?_⟩
  change List TV at l
  have hid:=zdi_ (hw (.imm YA l) (by simp))
  clear hw ho
  obtain ⟨⟨hok,hn⟩,hnm⟩:=hp
  repeat'(intro t ht;first|(cases t<;>first|(cases ht;done)|(try simp only[zg_]at ht;try(exfalso;first|contradiction|omega)))|((first|refine zb_ ht ?_|refine ht ?_ ?_|refine ht.1 ?_ ?_|refine ht ?_)<;>clear ht))
  all_goals first
   | exact True.intro
   | (intro r h1 h2;clear h1;refine h2 ⟨[0,4,5],Nat × List Int,(fun a=>a.1<=l.length/\a.2.length<=a.1*80000/\Kt_ ptO l=j7_ (some a.2) (Kt_ ptO (l.drop a.1))),fun a=>[.imm YA l,.own 0,.int .i64 a.1],fun a=>[.row false (.int .u8) a.2],fun a=>l.length - a.1,⟨(0,[]),⟨Nat.zero_le _,by simp,(UC_ _).symm⟩,rfl,rfl⟩,?_⟩;clear h2)
  rintro ⟨i,o⟩ ⟨hi,ho,he⟩
  dsimp only at hi ho he
  have hst:=fun (z:TV) (h:i < l.length)=>VS_ (o:=ptO) h z
  have hend:l.length<=i->Kt_ ptO l=some o:=fun h=>by rw [he,List.drop_of_length_le h];show some (o++[])=_;rw [List.append_nil]
  have hE:=fun h:l.length<=i=>zbw_ (lim:=65528) (hend h)
  have hB:=fun (z:TV) (h:i < l.length) (k:ptO (l.getD i z)=none)=>zcX_ (lim:=65528) (show Kt_ ptO l=none by rw [he,hst z h,k];cases Kt_ ptO (l.drop (i+1))<;>rfl)
  have hgo:=fun (z:TV) (h:i < l.length) (y:List Int) (k:ptO (l.getD i z)=some y)=>(show Kt_ ptO l=j7_ (some (o++y)) (Kt_ ptO (l.drop (i+1))) by rw [he,hst z h,k,<- y4_];rfl)
  have hol:=fun (z:TV) (h:i < l.length) (k:Xq_ (l.getD i z)=true)=>za5_ (hok _ (zn_ h z)).n k
  repeat'(intro t ht;first|(cases t<;>first|(cases ht;done)|(try simp only[zg_]at ht;try(exfalso;first|contradiction|omega)))|((first|refine zb_ ht ?_|refine ht ?_ ?_|refine ht.1 ?_ ?_|refine ht ?_)<;>clear ht))
  all_goals (try generalize (Ty.dflt YA)=od at*)
  all_goals first
   | exact True.intro
   | omega
   | ((try simp only [zF_,zG_,zk_] at*);omega)
   | exact ⟨hok _ (zn_ (by omega) od),hnm _ (zn_ (by omega) od)⟩
   | (have ht':Xq_ (l.getD i od)=true:=ht
      have hk:=hol od (by omega) ht'
      have hk2:(Yu_ ((l.getD i od).1,(l.getD i od).2.1,(l.getD i od).2.2.1,(l.getD i od).2.2.2.1,(l.getD i od).2.2.2.2.1,(l.getD i od).2.2.2.2.2.1,(l.getD i od).2.2.2.2.2.2.1,())).length<=75000:=hk
      simp only [Int.toNat_natCast];constructor<;>omega)
   | (have h1:=hE (by omega)
      refine ⟨?_,rfl⟩
      unfold tbL tbE
      first
       | (rw [h1.1 (by omega)];done)
       | (rw [h1.2 (by omega)];done))
   | (have ht':Xq_ (l.getD i od)=false:=ht
      have h1:=hB od (by omega) (by rw [bZ_ (hid _ (zn_ (by omega) od)),ht'];rfl)
      refine ⟨?_,rfl⟩;unfold tbL tbE;rw [h1])
   | (have ht':Xq_ (l.getD i od)=true:=ht
      have hk:=hol od (by omega) ht'
      refine ⟨(i+1,o++Yu_ (l.getD i od)),⟨by dsimp only;omega,?_,hgo od (by omega) _ (by rw [bZ_ (hid _ (zn_ (by omega) od)),if_pos ht'])⟩,by dsimp only;omega,rfl,rfl⟩
      dsimp only;rw [List.length_append];omega)
 ·cases e
def u1N (x:List Int):Int:=JA_ 2 x 0 0
def u1P (x:List Int):Int:=zh_ 2 x 0 0
def u1E (x:List Int):Int:=zi_ 2 x 0 3332 3333 0
def u2B (x:List Int) (a:Int):Bool:=decide (u1N x < 64) || (!decide ((u1N x).tmod 8=0) || decide (a < u1N x))
def u2E (x:List Int) (a:Int):Int:=if u2B x a=true then zl_ (u1E x) 3332 else u1E x
def u3V (x:List Int) (a:Int):Int:=JA_ 1 x (u1P x) (u2E x a)
def u3P (x:List Int) (a:Int):Int:=zh_ 1 x (u1P x) (u2E x a)
def u3E (x:List Int) (a:Int):Int:=zi_ 1 x (u1P x) 3332 3333 (u2E x a)
def u4P (x:List Int) (a:Int):Int:=Zz_ [-5] x (u3P x a) (u3E x a)
def u4E (x:List Int) (a:Int):Int:=ZC_ [-5] x (u3P x a) 3332 3333 (u3E x a)
def u5E (x:List Int) (a:Int):Int:=if 254 < u3V x a then zl_ (u4E x a) 266 else u4E x a
def u6N (x:List Int) (a:Int):List Int:=zm_ 32 x (u4P x a) 3332 (u5E x a)
def u6P (x:List Int) (a:Int):Int:=q9_ 32 x (u4P x a) 3332 (u5E x a)
def u6E (x:List Int) (a:Int):Int:=Ze_ 32 x (u4P x a) 3332 (u5E x a)
def u7O (x:List Int) (a:Int):Bool:=(!ctK (u6N x a) 0 || !QL_ (ctB (u6N x a) 0)) || decide (0 < (QI_ (k5_ (ctR (u6N x a) 0) 0) 0).length)
def u7E (x:List Int) (a:Int):Int:=if u7O x a=true then zl_ (u6E x a) 3333 else u6E x a
def u8L (x:List Int) (a:Int):List Int:=ww_ [8,8,4,4] x (u6P x a) (u7E x a)++[0,0,0,0]
def u8E (x:List Int) (a:Int):Int:=ZC_ [8,8,4,4] x (u6P x a) 3332 3333 (u7E x a)
def uS (x:List Int) (a:Int) (k:Nat):Int:=(u8L x a).getD k 0
theorem h7_ {w p e:Int} {b:List Int} (h0:0<=p) (h1:p<=b.length):0<=zh_ w b p e/\zh_ w b p e<=b.length:=by
 unfold zh_;split
 ·exact Hs_ h0 h1
 ·exact ⟨h0,h1⟩
theorem b64 {b:List Int} {p sh:Int} (h0:0<=p) (h:¬ (b.length:Int) - p < 64):Ze_ 64 b p sh 0=0/\zm_ 64 b p sh 0=(b.drop p.toNat).take 64/\q9_ 64 b p sh 0=p+64:=by
 have e:Ze_ 64 b p sh 0=0:=by unfold Ze_;rw [if_neg (by decide),if_neg h]
 refine ⟨e,?_,?_⟩
 ·unfold zm_;rw [if_pos e,List.drop_take];congr 1;omega
 ·unfold q9_;rw [if_pos e]
theorem B5_ {x:List Int} (hb:∀ z ∈ x,0<=z/\z<=255) (hl:x.length=64):u1N x=Zy_ (x.take 2)/\0<=u1N x/\u1N x<=65535/\u1P x=2/\u1E x=0:=by
 obtain ⟨a,b,c⟩:=uJ_ (w:=2) (p:=0) (sh:=3332) (od:=3333) (b:=x) (by decide) (by decide) (Int.le_refl _) (by omega)
 have h2:=uL_ (a:=0) hb
 have e:u1N x=Zy_ (x.take 2):=a
 rw [List.drop_zero] at h2
 rw [e]
 exact ⟨rfl,h2.1,h2.2,b,c⟩
def hdX (b:List Int) (p:Int):List Int:=(b.drop p.toNat).take 64
def hdA (b:List Int) (p:Int):Int:=(b.length:Int) - p
abbrev HV:Type:=Int × List Int × Int × Int × Int × Int × Unit
def hdT (b:List Int) (p:Int):HV:=if hdA b p < 64 then (0,[],0,0,0,0,()) else (u3V (hdX b p) (hdA b p),ctB (u6N (hdX b p) (hdA b p)) 0,uS (hdX b p) (hdA b p) 0,uS (hdX b p) (hdA b p) 1,uS (hdX b p) (hdA b p) 2,uS (hdX b p) (hdA b p) 3,())
def hdQ (b:List Int) (p:Int):Int:=if hdA b p < 64 then 0 else u1N (hdX b p) - 64
def hdP (b:List Int) (p:Int):Int:=if hdA b p < 64 then p else p+64
def hdE (b:List Int) (p:Int):Int:=if hdA b p < 64 then 3332 else u8E (hdX b p) (hdA b p)
theorem za7_ {w p e:Int} {b:List Int} (h:e ≠ 0):JA_ w b p e=0:=by
 unfold JA_;split
 ·unfold ww_;rw [if_neg h];rfl
 ·rfl
theorem h9_ {w p sh od e:Int} {b:List Int} (h:e ≠ 0):zi_ w b p sh od e ≠ 0:=by
 unfold zi_;split
 ·unfold ZC_;rw [if_neg h];exact h
 ·unfold zl_;rw [if_neg h];exact h
theorem Ul_ {w b:List Int} {p sh od e:Int} (h:e ≠ 0):ZC_ w b p sh od e ≠ 0:=by unfold ZC_;rw [if_neg h];exact h
theorem gQ_ {e x:Int} (h:e ≠ 0):zl_ e x=e:=by unfold zl_;rw [if_neg h]
theorem y8_ {n p sh e:Int} {b:List Int} (h:e ≠ 0):Ze_ n b p sh e=e:=by
 unfold Ze_
 rw [gQ_ h,gQ_ h]
 split
 ·rfl
 ·split<;>rfl
theorem B3_ {n p sh e:Int} {x:List Int} (h:e ≠ 0):¬ ctK (zm_ n x p sh e) 0=true:=by
 have:zm_ n x p sh e=[]:=by unfold zm_;rw [y8_ h,if_neg h]
 rw [this];decide
theorem zdf_ {x:List Int} {a:Int} (h:u1N x < 64\/¬ (u1N x).tmod 8=0\/a < u1N x):u2B x a=true:=by
 unfold u2B
 rcases h with h | h | h
 ·rw [decide_eq_true h];rfl
 ·rw [decide_eq_false h];simp
 ·rw [decide_eq_true h];simp
theorem bB_ {x:List Int} {a:Int} (h:¬ u1N x < 64) (h1:(u1N x).tmod 8=0) (h2:¬ a < u1N x):u2B x a=false:=by
 unfold u2B;rw [decide_eq_false h,decide_eq_true h1,decide_eq_false h2];rfl
theorem UD_ {x:List Int} {A E:Int} (h2:u2E x A=E):u3V x A=JA_ 1 x (zh_ 2 x 0 0) E/\u4P x A=(Zz_ [-5] x (zh_ 1 x (zh_ 2 x 0 0) E) (zi_ 1 x (zh_ 2 x 0 0) 3332 3333 E))/\u4E x A=(ZC_ [-5] x (zh_ 1 x (zh_ 2 x 0 0) E) 3332 3333 (zi_ 1 x (zh_ 2 x 0 0) 3332 3333 E)):=by
 unfold u4P u4E u3V u3P u3E u1P;rw [h2];exact ⟨rfl,rfl,rfl⟩
theorem Ub_ {x:List Int} {A E E5:Int} {O:Bool} (h2:u2E x A=E) (h5:u5E x A=E5) (h7:u7O x A=O):
 u3V x A=JA_ 1 x (zh_ 2 x 0 0) E/\u6N x A=zm_ 32 x (Zz_ [-5] x (zh_ 1 x (zh_ 2 x 0 0) E) (zi_ 1 x (zh_ 2 x 0 0) 3332 3333 E)) 3332 E5/\(∀ k,uS x A k=(ww_ [8,8,4,4] x (q9_ 32 x (Zz_ [-5] x (zh_ 1 x (zh_ 2 x 0 0) E) (zi_ 1 x (zh_ 2 x 0 0) 3332 3333 E)) 3332 E5) (if O=true then zl_ (Ze_ 32 x (Zz_ [-5] x (zh_ 1 x (zh_ 2 x 0 0) E) (zi_ 1 x (zh_ 2 x 0 0) 3332 3333 E)) 3332 E5) 3333 else Ze_ 32 x (Zz_ [-5] x (zh_ 1 x (zh_ 2 x 0 0) E) (zi_ 1 x (zh_ 2 x 0 0) 3332 3333 E)) 3332 E5)++[0,0,0,0]).getD k 0)/\u8E x A=ZC_ [8,8,4,4] x (q9_ 32 x (Zz_ [-5] x (zh_ 1 x (zh_ 2 x 0 0) E) (zi_ 1 x (zh_ 2 x 0 0) 3332 3333 E)) 3332 E5) 3332 3333 (if O=true then zl_ (Ze_ 32 x (Zz_ [-5] x (zh_ 1 x (zh_ 2 x 0 0) E) (zi_ 1 x (zh_ 2 x 0 0) 3332 3333 E)) 3332 E5) 3333 else Ze_ 32 x (Zz_ [-5] x (zh_ 1 x (zh_ 2 x 0 0) E) (zi_ 1 x (zh_ 2 x 0 0) 3332 3333 E)) 3332 E5):=by
 obtain ⟨a1,a2,a3⟩:=UD_ h2
 unfold uS u8L u8E u7E u6N u6P u6E
 rw [h7,h5,a2]
 exact ⟨a1,rfl,fun _=>rfl,rfl⟩
theorem zdw_ {b:List Int} {p:Int} (hs:hdA b p < 64):hdT b p=(0,[],0,0,0,0,())/\hdQ b p=0/\hdP b p=p/\hdE b p=3332:=⟨if_pos hs,if_pos hs,if_pos hs,if_pos hs⟩
theorem BH_ {b:List Int} {p:Int} (hs:¬ hdA b p < 64):hdT b p=(u3V (hdX b p) (hdA b p),ctB (u6N (hdX b p) (hdA b p)) 0,uS (hdX b p) (hdA b p) 0,uS (hdX b p) (hdA b p) 1,uS (hdX b p) (hdA b p) 2,uS (hdX b p) (hdA b p) 3,())/\hdQ b p=u1N (hdX b p) - 64/\hdP b p=p+64/\hdE b p=u8E (hdX b p) (hdA b p):=⟨if_neg hs,if_neg hs,if_neg hs,if_neg hs⟩
end Go.Eng
