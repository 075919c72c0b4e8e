/- Parts of the proof: T5, T6, T7, T8. No condition. -/
import Derived.Test.YtppgebehmmldfaaGreatDoorProg
import Derived.Test.YtppgebehmmldfaaGreatDoorXF10
import Derived.KernelRfl
import Derived.Test.YtppgebehmmldfaaGreatDoorXF13
namespace Go.Eng
open Go.Proofs
set_option linter.unusedVariables false
set_option linter.unusedSimpArgs false
set_option maxRecDepth 100000
set_option maxHeartbeats 1000000
structure okF (l:List FV):Prop where
 a:∀ f ∈ l,f.2.1.length<=100000/\f.2.2.1.length<=1000000
 n:l.length<=1000
def itF (f:FV):EV:=(f.1,fbY f,())
def gdF:List Int->List FV->Bool
 | _,[]=>true
 | acc,f :: r=>fbK f && !(acc.contains f.1 && !otT f.1) && gdF (acc++[f.1]) r
def itL (l:List FV):List EV:=if gdF [] l=true then l.map itF else []
theorem gK_ {l:List FV} {i:Nat} {acc:List Int} (h:i < l.length) (d:FV):gdF acc (l.drop i)=(fbK (l.getD i d) && !(acc.contains (l.getD i d).1 && !otT (l.getD i d).1) && gdF (acc++[(l.getD i d).1]) (l.drop (i+1))):=by
 rw [zK_ h d];rfl
def tyL (l:List FV):List Int:=l.map fun f=>f.1
theorem y6_ {l:List FV} {i:Nat} (h:i < l.length) (d:FV):tyL (l.take (i+1))=tyL (l.take i)++[(l.getD i d).1]:=Z1_ h d _
theorem zaB_ (l:List FV) (i:Nat):(tyL (l.take i)).length<=i:=by unfold tyL;rw [List.length_map,List.length_take];omega
theorem zcc_ {f:FV} (h:fbK f=true):kdF f=true:=by
 cases c:kdF f with
 | true=>rfl
 | false=>rw [(zch_ c).2] at h;cases h
theorem BW_ (f:FV):(fbY f).length<=65524:=by have:=BR_ (lim:=65524) (v:=fbW f) (by decide);unfold fbY;omega
def Xx_:IR:=
(sq (kr [0] [oD 2 (.nilrow YB),
oD 3 (.mov cF)])
(sq (.reg [oD 9 (.mkmap (.int .i64) (.int .i64)),
oM 4 9])
(sq (sq (.reg [oM 10 0,
oE 11 10,
oD 12 (.mov (cI 0))])
(.block 0
(.loop
(sq (kr [2,4,10,11,12] [oB 13 .lss 12 11])
(sq (.cond 13
.skip
(.exit 0))
(sq (.block 1
(sq (.reg [oI 14 3 10 12,
oK 15 3 14,
oD 6 (.box [.int .i64 0,.imm (.int .u64) [],.imm (.int .u8) []]),
oS 3 6 15])
(sq (kr [2,4,6,10,11,12] [oK 17 3 6,
oC 18 100 [17],
oM 16 18,
oX 19 16 0,
oX 20 16 1,
oD 7 (.box [.int .i64 0,.imm (.int .u8) []]),
oS 2 7 19,
oM 8 20])
(sq (sq (kr [2,4,6,7,8,10,11,12] [oM 21 8,
oD 22 (.un .not 21),
oM 23 22,
oF 23 24 (.mov 4),
oF 23 25 (.fieldAddr 0 6),
oF 23 26 (.load none 25),
oF 23 27 (.mget (.int .i64) (.int .i64) (0:Int) false 24 26),
oF 23 28 (.bin .gtr 27 (cI 0)),
oF 23 29 (.mov 28),
oT 29 30 (.fieldAddr 0 6),
oT 29 31 (.load none 30),
oT 29 32 (.call false (.f 42) [31]),
oT 29 33 (.field none 2 32),
oT 29 34 (.un .not 33),
oF 23 35 (.pick 29 34 cF),
oP 36 23 cT 35])
(.cond 36
(sq (kr [] [oD 2 (.nilrow YB),
oD 3 (.mov cF)])
.ret)
.skip))
(sq (kr [2,4,6,7,10,11,12] [oM 37 4,
oA 38 0 6,
oL 39 38,
oD 40 (.mget (.int .i64) (.int .i64) (0:Int) false 37 39),
oB 41 .add 40 (cI 1),
oN (.mput (.int .i64) (.int .i64) 37 39 41)])
(kr [2,4,7,10,11,12] [oM 42 2,
oK 43 2 7,
oD 44 (.sliceAll YB 1 [(0,2,43)]),
oD 45 (.append YB 32 42 44),
oM 2 45]))))))
(kr [2,4,10,11,12] [oB 46 .add 12 (cI 1),
oM 12 46])))))))
(sq (kr [2] [oM 47 2,
oM 2 47,
oD 3 (.mov cT)])
.ret))))
def Xb_:List RD:=[.tmp 2 true (some YB),.tmp 3 true none]
theorem Xl_:zo_ Tryz.prog Tryz.f69 Xx_ Xb_=true:=by kernel_rfl
def kD_:List AV->List Obj->Option (Prop × AV)
 | [.imm (.cons (.int .i64) (.cons (.sl (.int .u64)) (.cons (.sl (.int .u8)) .nil))) l],[]=>some ((okF l,.tup [.imm YB (itL l),.bool (gdF [] l)]))
 | _,_=>none
theorem xe_:ze_ Tryz.prog 69 (RoF kD_).sum:=by
 refine zs_ Tryz.func69 Xl_ (za_ (s:=RoF Kk_) x2_ (za_ (s:=RoF ZT_) qh_ (zd_ _))) fun args objs p v e=>?_
 unfold kD_ at e
 split at e
 ·rename_i l
  cases e
  refine ⟨rfl,fun hw ho hp=>?_⟩
  change List FV at l
  clear hw ho
  obtain ⟨hok,hn⟩:=hp
  repeat'(intro t ht;first|(cases t<;>first|(cases ht;done)|(try simp only[zg_]at ht;try(exfalso;first|contradiction|omega)))|((first|refine zb_ ht ?_|refine ht ?_ ?_|refine ht.1 ?_ ?_|refine ht ?_)<;>clear ht))
  all_goals first
   | exact True.intro
   | (intro r h1 h2;clear h1;refine h2 ⟨[2,4,10,11,12],Nat × List (Int × Int),(fun a=>a.1<=l.length/\cntM a.2 (tyL (l.take a.1))/\gdF [] l=gdF (tyL (l.take a.1)) (l.drop a.1)/\∀ f ∈ l.take a.1,fbK f=true),fun a=>[.own 0,.mapv 1,.imm (.cons (.int .i64) (.cons (.sl (.int .u64)) (.cons (.sl (.int .u8)) .nil))) l,.int .i64 l.length,.int .i64 a.1],fun a=>[.row false YB ((l.take a.1).map itF),.map true (.int .i64) (.int .i64) a.2],fun a=>l.length - a.1,⟨(0,[]),⟨Nat.zero_le _,xK_,rfl,fun f h=>by cases h⟩,rfl,rfl⟩,?_⟩;clear h2)
  rintro ⟨i,m⟩ ⟨hi,hm,he,hg⟩
  dsimp only at hi hm he hg
  have hst:=fun (d:FV) (h:i < l.length)=>he.trans (gK_ h d)
  have hsn:=fun (d:FV) (h:i < l.length)=>y6_ h d
  have hml:=hm.l
  have htl:=zaB_ l i
  repeat'(intro t ht;first|(cases t<;>first|(cases ht;done)|(try simp only[zg_]at ht;try(exfalso;first|contradiction|omega)))|((first|refine zb_ ht ?_|refine ht ?_ ?_|refine ht.1 ?_ ?_|refine ht ?_)<;>clear ht))
  all_goals (try generalize (Ty.dflt (.cons (.int .i64) (.cons (.sl (.int .u64)) (.cons (.sl (.int .u8)) .nil))))=od at*)
  all_goals first
   | exact True.intro
   | ((try simp only [zF_,zG_,zk_] at*);omega)
   | (have hge:l.length<=i:=by omega
      have g:gdF [] l=true:=by rw [he,List.drop_of_length_le hge];rfl
      have e:itL l=(l.take i).map itF:=by unfold itL;rw [if_pos g,List.take_of_length_le hge]
      rw [g,e];exact ⟨rfl,rfl⟩)
   | (have hlt:i < l.length:=by omega
      have hs:=hst od hlt
      have hr:=hm.r (l.getD i od).1
      have hd:=Um_ hm (l.getD i od).1
      first
       | exact hok _ (zn_ hlt od)
       | exact (show IntKind.i64.min<=(zt_ m (l.getD i od).1).getD 0+1/\(zt_ m (l.getD i od).1).getD 0+1<=IntKind.i64.max from by simp only [zk_];omega)
       | (simp only [List.length_map,List.length_take,List.length_cons,List.length_nil];constructor<;>omega)
       | (have hsome:fbK (l.getD i od)=false:=ht
          have g:gdF [] l=false:=by rw [hs,hsome];rfl
          have e:itL l=[]:=by unfold itL;rw [g];rfl
          rw [g,e];exact ⟨rfl,rfl⟩)
       | (have hdb:((tyL (l.take i)).contains (l.getD i od).1 && !otT (l.getD i od).1)=true:=by
           have h1:0 < (zt_ m (l.getD i od).1).getD 0:=by assumption
           have h2:otT (l.getD i od).1=false:=ht
           rw [<- hd,decide_eq_true h1,h2];rfl
          have g:gdF [] l=false:=by rw [hs,hdb];simp
          have e:itL l=[]:=by unfold itL;rw [g];rfl
          rw [g,e];exact ⟨rfl,rfl⟩)
       | (have hsome:fbK (l.getD i od)=true:=by assumption
          have hdb:((tyL (l.take i)).contains (l.getD i od).1 && !otT (l.getD i od).1)=false:=by
           first
            | (have h1:¬ 0 < (zt_ m (l.getD i od).1).getD 0:=ht
               rw [<- hd,decide_eq_false h1];rfl)
            | (have h2:otT (l.getD i od).1=true:=ht
               rw [h2,Bool.and_comm];rfl)
          rw [hsome,hdb,Bool.true_and,Bool.not_false,Bool.true_and] at hs
          have hk:=zcc_ hsome
          refine ⟨(i+1,q4_ m (l.getD i od).1 ((zt_ m (l.getD i od).1).getD 0+1)),⟨by dsimp only;omega,?_,?_,?_⟩,by dsimp only;omega,rfl,?_⟩
          ·dsimp only;rw [hsn od hlt];exact yY_ hm
          ·dsimp only;rw [hsn od hlt];exact hs
          ·dsimp only;rw [<- k1_ (d:=od) hlt];intro f hf
           rcases List.mem_append.1 hf with hf | hf
           ·exact hg f hf
           ·rw [List.mem_singleton] at hf;rw [hf];exact hsome
          ·have hI:itF (l.getD i od)=((if kdF (l.getD i od)=true then (l.getD i od).1 else 0),fbY (l.getD i od),()):=by unfold itF;rw [if_pos hk]
           dsimp only;rw [Z1_ hlt od itF,hI];rfl))
 ·cases e
def zr (n:Int):Int:=(8 - n.tmod 8).tmod 8
theorem Gl_ {n:Int} (h:0<=n):0<=zr n/\zr n < 8/\(n+zr n) % 8=0/\zr n=(8 - n % 8) % 8:=by
 unfold zr
 rw [Int.tmod_eq_emod_of_nonneg h,Int.tmod_eq_emod_of_nonneg (by omega)];omega
def enP (t:Int) (y:List Int):List Int:=enH t y++List.replicate (zr (4+y.length)).toNat 0
theorem Hr_ (t:Int) (y:List Int):((enP t y).length:Int)=4+y.length+zr (4+y.length):=by
 have h:=Gl_ (n:=4+(y.length:Int)) (by omega)
 unfold enP;rw [List.length_append,Uk_,List.length_replicate];omega
structure okJ (l:List EV):Prop where
 a:∀ x ∈ l,(0<=x.1/\x.1<=65535)/\x.2.1.length<=65524
 n:l.length<=1000
def jnP (l:List EV):List Int:=l.flatMap fun x=>enP x.1 x.2.1
theorem YK_ {l:List EV} {i:Nat} {d:EV} (h:i < l.length):jnP (l.take (i+1))=jnP (l.take i)++enP (l.getD i d).1 (l.getD i d).2.1:=by
 unfold jnP
 rw [<- k1_ (d:=d) h,List.flatMap_append];simp
theorem uT_ {l:List EV} (h:okJ l) (i:Nat):(jnP (l.take i)).length<=65535*i:=by
 induction i with
 | zero=>simp [jnP]
 | succ i ih=>
   by_cases hl:i < l.length
   ·rw [YK_ (d:=(0,[],())) hl,List.length_append]
    have h1:=Hr_ (l.getD i (0,[],())).1 (l.getD i (0,[],())).2.1
    have h2:=Gl_ (n:=4+((l.getD i (0,[],())).2.1.length:Int)) (by omega)
    have h3:=(h.a _ (zn_ hl (0,[],()))).2
    omega
   ·rw [List.take_of_length_le (by omega)] at ih ⊢;omega
theorem zcO_ {t z:Int} {y:List Int} (ht:0<=t/\t<=65535) (hl:y.length<=65524) (hz:0<=z/\z < 8):KU_ y (K3_ [2,2] [t,4+y.length] [] (4+y.length+z) 0) (4+y.length+z) (JV_ [2,2] [t,4+y.length] [] (4+y.length+z) 0)=enH t y/\Ks_ y (K3_ [2,2] [t,4+y.length] [] (4+y.length+z) 0) (4+y.length+z) (JV_ [2,2] [t,4+y.length] [] (4+y.length+z) 0)=0:=by
 obtain ⟨p1,p2⟩:=zb5_ (a:=t) (n:=4+y.length) ht (by omega)
 have l4:(zq_ t 2++zq_ (4+y.length) 2).length=4:=by
  have:=Uk_ t y
  unfold enH at this;rw [List.length_append] at this;omega
 have b1:=yZ_ (x:=Kr_ [2,2] [t,4+y.length]) (l:=[]) (room:=4+y.length+z) (by rw [p1,l4];simp;omega)
 have r1:K3_ [2,2] [t,4+y.length] [] (4+y.length+z) 0=zq_ t 2++zq_ (4+y.length) 2:=by
  unfold K3_;rw [if_pos p2,b1.1,p1,List.nil_append]
 have r2:JV_ [2,2] [t,4+y.length] [] (4+y.length+z) 0=0:=by
  unfold JV_;rw [if_pos p2,b1.2]
 rw [r1,r2]
 have b2:=yZ_ (x:=y) (l:=zq_ t 2++zq_ (4+y.length) 2) (room:=4+y.length+z) (by rw [l4];omega)
 exact ⟨b2.1,b2.2⟩
def Xt_:IR:=
(sq (kr [0] [oD 1 (.boxv 0),
oD 2 (.mov cF)])
(sq (kr [1] [oA 3 0 1,
oL 4 3,
oB 5 .geq 4 (cI 4),
oM 6 5,
oT 6 7 (.fieldAddr 0 1),
oT 6 8 (.load none 7),
oT 6 9 (.bin .leq 8 (cI 60000)),
oP 10 6 9 cF,
oM 11 10,
oT 11 12 (.fieldAddr 1 1),
oT 11 13 (.load none 12),
oT 11 14 (.bin .geq 13 (cI 1)),
oP 15 11 14 cF,
oM 16 15,
oT 16 17 (.fieldAddr 1 1),
oT 16 18 (.load none 17),
oT 16 19 (.bin .leq 18 (cI 64)),
oP 20 16 19 cF,
oM 21 20,
oT 21 22 (.fieldAddr 3 1),
oT 21 23 (.load none 22),
oT 21 24 (.bin .neq 23 (cI 0)),
oP 25 21 24 cF,
oM 26 25,
oT 26 27 (.fieldAddr 4 1),
oT 26 28 (.load none 27),
oT 26 29 (.bin .neq 28 (cI 0)),
oP 30 26 29 cF,
oM 2 30])
.ret))
def x7_:List RD:=[.tmp 2 true none]
theorem Xh_:zo_ Tryz.prog Tryz.f84 Xt_ x7_=true:=by kernel_rfl
def qV_:List AV->List Obj->Option (Prop × AV)
 | [.agg [.int .i64 least,.int .i64 step,.bool pad,.int .i64 bad,.int .i64 odd]],[]=>some ((4<=least/\least<=60000/\1<=step/\step<=64/\bad ≠ 0/\odd ≠ 0,.bool true))
 | _,_=>none
theorem Kw_:ze_ Tryz.prog 84 (RoF qV_).sum:=by
 refine zs_ Tryz.func84 Xh_ (zd_ _) fun args objs p v e=>?_
 unfold qV_ at e
 split at e
 ·rename_i least step pad bad odd
  cases e
  refine ⟨rfl,fun hw ho hp=>?_⟩
  clear hw ho
  obtain ⟨h1,h2,h3,h4,h5,h6⟩:=hp
  repeat'(intro t ht;first|(cases t<;>first|(cases ht;done)|(try simp only[zg_]at ht;try(exfalso;first|contradiction|omega)))|((first|refine zb_ ht ?_|refine ht ?_ ?_|refine ht.1 ?_ ?_|refine ht ?_)<;>clear ht))
  all_goals first
   | exact True.intro
   | exact ⟨rfl,rfl⟩
   | (exfalso;omega)
   | (refine ⟨congrArg AV.bool ?_,rfl⟩;simp;omega)
 ·cases e
def xA_:IR:=
(sq (kr [0,1] [oD 2 (.boxv 0),
oD 4 (.mov cF)])
(sq (kr [1,2] [oM 5 1,
oA 6 0 2,
oL 7 6,
oB 8 .geq 5 7,
oM 9 8,
oT 9 10 (.fieldAddr 2 2),
oT 9 11 (.load none 10),
oT 9 12 (.mov 11),
oF 12 13 (.mov 1),
oF 12 14 (.fieldAddr 1 2),
oF 12 15 (.load none 14),
oF 12 16 (.bin .rem 13 15),
oF 12 17 (.bin .eql 16 (cI 0)),
oT 9 18 (.pick 12 cT 17),
oP 19 9 18 cF,
oM 4 19])
.ret))
def xi_:List RD:=[.tmp 4 true none]
theorem xq_:zo_ Tryz.prog Tryz.f85 xA_ xi_=true:=by kernel_rfl
def qw_:List AV->List Obj->Option (Prop × AV)
 | [.agg [.int .i64 least,.int .i64 step,.bool pad,.int .i64 bad,.int .i64 odd],.int .i64 n],[]=>some ((pad=true,.bool (decide (least<=n))))
 | _,_=>none
theorem k8_:ze_ Tryz.prog 85 (RoF qw_).sum:=by
 refine zs_ Tryz.func85 xq_ (zd_ _) fun args objs p v e=>?_
 unfold qw_ at e
 split at e
 ·rename_i least step pad bad odd n
  cases e
  refine ⟨rfl,fun hw ho hp=>?_⟩
  clear hw ho
  subst hp
  repeat'(intro t ht;first|(cases t<;>first|(cases ht;done)|(try simp only[zg_]at ht;try(exfalso;first|contradiction|omega)))|((first|refine zb_ ht ?_|refine ht ?_ ?_|refine ht.1 ?_ ?_|refine ht ?_)<;>clear ht))
  all_goals first
   | exact True.intro
   | exact ⟨rfl,rfl⟩
   | exact ⟨congrArg AV.bool (decide_eq_true (by omega)).symm,rfl⟩
   | exact ⟨congrArg AV.bool (decide_eq_false (by omega)).symm,rfl⟩
 ·cases e
def WM_:IR:=
(sq (kr [0,1] [oD 2 (.boxv 0),
oD 4 (.mov (cI 0))])
(sq (sq (.reg [oA 5 2 2,
oL 6 5,
oD 7 (.un .not 6)])
(.cond 7
(sq (.reg [oD 4 (.mov (cI 0))])
.ret)
.skip))
(sq (kd [1,2] [(oA 8 1 2,[]),
(oL 9 8,[]),
(oM 10 1,[0,0]),
(oA 11 1 2,[0,0,0]),
(oL 12 11,[1,0,0]),
(oB 13 .rem 10 12,[3,0]),
(oB 14 .sub 9 13,[]),
(oA 15 1 2,[0,0,0,0,0,0,0]),
(oL 16 15,[1,0,0,0,0,0,0]),
(oB 17 .rem 14 16,[]),
(oM 4 17,[])])
.ret)))
def WB_:List RD:=[.tmp 4 true none]
theorem WF_:zo_ Tryz.prog Tryz.f86 WM_ WB_=true:=by kernel_rfl
def qd_:List AV->List Obj->Option (Prop × AV)
 | [.agg [.int .i64 least,.int .i64 step,.bool pad,.int .i64 bad,.int .i64 odd],.int .i64 n],[]=>some ((pad=true/\step=8/\0<=n/\n<=100000,.int .i64 (zr n)))
 | _,_=>none
theorem kH_:ze_ Tryz.prog 86 (RoF qd_).sum:=by
 refine zs_ Tryz.func86 WF_ (zd_ _) fun args objs p v e=>?_
 unfold qd_ at e
 split at e
 ·rename_i least step pad bad odd n
  cases e
  refine ⟨rfl,fun hw ho hp=>?_⟩
  clear hw ho
  obtain ⟨rfl,rfl,h0,h1⟩:=hp
  have hm:=zaD_ (a:=n) (s:=8) h0 (by decide)
  repeat'(intro t ht;first|(cases t<;>first|(cases ht;done)|(try simp only[zg_]at ht;try(exfalso;first|contradiction|omega)))|((first|refine zb_ ht ?_|refine ht ?_ ?_|refine ht.1 ?_ ?_|refine ht ?_)<;>clear ht))
  all_goals first
   | exact True.intro
   | exact ⟨rfl,rfl⟩
   | ((try simp only [zF_,zG_,zk_] at*);omega)
   | decide
 ·cases e
def gu_:IR:=
(sq (kr [0,1] [oD 2 (.boxv 0),
oD 4 (.nilrow (.int .u8)),
oD 5 (.mov (cI 0))])
(sq (sq (.reg [oK 16 5 2,
oC 17 84 [16],
oD 18 (.un .not 17)])
(.cond 18
(sq (kr [] [oD 4 (.nilrow (.int .u8)),
oD 5 (.mov (cI 10001))])
.ret)
.skip))
(sq (sq (kr [1,2] [oM 19 1,
oE 20 19,
oD 21 (.mov (cI 0))])
(.block 0
(.loop
(sq (kr [1,2,19,20,21] [oB 22 .lss 21 20])
(sq (.cond 22
.skip
(.exit 0))
(sq (.block 1
(sq (.reg [oI 23 2 19 21,
oK 24 2 23,
oD 7 (.box [.int .i64 0,.imm (.int .u8) []]),
oS 2 7 24])
(sq (kr [1,2,7,19,20,21] [oA 25 1 7,
oL 26 25,
oE 27 26,
oB 28 .add (cI 4) 27,
oM 8 28])
(sq (kr [1,2,7,8,19,20,21] [oA 29 0 7,
oL 30 29,
oB 31 .lss 30 (cI 0),
oM 32 31,
oF 32 33 (.fieldAddr 0 7),
oF 32 34 (.load none 33),
oF 32 35 (.bin .gtr 34 (cI 65535)),
oP 36 32 cT 35,
oM 37 36,
oF 37 38 (.mov 8),
oF 37 39 (.bin .gtr 38 (cI 65535)),
oP 40 37 cT 39,
oM 41 40,
oF 41 42 (.load (some 5) 2),
oF 41 43 (.mov 8),
oF 41 44 (.call false (.f 85) [42,43]),
oF 41 45 (.un .not 44),
oP 46 41 cT 45])
(.cond 46
(sq (kr [] [oD 4 (.nilrow (.int .u8)),
oD 5 (.mov (cI 10001))])
.ret)
.skip)))))
(kr [1,2,19,20,21] [oB 47 .add 21 (cI 1),
oM 21 47])))))))
(sq (kr [1,2] [oD 9 (.nilrow (.int .u8))])
(sq (sq (.reg [oM 48 1,
oE 49 48,
oD 50 (.mov (cI 0))])
(.block 2
(.loop
(sq (kr [2,9,48,49,50] [oB 51 .lss 50 49])
(sq (.cond 51
.skip
(.exit 2))
(sq (.block 3
(sq (.reg [oI 52 2 48 50,
oK 53 2 52,
oD 11 (.box [.int .i64 0,.imm (.int .u8) []]),
oS 2 11 53])
(sq (kr [2,9,11,48,49,50] [oA 54 1 11,
oL 55 54,
oE 56 55,
oB 57 .add (cI 4) 56,
oM 12 57])
(sq (kr [2,9,11,12,48,49,50] [oM 58 12,
oK 59 5 2,
oM 60 12,
oC 61 86 [59,60],
oB 62 .add 58 61,
oC 63 20 [62],
oM 13 63])
(sq (kr [2,9,11,12,13,48,49,50] [oM 64 13,
oD 65 (.sliceAll (.int .i64) 2 [(0,1,(cI 2)),(1,1,(cI 2))]),
oA 66 0 11,
oL 67 66,
oD 68 (.conv .u64 67),
oM 69 12,
oD 70 (.conv .u64 69),
oD 71 (.sliceAll (.int .u64) 2 [(0,1,68),(1,1,70)]),
oC 72 72 [64,65,71]])
(sq (kr [2,9,11,12,13,48,49,50] [oM 73 13,
oA 74 1 11,
oL 75 74,
oC 76 21 [73,75]])
(sq (kr [2,9,12,13,48,49,50] [oM 77 13,
oK 78 5 2,
oM 79 12,
oC 80 86 [78,79],
oD 81 (.mkrow (.int .u8) 1 (0:Int) 80 80),
oC 82 21 [77,81]])
(sq (kr [2,9,13,48,49,50] [oM 84 13,
oC 85 23 [84],
oM 83 85,
oX 86 83 0,
oX 87 83 1,
oM 14 86,
oM 15 87])
(sq (sq (kr [2,9,14,15,48,49,50] [oM 88 15,
oB 89 .neq 88 (cI 0)])
(.cond 89
(sq (.reg [oM 90 15,
oD 4 (.nilrow (.int .u8)),
oM 5 90])
.ret)
.skip))
(.reg [oM 91 9,
oM 92 14,
oD 93 (.append (.int .u8) 1 91 92),
oM 9 93]))))))))))
(kr [2,9,48,49,50] [oB 94 .add 50 (cI 1),
oM 50 94])))))))
(sq (kr [9] [oM 95 9,
oM 4 95,
oD 5 (.mov (cI 0))])
.ret))))))
def UO_:List RD:=[.tmp 4 true (some (.int .u8)),.tmp 5 true none]
theorem U5_:zo_ Tryz.prog Tryz.f70 gu_ UO_=true:=by kernel_rfl
def WW_:List AV->List Obj->Option (Prop × AV)
 | [.agg [.int .i64 least,.int .i64 step,.bool pad,.int .i64 bad,.int .i64 odd],.imm (.cons (.int .i64) (.cons (.sl (.int .u8)) .nil)) l],[]=>some ((pad=true/\least=4/\step=8/\bad ≠ 0/\odd ≠ 0/\okJ l,.tup [.imm (.int .u8) (jnP l),.int .i64 0]))
 | _,_=>none
theorem V4_:ze_ Tryz.prog 70 (RoF WW_).sum:=by
 refine zs_ Tryz.func70 U5_ (za_ (s:=RoF qV_) Kw_ (za_ (s:=RoF qw_) k8_ (za_ (s:=RoF qd_) kH_ (za_ (s:=RwF qy_) Qp_ (za_ (s:=RwF z8_) Zx_ (za_ (s:=RwF zz_) zJ_ (za_ (s:=RwF zY_) Zq_ (zd_ _)))))))) fun args objs p v e=>?_
 unfold WW_ at e
 split at e
 ·rename_i least step pad bad odd l
  cases e
  refine ⟨rfl,fun hw ho hp=>?_⟩
  change List EV at l
  clear hw ho
  obtain ⟨rfl,rfl,rfl,hbad,hodd,hok⟩:=hp
  have hn:=hok.n
  repeat'(intro t ht;first|(cases t<;>first|(cases ht;done)|(try simp only[zg_]at ht;try(exfalso;first|contradiction|omega)))|((first|refine zb_ ht ?_|refine ht ?_ ?_|refine ht.1 ?_ ?_|refine ht ?_)<;>clear ht))
  all_goals first
   | exact True.intro
   | exact ⟨by decide,by decide,by decide,by decide,hbad,hodd⟩
   | (intro r h1 h2;clear h1;refine h2 ⟨[1,2,19,20,21],Nat,(fun i=>i<=l.length),fun i=>[.imm YB l,.ptr 0 0,.imm YB l,.int .i64 l.length,.int .i64 i],fun i=>[.box [.int .i64 4,.int .i64 8,.bool true,.int .i64 bad,.int .i64 odd]],fun i=>l.length - i,⟨0,Nat.zero_le _,rfl,rfl⟩,?_⟩;clear h2)
  rintro i hi
  by_cases hlt:i < l.length
  ·have hx:=hok.a _ (zn_ hlt (Ty.dflt YB))
   repeat'(intro t ht;first|(cases t<;>first|(cases ht;done)|(try simp only[zg_]at ht;try(exfalso;first|contradiction|omega)))|((first|refine zb_ ht ?_|refine ht ?_ ?_|refine ht.1 ?_ ?_|refine ht ?_)<;>clear ht))
   all_goals (try generalize (Ty.dflt YB)=od at*)
   all_goals first
    | exact True.intro
    | exact rfl
    | ((try simp only [zF_,zG_,zk_] at*);omega)
    | (refine ⟨i+1,?_,?_,rfl,rfl⟩
       ·(try dsimp only);omega
       ·(try dsimp only);omega)
    | (exfalso;simp_all;omega)
  ·repeat'(intro t ht;first|(cases t<;>first|(cases ht;done)|(try simp only[zg_]at ht;try(exfalso;first|contradiction|omega)))|((first|refine zb_ ht ?_|refine ht ?_ ?_|refine ht.1 ?_ ?_|refine ht ?_)<;>clear ht))
   all_goals first
    | exact True.intro
    | (intro r h1 h2;clear h1;refine h2 ⟨[2,9,48,49,50],Nat,(fun i=>i<=l.length),fun i=>[.ptr 0 0,.own 1,.imm YB l,.int .i64 l.length,.int .i64 i],fun i=>[.box [.int .i64 4,.int .i64 8,.bool true,.int .i64 bad,.int .i64 odd],.row false (.int .u8) (jnP (l.take i))],fun i=>l.length - i,⟨0,Nat.zero_le _,rfl,rfl⟩,?_⟩;clear h2)
   clear ht hlt hi i
   rintro i hi
   have hjl:=uT_ hok i
   by_cases hlt:i < l.length
   ·have hx:=hok.a _ (zn_ hlt (Ty.dflt YB))
    have hz:=Gl_ (n:=4+((l.getD i (Ty.dflt YB)).2.1.length:Int)) (by omega)
    obtain ⟨j1,j2⟩:=zcO_ hx.1 hx.2 ⟨hz.1,hz.2.1⟩
    have hrm:X2_ (4+((l.getD i (Ty.dflt YB)).2.1.length:Int)+zr (4+((l.getD i (Ty.dflt YB)).2.1.length:Int)))=4+((l.getD i (Ty.dflt YB)).2.1.length:Int)+zr (4+((l.getD i (Ty.dflt YB)).2.1.length:Int)):=by unfold X2_;omega
    have hel:=Uk_ (l.getD i (Ty.dflt YB)).1 (l.getD i (Ty.dflt YB)).2.1
    have hpl:=Hr_ (l.getD i (Ty.dflt YB)).1 (l.getD i (Ty.dflt YB)).2.1
    have hrl:(K3_ [2,2] [(l.getD i (Ty.dflt YB)).1,4+((l.getD i (Ty.dflt YB)).2.1.length:Int)] [] (4+((l.getD i (Ty.dflt YB)).2.1.length:Int)+zr (4+((l.getD i (Ty.dflt YB)).2.1.length:Int))) 0).length<=1000000:=Ka_ (by decide) (by omega)
    obtain ⟨j3,j4⟩:=yZ_ (x:=List.replicate (zr (4+((l.getD i (Ty.dflt YB)).2.1.length:Int))).toNat (0:Int)) (l:=enH (l.getD i (Ty.dflt YB)).1 (l.getD i (Ty.dflt YB)).2.1) (room:=4+((l.getD i (Ty.dflt YB)).2.1.length:Int)+zr (4+((l.getD i (Ty.dflt YB)).2.1.length:Int))) (by rw [List.length_replicate,hel];omega)
    have j6:Wo_ [] 0=0:=rfl
    repeat'(intro t ht;first|(cases t<;>first|(cases ht;done)|(try simp only[zg_]at ht;try(exfalso;first|contradiction|omega)))|((first|refine zb_ ht ?_|refine ht ?_ ?_|refine ht.1 ?_ ?_|refine ht ?_)<;>clear ht))
    all_goals (try generalize (Ty.dflt YB)=od at*)
    all_goals (try simp only [zF_,zG_,hrm,j1,j2,j3,j4,j6,B2_] at*)
    all_goals first
     | exact True.intro
     | ((try simp only [zF_,zG_,zk_] at*);omega)
     | (exfalso;contradiction)
     | exact ⟨by omega,by omega,by omega,by omega⟩
     | exact ⟨rfl,rfl,by omega,by omega⟩
     | exact ⟨by omega,by omega,by decide⟩
     | exact ⟨by omega,by omega,hrl,by omega⟩
     | exact ⟨by omega,by omega,by omega,by decide⟩
     | exact ⟨by omega,by omega,by omega,by rw [List.length_replicate];omega⟩
     | exact ⟨by omega,by decide⟩
     | exact ⟨by rw [List.length_append,List.length_replicate];omega,by decide⟩
     | (rw [List.length_append,List.length_replicate,hel];constructor<;>omega)
     | (refine ⟨i+1,by omega,by omega,rfl,?_⟩
        rw [YK_ (d:=od) hlt];rfl)
   ·repeat'(intro t ht;first|(cases t<;>first|(cases ht;done)|(try simp only[zg_]at ht;try(exfalso;first|contradiction|omega)))|((first|refine zb_ ht ?_|refine ht ?_ ?_|refine ht.1 ?_ ?_|refine ht ?_)<;>clear ht))
    all_goals first
     | exact True.intro
     | (rw [List.take_of_length_le (by omega)];exact ⟨rfl,rfl⟩)
 ·cases e
def Xv_:IR:=
(sq (kr [] [oD 0 (.box [.int .i64 0,.int .i64 0,.kb false,.int .i64 0,.int .i64 0])])
(sq (.reg [oD 1 (.buildAll 5 [(0,1,(cI 4)),(1,1,(cI 8)),(2,1,cT),(3,1,(cI 3332)),(4,1,(cI 3333))]),
oS 5 0 1])
.ret))
def x9_:List RD:=[.cell 0 (some 5) true []]
theorem Xj_:zo_ Tryz.prog Tryz.f65 Xv_ x9_=true:=by kernel_rfl
def qX_:List AV->List Obj->Option (Prop × AV)
 | [],[]=>some ((True,.agg [.int .i64 4,.int .i64 8,.bool true,.int .i64 3332,.int .i64 3333]))
 | _,_=>none
theorem Ky_:ze_ Tryz.prog 65 (RoF qX_).sum:=by
 refine zs_ Tryz.func65 Xj_ (zd_ _) fun args objs p v e=>?_
 unfold qX_ at e
 split at e
 ·cases e
  refine ⟨rfl,fun hw ho hp=>?_⟩
  repeat'(intro t ht;first|(cases t<;>first|(cases ht;done)|(try simp only[zg_]at ht;try(exfalso;first|contradiction|omega)))|((first|refine zb_ ht ?_|refine ht ?_ ?_|refine ht.1 ?_ ?_|refine ht ?_)<;>clear ht))
  all_goals first
   | exact True.intro
   | exact ⟨rfl,rfl⟩
 ·cases e
theorem Ho_:∀ {l:List FV} {acc:List Int},gdF acc l=true->∀ f ∈ l,fbK f=true
 | [],_,_,f,hf=>by cases hf
 | g :: r,acc,h,f,hf=>by
   unfold gdF at h
   simp only [Bool.and_eq_true] at h
   rcases List.mem_cons.1 hf with rfl | hf
   ·exact h.1.1
   ·exact Ho_ h.2 f hf
theorem zcr_ {t:Int} (h:¬ szT t=0):0<=t/\t<=65535:=by
 rcases W6_ t with ⟨h1,_⟩ | ⟨_,_,_,h1⟩ | ⟨_,_,h1,h2⟩ | ⟨_,_,_,h1⟩
 ·exact absurd h1 h
 all_goals omega
theorem uI_ {l:List FV} (hn:l.length<=1000):okJ (itL l):=by
 unfold itL
 by_cases h:gdF [] l=true
 ·rw [if_pos h]
  refine ⟨fun x hx=>?_,by rw [List.length_map];exact hn⟩
  obtain ⟨f,hf,rfl⟩:=List.mem_map.1 hx
  have hk:=zcc_ (Ho_ h f hf)
  exact ⟨zcr_ (G7_ hk).1,BW_ f⟩
 ·rw [if_neg h];exact ⟨fun x hx=>(by cases hx),by simp⟩
def ptX (t:TV):List Int:=jnP (itL t.2.2.2.2.2.2.1)
def HY_ (s:List Int):List Int:=s++List.replicate (32 - s.length) 0
def ptG (t:TV):Bool:=gdF [] t.2.2.2.2.2.2.1 && decide (64+((ptX t).length:Int)<=65528) && decide (t.1<=254) && QL_ t.2.1
def sqS (f g:List Int->Int->List Int × Int) (l:List Int) (e:Int):List Int × Int:=g (f l e).1 (f l e).2
def rwS (room:Int) (w xs l:List Int) (e:Int):List Int × Int:=(K3_ w xs l room e,JV_ w xs l room e)
def byS (room:Int) (x l:List Int) (e:Int):List Int × Int:=(KU_ x l room e,Ks_ x l room e)
def ptW (room:Int) (t:TV):List Int->Int->List Int × Int:=sqS (sqS (sqS (rwS room [2,1,-5] [64+((ptX t).length:Int),t.1]) (byS room (HY_ t.2.1))) (rwS room [8,8,4,4] [t.2.2.1,t.2.2.2.1,t.2.2.2.2.1,t.2.2.2.2.2.1])) (byS room (ptX t))
def ptS (room:Int) (t:TV) (l:List Int) (e:Int):List Int × Int:=if ptG t=true then ptW room t l e else (l,zl_ e 10001)
def ptO (t:TV):Option (List Int):=if ptG t=true then j7_ (j7_ (j7_ (yr_ [2,1,-5] [64+((ptX t).length:Int),t.1]) (some (HY_ t.2.1))) (yr_ [8,8,4,4] [t.2.2.1,t.2.2.2.1,t.2.2.2.2.1,t.2.2.2.2.2.1])) (some (ptX t)) else none
theorem zdc_ (room:Int) (t:TV):WrOk room (ptS room t) (ptO t):=by
 unfold ptO
 by_cases h:ptG t=true
 ·have e:ptS room t=ptW room t:=by funext l e;unfold ptS;rw [if_pos h]
  rw [e,if_pos h]
  exact (((VY_ room _ _).seq (W4_ room _)).seq (VY_ room _ _)).seq (W4_ room _)
 ·have e:ptS room t=fun l e=>(l,zl_ e 10001):=by funext l e;unfold ptS;rw [if_neg h]
  rw [e,if_neg h]
  exact zbZ_ room fun l=>fun _=>l
theorem zaT_ {room:Int} {t:TV} {l:List Int} {e:Int} (h:l.length<=1000000) (hr:room<=1000000):(ptW room t l e).1.length<=1000000:=by
 unfold ptW sqS rwS byS;exact wx_ (Ka_ (wx_ (Ka_ h hr) hr) hr) hr
theorem zaU_ {room:Int} {t:TV} {l:List Int} {e:Int} (h:l.length<=1000000) (hr:room<=1000000):(ptS room t l e).1.length<=1000000:=by
 unfold ptS;split
 ·exact zaT_ h hr
 ·exact h
theorem xm_ {t:TV}:ptG t=true ↔ gdF [] t.2.2.2.2.2.2.1=true/\64+((ptX t).length:Int)<=65528/\t.1<=254/\QL_ t.2.1=true:=by
 unfold ptG;simp only [Bool.and_eq_true,decide_eq_true_eq,and_assoc]
theorem hX_ {l:List FV} (h:l.length<=1000):(jnP (itL l)).length<=65535000:=by
 have h1:=uT_ (uI_ h) (itL l).length
 have h2:=(uI_ h).n
 rw [List.take_length] at h1;omega
def YM_:IR:=
(sq (kr [0,1] [oD 3 (.boxv 1)])
(sq (kr [0,3] [oA 9 6 3,
oL 10 9,
oC 11 69 [10],
oM 8 11,
oX 12 8 0,
oX 13 8 1,
oM 4 12,
oM 5 13])
(sq (kr [0,3,4,5] [oC 15 65 [],
oM 16 4,
oC 17 70 [15,16],
oM 14 17,
oX 18 14 0,
oX 19 14 1,
oM 6 18,
oM 7 19])
(sq (sq (kr [0,3,5,6,7] [oM 20 5,
oD 21 (.un .not 20),
oM 22 21,
oF 22 23 (.mov 7),
oF 22 24 (.bin .neq 23 (cI 0)),
oP 25 22 cT 24,
oM 26 25,
oF 26 27 (.mov 6),
oF 26 28 (.len 27),
oF 26 29 (.bin .add (cI 64) 28),
oF 26 30 (.bin .gtr 29 (cI 65528)),
oP 31 26 cT 30,
oM 32 31,
oF 32 33 (.fieldAddr 0 3),
oF 32 34 (.load none 33),
oF 32 35 (.bin .gtr 34 (.c (.int .u64 254))),
oP 36 32 cT 35,
oM 37 36,
oF 37 38 (.fieldAddr 1 3),
oF 37 39 (.load none 38),
oF 37 40 (.call false (.f 71) [39]),
oF 37 41 (.un .not 40),
oP 42 37 cT 41])
(.cond 42
(sq (kr [0] [oM 43 0,
oC 44 47 [43,(cI 10001)]])
.ret)
.skip))
(sq (kr [0,3,6] [oM 45 0,
oD 46 (.sliceAll (.int .i64) 3 [(0,1,(cI 2)),(1,1,(cI 1)),(2,1,(cI (-5)))]),
oM 47 6,
oE 48 47,
oB 49 .add (cI 64) 48,
oD 50 (.conv .u64 49),
oA 51 0 3,
oL 52 51,
oD 53 (.sliceAll (.int .u64) 2 [(0,1,50),(1,1,52)]),
oC 54 72 [45,46,53]])
(sq (kr [0,3,6] [oM 55 0,
oA 56 1 3,
oL 57 56,
oD 58 (.s2b 57),
oA 59 1 3,
oL 60 59,
oD 61 (.slen 60),
oB 62 .sub (cI 32) 61,
oD 63 (.appendz (.int .u8) 1 (0:Int) 58 62),
oC 64 21 [55,63]])
(sq (kr [0,3,6] [oM 65 0,
oD 66 (.sliceAll (.int .i64) 4 [(0,1,(cI 8)),(1,1,(cI 8)),(2,1,(cI 4)),(3,1,(cI 4))]),
oA 67 2 3,
oL 68 67,
oA 69 3 3,
oL 70 69,
oA 71 4 3,
oL 72 71,
oA 73 5 3,
oL 74 73,
oD 75 (.sliceAll (.int .u64) 4 [(0,1,68),(1,1,70),(2,1,72),(3,1,74)]),
oC 76 72 [65,66,75]])
(kr [0,6] [oM 77 0,
oM 78 6,
oC 79 21 [77,78]]))))))))
def Yi_:List RD:=[]
theorem Yw_:zo_ Tryz.prog Tryz.f44 YM_ Yi_=true:=by kernel_rfl
def Wq_:List AV->List Obj->Option (Prop × Res)
 | [.ptr 0 0,.agg [.int .u64 no,.str nm,.int .u64 a,.int .u64 b,.int .u64 c,.int .u64 d,.imm (.cons (.int .i64) (.cons (.sl (.int .u64)) (.cons (.sl (.int .u8)) .nil))) fs]],[.box [.own 1,.int .i64 room,.mapv 2,.int .i64 e],.row false (.int .u8) l,.map sq (.int .i64) (.int .i64) h]=>some (okF fs/\0<=room/\room<=1000000/\l.length<=1000000,.br (ptG (no,nm,a,b,c,d,fs,())) (.one (.tup []) [.box [.own 3,.int .i64 room,.mapv 2,.int .i64 ((ptW room (no,nm,a,b,c,d,fs,()) l e).2)],.dead,.map sq (.int .i64) (.int .i64) h,.row false (.int .u8) ((ptW room (no,nm,a,b,c,d,fs,()) l e).1)]) (.one (.tup []) [.box [.own 1,.int .i64 room,.mapv 2,.int .i64 (zl_ e 10001)],.row false (.int .u8) l,.map sq (.int .i64) (.int .i64) h]))
 | _,_=>none
def KV_:List AV->List Obj->Option (Prop × AV × List Obj)
 | [.ptr 0 0,.agg [.int .u64 no,.str nm,.int .u64 a,.int .u64 b,.int .u64 c,.int .u64 d,.imm (.cons (.int .i64) (.cons (.sl (.int .u64)) (.cons (.sl (.int .u8)) .nil))) fs]],[.box [.own 1,.int .i64 room,.mapv 2,.int .i64 e],.row false (.int .u8) l,.map sq (.int .i64) (.int .i64) h]=>some (okF fs/\0<=room/\room<=1000000/\l.length<=1000000,.tup [],[.box [.own 3,.int .i64 room,.mapv 2,.int .i64 ((ptS room (no,nm,a,b,c,d,fs,()) l e).2)],.dead,.map sq (.int .i64) (.int .i64) h,.row false (.int .u8) ((ptS room (no,nm,a,b,c,d,fs,()) l e).1)])
 | _,_=>none
theorem yn_:ze_ Tryz.prog 44 (RcF Wq_).sum:=by
 refine UX_ Tryz.func44 Yw_ (za_ (s:=RoF kD_) xe_ (za_ (s:=RoF qX_) Ky_ (za_ (s:=RoF WW_) V4_ (za_ (s:=RoF qY_) Kz_ (za_ (s:=RwF zB_) zP_ (za_ (s:=RwF z8_) Zx_ (za_ (s:=RwF zz_) zJ_ (zd_ _)))))))) fun args objs p v e=>?_
 unfold Wq_ at e
 split at e
 ·rename_i no nm a b c d fs room e l sq h
  cases e
  change List Int at l
  change List FV at fs
  refine ⟨rfl,fun hw' ho hp=>?_⟩
  clear hw' ho
  obtain ⟨hf,hp1,hp2,hp3⟩:=hp
  have hj:=uI_ hf.n
  have hxl:=hX_ hf.n
  cases hG:ptG (no,nm,a,b,c,d,fs,()) with
  | true=>
    obtain ⟨g1,g2,g3,g4⟩:=xm_.1 hG
    unfold ptX at g2
    dsimp only at g1 g2 g3 g4
    have g5:=(uN_.1 g4).1
    have hl1:(K3_ [2,1,-5] [64+((jnP (itL fs)).length:Int),no] l room e).length<=1000000:=Ka_ hp3 hp2
    have hl2:=fun x=>wx_ (x:=x) (e:=JV_ [2,1,-5] [64+((jnP (itL fs)).length:Int),no] l room e) hl1 hp2
    have e32:(32 - (nm.length:Int)).toNat=32 - nm.length:=by omega
    repeat'(intro t ht;first|(cases t<;>first|(cases ht;done)|(try simp only[zg_]at ht;try(exfalso;first|contradiction|omega)))|((first|refine zb_ ht ?_|refine ht ?_ ?_|refine ht.1 ?_ ?_|refine ht ?_)<;>clear ht))
    all_goals first
     | exact True.intro
     | omega
     | exact hf
     | exact ⟨by decide,by decide,by decide,by decide,by decide,hj⟩
     | exact ⟨hp1,hp2,hp3⟩
     | ((try dsimp only);simp only [zk_];omega)
     | (refine ⟨hp1,hp2,hl1,?_⟩;rw [List.length_append,List.length_replicate];omega)
     | exact ⟨hp1,hp2,hl2 _⟩
     | exact ⟨hp1,hp2,Ka_ (hl2 _) hp2,by omega⟩
     | (refine ⟨?_,?_⟩<;>first | omega | (rw [List.length_append,List.length_replicate];omega))
     | (exfalso;simp_all;done)
     | (rw [KP_ rfl]
        unfold ptW sqS rwS byS HY_ ptX
        dsimp only
        rw [<- e32];exact ⟨rfl,rfl⟩)
  | false=>
    have hno:¬ (gdF [] fs=true/\64+((jnP (itL fs)).length:Int)<=65528/\no<=254/\QL_ nm=true):=fun c=>by rw [xm_.2 c] at hG;cases hG
    repeat'(intro t ht;first|(cases t<;>first|(cases ht;done)|(try simp only[zg_]at ht;try(exfalso;first|contradiction|omega)))|((first|refine zb_ ht ?_|refine ht ?_ ?_|refine ht.1 ?_ ?_|refine ht ?_)<;>clear ht))
    all_goals first
     | exact True.intro
     | omega
     | exact hf
     | exact ⟨by decide,by decide,by decide,by decide,by decide,hj⟩
     | ((try dsimp only);simp only [zk_];omega)
     | (rw [KQ_ rfl];exact ⟨rfl,rfl⟩)
     | (exfalso;exact hno ⟨by assumption,by omega,by omega,by assumption⟩)
 ·cases e
theorem yo_:ze_ Tryz.prog 44 (RwF KV_).sum:=by
 refine yQ_ yn_ fun args objs p v o e=>?_
 unfold KV_ at e
 split at e
 ·rename_i no nm a b c d fs room e l sq h
  cases e
  cases hb:ptG (no,nm,a,b,c,d,fs,()) with
  | true=>
    refine ⟨_,_,rfl,KP_ hb,.inl ?_⟩
    unfold ptS;rw [if_pos hb]
  | false=>
    refine ⟨_,_,rfl,KQ_ hb,.inr ⟨0,1,[],[.int .i64 room,.mapv 2,.int .i64 (zl_ e 10001)],.int .u8,l,rfl,rfl,?_⟩⟩
    unfold ptS;rw [hb];rfl
 ·cases e
structure okT (l:List TV):Prop where
 a:∀ t ∈ l,okF t.2.2.2.2.2.2.1
 n:l.length<=1000
def tbL (l:List TV):List Int:=(fnG 65528 (Kt_ ptO l)).1
def tbE (l:List TV):Int:=(fnG 65528 (Kt_ ptO l)).2
theorem zdh_ (l:List TV):WrOk 65528 (fun b e=>wlS (ptS 65528) l (b,e)) (Kt_ ptO l):=VZ_ (fun t=>zdc_ 65528 t) l
theorem bH_ (l:List TV):(tbL l).length<=65528:=by have:=BR_ (lim:=65528) (v:=Kt_ ptO l) (by decide);unfold tbL;omega
theorem zcq_ (l:List TV):tbE l=0\/tbE l=10001:=by
 unfold tbE fnG;split
 ·split
  ·exact .inr rfl
  ·exact .inl rfl
 ·exact .inr rfl
def xB_:IR:=
(sq (kr [0] [oD 2 (.mov (.c (.imm (.int .u8) []))),
oD 3 (.mov (cI 0))])
(sq (.reg [oC 9 20 [(cI 65528)],
oM 4 9])
(sq (sq (.reg [oM 10 0,
oE 11 10,
oD 12 (.mov (cI 0))])
(.block 0
(.loop
(sq (kr [4,10,11,12] [oB 13 .lss 12 11])
(sq (.cond 13
.skip
(.exit 0))
(sq (.block 1
(sq (.reg [oI 14 7 10 12,
oK 15 7 14,
oD 6 (.box [.int .u64 0,.str [],.int .u64 0,.int .u64 0,.int .u64 0,.int .u64 0,.imm (.cons (.int .i64) (.cons (.sl (.int .u64)) (.cons (.sl (.int .u8)) .nil))) []]),
oS 7 6 15])
(.reg [oM 16 4,
oK 17 7 6,
oC 18 44 [16,17]])))
(kr [4,10,11,12] [oB 19 .add 12 (cI 1),
oM 12 19])))))))
(sq (kr [4] [oM 21 4,
oC 22 23 [21],
oM 20 22,
oX 23 20 0,
oX 24 20 1,
oM 7 23,
oM 8 24])
(sq (sq (kr [7,8] [oM 25 8,
oB 26 .neq 25 (cI 0)])
(.cond 26
(sq (.reg [oD 2 (.mov (.c (.imm (.int .u8) []))),
oD 3 (.mov (cI 10001))])
.ret)
.skip))
(sq (.reg [oM 27 7,
oM 2 27,
oD 3 (.mov (cI 0))])
.ret))))))
def xj_:List RD:=[.tmp 2 true (some (.int .u8)),.tmp 3 true none]
theorem xr_:zo_ Tryz.prog Tryz.f18 xB_ xj_=true:=by kernel_rfl
def Zu_:List AV->List Obj->Option (Prop × AV)
 | [.imm ty0 l],[]=>Kf_ ty0 YA l fun l=>some ((okT l,.tup [.imm (.int .u8) (tbL l),.int .i64 (tbE l)]))
 | _,_=>none
theorem ZO_:ze_ Tryz.prog 18 (RoF Zu_).sum:=by
 refine zs_ Tryz.func18 xr_ (za_ (s:=RwF qy_) Qp_ (za_ (s:=RwF KV_) yo_ (za_ (s:=RwF zY_) Zq_ (zd_ _)))) fun args objs p v e=>?_
 unfold Zu_ at e
 split at e
 ·rename_i ty0 l
  obtain rfl:=qS_ e
  replace e:=qT_ e
  cases e
  refine ⟨rfl,fun hw ho hp=>?_⟩
  change List TV at l
  clear hw ho
  obtain ⟨hok,hn⟩:=hp
  have hroom:X2_ 65528=65528:=by decide
  have hwr:=BQ_ (by decide) (zdh_ l)
  repeat'(intro t ht;first|(cases t<;>first|(cases ht;done)|(try simp only[zg_]at ht;try(exfalso;first|contradiction|omega)))|((first|refine zb_ ht ?_|refine ht ?_ ?_|refine ht.1 ?_ ?_|refine ht ?_)<;>clear ht))
  all_goals first
   | exact True.intro
   | (intro r h1 h2;clear h1;refine h2 ⟨[4,10,11,12],Nat × List Int × Int,(fun a=>a.1<=l.length/\a.2.1.length<=1000000/\wlS (ptS 65528) l ([],0)=wlS (ptS 65528) (l.drop a.1) a.2),fun a=>[.ptr 0 0,.imm YA l,.int .i64 l.length,.int .i64 a.1],fun a=>[.box [.own 1,.int .i64 65528,.mapv 2,.int .i64 a.2.2],.row false (.int .u8) a.2.1,.map true (.int .i64) (.int .i64) ([])],fun a=>l.length - a.1,⟨(0,[],0),⟨Nat.zero_le _,by simp,rfl⟩,rfl,by rw [hroom];rfl⟩,?_⟩;clear h2)
  rintro ⟨i,b,e⟩ ⟨hi,hb,he⟩
  dsimp only at hi hb he
  have hst:=fun (d:TV) (h:i < l.length)=>UB_ (f:=ptS 65528) (s:=(b,e)) h d
  have hend:l.length<=i->wlS (ptS 65528) l ([],0)=(b,e):=fun h=>by rw [he,List.drop_of_length_le h];rfl
  repeat'(intro t ht;first|(cases t<;>first|(cases ht;done)|(try simp only[zg_]at ht;try(exfalso;first|contradiction|omega)))|((first|refine zb_ ht ?_|refine ht ?_ ?_|refine ht.1 ?_ ?_|refine ht ?_)<;>clear ht))
  all_goals (try generalize (Ty.dflt YA)=od at*)
  all_goals first
   | exact True.intro
   | omega
   | ((try simp only [zF_,zG_,zk_] at*);omega)
   | exact ⟨hok _ (zn_ (by omega) od),by decide,by decide,hb⟩
   | (simp only [List.length_nil];(try simp only [zF_,zG_,zk_] at*);omega)
   | (have h1:=hend (by omega)
      (try dsimp only at hwr)
      rw [h1] at hwr
      (try dsimp only at hwr)
      rw [gV_] at ht
      first
       | (have h0:e=0:=by first | exact ht | assumption
          have w:=hwr.1 h0
          subst h0
          refine ⟨?_,rfl⟩;unfold tbL tbE;rw [w];rfl)
       | (have h0:¬ e=0:=by first | exact ht | assumption
          have w:=hwr.2 h0
          refine ⟨?_,rfl⟩;unfold tbL tbE;rw [w]))
   | (refine ⟨(i+1,ptS 65528 (l.getD i od) b e),⟨by dsimp only;omega,zaU_ hb (by decide),he.trans (hst od (by omega))⟩,by dsimp only;omega,rfl,rfl⟩)
 ·cases e
def Xy_:IR:=
(sq (kr [0] [oD 2 (.mov cF)])
(sq (kr [0] [oM 6 0,
oC 7 18 [6],
oM 5 7,
oX 8 5 0,
oX 9 5 1,
oM 3 8,
oM 4 9])
(sq (kr [4] [oM 10 4,
oB 11 .eql 10 (cI 0),
oM 2 11])
.ret)))
def Xc_:List RD:=[.tmp 2 true none]
theorem Xm_:zo_ Tryz.prog Tryz.f24 Xy_ Xc_=true:=by kernel_rfl
def kE_:List AV->List Obj->Option (Prop × AV)
 | [.imm ty0 l],[]=>Kf_ ty0 YA l fun l=>some ((okT l,.bool (decide (tbE l=0))))
 | _,_=>none
theorem xf_:ze_ Tryz.prog 24 (RoF kE_).sum:=by
 refine zs_ Tryz.func24 Xm_ (za_ (s:=RoF Zu_) ZO_ (zd_ _)) fun args objs p v e=>?_
 unfold kE_ at e
 split at e
 ·rename_i ty0 l
  obtain rfl:=qS_ e
  replace e:=qT_ e
  cases e
  refine ⟨rfl,fun hw ho hp=>?_⟩
  repeat'(intro t ht;first|(cases t<;>first|(cases ht;done)|(try simp only[zg_]at ht;try(exfalso;first|contradiction|omega)))|((first|refine zb_ ht ?_|refine ht ?_ ?_|refine ht.1 ?_ ?_|refine ht ?_)<;>clear ht))
  all_goals first
   | exact True.intro
   | exact hp
   | exact ⟨rfl,rfl⟩
 ·cases e
def tpB (l:List Int) (room e:Int) (x:List TV):List Int:=KU_ (tbL x) l room (zl_ e (tbE x))
def tpE (l:List Int) (room e:Int) (x:List TV):Int:=Ks_ (tbL x) l room (zl_ e (tbE x))
def YN_:IR:=
(sq (kr [0,1] [oM 7 1,
oC 8 18 [7],
oM 6 8,
oX 9 6 0,
oX 10 6 1,
oM 4 9,
oM 5 10])
(sq (kr [0,4,5] [oM 11 0,
oM 12 5,
oC 13 47 [11,12]])
(.reg [oM 14 0,
oM 15 4,
oC 16 21 [14,15]])))
def Yj_:List RD:=[]
theorem Yx_:zo_ Tryz.prog Tryz.f22 YN_ Yj_=true:=by kernel_rfl
def KW_:List AV->List Obj->Option (Prop × AV × List Obj)
 | [.ptr 0 0,.imm ty0 x],[.box [.own 1,.int .i64 room,.mapv 2,.int .i64 e],.row false (.int .u8) l,.map sq (.int .i64) (.int .i64) h]=>Kf_ ty0 YA x fun x=>some ((okT x/\0<=room/\room<=1000000/\l.length<=1000000,.tup [],[.box [.own 3,.int .i64 room,.mapv 2,.int .i64 (tpE l room e x)],.dead,.map sq (.int .i64) (.int .i64) h,.row false (.int .u8) (tpB l room e x)]))
 | _,_=>none
theorem yp_:ze_ Tryz.prog 22 (RwF KW_).sum:=by
 refine ZJ_ Tryz.func22 Yx_ (za_ (s:=RoF Zu_) ZO_ (za_ (s:=RwF zB_) zP_ (za_ (s:=RwF zz_) zJ_ (zd_ _)))) fun args objs p v o e=>?_
 unfold KW_ at e
 split at e
 ·rename_i ty0 x room e l sq h
  obtain rfl:=qS_ e
  replace e:=qT_ e
  cases e
  refine ⟨rfl,fun hw ho hp=>?_⟩
  change List Int at l
  have hx:=bH_ x
  clear hw ho
  repeat'(intro t ht;first|(cases t<;>first|(cases ht;done)|(try simp only[zg_]at ht;try(exfalso;first|contradiction|omega)))|((first|refine zb_ ht ?_|refine ht ?_ ?_|refine ht.1 ?_ ?_|refine ht ?_)<;>clear ht))
  all_goals first
   | exact True.intro
   | exact hp.1
   | exact ⟨hp.2.1,hp.2.2.1,hp.2.2.2,Nat.le_trans hx (by decide)⟩
   | exact ⟨rfl,rfl⟩
 ·cases e
def u5_:IR:=
(sq (kr [0,1] [oD 4 (.nilrow (.int .u8)),
oD 5 (.mov cF)])
(sq (sq (kr [0,1] [oM 9 0,
oC 10 57 [9],
oD 11 (.un .not 10),
oM 12 11,
oF 12 13 (.mov 0),
oF 12 14 (.call false (.f 105) [13]),
oF 12 15 (.mov 1),
oF 12 16 (.len 15),
oF 12 17 (.bin .neq 14 16),
oP 18 12 cT 17])
(.cond 18
(sq (kr [] [oD 4 (.nilrow (.int .u8)),
oD 5 (.mov cF)])
.ret)
.skip))
(sq (kr [0,1] [oD 6 (.nilrow (.int .u8))])
(sq (.reg [oD 7 (.mov (cI 0))])
(sq (sq (.reg [oD 8 (.mov (cI 0))])
(.block 0
(.loop
(sq (sq (kr [0,1,6,7,8] [oM 19 8,
oM 20 0,
oE 21 20,
oB 22 .lss 19 21])
(.cond 22
.skip
(.exit 0)))
(sq (.block 1
(sq (sq (kr [0,1,6,7,8] [oM 25 0,
oM 26 8,
oI 27 1 25 26,
oL 28 27,
oB 29 .lss 28 (cI 0)])
(.cond 29
(sq (kr [0,1,6,7,8] [oM 30 6,
oM 31 0,
oM 32 8,
oI 33 1 31 32,
oL 34 33,
oD 35 (.un .neg 34),
oD 36 (.appendz (.int .u8) 1 (0:Int) 30 35),
oM 6 36])
(.exit 1))
.skip))
(sq (sq (kd [0,1,6,7,8] [(oM 37 1,[]),
(oM 38 7,[0]),
(oI 39 1 37 38,[]),
(oL 40 39,[]),
(oM 41 0,[0,0,0,0]),
(oM 42 8,[0,0,0,0,0]),
(oI 43 1 41 42,[2,0,0,0]),
(oL 44 43,[3,0,0,0]),
(oC 45 106 [40,44],[]),
(oD 46 (.un .not 45),[])])
(.cond 46
(sq (kr [] [oD 4 (.nilrow (.int .u8)),
oD 5 (.mov cF)])
.ret)
.skip))
(sq (kd [0,1,6,7,8] [(oM 47 6,[]),
(oM 48 1,[0]),
(oM 49 7,[0,0]),
(oI 50 1 48 49,[2]),
(oL 51 50,[3]),
(oM 52 0,[0,0,0,0,0]),
(oM 53 8,[0,0,0,0,0,0]),
(oI 54 1 52 53,[2,0,0,0,0]),
(oL 55 54,[3,0,0,0,0]),
(oC 56 104 [51,55],[8]),
(oD 57 (.append (.int .u8) 1 47 56),[]),
(oM 6 57,[])])
(kr [0,1,6,7,8] [oM 58 7,
oB 59 .add 58 (cI 1),
oM 7 59])))))
(kr [0,1,6,7,8] [oM 23 8,
oB 24 .add 23 (cI 1),
oM 8 24]))))))
(sq (kr [6] [oM 60 6,
oM 4 60,
oD 5 (.mov cT)])
.ret))))))
def uk_:List RD:=[.tmp 4 false none,.tmp 5 false none]
theorem uD_:zo_ Tryz.prog Tryz.f75 u5_ uk_=true:=by kernel_rfl
def wI_:List AV->List Obj->Option (Prop × AV × List Obj)
 | [.imm (.int .i64) w,.imm (.int .u64) xs],[]=>some ((True,.tup [.own 0,.bool (Kq_ w xs)],[.row false (.int .u8) (Kr_ w xs)]))
 | _,_=>none
theorem vz_:ze_ Tryz.prog 75 (RwF wI_).sum:=by
 refine ZJ_ Tryz.func75 uD_ (za_ (s:=RoF KG_) Wm_ (za_ (s:=RoF wJ_) vA_ (za_ (s:=RoF WZ_) V7_ (za_ (s:=RwF ji_) JR_ (zd_ _))))) fun args objs p v o e=>?_
 unfold wI_ at e
 split at e
 ·rename_i w xs
  cases e
  refine ⟨rfl,fun hw ho hp=>?_⟩
  change List Int at w
  change List Int at xs
  have hx:xs.length<=maxLen:=(hw (.imm (.int .u64) xs) (by simp)).2
  unfold maxLen at hx
  repeat'(intro t ht;first|(cases t<;>first|(cases ht;done)|(try simp only[zg_]at ht))|((first|refine zb_ ht ?_|refine ht ?_ ?_|refine ht.1 ?_ ?_|refine ht ?_)<;>clear ht))
  all_goals first
   | exact True.intro
   | (intro r h1 h2;clear h1;refine h2 ⟨[0,1,6,7,8],Nat × Nat × List Int,(fun a=>a.1<=w.length/\(a.2.2.length:Int)=k7_ zD_ w a.1/\k7_ ZQ_ w a.1=a.2.1/\KO_ w xs []=KO_ (w.drop a.1) (xs.drop a.2.1) a.2.2),fun a=>[.imm (.int .i64) w,.imm (.int .u64) xs,.own 0,.int .i64 a.2.1,.int .i64 a.1],fun a=>[.row false (.int .u8) a.2.2],fun a=>w.length - a.1,⟨(0,0,[]),⟨Nat.zero_le _,rfl,rfl,rfl⟩,rfl,rfl⟩,?_⟩;clear h2)
   | ((try simp only [zF_,zG_,zk_] at*);omega)
   | (have hn:¬ (zL_ w=true/\Z4_ w=xs.length):=fun h=>by simp_all
      unfold Kr_ Kq_ KN_;rw [if_neg hn];exact ⟨rfl,rfl⟩)
  rintro ⟨i,k,b⟩ ⟨hi,hb,hk,he⟩
  dsimp only at hi hb hk he
  have hr:zL_ w=true:=by assumption
  have hc:Z4_ w=xs.length:=by assumption
  have hsum:(w.map ZQ_).sum=xs.length:=by unfold Z4_ at hc;rwa [if_pos hr] at hc
  have hl:=(Zf_.1 hr).1
  have hs:=W8_ hr i
  have h1:=W7_ hr i
  repeat'(intro t ht;first|(cases t<;>first|(cases ht;done)|(try simp only[zg_]at ht))|((first|refine zb_ ht ?_|refine ht ?_ ?_|refine ht.1 ?_ ?_|refine ht ?_)<;>clear ht))
  all_goals first
   | ((try simp only [zF_,zG_,zk_] at*);omega)
   | (have hge:w.length<=i:=by omega
      rw [List.drop_of_length_le hge] at he
      have hf:KN_ w xs=some b:=by unfold KN_;rw [if_pos ⟨hr,hc⟩,he];rfl
      unfold Kr_ Kq_;rw [hf];exact ⟨rfl,rfl⟩)
   | skip
  all_goals have hlt:i < w.length:=by omega
  all_goals have hkk:=(Zf_.1 hr).2 _ (zn_ (α:=Int) hlt 0)
  all_goals first
   | ((try simp only [zF_,zG_,zk_] at*);omega)
   | (have hn:w.getD i 0 < 0:=by assumption
      have ha:=xP_ hn
      have h0:ZQ_ (w.getD i 0)=0:=if_neg (by omega)
      have hbl:=Zd_ (n:=0) (w:=0 - w.getD i 0) (by omega)
      first
       | ((try simp only [zF_,zG_,zk_] at*);omega)
       | (refine ⟨(i+1,k,b++zq_ 0 (0 - w.getD i 0)),⟨hlt,?_,?_,?_⟩,by dsimp only;omega,rfl,?_⟩
          ·rw [Zs_ zD_ hlt,ha];simp only [List.length_append];omega
          ·rw [Zs_ ZQ_ hlt,h0];dsimp only;omega
          ·rw [he];exact UY_ hlt hn
          ·dsimp only;rw [<- g2_];rfl))
   | (have hn:¬ w.getD i 0 < 0:=by assumption
      have hlt2:=hQ_ (w:=w) (i:=i) hlt (by omega)
      have h2:k < xs.length:=by omega
      first
       | ((try simp only [zF_,zG_,zk_] at*);omega)
       | (have h8:=bc_ (by assumption) hkk.2.1
          have hf:KN_ w xs=none:=by unfold KN_;rw [if_pos ⟨hr,hc⟩,he];exact Vj_ hlt hn h2 h8.1 h8.2
          unfold Kr_ Kq_;rw [hf];exact ⟨rfl,rfl⟩)
       | (have h8:=BS_ (by assumption)
          have ha:=y0_ hn
          have h0:ZQ_ (w.getD i 0)=1:=if_pos (by omega)
          have hbl:=Zd_ (n:=xs.getD k 0) (w:=w.getD i 0) (by omega)
          first
           | (simp only [Ke_];(try simp only [zF_,zG_,zk_] at*);omega)
           | (refine ⟨(i+1,k+1,b++zq_ (xs.getD k 0) (w.getD i 0)),⟨hlt,?_,?_,?_⟩,by dsimp only;omega,rfl,rfl⟩
              ·rw [Zs_ zD_ hlt,ha];simp only [List.length_append];omega
              ·rw [Zs_ ZQ_ hlt,h0];dsimp only;omega
              ·rw [he];exact Vi_ hlt hn h2 h8)))
 ·cases e
theorem hU_ {w n:Int} (h0:0<=n) (h1:n<=18446744073709551615) (hw:w=1\/w=2\/w=4):yr_ [w] [n]=if n < 256 ^ w.toNat then some (zq_ n w) else none:=by
 have hR:zL_ [w]=true/\Z4_ [w]=(([n]:List Int).length:Int):=by
  show zL_ [w]=true/\Z4_ [w]=1
  rcases hw with rfl | rfl | rfl<;>exact ⟨by decide,by decide⟩
 have hF:KN_ [w] [n]=if n < 256 ^ w.toNat then some (zq_ n w) else none:=by
  unfold KN_
  rw [if_pos hR]
  simp only [KO_]
  rw [if_neg (by omega)]
  by_cases c:w < 8/\n.fdiv (2 ^ (min (8*w).toNat 64)) ≠ 0
  ·rw [if_pos c,if_neg fun h=>G2_ h0 (by omega) (by omega) h c]
  ·rw [if_neg c,if_pos (BT_ h0 h1 (by omega) (by omega) c),List.nil_append]
 unfold yr_ Kq_ Kr_
 rw [hF]
 by_cases h:n < 256 ^ w.toNat
 ·rw [if_pos h];rfl
 ·rw [if_neg h];rfl
theorem zcy_ {n:Int} (h0:0<=n) (h1:n<=18446744073709551615):yr_ [2,2] [n,4]=if n<=65535 then some (zq_ n 2++[0,4]) else none:=by
 by_cases h:n<=65535
 ·obtain ⟨a,b⟩:=zb5_ (a:=n) (n:=4) ⟨h0,h⟩ (by omega)
  unfold yr_;rw [if_pos b,a,if_pos h];rfl
 ·have hF:KN_ [2,2] [n,4]=none:=by
   unfold KN_
   rw [if_pos ⟨by decide,(by decide:Z4_ [2,2]=2)⟩]
   simp only [KO_]
   rw [if_neg (by omega),if_pos]
   refine ⟨by omega,fun hz=>h ?_⟩
   have:=BT_ (n:=2) h0 h1 (by omega) (by omega) (fun c=>c.2 hz)
   have:n < 65536:=this
   omega
  unfold yr_ Kq_;rw [hF,if_neg h];rfl
theorem zca_ {t n:Int} (h:tyT t=true) (h0:0<=n) (h1:n<=18446744073709551615):nbO t n=if n<=65535 then some (zq_ n 2++[0,4]) else none:=by
 unfold nbO;rw [if_pos h];exact zcy_ h0 h1
theorem zc4_ {n:Int} (h0:0<=n) (h1:n<=255):zq_ n 1=[n]:=by
 have:=yh_ 1 [n] (by decide) rfl (fun x hx=>by rw [List.mem_singleton] at hx;omega)
 have e:Zy_ [n]=n:=by unfold Zy_;simp
 rw [e] at this;exact this
theorem nb_1 {t n:Int} (h:tyT t=false) (hs:szT t=1) (h0:0<=n) (h1:n<=18446744073709551615):nbO t n=if n<=254 then some [n] else none:=by
 unfold nbO wdT
 rw [if_neg (by rw [h];decide),if_pos hs]
 by_cases c:n<=254
 ·rw [if_neg (by omega),if_pos c,hU_ h0 h1 (.inl rfl),if_pos (by show n < 256;omega),zc4_ h0 (by omega)]
 ·rw [if_pos ⟨hs,by omega⟩,if_neg c]
theorem nb_4 {t n:Int} (h:tyT t=false) (hs:¬ szT t=1) (h0:0<=n) (h1:n<=18446744073709551615):nbO t n=if n < 4294967296 then some (zq_ n 4) else none:=by
 unfold nbO wdT
 rw [if_neg (by rw [h];decide),if_neg fun c=>hs c.1,if_neg hs,hU_ h0 h1 (.inr (.inr rfl))]
 rfl
def fwY (f:FV):List Int:=(fbW f).getD []
theorem Hp_ {f:FV} {y:List Int} (h:fbW f=some y):fwY f=y/\fbK f=decide ((y.length:Int)<=65524)/\(y.length<=65524->fbY f=y):=by
 unfold fwY fbK fbY fnG
 rw [h]
 refine ⟨rfl,?_,fun c=>?_⟩
 ·dsimp only
  by_cases c:(y.length:Int)<=65524
  ·simp only [if_neg (show ¬ (65524:Int) < y.length by omega),decide_eq_true c];rfl
  ·simp only [if_pos (show (65524:Int) < y.length by omega),decide_eq_false c];rfl
 ·dsimp only;rw [if_neg (by omega)]
theorem Ue_ {f:FV} (h:fbW f=none):fwY f=[]/\fbK f=false:=by
 unfold fwY fbK fnG;rw [h];exact ⟨rfl,rfl⟩
def gx_:IR:=
(sq (kr [0] [oD 1 (.boxv 0),
oD 2 (.nilrow (.int .u8)),
oD 3 (.mov cF)])
(sq (sq (kr [1] [oA 7 0 1,
oL 8 7,
oC 9 48 [8],
oB 10 .eql 9 (cI 0),
oM 11 10,
oF 11 12 (.fieldAddr 0 1),
oF 11 13 (.load none 12),
oF 11 14 (.call false (.f 60) [13]),
oF 11 15 (.mov 14),
oT 15 16 (.fieldAddr 1 1),
oT 15 17 (.load none 16),
oT 15 18 (.len 17),
oT 15 19 (.bin .neq 18 (cI 2)),
oF 11 20 (.pick 15 19 cF),
oP 21 11 cT 20,
oM 22 21,
oF 22 23 (.fieldAddr 0 1),
oF 22 24 (.load none 23),
oF 22 25 (.call false (.f 60) [24]),
oF 22 26 (.un .not 25),
oF 22 27 (.mov 26),
oT 27 28 (.fieldAddr 2 1),
oT 27 29 (.load none 28),
oT 27 30 (.len 29),
oT 27 31 (.bin .gtr 30 (cI 0)),
oF 22 32 (.pick 27 31 cF),
oP 33 22 cT 32])
(.cond 33
(sq (kr [] [oD 2 (.nilrow (.int .u8)),
oD 3 (.mov cF)])
.ret)
.skip))
(sq (kr [1] [oD 4 (.nilrow (.int .u8))])
(sq (sq (.reg [oD 5 (.mov (cI 0))])
(.block 0
(.loop
(sq (sq (kr [1,4,5] [oM 34 5,
oA 35 1 1,
oL 36 35,
oE 37 36,
oB 38 .lss 34 37])
(.cond 38
.skip
(.exit 0)))
(sq (.block 1
(sq (kr [1,4,5] [oA 41 1 1,
oL 42 41,
oM 43 5,
oI 44 1 42 43,
oL 45 44,
oM 6 45])
(.block 2
(sq (.reg [oA 53 0 1,
oL 54 53,
oC 55 61 [54],
oM 52 55])
(.cond 52
(sq (sq (kr [1,4,5,6] [oM 56 6,
oB 57 .gtr 56 (.c (.int .u64 65535))])
(.cond 57
(sq (.reg [oD 2 (.nilrow (.int .u8)),
oD 3 (.mov cF)])
.ret)
.skip))
(kr [1,4,5,6] [oM 58 4,
oM 59 6,
oC 60 104 [59,(cI 2)],
oD 61 (.append (.int .u8) 1 58 60),
oD 62 (.sliceAll (.int .u8) 2 [(0,1,(.c (.int .u8 0))),(1,1,(.c (.int .u8 4)))]),
oD 63 (.append (.int .u8) 1 61 62),
oM 4 63]))
(sq (kr [1,4,5,6] [oA 65 0 1,
oL 66 65,
oC 67 48 [66],
oB 68 .eql 67 (cI 1),
oM 64 68])
(.cond 64
(sq (sq (.reg [oM 69 6,
oB 70 .gtr 69 (.c (.int .u64 254))])
(.cond 70
(sq (kr [] [oD 2 (.nilrow (.int .u8)),
oD 3 (.mov cF)])
.ret)
.skip))
(kr [1,4,5,6] [oM 71 4,
oM 72 6,
oD 73 (.conv .u8 72),
oD 74 (.sliceAll (.int .u8) 1 [(0,1,73)]),
oD 75 (.append (.int .u8) 1 71 74),
oM 4 75]))
(sq (sq (.reg [oM 46 6,
oB 47 .geq 46 (.c (.int .u64 4294967296))])
(.cond 47
(sq (kr [] [oD 2 (.nilrow (.int .u8)),
oD 3 (.mov cF)])
.ret)
.skip))
(kr [1,4,5,6] [oM 48 4,
oM 49 6,
oC 50 104 [49,(cI 4)],
oD 51 (.append (.int .u8) 1 48 50),
oM 4 51])))))))))
(kr [1,4,5] [oM 39 5,
oB 40 .add 39 (cI 1),
oM 5 40]))))))
(sq (kr [1,4] [oM 76 4,
oA 77 2 1,
oL 78 77,
oD 79 (.append (.int .u8) 1 76 78),
oM 4 79])
(sq (kr [4] [oM 80 4,
oM 81 4,
oE 82 81,
oB 83 .add (cI 4) 82,
oB 84 .leq 83 (cI 65528),
oM 2 80,
oM 3 84])
.ret))))))
def UR_:List RD:=[.tmp 2 true (some (.int .u8)),.tmp 3 true none]
theorem U8_:zo_ Tryz.prog Tryz.f73 gx_ UR_=true:=by kernel_rfl
def WX_:List AV->List Obj->Option (Prop × AV)
 | [.agg [.int .i64 tt,.imm (.int .u64) n,.imm (.int .u8) d]],[]=>some ((n.length<=100000/\d.length<=1000000,.tup [.imm (.int .u8) (fwY (tt,n,d,())),.bool (fbK (tt,n,d,()))]))
 | _,_=>none
theorem V5_:ze_ Tryz.prog 73 (RoF WX_).sum:=by
 refine zs_ Tryz.func73 U8_ (za_ (s:=RoF jZ_) xb_ (za_ (s:=RoF kZ_) JQ_ (za_ (s:=RoF wE_) vv_ (za_ (s:=RwF ji_) JR_ (zd_ _))))) fun args objs p v e=>?_
 unfold WX_ at e
 split at e
 ·rename_i tt n d
  cases e
  refine ⟨rfl,fun hw ho hp=>?_⟩
  change List Int at n
  change List Int at d
  have hnb:∀ x ∈ (n:List Int),(0:Int)<=x/\x<=18446744073709551615:=by
   have h1:=(hw (.agg [.int .i64 tt,.imm (.int .u64) n,.imm (.int .u8) d]) (List.mem_cons_self ..)) (.imm (.int .u64) n) (by simp)
   exact fun x hx=>h1.1 x hx
  clear hw ho
  change List Int at n
  obtain ⟨hn,hd⟩:=hp
  cases hk:kdF (tt,n,d,()) with
  | false=>
    obtain ⟨e1,e2⟩:=Ue_ (show fbW (tt,n,d,())=none by unfold fbW;rw [hk];rfl)
    rw [e1,e2]
    have h3:=zcd_ hk
    dsimp only at h3
    rcases h3 with h3 | ⟨h3,h4,h5⟩ | ⟨h3,h4,h5⟩
    all_goals repeat'(intro t ht;first|(cases t<;>first|(cases ht;done)|(try simp only[zg_]at ht;try(exfalso;first|contradiction|omega)))|((first|refine zb_ ht ?_|refine ht ?_ ?_|refine ht.1 ?_ ?_|refine ht ?_)<;>clear ht))
    all_goals first
     | exact True.intro
     | exact ⟨rfl,rfl⟩
     | (exfalso;simp_all;done)
     | (exfalso;simp_all;omega)
  | true=>
    have hW:fbW (tt,n,d,())=j7_ (Kt_ (nbO tt) n) (some d):=by unfold fbW;rw [if_pos hk]
    have h3:=G7_ hk
    dsimp only at h3
    obtain ⟨h3,h4⟩:=h3
    repeat'(intro t ht;first|(cases t<;>first|(cases ht;done)|(try simp only[zg_]at ht;try(exfalso;first|contradiction|omega)))|((first|refine zb_ ht ?_|refine ht ?_ ?_|refine ht.1 ?_ ?_|refine ht ?_)<;>clear ht))
    all_goals first
     | exact True.intro
     | (exfalso;rcases h4 with ⟨h4,h5⟩ | ⟨h4,h5⟩<;>simp_all;done)
     | (intro r h1 h2;clear h1;refine h2 ⟨[1,4,5],Nat × List Int,(fun a=>a.1<=n.length/\a.2.length<=a.1*8/\Kt_ (nbO tt) n=j7_ (some a.2) (Kt_ (nbO tt) (n.drop a.1))),fun a=>[.ptr 0 0,.own 1,.int .i64 a.1],fun a=>[.box [.int .i64 tt,.imm (.int .u64) n,.imm (.int .u8) d],.row false (.int .u8) a.2],fun a=>n.length - a.1,⟨(0,[]),⟨Nat.zero_le _,by simp,(UC_ _).symm⟩,rfl,rfl⟩,?_⟩;clear h2)
    all_goals rintro ⟨i,o⟩ ⟨hi,ho,he⟩
    all_goals dsimp only at hi ho he
    all_goals have hst:=fun h:i < n.length=>VS_ (o:=nbO tt) h 0
    all_goals have hx:=fun h:i < n.length=>hnb _ (zn_ h 0)
    all_goals have hend:n.length<=i->fbW (tt,n,d,())=some (o++d):=fun h=>by rw [hW,he,List.drop_of_length_le h];show some ((o++[])++d)=_;rw [List.append_nil]
    all_goals have hbad:(h:i < n.length)->nbO tt (n.getD i 0)=none->fbW (tt,n,d,())=none:=fun h k=>by rw [hW,he,hst h,k];cases Kt_ (nbO tt) (n.drop (i+1))<;>rfl
    all_goals have hgo:∀ y,(h:i < n.length)->nbO tt (n.getD i 0)=some y->Kt_ (nbO tt) n=j7_ (some (o++y)) (Kt_ (nbO tt) (n.drop (i+1))):=fun y h k=>by rw [he,hst h,k,<- y4_];rfl
    all_goals have b2n:∀ z,(zq_ z 2).length=2:=fun z=>by have:=Zd_ (n:=z) (w:=2) (by decide);omega
    all_goals have b4n:∀ z,(zq_ z 4).length=4:=fun z=>by have:=Zd_ (n:=z) (w:=4) (by decide);omega
    all_goals have b2:=Zd_ (n:=n.getD i 0) (w:=2) (by decide)
    all_goals have b4:=Zd_ (n:=n.getD i 0) (w:=4) (by decide)
    all_goals repeat'(intro t ht;first|(cases t<;>first|(cases ht;done)|(try simp only[zg_]at ht;try(exfalso;first|contradiction|omega)))|((first|refine zb_ ht ?_|refine ht ?_ ?_|refine ht.1 ?_ ?_|refine ht ?_)<;>clear ht))
    all_goals first
     | exact True.intro
     | omega
     | ((try dsimp only);simp only [zk_];omega)
     | ((try simp only [zF_,zG_,zk_] at*);omega)
     | (simp only [zk_,List.length_append];omega)
     | (simp only [Int.toNat_natCast,List.length_append,List.length_cons,List.length_nil,b2n,b4n];constructor<;>omega)
     | (have hl:=hx (by omega)
        refine ⟨?_,rfl⟩
        have e0:nbO tt (n.getD i 0)=none:=by
         first
          | (rw [zca_ (by assumption) hl.1 hl.2,if_neg (by omega)])
          | (rw [nb_1 (by assumption) (by assumption) hl.1 hl.2,if_neg (by omega)])
          | (rw [nb_4 (by assumption) (by assumption) hl.1 hl.2,if_neg (by omega)])
        obtain ⟨e1,e2⟩:=Ue_ (hbad (by omega) e0)
        rw [e1,e2];done)
     | (have hl:=hx (by omega)
        first
         | (have e0:=zca_ (t:=tt) (n:=n.getD i 0) (by assumption) hl.1 hl.2
            rw [if_pos (by omega)] at e0
            refine ⟨(i+1,_),⟨by dsimp only;omega,?_,hgo _ (by omega) e0⟩,by dsimp only;omega,rfl,?_⟩
            ·dsimp only;simp only [List.length_append,List.length_cons,List.length_nil];omega
            ·dsimp only;rw [<- List.append_assoc];rfl)
         | (have e0:=nb_1 (t:=tt) (n:=n.getD i 0) (by assumption) (by assumption) hl.1 hl.2
            rw [if_pos (by omega)] at e0
            refine ⟨(i+1,_),⟨by dsimp only;omega,?_,hgo _ (by omega) e0⟩,by dsimp only;omega,rfl,?_⟩
            ·dsimp only;simp only [List.length_append,List.length_cons,List.length_nil];omega
            ·dsimp only;first | rfl | (rw [wQ_,Int.emod_eq_of_lt (by omega) (by omega)]))
         | (have e0:=nb_4 (t:=tt) (n:=n.getD i 0) (by assumption) (by assumption) hl.1 hl.2
            rw [if_pos (by omega)] at e0
            refine ⟨(i+1,_),⟨by dsimp only;omega,?_,hgo _ (by omega) e0⟩,by dsimp only;omega,rfl,?_⟩
            ·dsimp only;simp only [List.length_append];omega
            ·rfl))
     | (have e0:=hend (by omega)
        obtain ⟨e1,e2,_⟩:=Hp_ e0
        have e3:decide (4+(((o++d).length:Nat):Int)<=65528)=decide (((o++d).length:Int)<=65524):=decide_eq_decide.2 (by omega)
        rw [e1,e2,<- e3];exact ⟨rfl,rfl⟩)
 ·cases e
def u3_:IR:=
(sq (kr [0,1] [oD 4 (.mov (cI 0))])
(sq (.reg [oD 5 (.mov (cI 0))])
(sq (.block 0
(.loop
(sq (sq (kr [0,1,5] [oM 6 0,
oM 7 5,
oB 8 .add 6 7,
oM 9 1,
oB 10 .rem 8 9,
oB 11 .neq 10 (cI 0)])
(.cond 11
.skip
(.exit 0)))
(.block 1
(kr [0,1,5] [oM 12 5,
oB 13 .add 12 (cI 1),
oM 5 13])))))
(sq (kr [5] [oM 14 5,
oM 4 14])
.ret))))
def ui_:List RD:=[.tmp 4 true none]
theorem uB_:zo_ Tryz.prog Tryz.f59 u3_ ui_=true:=by kernel_rfl
def wH_:List AV->List Obj->Option (Prop × AV)
 | [.int .i64 n,.int .i64 st],[]=>some ((0<=n/\n<=100000/\st=8,.int .i64 (zr n)))
 | _,_=>none
theorem vy_:ze_ Tryz.prog 59 (RoF wH_).sum:=by
 refine zs_ Tryz.func59 uB_ (zd_ _) fun args objs p v e=>?_
 unfold wH_ at e
 split at e
 ·rename_i n st
  cases e
  refine ⟨rfl,fun hw ho hp=>?_⟩
  clear hw ho
  obtain ⟨h0,h1,rfl⟩:=hp
  have hz:=Gl_ h0
  repeat'(intro t ht;first|(cases t<;>first|(cases ht;done)|(try simp only[zg_]at ht;try(exfalso;first|contradiction|omega)))|((first|refine zb_ ht ?_|refine ht ?_ ?_|refine ht.1 ?_ ?_|refine ht ?_)<;>clear ht))
  all_goals first
   | exact True.intro
   | (intro r h1 h2;clear h1;refine h2 ⟨[0,1,5],Nat,(fun k=>(k:Int)<=zr n),fun k=>[.int .i64 n,.int .i64 8,.int .i64 k],fun _=>[],fun k=>(zr n).toNat - k,⟨0,hz.1,rfl,rfl⟩,?_⟩;clear h2)
  rintro k hk
  have hm:(n+(k:Int)).tmod 8=(n+k) % 8:=Int.tmod_eq_emod_of_nonneg (by omega)
  repeat'(intro t ht;first|(cases t<;>first|(cases ht;done)|(try simp only[zg_]at ht;try(exfalso;first|contradiction|omega)))|((first|refine zb_ ht ?_|refine ht ?_ ?_|refine ht.1 ?_ ?_|refine ht ?_)<;>clear ht))
  all_goals first
   | exact True.intro
   | decide
   | omega
   | ((try dsimp only);simp only [zk_];omega)
   | (have e:(k:Int)=zr n:=by omega
      exact ⟨congrArg (AV.int .i64) e,rfl⟩)
   | exact ⟨k+1,by dsimp only;omega,by dsimp only;omega,rfl,rfl⟩
 ·cases e
def hg_:IR:=
(sq (kr [0] [oD 1 (.boxv 0),
oD 2 (.mov cF)])
(sq (kr [1] [oA 3 0 1,
oL 4 3,
oB 5 .geq 4 (cI 4),
oM 6 5,
oT 6 7 (.fieldAddr 0 1),
oT 6 8 (.load none 7),
oT 6 9 (.bin .leq 8 (cI 60000)),
oP 10 6 9 cF,
oM 11 10,
oT 11 12 (.fieldAddr 1 1),
oT 11 13 (.load none 12),
oT 11 14 (.bin .geq 13 (cI 1)),
oP 15 11 14 cF,
oM 16 15,
oT 16 17 (.fieldAddr 1 1),
oT 16 18 (.load none 17),
oT 16 19 (.bin .leq 18 (cI 64)),
oP 20 16 19 cF,
oM 21 20,
oT 21 22 (.fieldAddr 3 1),
oT 21 23 (.load none 22),
oT 21 24 (.bin .neq 23 (cI 0)),
oP 25 21 24 cF,
oM 26 25,
oT 26 27 (.fieldAddr 4 1),
oT 26 28 (.load none 27),
oT 26 29 (.bin .neq 28 (cI 0)),
oP 30 26 29 cF,
oM 2 30])
.ret))
def GC_:List RD:=[.tmp 2 true none]
theorem GP_:zo_ Tryz.prog Tryz.f58 hg_ GC_=true:=by kernel_rfl
def XU_:List AV->List Obj->Option (Prop × AV)
 | [.agg [.int .i64 least,.int .i64 step,.bool pad,.int .i64 bad,.int .i64 odd]],[]=>some ((4<=least/\least<=60000/\1<=step/\step<=64/\bad ≠ 0/\odd ≠ 0,.bool true))
 | _,_=>none
theorem UK_:ze_ Tryz.prog 58 (RoF XU_).sum:=by
 refine zs_ Tryz.func58 GP_ (zd_ _) fun args objs p v e=>?_
 unfold XU_ at e
 split at e
 ·rename_i least step pad bad odd
  cases e
  refine ⟨rfl,fun hw ho hp=>?_⟩
  clear hw ho
  obtain ⟨h1,h2,h3,h4,h5,h6⟩:=hp
  repeat'(intro t ht;first|(cases t<;>first|(cases ht;done)|(try simp only[zg_]at ht;try(exfalso;first|contradiction|omega)))|((first|refine zb_ ht ?_|refine ht ?_ ?_|refine ht.1 ?_ ?_|refine ht ?_)<;>clear ht))
  all_goals first
   | exact True.intro
   | exact ⟨rfl,rfl⟩
   | (exfalso;omega)
   | (refine ⟨congrArg AV.bool ?_,rfl⟩;simp;omega)
 ·cases e
def gA_:IR:=
(sq (kr [0,1] [oD 2 (.boxv 0),
oD 4 (.nilrow (.int .u8)),
oD 5 (.mov (cI 0))])
(sq (sq (.reg [oK 9 5 2,
oC 10 58 [9],
oD 11 (.un .not 10)])
(.cond 11
(sq (kr [] [oD 4 (.nilrow (.int .u8)),
oD 5 (.mov (cI 10001))])
.ret)
.skip))
(sq (kr [1,2] [oD 6 (.nilrow (.int .u8))])
(sq (sq (.reg [oD 7 (.mov (cI 0))])
(.block 0
(.loop
(sq (sq (kr [1,2,6,7] [oM 12 7,
oM 13 1,
oE 14 13,
oB 15 .lss 12 14])
(.cond 15
.skip
(.exit 0)))
(sq (.block 1
(sq (kr [1,2,6,7] [oM 18 1,
oM 19 7,
oI 20 2 18 19,
oA 21 1 20,
oL 22 21,
oE 23 22,
oB 24 .add (cI 4) 23,
oM 8 24])
(sq (sq (kr [1,2,6,7,8] [oM 25 1,
oM 26 7,
oI 27 2 25 26,
oA 28 0 27,
oL 29 28,
oB 30 .lss 29 (cI 0),
oM 31 30,
oF 31 32 (.mov 1),
oF 31 33 (.mov 7),
oF 31 34 (.indexSl 2 32 33),
oF 31 35 (.fieldAddr 0 34),
oF 31 36 (.load none 35),
oF 31 37 (.bin .gtr 36 (cI 65535)),
oP 38 31 cT 37,
oM 39 38,
oF 39 40 (.mov 8),
oF 39 41 (.fieldAddr 0 2),
oF 39 42 (.load none 41),
oF 39 43 (.bin .lss 40 42),
oP 44 39 cT 43,
oM 45 44,
oF 45 46 (.mov 8),
oF 45 47 (.bin .gtr 46 (cI 65535)),
oP 48 45 cT 47,
oM 49 48,
oF 49 50 (.fieldAddr 2 2),
oF 49 51 (.load none 50),
oF 49 52 (.un .not 51),
oF 49 53 (.mov 52),
oT 53 54 (.mov 8),
oT 53 55 (.fieldAddr 1 2),
oT 53 56 (.load none 55),
oT 53 57 (.bin .rem 54 56),
oT 53 58 (.bin .neq 57 (cI 0)),
oF 49 59 (.pick 53 58 cF),
oP 60 49 cT 59])
(.cond 60
(sq (kr [] [oD 4 (.nilrow (.int .u8)),
oD 5 (.mov (cI 10001))])
.ret)
.skip))
(sq (kr [1,2,6,7,8] [oM 61 6,
oM 62 1,
oM 63 7,
oI 64 2 62 63,
oA 65 0 64,
oL 66 65,
oD 67 (.conv .u64 66),
oC 68 104 [67,(cI 2)],
oD 69 (.append (.int .u8) 1 61 68),
oM 70 8,
oD 71 (.conv .u64 70),
oC 72 104 [71,(cI 2)],
oD 73 (.append (.int .u8) 1 69 72),
oM 6 73])
(sq (kr [1,2,6,7,8] [oM 74 6,
oM 75 1,
oM 76 7,
oI 77 2 75 76,
oA 78 1 77,
oL 79 78,
oD 80 (.append (.int .u8) 1 74 79),
oM 6 80])
(sq (kr [1,2,6,7,8] [oA 81 2 2,
oL 82 81])
(.cond 82
(kr [1,2,6,7,8] [oM 83 6,
oM 84 8,
oA 85 1 2,
oL 86 85,
oC 87 59 [84,86],
oD 88 (.appendz (.int .u8) 1 (0:Int) 83 87),
oM 6 88])
.skip)))))))
(kr [1,2,6,7] [oM 16 7,
oB 17 .add 16 (cI 1),
oM 7 17]))))))
(sq (kr [6] [oM 89 6,
oM 4 89,
oD 5 (.mov (cI 0))])
.ret)))))
def UU_:List RD:=[.tmp 4 true (some (.int .u8)),.tmp 5 true none]
theorem gb_:zo_ Tryz.prog Tryz.f74 gA_ UU_=true:=by kernel_rfl
def WY_:List AV->List Obj->Option (Prop × AV)
 | [.agg [.int .i64 least,.int .i64 step,.bool pad,.int .i64 bad,.int .i64 odd],.imm (.cons (.int .i64) (.cons (.sl (.int .u8)) .nil)) l],[]=>some ((pad=true/\least=4/\step=8/\bad ≠ 0/\odd ≠ 0/\okJ l,.tup [.imm (.int .u8) (jnP l),.int .i64 0]))
 | _,_=>none
theorem V6_:ze_ Tryz.prog 74 (RoF WY_).sum:=by
 refine zs_ Tryz.func74 gb_ (za_ (s:=RoF XU_) UK_ (za_ (s:=RwF ji_) JR_ (za_ (s:=RoF wH_) vy_ (zd_ _)))) fun args objs p v e=>?_
 unfold WY_ at e
 split at e
 ·rename_i least step pad bad odd l
  cases e
  refine ⟨rfl,fun hw ho hp=>?_⟩
  change List EV at l
  clear hw ho
  obtain ⟨rfl,rfl,rfl,hbad,hodd,hok⟩:=hp
  have hn:=hok.n
  repeat'(intro t ht;first|(cases t<;>first|(cases ht;done)|(try simp only[zg_]at ht;try(exfalso;first|contradiction|omega)))|((first|refine zb_ ht ?_|refine ht ?_ ?_|refine ht.1 ?_ ?_|refine ht ?_)<;>clear ht))
  all_goals first
   | exact True.intro
   | exact ⟨by decide,by decide,by decide,by decide,hbad,hodd⟩
   | (intro r h1 h2;clear h1;refine h2 ⟨[1,2,6,7],Nat,(fun i=>i<=l.length),fun i=>[.imm YB l,.ptr 0 0,.own 1,.int .i64 i],fun i=>[.box [.int .i64 4,.int .i64 8,.bool true,.int .i64 bad,.int .i64 odd],.row false (.int .u8) (jnP (l.take i))],fun i=>l.length - i,⟨0,Nat.zero_le _,rfl,rfl⟩,?_⟩;clear h2)
  rintro i hi
  have hjl:=uT_ hok i
  by_cases hlt:i < l.length
  ·have hx:=hok.a _ (zn_ hlt (Ty.dflt YB))
   have hz:=Gl_ (n:=4+((l.getD i (Ty.dflt YB)).2.1.length:Int)) (by omega)
   have hsn:=YK_ (d:=(Ty.dflt YB)) hlt
   have b2n:∀ z,(zq_ z 2).length=2:=fun z=>by have:=Zd_ (n:=z) (w:=2) (by decide);omega
   repeat'(intro t ht;first|(cases t<;>first|(cases ht;done)|(try simp only[zg_]at ht;try(exfalso;first|contradiction|omega)))|((first|refine zb_ ht ?_|refine ht ?_ ?_|refine ht.1 ?_ ?_|refine ht ?_)<;>clear ht))
   all_goals (try generalize (Ty.dflt YB)=od at*)
   all_goals first
    | exact True.intro
    | ((try simp only [zF_,zG_,zk_] at*);omega)
    | (exfalso;contradiction)
    | (refine ⟨?_,?_,rfl⟩<;>(simp only [Int.toNat_natCast];omega))
    | (simp only [Int.toNat_natCast,List.length_append,List.length_cons,List.length_nil,b2n];constructor<;>omega)
    | (simp only [Int.toNat_natCast,List.length_append,List.length_replicate,b2n];omega)
    | (refine ⟨i+1,by dsimp only;omega,by dsimp only;omega,rfl,?_⟩
       dsimp only
       rw [hsn]
       unfold enP enH
       simp only [List.append_assoc,Int.toNat_natCast])
  ·repeat'(intro t ht;first|(cases t<;>first|(cases ht;done)|(try simp only[zg_]at ht;try(exfalso;first|contradiction|omega)))|((first|refine zb_ ht ?_|refine ht ?_ ?_|refine ht.1 ?_ ?_|refine ht ?_)<;>clear ht))
   all_goals first
    | exact True.intro
    | (rw [List.take_of_length_le (by omega)];exact ⟨rfl,rfl⟩)
 ·cases e
end Go.Eng
