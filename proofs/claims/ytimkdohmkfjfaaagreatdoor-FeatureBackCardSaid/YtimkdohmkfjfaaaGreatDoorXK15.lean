/- Parts of the proof: T5, T6, T7, TA. No condition. -/
import Derived.Test.YtimkdohmkfjfaaaGreatDoorProg
import Derived.Test.YtimkdohmkfjfaaaGreatDoorXK11
import Derived.KernelRfl
import Derived.Test.YtimkdohmkfjfaaaGreatDoorXK14
namespace Go.Eng
open Go.Proofs
set_option linter.unusedVariables false
set_option linter.unusedSimpArgs false
set_option maxRecDepth 100000
set_option maxHeartbeats 1000000
structure okF (l:List FV):Prop where
 a:∀ f ∈ l,f.2.1.length<=100000/\f.2.2.1.length<=1000000
 n:l.length<=1000
def itF (f:FV):EV:=(f.1,fbY f,())
def gdF:List Int->List FV->Bool
 | _,[]=>true
 | acc,f :: r=>fbK f && !(acc.contains f.1 && !otT f.1) && gdF (acc++[f.1]) r
def itL (l:List FV):List EV:=if gdF [] l=true then l.map itF else []
theorem zaz_ {l:List FV} {i:Nat} {acc:List Int} (h:i < l.length) (d:FV):gdF acc (l.drop i)=(fbK (l.getD i d) && !(acc.contains (l.getD i d).1 && !otT (l.getD i d).1) && gdF (acc++[(l.getD i d).1]) (l.drop (i+1))):=by
 rw [zJ_ h d];rfl
def tyL (l:List FV):List Int:=l.map fun f=>f.1
theorem Be_ {l:List FV} {i:Nat} (h:i < l.length) (d:FV):tyL (l.take (i+1))=tyL (l.take i)++[(l.getD i d).1]:=jL_ h d _
theorem zbn_ (l:List FV) (i:Nat):(tyL (l.take i)).length<=i:=by unfold tyL;rw [List.length_map,List.length_take];omega
theorem HJ_ {f:FV} (h:fbK f=true):kdF f=true:=by
 cases c:kdF f with
 | true=>rfl
 | false=>rw [(zcQ_ c).2] at h;cases h
theorem zaL_ (f:FV):(fbY f).length<=65524:=by have:=zaH_ (lim:=65524) (v:=fbW f) (by decide);unfold fbY;omega
def yE_:IR:=
(sq (kr [0] [oD 2 (.nilrow YB),
oD 3 (.mov cF)])
(sq (.reg [oD 9 (.mkmap (.int .i64) (.int .i64)),
oM 4 9])
(sq (sq (.reg [oM 10 0,
oE 11 10,
oD 12 (.mov (cI 0))])
(.block 0
(.loop
(sq (kr [2,4,10,11,12] [oB 13 .lss 12 11])
(sq (.cond 13
.skip
(.exit 0))
(sq (.block 1
(sq (.reg [oI 14 3 10 12,
oK 15 3 14,
oD 6 (.box [.int .i64 0,.imm (.int .u64) [],.imm (.int .u8) []]),
oS 3 6 15])
(sq (kr [2,4,6,10,11,12] [oK 17 3 6,
oC 18 155 [17],
oM 16 18,
oX 19 16 0,
oX 20 16 1,
oD 7 (.box [.int .i64 0,.imm (.int .u8) []]),
oS 2 7 19,
oM 8 20])
(sq (sq (kr [2,4,6,7,8,10,11,12] [oM 21 8,
oD 22 (.un .not 21),
oM 23 22,
oF 23 24 (.mov 4),
oF 23 25 (.fieldAddr 0 6),
oF 23 26 (.load none 25),
oF 23 27 (.mget (.int .i64) (.int .i64) (0:Int) false 24 26),
oF 23 28 (.bin .gtr 27 (cI 0)),
oF 23 29 (.mov 28),
oT 29 30 (.fieldAddr 0 6),
oT 29 31 (.load none 30),
oT 29 32 (.call false (.f 127) [31]),
oT 29 33 (.field none 2 32),
oT 29 34 (.un .not 33),
oF 23 35 (.pick 29 34 cF),
oP 36 23 cT 35])
(.cond 36
(sq (kr [] [oD 2 (.nilrow YB),
oD 3 (.mov cF)])
.ret)
.skip))
(sq (kr [2,4,6,7,10,11,12] [oM 37 4,
oA 38 0 6,
oL 39 38,
oD 40 (.mget (.int .i64) (.int .i64) (0:Int) false 37 39),
oB 41 .add 40 (cI 1),
oN (.mput (.int .i64) (.int .i64) 37 39 41)])
(kr [2,4,7,10,11,12] [oM 42 2,
oK 43 2 7,
oD 44 (.sliceAll YB 1 [(0,2,43)]),
oD 45 (.append YB 32 42 44),
oM 2 45]))))))
(kr [2,4,10,11,12] [oB 46 .add 12 (cI 1),
oM 12 46])))))))
(sq (kr [2] [oM 47 2,
oM 2 47,
oD 3 (.mov cT)])
.ret))))
def yh_:List RD:=[.tmp 2 true (some YB),.tmp 3 true none]
theorem ys_:zo_ Tryz.prog Tryz.f129 yE_ yh_=true:=by kernel_rfl
def Kx_:List AV->List Obj->Option (Prop × AV)
 | [.imm (.cons (.int .i64) (.cons (.sl (.int .u64)) (.cons (.sl (.int .u8)) .nil))) l],[]=>some ((okF l,.tup [.imm YB (itL l),.bool (gdF [] l)]))
 | _,_=>none
theorem x5_:ze_ Tryz.prog 129 (RoF Kx_).sum:=by
 refine zz_ Tryz.func129 ys_ (zb_ (s:=RoF jg_) X6_ (zb_ (s:=RoF qo_) qH_ (zf_ _))) fun args objs p v e=>?_
 unfold Kx_ at e
 split at e
 ·rename_i l
  cases e
  refine ⟨rfl,fun hw ho hp=>?_⟩
  change List FV at l
  clear hw ho
  obtain ⟨hok,hn⟩:=hp
  repeat'(intro t ht;first|(cases t<;>first|(cases ht;done)|(try simp only[zh_]at ht;try(exfalso;first|contradiction|omega)))|((first|refine za_ ht ?_|refine ht ?_ ?_|refine ht.1 ?_ ?_|refine ht ?_)<;>clear ht))
  all_goals first
   | exact True.intro
   | (intro r h1 h2;clear h1;refine h2 ⟨[],[2,4,10,11,12],Nat × List (Int × Int),(fun a=>a.1<=l.length/\cntM a.2 (tyL (l.take a.1))/\gdF [] l=gdF (tyL (l.take a.1)) (l.drop a.1)/\∀ f ∈ l.take a.1,fbK f=true),fun a=>[.own 0,.mapv 1,.imm (.cons (.int .i64) (.cons (.sl (.int .u64)) (.cons (.sl (.int .u8)) .nil))) l,.int .i64 l.length,.int .i64 a.1],fun a=>[.row false YB ((l.take a.1).map itF),.map true (.int .i64) (.int .i64) a.2],fun a=>l.length - a.1,⟨(0,[]),⟨Nat.zero_le _,XK_,rfl,fun f h=>by cases h⟩,rfl,rfl⟩,?_⟩;clear h2)
  rintro ⟨i,m⟩ ⟨hi,hm,he,hg⟩
  dsimp only at hi hm he hg
  have hst:=fun (d:FV) (h:i < l.length)=>he.trans (zaz_ h d)
  have hsn:=fun (d:FV) (h:i < l.length)=>Be_ h d
  have hml:=hm.l
  have htl:=zbn_ l i
  repeat'(intro t ht;first|(cases t<;>first|(cases ht;done)|(try simp only[zh_]at ht;try(exfalso;first|contradiction|omega)))|((first|refine za_ ht ?_|refine ht ?_ ?_|refine ht.1 ?_ ?_|refine ht ?_)<;>clear ht))
  all_goals (try generalize (Ty.dflt (.cons (.int .i64) (.cons (.sl (.int .u64)) (.cons (.sl (.int .u8)) .nil))))=od at*)
  all_goals first
   | exact True.intro
   | ((try simp only [zI_,zK_,zn_] at*);omega)
   | (have hge:l.length<=i:=by omega
      have g:gdF [] l=true:=by rw [he,List.drop_of_length_le hge];rfl
      have e:itL l=(l.take i).map itF:=by unfold itL;rw [if_pos g,List.take_of_length_le hge]
      rw [g,e];exact ⟨rfl,rfl⟩)
   | (have hlt:i < l.length:=by omega
      have hs:=hst od hlt
      have hr:=hm.r (l.getD i od).1
      have hd:=UZ_ hm (l.getD i od).1
      first
       | exact hok _ (zv_ hlt od)
       | exact (show IntKind.i64.min<=(zx_ m (l.getD i od).1).getD 0+1/\(zx_ m (l.getD i od).1).getD 0+1<=IntKind.i64.max from by simp only [zn_];omega)
       | (simp only [List.length_map,List.length_take,List.length_cons,List.length_nil];constructor<;>omega)
       | (have hsome:fbK (l.getD i od)=false:=ht
          have g:gdF [] l=false:=by rw [hs,hsome];rfl
          have e:itL l=[]:=by unfold itL;rw [g];rfl
          rw [g,e];exact ⟨rfl,rfl⟩)
       | (have hdb:((tyL (l.take i)).contains (l.getD i od).1 && !otT (l.getD i od).1)=true:=by
           have h1:0 < (zx_ m (l.getD i od).1).getD 0:=by assumption
           have h2:otT (l.getD i od).1=false:=ht
           rw [<- hd,decide_eq_true h1,h2];rfl
          have g:gdF [] l=false:=by rw [hs,hdb];simp
          have e:itL l=[]:=by unfold itL;rw [g];rfl
          rw [g,e];exact ⟨rfl,rfl⟩)
       | (have hsome:fbK (l.getD i od)=true:=by assumption
          have hdb:((tyL (l.take i)).contains (l.getD i od).1 && !otT (l.getD i od).1)=false:=by
           first
            | (have h1:¬ 0 < (zx_ m (l.getD i od).1).getD 0:=ht
               rw [<- hd,decide_eq_false h1];rfl)
            | (have h2:otT (l.getD i od).1=true:=ht
               rw [h2,Bool.and_comm];rfl)
          rw [hsome,hdb,Bool.true_and,Bool.not_false,Bool.true_and] at hs
          have hk:=HJ_ hsome
          refine ⟨(i+1,QJ_ m (l.getD i od).1 ((zx_ m (l.getD i od).1).getD 0+1)),⟨by dsimp only;omega,?_,?_,?_⟩,by dsimp only;omega,rfl,?_⟩
          ·dsimp only;rw [hsn od hlt];exact vd_ hm
          ·dsimp only;rw [hsn od hlt];exact hs
          ·dsimp only;rw [<- KZ_ (d:=od) hlt];intro f hf
           rcases List.mem_append.1 hf with hf | hf
           ·exact hg f hf
           ·rw [List.mem_singleton] at hf;rw [hf];exact hsome
          ·have hI:itF (l.getD i od)=((if kdF (l.getD i od)=true then (l.getD i od).1 else 0),fbY (l.getD i od),()):=by unfold itF;rw [if_pos hk]
           dsimp only;rw [jL_ hlt od itF,hI];rfl))
 ·cases e
def zr (n:Int):Int:=(8 - n.tmod 8).tmod 8
theorem VI_ {n:Int} (h:0<=n):0<=zr n/\zr n < 8/\(n+zr n) % 8=0/\zr n=(8 - n % 8) % 8:=by
 unfold zr
 rw [Int.tmod_eq_emod_of_nonneg h,Int.tmod_eq_emod_of_nonneg (by omega)];omega
def enP (t:Int) (y:List Int):List Int:=enH t y++List.replicate (zr (4+y.length)).toNat 0
theorem XG_ (t:Int) (y:List Int):((enP t y).length:Int)=4+y.length+zr (4+y.length):=by
 have h:=VI_ (n:=4+(y.length:Int)) (by omega)
 unfold enP;rw [List.length_append,WW_,List.length_replicate];omega
structure okJ (l:List EV):Prop where
 a:∀ x ∈ l,(0<=x.1/\x.1<=65535)/\x.2.1.length<=65524
 n:l.length<=1000
def jnP (l:List EV):List Int:=l.flatMap fun x=>enP x.1 x.2.1
theorem g6_ {l:List EV} {i:Nat} {d:EV} (h:i < l.length):jnP (l.take (i+1))=jnP (l.take i)++enP (l.getD i d).1 (l.getD i d).2.1:=by
 unfold jnP
 rw [<- KZ_ (d:=d) h,List.flatMap_append];simp
theorem HK_ {l:List EV} (h:okJ l) (i:Nat):(jnP (l.take i)).length<=65535*i:=by
 induction i with
 | zero=>simp [jnP]
 | succ i ih=>
   by_cases hl:i < l.length
   ·rw [g6_ (d:=(0,[],())) hl,List.length_append]
    have h1:=XG_ (l.getD i (0,[],())).1 (l.getD i (0,[],())).2.1
    have h2:=VI_ (n:=4+((l.getD i (0,[],())).2.1.length:Int)) (by omega)
    have h3:=(h.a _ (zv_ hl (0,[],()))).2
    omega
   ·rw [List.take_of_length_le (by omega)] at ih ⊢;omega
theorem zdr_ {t z:Int} {y:List Int} (ht:0<=t/\t<=65535) (hl:y.length<=65524) (hz:0<=z/\z < 8):xd_ y (j0_ [2,2] [t,4+y.length] [] (4+y.length+z) 0) (4+y.length+z) (wV_ [2,2] [t,4+y.length] [] (4+y.length+z) 0)=enH t y/\Wy_ y (j0_ [2,2] [t,4+y.length] [] (4+y.length+z) 0) (4+y.length+z) (wV_ [2,2] [t,4+y.length] [] (4+y.length+z) 0)=0:=by
 obtain ⟨p1,p2⟩:=zcB_ (a:=t) (n:=4+y.length) ht (by omega)
 have l4:(zi_ t 2++zi_ (4+y.length) 2).length=4:=by
  have:=WW_ t y
  unfold enH at this;rw [List.length_append] at this;omega
 have b1:=ve_ (x:=Qb_ [2,2] [t,4+y.length]) (l:=[]) (room:=4+y.length+z) (by rw [p1,l4];simp;omega)
 have r1:j0_ [2,2] [t,4+y.length] [] (4+y.length+z) 0=zi_ t 2++zi_ (4+y.length) 2:=by
  unfold j0_;rw [if_pos p2,b1.1,p1,List.nil_append]
 have r2:wV_ [2,2] [t,4+y.length] [] (4+y.length+z) 0=0:=by
  unfold wV_;rw [if_pos p2,b1.2]
 rw [r1,r2]
 have b2:=ve_ (x:=y) (l:=zi_ t 2++zi_ (4+y.length) 2) (room:=4+y.length+z) (by rw [l4];omega)
 exact ⟨b2.1,b2.2⟩
def yA_:IR:=
(sq (kr [0] [oD 1 (.boxv 0),
oD 2 (.mov cF)])
(sq (kr [1] [oA 3 0 1,
oL 4 3,
oB 5 .geq 4 (cI 4),
oM 6 5,
oT 6 7 (.fieldAddr 0 1),
oT 6 8 (.load none 7),
oT 6 9 (.bin .leq 8 (cI 60000)),
oP 10 6 9 cF,
oM 11 10,
oT 11 12 (.fieldAddr 1 1),
oT 11 13 (.load none 12),
oT 11 14 (.bin .geq 13 (cI 1)),
oP 15 11 14 cF,
oM 16 15,
oT 16 17 (.fieldAddr 1 1),
oT 16 18 (.load none 17),
oT 16 19 (.bin .leq 18 (cI 64)),
oP 20 16 19 cF,
oM 21 20,
oT 21 22 (.fieldAddr 3 1),
oT 21 23 (.load none 22),
oT 21 24 (.bin .neq 23 (cI 0)),
oP 25 21 24 cF,
oM 26 25,
oT 26 27 (.fieldAddr 4 1),
oT 26 28 (.load none 27),
oT 26 29 (.bin .neq 28 (cI 0)),
oP 30 26 29 cF,
oM 2 30])
.ret))
def yd_:List RD:=[.tmp 2 true none]
theorem yo_:zo_ Tryz.prog Tryz.f119 yA_ yd_=true:=by kernel_rfl
def Qz_:List AV->List Obj->Option (Prop × AV)
 | [.agg [.int .i64 least,.int .i64 step,.bool pad,.int .i64 bad,.int .i64 odd]],[]=>some ((4<=least/\least<=60000/\1<=step/\step<=64/\bad ≠ 0/\odd ≠ 0,.bool true))
 | _,_=>none
theorem jr_:ze_ Tryz.prog 119 (RoF Qz_).sum:=by
 refine zz_ Tryz.func119 yo_ (zf_ _) fun args objs p v e=>?_
 unfold Qz_ at e
 split at e
 ·rename_i least step pad bad odd
  cases e
  refine ⟨rfl,fun hw ho hp=>?_⟩
  clear hw ho
  obtain ⟨h1,h2,h3,h4,h5,h6⟩:=hp
  repeat'(intro t ht;first|(cases t<;>first|(cases ht;done)|(try simp only[zh_]at ht;try(exfalso;first|contradiction|omega)))|((first|refine za_ ht ?_|refine ht ?_ ?_|refine ht.1 ?_ ?_|refine ht ?_)<;>clear ht))
  all_goals first
   | exact True.intro
   | exact ⟨rfl,rfl⟩
   | (exfalso;omega)
   | (refine ⟨congrArg AV.bool ?_,rfl⟩;simp;omega)
 ·cases e
def Xx_:IR:=
(sq (kr [0,1] [oD 2 (.boxv 0),
oD 4 (.mov cF)])
(sq (kr [1,2] [oM 5 1,
oA 6 0 2,
oL 7 6,
oB 8 .geq 5 7,
oM 9 8,
oT 9 10 (.fieldAddr 2 2),
oT 9 11 (.load none 10),
oT 9 12 (.mov 11),
oF 12 13 (.mov 1),
oF 12 14 (.fieldAddr 1 2),
oF 12 15 (.load none 14),
oF 12 16 (.bin .rem 13 15),
oF 12 17 (.bin .eql 16 (cI 0)),
oT 9 18 (.pick 12 cT 17),
oP 19 9 18 cF,
oM 4 19])
.ret))
def Xc_:List RD:=[.tmp 4 true none]
theorem Xk_:zo_ Tryz.prog Tryz.f120 Xx_ Xc_=true:=by kernel_rfl
def q1_:List AV->List Obj->Option (Prop × AV)
 | [.agg [.int .i64 least,.int .i64 step,.bool pad,.int .i64 bad,.int .i64 odd],.int .i64 n],[]=>some ((pad=true,.bool (decide (least<=n))))
 | _,_=>none
theorem K2_:ze_ Tryz.prog 120 (RoF q1_).sum:=by
 refine zz_ Tryz.func120 Xk_ (zf_ _) fun args objs p v e=>?_
 unfold q1_ at e
 split at e
 ·rename_i least step pad bad odd n
  cases e
  refine ⟨rfl,fun hw ho hp=>?_⟩
  clear hw ho
  subst hp
  repeat'(intro t ht;first|(cases t<;>first|(cases ht;done)|(try simp only[zh_]at ht;try(exfalso;first|contradiction|omega)))|((first|refine za_ ht ?_|refine ht ?_ ?_|refine ht.1 ?_ ?_|refine ht ?_)<;>clear ht))
  all_goals first
   | exact True.intro
   | exact ⟨rfl,rfl⟩
   | exact ⟨congrArg AV.bool (decide_eq_true (by omega)).symm,rfl⟩
   | exact ⟨congrArg AV.bool (decide_eq_false (by omega)).symm,rfl⟩
 ·cases e
def xG_:IR:=
(sq (kr [0,1] [oD 2 (.boxv 0),
oD 4 (.mov (cI 0))])
(sq (sq (.reg [oA 5 2 2,
oL 6 5,
oD 7 (.un .not 6)])
(.cond 7
(sq (.reg [oD 4 (.mov (cI 0))])
.ret)
.skip))
(sq (kd [1,2] [(oA 8 1 2,[]),
(oL 9 8,[]),
(oM 10 1,[0,0]),
(oA 11 1 2,[0,0,0]),
(oL 12 11,[1,0,0]),
(oB 13 .rem 10 12,[3,0]),
(oB 14 .sub 9 13,[]),
(oA 15 1 2,[0,0,0,0,0,0,0]),
(oL 16 15,[1,0,0,0,0,0,0]),
(oB 17 .rem 14 16,[]),
(oM 4 17,[])])
.ret)))
def xt_:List RD:=[.tmp 4 true none]
theorem xz_:zo_ Tryz.prog Tryz.f121 xG_ xt_=true:=by kernel_rfl
def qC_:List AV->List Obj->Option (Prop × AV)
 | [.agg [.int .i64 least,.int .i64 step,.bool pad,.int .i64 bad,.int .i64 odd],.int .i64 n],[]=>some ((pad=true/\step=8/\0<=n/\n<=100000,.int .i64 (zr n)))
 | _,_=>none
theorem KD_:ze_ Tryz.prog 121 (RoF qC_).sum:=by
 refine zz_ Tryz.func121 xz_ (zf_ _) fun args objs p v e=>?_
 unfold qC_ at e
 split at e
 ·rename_i least step pad bad odd n
  cases e
  refine ⟨rfl,fun hw ho hp=>?_⟩
  clear hw ho
  obtain ⟨rfl,rfl,h0,h1⟩:=hp
  have hm:=zbo_ (a:=n) (s:=8) h0 (by decide)
  repeat'(intro t ht;first|(cases t<;>first|(cases ht;done)|(try simp only[zh_]at ht;try(exfalso;first|contradiction|omega)))|((first|refine za_ ht ?_|refine ht ?_ ?_|refine ht.1 ?_ ?_|refine ht ?_)<;>clear ht))
  all_goals first
   | exact True.intro
   | exact ⟨rfl,rfl⟩
   | ((try simp only [zI_,zK_,zn_] at*);omega)
   | decide
 ·cases e
def g8_:IR:=
(sq (kr [0,1] [oD 2 (.boxv 0),
oD 4 (.nilrow (.int .u8)),
oD 5 (.mov (cI 0))])
(sq (sq (.reg [oK 16 5 2,
oC 17 119 [16],
oD 18 (.un .not 17)])
(.cond 18
(sq (kr [] [oD 4 (.nilrow (.int .u8)),
oD 5 (.mov (cI 10001))])
.ret)
.skip))
(sq (sq (kr [1,2] [oM 19 1,
oE 20 19,
oD 21 (.mov (cI 0))])
(.block 0
(.loop
(sq (kr [1,2,19,20,21] [oB 22 .lss 21 20])
(sq (.cond 22
.skip
(.exit 0))
(sq (.block 1
(sq (.reg [oI 23 2 19 21,
oK 24 2 23,
oD 7 (.box [.int .i64 0,.imm (.int .u8) []]),
oS 2 7 24])
(sq (kr [1,2,7,19,20,21] [oA 25 1 7,
oL 26 25,
oE 27 26,
oB 28 .add (cI 4) 27,
oM 8 28])
(sq (kr [1,2,7,8,19,20,21] [oA 29 0 7,
oL 30 29,
oB 31 .lss 30 (cI 0),
oM 32 31,
oF 32 33 (.fieldAddr 0 7),
oF 32 34 (.load none 33),
oF 32 35 (.bin .gtr 34 (cI 65535)),
oP 36 32 cT 35,
oM 37 36,
oF 37 38 (.mov 8),
oF 37 39 (.bin .gtr 38 (cI 65535)),
oP 40 37 cT 39,
oM 41 40,
oF 41 42 (.load (some 5) 2),
oF 41 43 (.mov 8),
oF 41 44 (.call false (.f 120) [42,43]),
oF 41 45 (.un .not 44),
oP 46 41 cT 45])
(.cond 46
(sq (kr [] [oD 4 (.nilrow (.int .u8)),
oD 5 (.mov (cI 10001))])
.ret)
.skip)))))
(kr [1,2,19,20,21] [oB 47 .add 21 (cI 1),
oM 21 47])))))))
(sq (kr [1,2] [oD 9 (.nilrow (.int .u8))])
(sq (sq (.reg [oM 48 1,
oE 49 48,
oD 50 (.mov (cI 0))])
(.block 2
(.loop
(sq (kr [2,9,48,49,50] [oB 51 .lss 50 49])
(sq (.cond 51
.skip
(.exit 2))
(sq (.block 3
(sq (.reg [oI 52 2 48 50,
oK 53 2 52,
oD 11 (.box [.int .i64 0,.imm (.int .u8) []]),
oS 2 11 53])
(sq (kr [2,9,11,48,49,50] [oA 54 1 11,
oL 55 54,
oE 56 55,
oB 57 .add (cI 4) 56,
oM 12 57])
(sq (kr [2,9,11,12,48,49,50] [oM 58 12,
oK 59 5 2,
oM 60 12,
oC 61 121 [59,60],
oB 62 .add 58 61,
oC 63 48 [62],
oM 13 63])
(sq (kr [2,9,11,12,13,48,49,50] [oM 64 13,
oD 65 (.sliceAll (.int .i64) 2 [(0,1,(cI 2)),(1,1,(cI 2))]),
oA 66 0 11,
oL 67 66,
oD 68 (.conv .u64 67),
oM 69 12,
oD 70 (.conv .u64 69),
oD 71 (.sliceAll (.int .u64) 2 [(0,1,68),(1,1,70)]),
oC 72 105 [64,65,71]])
(sq (kr [2,9,11,12,13,48,49,50] [oM 73 13,
oA 74 1 11,
oL 75 74,
oC 76 122 [73,75]])
(sq (kr [2,9,12,13,48,49,50] [oM 77 13,
oK 78 5 2,
oM 79 12,
oC 80 121 [78,79],
oD 81 (.mkrow (.int .u8) 1 (0:Int) 80 80),
oC 82 122 [77,81]])
(sq (kr [2,9,13,48,49,50] [oM 84 13,
oC 85 50 [84],
oM 83 85,
oX 86 83 0,
oX 87 83 1,
oM 14 86,
oM 15 87])
(sq (sq (kr [2,9,14,15,48,49,50] [oM 88 15,
oB 89 .neq 88 (cI 0)])
(.cond 89
(sq (.reg [oM 90 15,
oD 4 (.nilrow (.int .u8)),
oM 5 90])
.ret)
.skip))
(.reg [oM 91 9,
oM 92 14,
oD 93 (.append (.int .u8) 1 91 92),
oM 9 93]))))))))))
(kr [2,9,48,49,50] [oB 94 .add 50 (cI 1),
oM 50 94])))))))
(sq (kr [9] [oM 95 9,
oM 4 95,
oD 5 (.mov (cI 0))])
.ret))))))
def gx_:List RD:=[.tmp 4 true (some (.int .u8)),.tmp 5 true none]
theorem gJ_:zo_ Tryz.prog Tryz.f62 g8_ gx_=true:=by kernel_rfl
def xR_:List AV->List Obj->Option (Prop × AV)
 | [.agg [.int .i64 least,.int .i64 step,.bool pad,.int .i64 bad,.int .i64 odd],.imm (.cons (.int .i64) (.cons (.sl (.int .u8)) .nil)) l],[]=>some ((pad=true/\least=4/\step=8/\bad ≠ 0/\odd ≠ 0/\okJ l,.tup [.imm (.int .u8) (jnP l),.int .i64 0]))
 | _,_=>none
theorem u4_:ze_ Tryz.prog 62 (RoF xR_).sum:=by
 refine zz_ Tryz.func62 gJ_ (zb_ (s:=RoF Qz_) jr_ (zb_ (s:=RoF q1_) K2_ (zb_ (s:=RoF qC_) KD_ (zb_ (s:=RwF km_) K5_ (zb_ (s:=RwF Zh_) Z0_ (zb_ (s:=RwF zX_) ZE_ (zb_ (s:=RwF Zx_) ql_ (zf_ _)))))))) fun args objs p v e=>?_
 unfold xR_ at e
 split at e
 ·rename_i least step pad bad odd l
  cases e
  refine ⟨rfl,fun hw ho hp=>?_⟩
  change List EV at l
  clear hw ho
  obtain ⟨rfl,rfl,rfl,hbad,hodd,hok⟩:=hp
  have hn:=hok.n
  repeat'(intro t ht;first|(cases t<;>first|(cases ht;done)|(try simp only[zh_]at ht;try(exfalso;first|contradiction|omega)))|((first|refine za_ ht ?_|refine ht ?_ ?_|refine ht.1 ?_ ?_|refine ht ?_)<;>clear ht))
  all_goals first
   | exact True.intro
   | exact ⟨by decide,by decide,by decide,by decide,hbad,hodd⟩
   | (intro r h1 h2;clear h1;refine h2 ⟨[],[1,2,19,20,21],Nat,(fun i=>i<=l.length),fun i=>[.imm YB l,.ptr 0 0,.imm YB l,.int .i64 l.length,.int .i64 i],fun i=>[.box [.int .i64 4,.int .i64 8,.bool true,.int .i64 bad,.int .i64 odd]],fun i=>l.length - i,⟨0,Nat.zero_le _,rfl,rfl⟩,?_⟩;clear h2)
  rintro i hi
  by_cases hlt:i < l.length
  ·have hx:=hok.a _ (zv_ hlt (Ty.dflt YB))
   repeat'(intro t ht;first|(cases t<;>first|(cases ht;done)|(try simp only[zh_]at ht;try(exfalso;first|contradiction|omega)))|((first|refine za_ ht ?_|refine ht ?_ ?_|refine ht.1 ?_ ?_|refine ht ?_)<;>clear ht))
   all_goals (try generalize (Ty.dflt YB)=od at*)
   all_goals first
    | exact True.intro
    | exact rfl
    | ((try simp only [zI_,zK_,zn_] at*);omega)
    | (refine ⟨i+1,?_,?_,rfl,rfl⟩
       ·(try dsimp only);omega
       ·(try dsimp only);omega)
    | (exfalso;simp_all;omega)
  ·repeat'(intro t ht;first|(cases t<;>first|(cases ht;done)|(try simp only[zh_]at ht;try(exfalso;first|contradiction|omega)))|((first|refine za_ ht ?_|refine ht ?_ ?_|refine ht.1 ?_ ?_|refine ht ?_)<;>clear ht))
   all_goals first
    | exact True.intro
    | (intro r h1 h2;clear h1;refine h2 ⟨[],[2,9,48,49,50],Nat,(fun i=>i<=l.length),fun i=>[.ptr 0 0,.own 1,.imm YB l,.int .i64 l.length,.int .i64 i],fun i=>[.box [.int .i64 4,.int .i64 8,.bool true,.int .i64 bad,.int .i64 odd],.row false (.int .u8) (jnP (l.take i))],fun i=>l.length - i,⟨0,Nat.zero_le _,rfl,rfl⟩,?_⟩;clear h2)
   clear ht hlt hi i
   rintro i hi
   have hjl:=HK_ hok i
   by_cases hlt:i < l.length
   ·have hx:=hok.a _ (zv_ hlt (Ty.dflt YB))
    have hz:=VI_ (n:=4+((l.getD i (Ty.dflt YB)).2.1.length:Int)) (by omega)
    obtain ⟨j1,j2⟩:=zdr_ hx.1 hx.2 ⟨hz.1,hz.2.1⟩
    have hrm:vs_ (4+((l.getD i (Ty.dflt YB)).2.1.length:Int)+zr (4+((l.getD i (Ty.dflt YB)).2.1.length:Int)))=4+((l.getD i (Ty.dflt YB)).2.1.length:Int)+zr (4+((l.getD i (Ty.dflt YB)).2.1.length:Int)):=by unfold vs_;omega
    have hel:=WW_ (l.getD i (Ty.dflt YB)).1 (l.getD i (Ty.dflt YB)).2.1
    have hpl:=XG_ (l.getD i (Ty.dflt YB)).1 (l.getD i (Ty.dflt YB)).2.1
    have hrl:(j0_ [2,2] [(l.getD i (Ty.dflt YB)).1,4+((l.getD i (Ty.dflt YB)).2.1.length:Int)] [] (4+((l.getD i (Ty.dflt YB)).2.1.length:Int)+zr (4+((l.getD i (Ty.dflt YB)).2.1.length:Int))) 0).length<=1000000:=K7_ (by decide) (by omega)
    obtain ⟨j3,j4⟩:=ve_ (x:=List.replicate (zr (4+((l.getD i (Ty.dflt YB)).2.1.length:Int))).toNat (0:Int)) (l:=enH (l.getD i (Ty.dflt YB)).1 (l.getD i (Ty.dflt YB)).2.1) (room:=4+((l.getD i (Ty.dflt YB)).2.1.length:Int)+zr (4+((l.getD i (Ty.dflt YB)).2.1.length:Int))) (by rw [List.length_replicate,hel];omega)
    have j6:Ye_ [] 0=0:=rfl
    repeat'(intro t ht;first|(cases t<;>first|(cases ht;done)|(try simp only[zh_]at ht;try(exfalso;first|contradiction|omega)))|((first|refine za_ ht ?_|refine ht ?_ ?_|refine ht.1 ?_ ?_|refine ht ?_)<;>clear ht))
    all_goals (try generalize (Ty.dflt YB)=od at*)
    all_goals (try simp only [zI_,zK_,hrm,j1,j2,j3,j4,j6,zaS_] at*)
    all_goals first
     | exact True.intro
     | ((try simp only [zI_,zK_,zn_] at*);omega)
     | (exfalso;contradiction)
     | exact ⟨by omega,by omega,by omega,by omega⟩
     | exact ⟨rfl,rfl,by omega,by omega⟩
     | exact ⟨by omega,by omega,by decide⟩
     | exact ⟨by omega,by omega,hrl,by omega⟩
     | exact ⟨by omega,by omega,by omega,by decide⟩
     | exact ⟨by omega,by omega,by omega,by rw [List.length_replicate];omega⟩
     | exact ⟨by omega,by decide⟩
     | exact ⟨by rw [List.length_append,List.length_replicate];omega,by decide⟩
     | (rw [List.length_append,List.length_replicate,hel];constructor<;>omega)
     | (refine ⟨i+1,by omega,by omega,rfl,?_⟩
        rw [g6_ (d:=od) hlt];rfl)
   ·repeat'(intro t ht;first|(cases t<;>first|(cases ht;done)|(try simp only[zh_]at ht;try(exfalso;first|contradiction|omega)))|((first|refine za_ ht ?_|refine ht ?_ ?_|refine ht.1 ?_ ?_|refine ht ?_)<;>clear ht))
    all_goals first
     | exact True.intro
     | (rw [List.take_of_length_le (by omega)];exact ⟨rfl,rfl⟩)
 ·cases e
def yC_:IR:=
(sq (kr [] [oD 0 (.box [.int .i64 0,.int .i64 0,.kb false,.int .i64 0,.int .i64 0])])
(sq (.reg [oD 1 (.buildAll 5 [(0,1,(cI 4)),(1,1,(cI 8)),(2,1,cT),(3,1,(cI 3332)),(4,1,(cI 3333))]),
oS 5 0 1])
.ret))
def yf_:List RD:=[.cell 0 (some 5) true []]
theorem yq_:zo_ Tryz.prog Tryz.f130 yC_ yf_=true:=by kernel_rfl
def QB_:List AV->List Obj->Option (Prop × AV)
 | [],[]=>some ((True,.agg [.int .i64 4,.int .i64 8,.bool true,.int .i64 3332,.int .i64 3333]))
 | _,_=>none
theorem jt_:ze_ Tryz.prog 130 (RoF QB_).sum:=by
 refine zz_ Tryz.func130 yq_ (zf_ _) fun args objs p v e=>?_
 unfold QB_ at e
 split at e
 ·cases e
  refine ⟨rfl,fun hw ho hp=>?_⟩
  repeat'(intro t ht;first|(cases t<;>first|(cases ht;done)|(try simp only[zh_]at ht;try(exfalso;first|contradiction|omega)))|((first|refine za_ ht ?_|refine ht ?_ ?_|refine ht.1 ?_ ?_|refine ht ?_)<;>clear ht))
  all_goals first
   | exact True.intro
   | exact ⟨rfl,rfl⟩
 ·cases e
theorem va_:∀ {l:List FV} {acc:List Int},gdF acc l=true->∀ f ∈ l,fbK f=true
 | [],_,_,f,hf=>by cases hf
 | g :: r,acc,h,f,hf=>by
   unfold gdF at h
   simp only [Bool.and_eq_true] at h
   rcases List.mem_cons.1 hf with rfl | hf
   ·exact h.1.1
   ·exact va_ h.2 f hf
theorem Bi_ {t:Int} (h:¬ szT t=0):0<=t/\t<=65535:=by
 rcases Qh_ t with ⟨h1,_⟩ | ⟨_,_,_,h1⟩ | ⟨_,_,h1,h2⟩ | ⟨_,_,_,h1⟩
 ·exact absurd h1 h
 all_goals omega
theorem hl_ {l:List FV} (hn:l.length<=1000):okJ (itL l):=by
 unfold itL
 by_cases h:gdF [] l=true
 ·rw [if_pos h]
  refine ⟨fun x hx=>?_,by rw [List.length_map];exact hn⟩
  obtain ⟨f,hf,rfl⟩:=List.mem_map.1 hx
  have hk:=HJ_ (va_ h f hf)
  exact ⟨Bi_ (UF_ hk).1,zaL_ f⟩
 ·rw [if_neg h];exact ⟨fun x hx=>(by cases hx),by simp⟩
def ptX (t:TV):List Int:=jnP (itL t.2.2.2.2.2.2.1)
def xa_ (s:List Int):List Int:=s++List.replicate (32 - s.length) 0
def ptG (t:TV):Bool:=gdF [] t.2.2.2.2.2.2.1 && decide (64+((ptX t).length:Int)<=65528) && decide (t.1<=254) && q7_ t.2.1
def sqS (f g:List Int->Int->List Int × Int) (l:List Int) (e:Int):List Int × Int:=g (f l e).1 (f l e).2
def rwS (room:Int) (w xs l:List Int) (e:Int):List Int × Int:=(j0_ w xs l room e,wV_ w xs l room e)
def byS (room:Int) (x l:List Int) (e:Int):List Int × Int:=(xd_ x l room e,Wy_ x l room e)
def ptW (room:Int) (t:TV):List Int->Int->List Int × Int:=sqS (sqS (sqS (rwS room [2,1,-5] [64+((ptX t).length:Int),t.1]) (byS room (xa_ t.2.1))) (rwS room [8,8,4,4] [t.2.2.1,t.2.2.2.1,t.2.2.2.2.1,t.2.2.2.2.2.1])) (byS room (ptX t))
def ptS (room:Int) (t:TV) (l:List Int) (e:Int):List Int × Int:=if ptG t=true then ptW room t l e else (l,zl_ e 10001)
def ptO (t:TV):Option (List Int):=if ptG t=true then wM_ (wM_ (wM_ (wU_ [2,1,-5] [64+((ptX t).length:Int),t.1]) (some (xa_ t.2.1))) (wU_ [8,8,4,4] [t.2.2.1,t.2.2.2.1,t.2.2.2.2.1,t.2.2.2.2.2.1])) (some (ptX t)) else none
theorem zdR_ (room:Int) (t:TV):WrOk room (ptS room t) (ptO t):=by
 unfold ptO
 by_cases h:ptG t=true
 ·have e:ptS room t=ptW room t:=by funext l e;unfold ptS;rw [if_pos h]
  rw [e,if_pos h]
  exact (((uY_ room _ _).seq (x0_ room _)).seq (uY_ room _ _)).seq (x0_ room _)
 ·have e:ptS room t=fun l e=>(l,zl_ e 10001):=by funext l e;unfold ptS;rw [if_neg h]
  rw [e,if_neg h]
  exact zcv_ room fun l=>fun _=>l
theorem zbD_ {room:Int} {t:TV} {l:List Int} {e:Int} (h:l.length<=1000000) (hr:room<=1000000):(ptW room t l e).1.length<=1000000:=by
 unfold ptW sqS rwS byS;exact Wz_ (K7_ (Wz_ (K7_ h hr) hr) hr) hr
theorem zbE_ {room:Int} {t:TV} {l:List Int} {e:Int} (h:l.length<=1000000) (hr:room<=1000000):(ptS room t l e).1.length<=1000000:=by
 unfold ptS;split
 ·exact zbD_ h hr
 ·exact h
theorem Y2_ {t:TV}:ptG t=true ↔ gdF [] t.2.2.2.2.2.2.1=true/\64+((ptX t).length:Int)<=65528/\t.1<=254/\q7_ t.2.1=true:=by
 unfold ptG;simp only [Bool.and_eq_true,decide_eq_true_eq,and_assoc]
theorem zbC_ {l:List FV} (h:l.length<=1000):(jnP (itL l)).length<=65535000:=by
 have h1:=HK_ (hl_ h) (itL l).length
 have h2:=(hl_ h).n
 rw [List.take_length] at h1;omega
def vW_:IR:=
(sq (kr [0,1] [oD 3 (.boxv 1)])
(sq (kr [0,3] [oA 9 6 3,
oL 10 9,
oC 11 129 [10],
oM 8 11,
oX 12 8 0,
oX 13 8 1,
oM 4 12,
oM 5 13])
(sq (kr [0,3,4,5] [oC 15 130 [],
oM 16 4,
oC 17 62 [15,16],
oM 14 17,
oX 18 14 0,
oX 19 14 1,
oM 6 18,
oM 7 19])
(sq (sq (kr [0,3,5,6,7] [oM 20 5,
oD 21 (.un .not 20),
oM 22 21,
oF 22 23 (.mov 7),
oF 22 24 (.bin .neq 23 (cI 0)),
oP 25 22 cT 24,
oM 26 25,
oF 26 27 (.mov 6),
oF 26 28 (.len 27),
oF 26 29 (.bin .add (cI 64) 28),
oF 26 30 (.bin .gtr 29 (cI 65528)),
oP 31 26 cT 30,
oM 32 31,
oF 32 33 (.fieldAddr 0 3),
oF 32 34 (.load none 33),
oF 32 35 (.bin .gtr 34 (.c (.int .u64 254))),
oP 36 32 cT 35,
oM 37 36,
oF 37 38 (.fieldAddr 1 3),
oF 37 39 (.load none 38),
oF 37 40 (.call false (.f 131) [39]),
oF 37 41 (.un .not 40),
oP 42 37 cT 41])
(.cond 42
(sq (kr [0] [oM 43 0,
oC 44 103 [43,(cI 10001)]])
.ret)
.skip))
(sq (kr [0,3,6] [oM 45 0,
oD 46 (.sliceAll (.int .i64) 3 [(0,1,(cI 2)),(1,1,(cI 1)),(2,1,(cI (-5)))]),
oM 47 6,
oE 48 47,
oB 49 .add (cI 64) 48,
oD 50 (.conv .u64 49),
oA 51 0 3,
oL 52 51,
oD 53 (.sliceAll (.int .u64) 2 [(0,1,50),(1,1,52)]),
oC 54 105 [45,46,53]])
(sq (kr [0,3,6] [oM 55 0,
oA 56 1 3,
oL 57 56,
oD 58 (.s2b 57),
oA 59 1 3,
oL 60 59,
oD 61 (.slen 60),
oB 62 .sub (cI 32) 61,
oD 63 (.appendz (.int .u8) 1 (0:Int) 58 62),
oC 64 122 [55,63]])
(sq (kr [0,3,6] [oM 65 0,
oD 66 (.sliceAll (.int .i64) 4 [(0,1,(cI 8)),(1,1,(cI 8)),(2,1,(cI 4)),(3,1,(cI 4))]),
oA 67 2 3,
oL 68 67,
oA 69 3 3,
oL 70 69,
oA 71 4 3,
oL 72 71,
oA 73 5 3,
oL 74 73,
oD 75 (.sliceAll (.int .u64) 4 [(0,1,68),(1,1,70),(2,1,72),(3,1,74)]),
oC 76 105 [65,66,75]])
(kr [0,6] [oM 77 0,
oM 78 6,
oC 79 122 [77,78]]))))))))
def vv_:List RD:=[]
theorem vI_:zo_ Tryz.prog Tryz.f75 vW_ vv_=true:=by kernel_rfl
def xj_:List AV->List Obj->Option (Prop × Res)
 | [.ptr 0 0,.agg [.int .u64 no,.str nm,.int .u64 a,.int .u64 b,.int .u64 c,.int .u64 d,.imm (.cons (.int .i64) (.cons (.sl (.int .u64)) (.cons (.sl (.int .u8)) .nil))) fs]],[.box [.own 1,.int .i64 room,.mapv 2,.int .i64 e],.row false (.int .u8) l,.map sq (.int .i64) (.int .i64) h]=>some (okF fs/\0<=room/\room<=1000000/\l.length<=1000000,.br (ptG (no,nm,a,b,c,d,fs,())) (.one (.tup []) [.box [.own 3,.int .i64 room,.mapv 2,.int .i64 ((ptW room (no,nm,a,b,c,d,fs,()) l e).2)],.dead,.map sq (.int .i64) (.int .i64) h,.row false (.int .u8) ((ptW room (no,nm,a,b,c,d,fs,()) l e).1)]) (.one (.tup []) [.box [.own 1,.int .i64 room,.mapv 2,.int .i64 (zl_ e 10001)],.row false (.int .u8) l,.map sq (.int .i64) (.int .i64) h]))
 | _,_=>none
def jO_:List AV->List Obj->Option (Prop × AV × List Obj)
 | [.ptr 0 0,.agg [.int .u64 no,.str nm,.int .u64 a,.int .u64 b,.int .u64 c,.int .u64 d,.imm (.cons (.int .i64) (.cons (.sl (.int .u64)) (.cons (.sl (.int .u8)) .nil))) fs]],[.box [.own 1,.int .i64 room,.mapv 2,.int .i64 e],.row false (.int .u8) l,.map sq (.int .i64) (.int .i64) h]=>some (okF fs/\0<=room/\room<=1000000/\l.length<=1000000,.tup [],[.box [.own 3,.int .i64 room,.mapv 2,.int .i64 ((ptS room (no,nm,a,b,c,d,fs,()) l e).2)],.dead,.map sq (.int .i64) (.int .i64) h,.row false (.int .u8) ((ptS room (no,nm,a,b,c,d,fs,()) l e).1)])
 | _,_=>none
theorem Yq_:ze_ Tryz.prog 75 (RcF xj_).sum:=by
 refine gE_ Tryz.func75 vI_ (zb_ (s:=RoF Kx_) x5_ (zb_ (s:=RoF QB_) jt_ (zb_ (s:=RoF xR_) u4_ (zb_ (s:=RoF QC_) ju_ (zb_ (s:=RwF zU_) Zc_ (zb_ (s:=RwF Zh_) Z0_ (zb_ (s:=RwF zX_) ZE_ (zf_ _)))))))) fun args objs p v e=>?_
 unfold xj_ at e
 split at e
 ·rename_i no nm a b c d fs room e l sq h
  cases e
  change List Int at l
  change List FV at fs
  refine ⟨rfl,fun hw' ho hp=>?_⟩
  clear hw' ho
  obtain ⟨hf,hp1,hp2,hp3⟩:=hp
  have hj:=hl_ hf.n
  have hxl:=zbC_ hf.n
  cases hG:ptG (no,nm,a,b,c,d,fs,()) with
  | true=>
    obtain ⟨g1,g2,g3,g4⟩:=Y2_.1 hG
    unfold ptX at g2
    dsimp only at g1 g2 g3 g4
    have g5:=(UA_.1 g4).1
    have hl1:(j0_ [2,1,-5] [64+((jnP (itL fs)).length:Int),no] l room e).length<=1000000:=K7_ hp3 hp2
    have hl2:=fun x=>Wz_ (x:=x) (e:=wV_ [2,1,-5] [64+((jnP (itL fs)).length:Int),no] l room e) hl1 hp2
    have e32:(32 - (nm.length:Int)).toNat=32 - nm.length:=by omega
    repeat'(intro t ht;first|(cases t<;>first|(cases ht;done)|(try simp only[zh_]at ht;try(exfalso;first|contradiction|omega)))|((first|refine za_ ht ?_|refine ht ?_ ?_|refine ht.1 ?_ ?_|refine ht ?_)<;>clear ht))
    all_goals first
     | exact True.intro
     | omega
     | exact hf
     | exact ⟨by decide,by decide,by decide,by decide,by decide,hj⟩
     | exact ⟨hp1,hp2,hp3⟩
     | ((try dsimp only);simp only [zn_];omega)
     | (refine ⟨hp1,hp2,hl1,?_⟩;rw [List.length_append,List.length_replicate];omega)
     | exact ⟨hp1,hp2,hl2 _⟩
     | exact ⟨hp1,hp2,K7_ (hl2 _) hp2,by omega⟩
     | (refine ⟨?_,?_⟩<;>first | omega | (rw [List.length_append,List.length_replicate];omega))
     | (exfalso;simp_all;done)
     | (rw [jH_ rfl]
        unfold ptW sqS rwS byS xa_ ptX
        dsimp only
        rw [<- e32];exact ⟨rfl,rfl⟩)
  | false=>
    have hno:¬ (gdF [] fs=true/\64+((jnP (itL fs)).length:Int)<=65528/\no<=254/\q7_ nm=true):=fun c=>by rw [Y2_.2 c] at hG;cases hG
    repeat'(intro t ht;first|(cases t<;>first|(cases ht;done)|(try simp only[zh_]at ht;try(exfalso;first|contradiction|omega)))|((first|refine za_ ht ?_|refine ht ?_ ?_|refine ht.1 ?_ ?_|refine ht ?_)<;>clear ht))
    all_goals first
     | exact True.intro
     | omega
     | exact hf
     | exact ⟨by decide,by decide,by decide,by decide,by decide,hj⟩
     | ((try dsimp only);simp only [zn_];omega)
     | (rw [jI_ rfl];exact ⟨rfl,rfl⟩)
     | (exfalso;exact hno ⟨by assumption,by omega,by omega,by assumption⟩)
 ·cases e
theorem Yr_:ze_ Tryz.prog 75 (RwF jO_).sum:=by
 refine Y0_ Yq_ fun args objs p v o e=>?_
 unfold jO_ at e
 split at e
 ·rename_i no nm a b c d fs room e l sq h
  cases e
  cases hb:ptG (no,nm,a,b,c,d,fs,()) with
  | true=>
    refine ⟨_,_,rfl,jH_ hb,.inl ?_⟩
    unfold ptS;rw [if_pos hb]
  | false=>
    refine ⟨_,_,rfl,jI_ hb,.inr ⟨0,1,[],[.int .i64 room,.mapv 2,.int .i64 (zl_ e 10001)],.int .u8,l,rfl,rfl,?_⟩⟩
    unfold ptS;rw [hb];rfl
 ·cases e
structure okT (l:List TV):Prop where
 a:∀ t ∈ l,okF t.2.2.2.2.2.2.1
 n:l.length<=1000
def tbL (l:List TV):List Int:=(fnG 65528 (jb_ ptO l)).1
def tbE (l:List TV):Int:=(fnG 65528 (jb_ ptO l)).2
theorem zdU_ (l:List TV):WrOk 65528 (fun b e=>wlS (ptS 65528) l (b,e)) (jb_ ptO l):=uZ_ (fun t=>zdR_ 65528 t) l
theorem zdX_ (l:List TV):(tbL l).length<=65528:=by have:=zaH_ (lim:=65528) (v:=jb_ ptO l) (by decide);unfold tbL;omega
def Xz_:IR:=
(sq (kr [0] [oD 2 (.mov (.c (.imm (.int .u8) []))),
oD 3 (.mov (cI 0))])
(sq (.reg [oC 9 48 [(cI 65528)],
oM 4 9])
(sq (sq (.reg [oM 10 0,
oE 11 10,
oD 12 (.mov (cI 0))])
(.block 0
(.loop
(sq (kr [4,10,11,12] [oB 13 .lss 12 11])
(sq (.cond 13
.skip
(.exit 0))
(sq (.block 1
(sq (.reg [oI 14 7 10 12,
oK 15 7 14,
oD 6 (.box [.int .u64 0,.str [],.int .u64 0,.int .u64 0,.int .u64 0,.int .u64 0,.imm (.cons (.int .i64) (.cons (.sl (.int .u64)) (.cons (.sl (.int .u8)) .nil))) []]),
oS 7 6 15])
(.reg [oM 16 4,
oK 17 7 6,
oC 18 75 [16,17]])))
(kr [4,10,11,12] [oB 19 .add 12 (cI 1),
oM 12 19])))))))
(sq (kr [4] [oM 21 4,
oC 22 50 [21],
oM 20 22,
oX 23 20 0,
oX 24 20 1,
oM 7 23,
oM 8 24])
(sq (sq (kr [7,8] [oM 25 8,
oB 26 .neq 25 (cI 0)])
(.cond 26
(sq (.reg [oD 2 (.mov (.c (.imm (.int .u8) []))),
oD 3 (.mov (cI 10001))])
.ret)
.skip))
(sq (.reg [oM 27 7,
oM 2 27,
oD 3 (.mov (cI 0))])
.ret))))))
def Xe_:List RD:=[.tmp 2 true (some (.int .u8)),.tmp 3 true none]
theorem Xm_:zo_ Tryz.prog Tryz.f31 Xz_ Xe_=true:=by kernel_rfl
def qf_:List AV->List Obj->Option (Prop × AV)
 | [.imm ty0 l],[]=>QU_ ty0 YA l fun l=>some ((okT l,.tup [.imm (.int .u8) (tbL l),.int .i64 (tbE l)]))
 | _,_=>none
theorem QE_:ze_ Tryz.prog 31 (RoF qf_).sum:=by
 refine zz_ Tryz.func31 Xm_ (zb_ (s:=RwF km_) K5_ (zb_ (s:=RwF jO_) Yr_ (zb_ (s:=RwF Zx_) ql_ (zf_ _)))) fun args objs p v e=>?_
 unfold qf_ at e
 split at e
 ·rename_i ty0 l
  obtain rfl:=ZX_ e
  replace e:=ZY_ e
  cases e
  refine ⟨rfl,fun hw ho hp=>?_⟩
  change List TV at l
  clear hw ho
  obtain ⟨hok,hn⟩:=hp
  have hroom:vs_ 65528=65528:=by decide
  have hwr:=zaG_ (by decide) (zdU_ l)
  repeat'(intro t ht;first|(cases t<;>first|(cases ht;done)|(try simp only[zh_]at ht;try(exfalso;first|contradiction|omega)))|((first|refine za_ ht ?_|refine ht ?_ ?_|refine ht.1 ?_ ?_|refine ht ?_)<;>clear ht))
  all_goals first
   | exact True.intro
   | (intro r h1 h2;clear h1;refine h2 ⟨[],[4,10,11,12],Nat × List Int × Int,(fun a=>a.1<=l.length/\a.2.1.length<=1000000/\wlS (ptS 65528) l ([],0)=wlS (ptS 65528) (l.drop a.1) a.2),fun a=>[.ptr 0 0,.imm YA l,.int .i64 l.length,.int .i64 a.1],fun a=>[.box [.own 1,.int .i64 65528,.mapv 2,.int .i64 a.2.2],.row false (.int .u8) a.2.1,.map true (.int .i64) (.int .i64) ([])],fun a=>l.length - a.1,⟨(0,[],0),⟨Nat.zero_le _,by simp,rfl⟩,rfl,by rw [hroom];rfl⟩,?_⟩;clear h2)
  rintro ⟨i,b,e⟩ ⟨hi,hb,he⟩
  dsimp only at hi hb he
  have hst:=fun (d:TV) (h:i < l.length)=>gh_ (f:=ptS 65528) (s:=(b,e)) h d
  have hend:l.length<=i->wlS (ptS 65528) l ([],0)=(b,e):=fun h=>by rw [he,List.drop_of_length_le h];rfl
  repeat'(intro t ht;first|(cases t<;>first|(cases ht;done)|(try simp only[zh_]at ht;try(exfalso;first|contradiction|omega)))|((first|refine za_ ht ?_|refine ht ?_ ?_|refine ht.1 ?_ ?_|refine ht ?_)<;>clear ht))
  all_goals (try generalize (Ty.dflt YA)=od at*)
  all_goals first
   | exact True.intro
   | omega
   | ((try simp only [zI_,zK_,zn_] at*);omega)
   | exact ⟨hok _ (zv_ (by omega) od),by decide,by decide,hb⟩
   | (simp only [List.length_nil];(try simp only [zI_,zK_,zn_] at*);omega)
   | (have h1:=hend (by omega)
      (try dsimp only at hwr)
      rw [h1] at hwr
      (try dsimp only at hwr)
      rw [Gt_] at ht
      first
       | (have h0:e=0:=by first | exact ht | assumption
          have w:=hwr.1 h0
          subst h0
          refine ⟨?_,rfl⟩;unfold tbL tbE;rw [w];rfl)
       | (have h0:¬ e=0:=by first | exact ht | assumption
          have w:=hwr.2 h0
          refine ⟨?_,rfl⟩;unfold tbL tbE;rw [w]))
   | (refine ⟨(i+1,ptS 65528 (l.getD i od) b e),⟨by dsimp only;omega,zbE_ hb (by decide),he.trans (hst od (by omega))⟩,by dsimp only;omega,rfl,rfl⟩)
 ·cases e
def yF_:IR:=
(sq (kr [0] [oD 2 (.mov cF)])
(sq (kr [0] [oM 6 0,
oC 7 31 [6],
oM 5 7,
oX 8 5 0,
oX 9 5 1,
oM 3 8,
oM 4 9])
(sq (kr [4] [oM 10 4,
oB 11 .eql 10 (cI 0),
oM 2 11])
.ret)))
def yi_:List RD:=[.tmp 2 true none]
theorem yt_:zo_ Tryz.prog Tryz.f36 yF_ yi_=true:=by kernel_rfl
def Ky_:List AV->List Obj->Option (Prop × AV)
 | [.imm ty0 l],[]=>QU_ ty0 YA l fun l=>some ((okT l,.bool (decide (tbE l=0))))
 | _,_=>none
theorem x6_:ze_ Tryz.prog 36 (RoF Ky_).sum:=by
 refine zz_ Tryz.func36 yt_ (zb_ (s:=RoF qf_) QE_ (zf_ _)) fun args objs p v e=>?_
 unfold Ky_ at e
 split at e
 ·rename_i ty0 l
  obtain rfl:=ZX_ e
  replace e:=ZY_ e
  cases e
  refine ⟨rfl,fun hw ho hp=>?_⟩
  repeat'(intro t ht;first|(cases t<;>first|(cases ht;done)|(try simp only[zh_]at ht;try(exfalso;first|contradiction|omega)))|((first|refine za_ ht ?_|refine ht ?_ ?_|refine ht.1 ?_ ?_|refine ht ?_)<;>clear ht))
  all_goals first
   | exact True.intro
   | exact hp
   | exact ⟨rfl,rfl⟩
 ·cases e
theorem Hn_ {w n:Int} (h0:0<=n) (h1:n<=18446744073709551615) (hw:w=1\/w=2\/w=4):wU_ [w] [n]=if n < 256 ^ w.toNat then some (zi_ n w) else none:=by
 have hR:Zr_ [w]=true/\ki_ [w]=(([n]:List Int).length:Int):=by
  show Zr_ [w]=true/\ki_ [w]=1
  rcases hw with rfl | rfl | rfl<;>exact ⟨by decide,by decide⟩
 have hF:jG_ [w] [n]=if n < 256 ^ w.toNat then some (zi_ n w) else none:=by
  unfold jG_
  rw [if_pos hR]
  simp only [qE_]
  rw [if_neg (by omega)]
  by_cases c:w < 8/\n.fdiv (2 ^ (min (8*w).toNat 64)) ≠ 0
  ·rw [if_pos c,if_neg fun h=>B7_ h0 (by omega) (by omega) h c]
  ·rw [if_neg c,if_pos (hN_ h0 h1 (by omega) (by omega) c),List.nil_append]
 unfold wU_ Kr_ Qb_
 rw [hF]
 by_cases h:n < 256 ^ w.toNat
 ·rw [if_pos h];rfl
 ·rw [if_neg h];rfl
theorem zc6_ {n:Int} (h0:0<=n) (h1:n<=18446744073709551615):wU_ [2,2] [n,4]=if n<=65535 then some (zi_ n 2++[0,4]) else none:=by
 by_cases h:n<=65535
 ·obtain ⟨a,b⟩:=zcB_ (a:=n) (n:=4) ⟨h0,h⟩ (by omega)
  unfold wU_;rw [if_pos b,a,if_pos h];rfl
 ·have hF:jG_ [2,2] [n,4]=none:=by
   unfold jG_
   rw [if_pos ⟨by decide,(by decide:ki_ [2,2]=2)⟩]
   simp only [qE_]
   rw [if_neg (by omega),if_pos]
   refine ⟨by omega,fun hz=>h ?_⟩
   have:=hN_ (n:=2) h0 h1 (by omega) (by omega) (fun c=>c.2 hz)
   have:n < 65536:=this
   omega
  unfold wU_ Kr_;rw [hF,if_neg h];rfl
theorem zcJ_ {t n:Int} (h:tyT t=true) (h0:0<=n) (h1:n<=18446744073709551615):nbO t n=if n<=65535 then some (zi_ n 2++[0,4]) else none:=by
 unfold nbO;rw [if_pos h];exact zc6_ h0 h1
theorem h0_ {n:Int} (h0:0<=n) (h1:n<=255):zi_ n 1=[n]:=by
 have:=Ki_ 1 [n] (by decide) rfl (fun x hx=>by rw [List.mem_singleton] at hx;omega)
 have e:zs_ [n]=n:=by unfold zs_;simp
 rw [e] at this;exact this
theorem nb_1 {t n:Int} (h:tyT t=false) (hs:szT t=1) (h0:0<=n) (h1:n<=18446744073709551615):nbO t n=if n<=254 then some [n] else none:=by
 unfold nbO wdT
 rw [if_neg (by rw [h];decide),if_pos hs]
 by_cases c:n<=254
 ·rw [if_neg (by omega),if_pos c,Hn_ h0 h1 (.inl rfl),if_pos (by show n < 256;omega),h0_ h0 (by omega)]
 ·rw [if_pos ⟨hs,by omega⟩,if_neg c]
theorem bx_ {t n:Int} (h:tyT t=false) (hs:¬ szT t=1) (h0:0<=n) (h1:n<=18446744073709551615):nbO t n=if n < 4294967296 then some (zi_ n 4) else none:=by
 unfold nbO wdT
 rw [if_neg (by rw [h];decide),if_neg fun c=>hs c.1,if_neg hs,Hn_ h0 h1 (.inr (.inr rfl))]
 rfl
def fwY (f:FV):List Int:=(fbW f).getD []
theorem HN_ {f:FV} {y:List Int} (h:fbW f=some y):fwY f=y/\fbK f=decide ((y.length:Int)<=65524)/\(y.length<=65524->fbY f=y):=by
 unfold fwY fbK fbY fnG
 rw [h]
 refine ⟨rfl,?_,fun c=>?_⟩
 ·dsimp only
  by_cases c:(y.length:Int)<=65524
  ·simp only [if_neg (show ¬ (65524:Int) < y.length by omega),decide_eq_true c];rfl
  ·simp only [if_pos (show (65524:Int) < y.length by omega),decide_eq_false c];rfl
 ·dsimp only;rw [if_neg (by omega)]
def tlK (b:List Int):Int:=if b.length < 4 then 3332 else if tN b < 4 then 3332 else if (b.length:Int) < tN b+zr (tN b) then 3332 else if zY_ ((b.drop (tN b).toNat).take (zr (tN b)).toNat)=true then 0 else 3333
def tlI (b:List Int) (x:Int):Int:=if tlK b=0 then x else 0
def tlR (b:List Int):List Int:=if tlK b=0 then bd b else []
theorem zcA_ {b:List Int} (h:b.length < 4):tlK b=3332:=if_pos h
theorem zcy_ {b:List Int} (h:tN b < 4):tlK b=3332:=by
 unfold tlK
 by_cases c:b.length < 4
 ·rw [if_pos c]
 ·rw [if_neg c,if_pos h]
theorem zcz_ {b:List Int} (h:(b.length:Int) < tN b+zr (tN b)):tlK b=3332:=by
 unfold tlK
 by_cases c:b.length < 4
 ·rw [if_pos c]
 ·by_cases c2:tN b < 4
  ·rw [if_neg c,if_pos c2]
  ·rw [if_neg c,if_neg c2,if_pos h]
theorem GZ_ {b:List Int} (h:¬ b.length < 4) (h1:¬ tN b < 4) (h2:¬ (b.length:Int) < tN b+zr (tN b)):tlK b=if zY_ ((b.drop (tN b).toNat).take (zr (tN b)).toNat)=true then 0 else 3333:=by
 unfold tlK;rw [if_neg h,if_neg h1,if_neg h2]
theorem Hh_ {b:List Int} {e:Int} (h:tlK b=e) (h0:e ≠ 0) (x:Int):tlI b x=0/\tlR b=[]:=by
 unfold tlI tlR;rw [h,if_neg h0,if_neg h0];exact ⟨rfl,rfl⟩
theorem vl_ {b:List Int} (h:tlK b=0) (x:Int):tlI b x=x/\tlR b=bd b:=by
 unfold tlI tlR;rw [h,if_pos rfl,if_pos rfl];exact ⟨rfl,rfl⟩
theorem zax_ {k:Int} {y:List Int} (h1:1<=k) (h2:k<=8) (hl:k<=y.length):Q3_ [0 - k] y=(if zY_ (y.take k.toNat)=true then 0 else 2)/\ZT_ [0 - k]=k:=by
 have hr:Zr_ [0 - k]=true:=Zu_.2 ⟨by simp,fun n hn=>by rw [List.mem_singleton] at hn;omega⟩
 have ha:zp_ (0 - k)=k:=by have:=jd_ (n:=0 - k) (by omega);omega
 constructor
 ·unfold Q3_ qY_
  rw [if_pos hr]
  simp only [qg_,ha]
  rw [if_neg (by omega),if_neg (by omega)]
  split<;>rfl
 ·unfold ZT_;rw [if_pos hr,List.map_cons,List.map_nil,List.sum_cons,List.sum_nil,ha,Int.add_zero]
theorem Gw_ {k p sh od:Int} {b:List Int} (h1:1<=k) (h2:k<=8) (h0:0<=p) (hl:p+k<=b.length):ZH_ [0 - k] b p sh od 0=(if zY_ ((b.drop p.toNat).take k.toNat)=true then 0 else od)/\ZV_ [0 - k] b p 0=(if zY_ ((b.drop p.toNat).take k.toNat)=true then p+k else p):=by
 obtain ⟨a,s⟩:=zax_ (k:=k) (y:=b.drop p.toNat) h1 h2 (by rw [List.length_drop];omega)
 unfold ZH_ ZV_
 rw [if_pos rfl,if_pos rfl,a,s]
 by_cases c:zY_ ((b.drop p.toNat).take k.toNat)=true
 ·rw [if_pos c,if_pos c,if_pos c];exact ⟨rfl,rfl⟩
 ·rw [if_neg c,if_neg c,if_neg c];exact ⟨rfl,rfl⟩
def hD_:IR:=
(sq (kr [0,1] [oD 2 (.boxv 0),
oD 4 (.box [.int .i64 0,.imm (.int .u8) []]),
oD 5 (.mov (cI 0)),
oD 6 (.mov (cI 0))])
(sq (sq (.reg [oK 13 5 2,
oC 14 119 [13],
oD 15 (.un .not 14)])
(.cond 15
(sq (kr [4] [oD 16 (.build [.int .i64 0,.imm (.int .u8) []] []),
oS 2 4 16,
oD 5 (.mov (cI 0)),
oD 6 (.mov (cI 10001))])
.ret)
.skip))
(sq (kr [1,2,4] [oM 17 1,
oA 18 3 2,
oL 19 18,
oA 20 4 2,
oL 21 20,
oC 22 51 [17,19,21],
oM 7 22])
(sq (kr [1,2,4,7] [oM 23 7,
oD 24 (.sliceAll (.int .i64) 2 [(0,1,(cI 2)),(1,1,(cI 2))]),
oC 25 89 [23,24],
oM 8 25])
(sq (sq (.reg [oM 26 8,
oE 27 26,
oB 28 .eql 27 (cI 0)])
(.cond 28
(sq (kr [4,7] [oD 29 (.build [.int .i64 0,.imm (.int .u8) []] []),
oM 30 7,
oC 31 53 [30],
oS 2 4 29,
oD 5 (.mov (cI 0)),
oM 6 31])
.ret)
.skip))
(sq (kr [1,2,4,7,8] [oM 32 8,
oD 33 (.indexSl 1 32 (cI 1)),
oL 34 33,
oD 35 (.conv .i64 34),
oM 9 35])
(sq (sq (kr [1,2,4,7,8,9] [oK 36 5 2,
oM 37 9,
oC 38 120 [36,37],
oD 39 (.un .not 38),
oM 40 39,
oF 40 41 (.mov 9),
oF 40 42 (.load (some 5) 2),
oF 40 43 (.mov 9),
oF 40 44 (.call false (.f 121) [42,43]),
oF 40 45 (.bin .add 41 44),
oF 40 46 (.mov 1),
oF 40 47 (.len 46),
oF 40 48 (.bin .gtr 45 47),
oP 49 40 cT 48])
(.cond 49
(sq (kd [2,4] [(oD 50 (.build [.int .i64 0,.imm (.int .u8) []] []),[]),
(oA 51 3 2,[0]),
(oL 52 51,[1]),
(oS 2 4 50,[0,0]),
(oD 5 (.mov (cI 0)),[1,0]),
(oM 6 52,[])])
.ret)
.skip))
(sq (kd [2,4,7,8,9] [(oM 53 8,[]),
(oD 54 (.indexSl 1 53 (cI 0)),[]),
(oL 55 54,[]),
(oD 56 (.conv .i64 55),[]),
(oM 57 7,[0,0,0,0]),
(oM 58 9,[0,0,0,0,0]),
(oB 59 .sub 58 (cI 4),[1,0,0,0,0]),
(oC 60 88 [57,59],[3,0,0,0]),
(oD 61 (.buildAll 2 [(0,1,56),(1,1,60)]),[]),
(oD 10 (.box [.int .i64 0,.imm (.int .u8) []]),[0,0,0,0,0,0,0,0,0]),
(oS 2 10 61,[])])
(sq (sq (kr [2,4,7,9,10] [oK 62 5 2,
oM 63 9,
oC 64 121 [62,63],
oM 11 64])
(sq (.reg [oM 65 11,
oB 66 .gtr 65 (cI 0)])
(.cond 66
(kr [4,7,10,11] [oM 67 7,
oM 68 11,
oD 69 (.un .neg 68),
oD 70 (.sliceAll (.int .i64) 1 [(0,1,69)]),
oC 71 89 [67,70]])
.skip)))
(sq (sq (kr [4,7,10] [oM 72 7,
oC 73 53 [72],
oM 12 73])
(sq (.reg [oM 74 12,
oB 75 .neq 74 (cI 0)])
(.cond 75
(sq (.reg [oD 76 (.build [.int .i64 0,.imm (.int .u8) []] []),
oM 77 12,
oS 2 4 76,
oD 5 (.mov (cI 0)),
oM 6 77])
.ret)
.skip)))
(sq (kd [4,7,10] [(oK 78 2 10,[]),
(oM 79 7,[0]),
(oC 80 90 [79],[1]),
(oS 2 4 78,[]),
(oM 5 80,[]),
(oD 6 (.mov (cI 0)),[])])
.ret)))))))))))
def G7_:List RD:=[.cell 4 (some 2) true [],.tmp 5 true none,.tmp 6 true none]
theorem hg_:zo_ Tryz.prog Tryz.f65 hD_ G7_=true:=by kernel_rfl
def yV_:List AV->List Obj->Option (Prop × AV)
 | [.agg [.int .i64 least,.int .i64 step,.bool pad,.int .i64 bad,.int .i64 odd],.imm (.int .u8) b],[]=>some ((pad=true/\least=4/\step=8/\bad=3332/\odd=3333/\b.length<=140737488355328,.tup [.agg [.int .i64 (tlI b (tT b)),.imm (.int .u8) (tlR b)],.int .i64 (tlI b (tN b+zr (tN b))),.int .i64 (tlK b)]))
 | _,_=>none
theorem gm_:ze_ Tryz.prog 65 (RoF yV_).sum:=by
 refine zz_ Tryz.func65 hg_ (zb_ (s:=RoF Qz_) jr_ (zb_ (s:=RwF q4_) Q6_ (zb_ (s:=RwF ZM_) qv_ (zb_ (s:=RoF zA_) zE_ (zb_ (s:=RoF q1_) K2_ (zb_ (s:=RoF qC_) KD_ (zb_ (s:=RwF zW_) ZD_ (zb_ (s:=RoF QO_) wR_ (zf_ _))))))))) fun args objs p v e=>?_
 unfold yV_ at e
 split at e
 ·rename_i least step pad bad odd b
  cases e
  refine ⟨rfl,fun hw ho hp=>?_⟩
  change List Int at b
  have hb:∀ x ∈ (b:List Int),(0:Int)<=x/\x<=255:=fun x hx=>(hw _ (by simp:AV.imm (.int .u8) b ∈ _)).1 x hx
  clear hw ho
  obtain ⟨rfl,rfl,rfl,rfl,rfl,hl⟩:=hp
  have hs:(4:Int)<=4/\(4:Int)<=60000/\(1:Int)<=8/\(8:Int)<=64/\(3332:Int) ≠ 0/\(3333:Int) ≠ 0:=⟨by decide,by decide,by decide,by decide,by decide,by decide⟩
  have hT:0<=tT b/\tT b<=65535:=Uy_ (a:=0) hb
  have hN:0<=tN b/\tN b<=65535:=Uy_ (a:=2) hb
  have hz:=VI_ hN.1
  obtain ⟨c1,c2,c3⟩:=zeq_ (b:=b) (sh:=3332) (od:=3333)
  by_cases h4:b.length < 4
  ·rw [if_pos h4] at c1 c2 c3
   have hE:=zcA_ h4
   have hno:=Hh_ hE (by decide)
   repeat'(intro t ht;first|(cases t<;>first|(cases ht;done)|(try simp only[zh_]at ht;try(exfalso;first|contradiction|omega)))|((first|refine za_ ht ?_|refine ht ?_ ?_|refine ht.1 ?_ ?_|refine ht ?_)<;>clear ht))
   all_goals (try simp only [c1,c2,c3,List.length_nil,not_true_eq_false] at*)
   all_goals first
    | exact True.intro
    | exact hs
    | omega
    | exact ⟨by omega,by omega,by omega⟩
    | (rw [(hno (tT b)).1,(hno (tN b+zr (tN b))).1,(hno (tT b)).2,hE];first | exact ⟨rfl,rfl⟩ | exact ⟨rfl,trivial⟩)
    | (exfalso;omega)
  ·rw [if_neg h4] at c1 c2 c3
   have g0:∀ d:Int,[tT b,tN b].getD (Int.toNat 0) d=tT b:=fun _=>rfl
   have g1:∀ d:Int,[tT b,tN b].getD (Int.toNat 1) d=tN b:=fun _=>rfl
   by_cases hn4:tN b < 4
   ·have hE:=zcy_ hn4
    have hno:=Hh_ hE (by decide)
    repeat'(intro t ht;first|(cases t<;>first|(cases ht;done)|(try simp only[zh_]at ht;try(exfalso;first|contradiction|omega)))|((first|refine za_ ht ?_|refine ht ?_ ?_|refine ht.1 ?_ ?_|refine ht ?_)<;>clear ht))
    all_goals (try simp only [c1,c2,c3,g0,g1,List.length_cons,List.length_nil,not_true_eq_false] at*)
    all_goals first
     | exact True.intro
     | exact rfl
     | exact hs
     | omega
     | exact ⟨by omega,by omega,by omega⟩
     | ((try simp only [zI_,zK_,zn_] at*);omega)
     | (exfalso;omega)
     | (rw [(hno (tT b)).1,(hno (tN b+zr (tN b))).1,(hno (tT b)).2,hE];first | exact ⟨rfl,rfl⟩ | exact ⟨rfl,trivial⟩)
   ·by_cases hnl:(b.length:Int) < tN b+zr (tN b)
    ·have hE:=zcz_ hnl
     have hno:=Hh_ hE (by decide)
     repeat'(intro t ht;first|(cases t<;>first|(cases ht;done)|(try simp only[zh_]at ht;try(exfalso;first|contradiction|omega)))|((first|refine za_ ht ?_|refine ht ?_ ?_|refine ht.1 ?_ ?_|refine ht ?_)<;>clear ht))
     all_goals (try simp only [c1,c2,c3,g0,g1,List.length_cons,List.length_nil,not_true_eq_false] at*)
     all_goals first
      | exact True.intro
      | exact rfl
      | exact hs
      | omega
      | exact ⟨by omega,by omega,by omega⟩
      | exact ⟨rfl,rfl,by omega,by omega⟩
      | ((try simp only [zI_,zK_,zn_] at*);omega)
      | (exfalso;omega)
      | (rw [(hno (tT b)).1,(hno (tN b+zr (tN b))).1,(hno (tT b)).2,hE];first | exact ⟨rfl,rfl⟩ | exact ⟨rfl,trivial⟩)
    ·have e1:Zj_ (tN b - 4) b 4 3332 0=0:=by unfold Zj_;rw [if_neg (by omega),if_neg (by omega)]
     have e2:zm_ (tN b - 4) b 4 3332 0=bd b:=by unfold zm_ bd;rw [if_pos e1];congr 2;omega
     have e3:q6_ (tN b - 4) b 4 3332 0=tN b:=by unfold q6_;rw [if_pos e1];omega
     have hK:=GZ_ h4 hn4 hnl
     have hC:=fun h=>Gw_ (k:=zr (tN b)) (p:=tN b) (sh:=3332) (od:=3333) (b:=b) h (by omega) hN.1 (by omega)
     repeat'(intro t ht;first|(cases t<;>first|(cases ht;done)|(try simp only[zh_]at ht;try(exfalso;first|contradiction|omega)))|((first|refine za_ ht ?_|refine ht ?_ ?_|refine ht.1 ?_ ?_|refine ht ?_)<;>clear ht))
     all_goals (try simp only [c1,c2,c3,g0,g1,e1,e2,e3,List.length_cons,List.length_nil,not_true_eq_false] at*)
     all_goals first
      | exact True.intro
      | exact rfl
      | exact hs
      | omega
      | exact ⟨by omega,by omega,by omega⟩
      | exact ⟨by omega,by omega,by omega,by decide⟩
      | exact ⟨rfl,rfl,by omega,by omega⟩
      | ((try simp only [zI_,zK_,zn_] at*);omega)
      | (exfalso;omega)
      | (have z0:zr (tN b)=0:=by omega
         have hE:tlK b=0:=by rw [hK,z0];rfl
         have q:=fun x=>vl_ hE x
         rw [(q (tT b)).1,(q (tN b+zr (tN b))).1,(q (tT b)).2,hE,z0,Int.add_zero];first | exact ⟨rfl,rfl⟩ | exact ⟨rfl,trivial⟩)
      | (obtain ⟨d1,d2⟩:=hC (by omega)
         by_cases c:zY_ ((b.drop (tN b).toNat).take (zr (tN b)).toNat)=true
         ·rw [if_pos c] at d1 d2 hK
          have q:=fun x=>vl_ hK x
          first
           | exact absurd d1 ht
           | (rw [(q (tT b)).1,(q (tN b+zr (tN b))).1,(q (tT b)).2,hK,d2];first | exact ⟨rfl,rfl⟩ | exact ⟨rfl,trivial⟩)
         ·rw [if_neg c] at d1 d2 hK
          have q:=fun x=>Hh_ hK (by decide) x
          first
           | (exfalso;rw [d1] at ht;revert ht;decide)
           | (rw [(q (tT b)).1,(q (tN b+zr (tN b))).1,(q (tT b)).2,hK,d1];first | exact ⟨rfl,rfl⟩ | exact ⟨rfl,trivial⟩))
 ·cases e
end Go.Eng
