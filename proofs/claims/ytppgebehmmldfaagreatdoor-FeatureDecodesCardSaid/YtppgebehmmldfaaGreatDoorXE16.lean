/- Parts of the proof: TC, TD. No condition. -/
import Derived.Test.YtppgebehmmldfaaGreatDoorProg
import Derived.Test.YtppgebehmmldfaaGreatDoorXE10
import Derived.KernelRfl
import Derived.Test.YtppgebehmmldfaaGreatDoorXE15
namespace Go.Eng
open Go.Proofs
set_option linter.unusedVariables false
set_option linter.unusedSimpArgs false
set_option maxRecDepth 100000
set_option maxHeartbeats 1000000
theorem Xk_:∀ (m l:List Int),ze_ (l++m)=ze_ l*256 ^ m.length+ze_ m
 | [],l=>by simp [ze_]
 | c :: m,l=>by
   have h1:=Xk_ m (l++[c])
   have h2:=Xk_ m [c]
   have e:ze_ [c]=c:=by unfold ze_;simp
   rw [v1_] at h1
   rw [e] at h2
   rw [show l++c :: m=(l++[c])++m by simp,h1,show c :: m=[c]++m from rfl,h2,List.length_append,List.length_singleton,Nat.add_comm 1,Int.pow_succ,Int.add_mul,Int.mul_assoc,Int.mul_comm 256,Int.add_assoc]
theorem num4 {y:List Int} (hb:∀ z ∈ y,0<=z/\z<=255) (h:4<=y.length):ze_ (y.take 4)=ze_ (y.take 2)*65536+ze_ ((y.drop 2).take 2)/\0<=ze_ (y.take 2)/\ze_ (y.take 2)<=65535/\0<=ze_ ((y.drop 2).take 2)/\ze_ ((y.drop 2).take 2)<=65535:=by
 have e:y.take 4=y.take 2++(y.drop 2).take 2:=by rw [<- List.take_add]
 have h2:=Kp_ (a:=0) hb
 have h3:=Kp_ (a:=2) hb
 rw [List.drop_zero] at h2
 refine ⟨?_,h2.1,h2.2,h3.1,h3.2⟩
 rw [e,Xk_,List.length_take,List.length_drop,show min 2 (y.length - 2)=2 by omega];rfl
theorem kq_ {x:List Int} {p s:Nat} (hb:∀ z ∈ x,0<=z/\z<=255) (h:p+s<=x.length) (hs:s<=8):((x.take (p+s)).drop p).length<=8/\ze_ ((x.take (p+s)).drop p)=ze_ ((x.drop p).take s):=by
 rw [List.drop_take,show p+s - p=s by omega,List.length_take]
 exact ⟨by omega,rfl⟩
def rfN (dup:Bool) (t:Int) (x:List Int):List Int:=if szT t=0 then [] else if otT t=true then (if x.length < 8 then [] else [ze_ (x.take 4),ze_ ((x.drop 4).take 4)]) else if dup=true then [] else if ¬ (x.length:Int).tmod (szT t)=0 then [] else if (nuG t x).2=0 then (nuG t x).1 else (nuG t x).1.dropLast
theorem rf_0 {D:Bool} {t:Int} {x:List Int} (h:szT t=0):ftE D t x=3331/\rfN D t x=[]/\ftD t x=[]:=by
 obtain ⟨a,_,c⟩:=ft_0 (D:=D) (x:=x) h
 refine ⟨a,?_,c⟩
 unfold rfN;rw [if_pos h]
theorem rf_o {D:Bool} {t:Int} {x:List Int} (h:¬ szT t=0) (ho:otT t=true):ftE D t x=(if x.length < 8 then 3332 else 0)/\rfN D t x=(if x.length < 8 then [] else [ze_ (x.take 4),ze_ ((x.drop 4).take 4)])/\ftD t x=(if x.length < 8 then [] else x.drop 8):=by
 obtain ⟨a,_,c⟩:=ft_o (D:=D) (x:=x) h ho
 refine ⟨a,?_,c⟩
 unfold rfN;rw [if_neg h,if_pos ho]
theorem rf_d {D:Bool} {t:Int} {x:List Int} (h:¬ szT t=0) (ho:otT t=false) (hD:D=true):ftE D t x=3333/\rfN D t x=[]/\ftD t x=[]:=by
 subst hD
 obtain ⟨a,_,c⟩:=ft_d (x:=x) h ho
 refine ⟨a,?_,c⟩
 unfold rfN;rw [if_neg h,ho];rfl
theorem rf_m {D:Bool} {t:Int} {x:List Int} (h:¬ szT t=0) (ho:otT t=false) (hD:D=false) (hm:¬ (x.length:Int).tmod (szT t)=0):ftE D t x=3332/\rfN D t x=[]/\ftD t x=[]:=by
 subst hD
 obtain ⟨a,_,c⟩:=ft_m (x:=x) h ho hm
 refine ⟨a,?_,c⟩
 unfold rfN;rw [if_neg h,ho,if_pos hm];rfl
theorem rf_n {D:Bool} {t:Int} {x:List Int} (h:¬ szT t=0) (ho:otT t=false) (hD:D=false) (hm:(x.length:Int).tmod (szT t)=0):ftE D t x=(nuG t x).2/\rfN D t x=(if (nuG t x).2=0 then (nuG t x).1 else (nuG t x).1.dropLast)/\ftD t x=[]:=by
 obtain ⟨a,_,c⟩:=b4_ (x:=x) h ho hD hm
 refine ⟨a,?_,c⟩
 subst hD
 unfold rfN;rw [if_neg h,ho,if_neg (not_not_intro hm)];rfl
theorem q1z:Int.toNat 0=0:=rfl
def UZ_:IR:=
(sq (kr [0,1] [oD 2 (.boxv 0),
oD 4 (.box [.int .i64 0,.nils,.nils]),
oD 5 (.mov (cI 0))])
(sq (.reg [oA 12 0 2,
oL 13 12,
oD 14 (.build [.int .i64 0,.nils,.nils] [(0,1,13)]),
oD 6 (.box [.int .i64 0,.nils,.nils]),
oS 3 6 14])
(sq (kr [1,2,4,6] [oA 15 0 2,
oL 16 15,
oC 17 48 [16],
oM 7 17])
(sq (sq (.reg [oM 18 7,
oB 19 .eql 18 (cI 0)])
(.cond 19
(sq (kr [4,6] [oK 20 3 6,
oS 3 4 20,
oD 5 (.mov (cI 3331))])
.ret)
.skip))
(sq (sq (kr [1,2,4,6,7] [oD 8 (.mov (cI 0))])
(.block 0
(.loop
(sq (sq (kr [1,2,4,6,7,8] [oM 21 8,
oM 22 1,
oE 23 22,
oB 24 .lss 21 23])
(.cond 24
.skip
(.exit 0)))
(sq (.block 1
(sq (kd [1,2,4,6,7,8] [(oM 27 1,[]),
(oM 28 8,[0]),
(oI 29 3 27 28,[]),
(oA 30 0 29,[]),
(oL 31 30,[]),
(oA 32 0 2,[0,0,0,0,0]),
(oL 33 32,[1,0,0,0,0]),
(oB 34 .eql 31 33,[]),
(oM 35 34,[]),
(oT 35 36 (.fieldAddr 0 2),[]),
(oT 35 37 (.load none 36),[]),
(oT 35 38 (.call false (.f 60) [37]),[]),
(oT 35 39 (.un .not 38),[]),
(oP 40 35 39 cF,[])])
(.cond 40
(sq (kr [4,6] [oK 41 3 6,
oS 3 4 41,
oD 5 (.mov (cI 3333))])
.ret)
.skip)))
(kr [1,2,4,6,7,8] [oM 25 8,
oB 26 .add 25 (cI 1),
oM 8 26]))))))
(sq (kr [2,4,6,7] [oA 42 1 2,
oL 43 42,
oM 9 43])
(sq (sq (.reg [oA 44 0 2,
oL 45 44,
oC 46 60 [45]])
(.cond 46
(sq (sq (kr [4,6,9] [oM 47 9,
oE 48 47,
oB 49 .lss 48 (cI 8)])
(.cond 49
(sq (.reg [oK 50 3 6,
oS 3 4 50,
oD 5 (.mov (cI 3332))])
.ret)
.skip))
(sq (kd [4,6,9] [(oM 51 9,[]),
(oD 52 (.slice 1 51 none (some (cI 4)) none),[]),
(oC 53 31 [52],[]),
(oM 54 9,[0,0,0]),
(oD 55 (.slice 1 54 (some (cI 4)) (some (cI 8)) none),[1,0,0]),
(oC 56 31 [55],[]),
(oD 57 (.sliceAll (.int .u64) 2 [(0,1,53),(1,1,56)]),[]),
(oA 58 1 6,[]),
(oS 1 58 57,[])])
(sq (kr [4,6,9] [oM 59 9,
oD 60 (.slice 1 59 (some (cI 8)) none none),
oA 61 2 6,
oS 1 61 60])
(sq (.reg [oK 62 3 6,
oS 3 4 62,
oD 5 (.mov (cI 0))])
.ret))))
.skip))
(sq (sq (kr [2,4,6,7,9] [oM 63 9,
oE 64 63,
oM 65 7,
oB 66 .rem 64 65,
oB 67 .neq 66 (cI 0)])
(.cond 67
(sq (.reg [oK 68 3 6,
oS 3 4 68,
oD 5 (.mov (cI 3332))])
.ret)
.skip))
(sq (sq (kr [2,4,6,7,9] [oD 10 (.mov (cI 0))])
(.block 2
(.loop
(sq (sq (kr [2,4,6,7,9,10] [oM 69 10,
oM 70 9,
oE 71 70,
oB 72 .lss 69 71])
(.cond 72
.skip
(.exit 2)))
(sq (.block 3
(sq (kr [2,4,6,7,9,10] [oM 76 9,
oM 77 10,
oM 78 10,
oM 79 7,
oB 80 .add 78 79,
oD 81 (.slice 1 76 (some 77) (some 80) none),
oC 82 31 [81],
oM 11 82])
(sq (sq (kr [2,4,6,7,9,10,11] [oA 83 0 2,
oL 84 83,
oC 85 61 [84]])
(.cond 85
(sq (sq (.reg [oM 86 11,
oB 87 .rem 86 (.c (.int .u64 65536)),
oB 88 .neq 87 (.c (.int .u64 4))])
(.cond 88
(sq (kr [4,6] [oK 89 3 6,
oS 3 4 89,
oD 5 (.mov (cI 3333))])
.ret)
.skip))
(kr [2,4,6,7,9,10,11] [oM 90 11,
oB 91 .quo 90 (.c (.int .u64 65536)),
oM 11 91]))
.skip))
(sq (sq (kr [2,4,6,7,9,10,11] [oM 92 7,
oB 93 .eql 92 (cI 1),
oM 94 93,
oT 94 95 (.mov 11),
oT 94 96 (.bin .eql 95 (.c (.int .u64 255))),
oP 97 94 96 cF])
(.cond 97
(sq (kr [4,6] [oK 98 3 6,
oS 3 4 98,
oD 5 (.mov (cI 3333))])
.ret)
.skip))
(kr [2,4,6,7,9,10,11] [oA 99 1 6,
oL 100 99,
oM 101 11,
oD 102 (.sliceAll (.int .u64) 1 [(0,1,101)]),
oD 103 (.append (.int .u64) 8 100 102),
oA 104 1 6,
oS 1 104 103])))))
(kr [2,4,6,7,9,10] [oM 73 10,
oM 74 7,
oB 75 .add 73 74,
oM 10 75]))))))
(sq (kr [4,6] [oK 105 3 6,
oS 3 4 105,
oD 5 (.mov (cI 0))])
.ret))))))))))
def Uj_:List RD:=[.cell 4 (some 3) true [none,(some (.int .u64)),(some (.int .u8))],.tmp 5 true none]
theorem Uy_:zo_ Tryz.prog Tryz.f35 UZ_ Uj_=true:=by kernel_rfl
def WF_:List AV->List Obj->Option (Prop × AV × List Obj)
 | [.agg [.int .i64 tt,.imm (.int .u8) x],.nils],[]=>some ((x.length<=100000,.tup [.agg [.int .i64 tt,.imm (.int .u64) ((rfN false tt x)),.imm (.int .u8) ((ftD tt x))],.int .i64 (ftE false tt x)],[]))
 | [.agg [.int .i64 tt,.imm (.int .u8) x],.own 0],[.row false (.cons (.int .i64) (.cons (.sl (.int .u64)) (.cons (.sl (.int .u8)) .nil))) acc]=>some ((x.length<=100000/\acc.length<=1000000,.tup [.agg [.int .i64 tt,.imm (.int .u64) ((rfN ((tyL acc).contains tt) tt x)),.imm (.int .u8) ((ftD tt x))],.int .i64 (ftE ((tyL acc).contains tt) tt x)],[.row false (.cons (.int .i64) (.cons (.sl (.int .u64)) (.cons (.sl (.int .u8)) .nil))) acc]))
 | _,_=>none
theorem VH_:zf_ Tryz.prog 35 (RwF WF_).sum:=by
 refine ZS_ Tryz.func35 Uy_ (zb_ (s:=RoF WG_) VI_ (zb_ (s:=RoF jP_) yS_ (zb_ (s:=RoF q9_) Q0_ (zb_ (s:=RoF wo_) va_ (zg_ _))))) fun args objs p v o e=>?_
 unfold WF_ at e
 split at e
 ·rename_i tt x
  cases e
  refine ⟨rfl,fun hw ho hp=>?_⟩
  change List Int at x
  have hb:∀ y ∈ (x:List Int),(0:Int)<=y/\y<=255:=by
   have h1:=(hw (.agg [.int .i64 tt,.imm (.int .u8) x]) (List.mem_cons_self ..)) (.imm (.int .u8) x) (by simp)
   exact fun y hy=>h1.1 y hy
  clear hw ho
  change List Int at x
  have hz:=KK_ tt
  have t4:(x.take 4).length<=8:=by rw [List.length_take];omega
  have t8:((x.take 8).drop 4).length<=8:=by rw [List.length_drop,List.length_take];omega
  have v8:ze_ ((x.take (8:Int).toNat).drop (4:Int).toNat)=ze_ ((x.drop 4).take 4):=by rw [List.drop_take];rfl
  repeat'(intro t ht;first|(cases t<;>first|(cases ht;done)|(try simp only[zh_]at ht;try(exfalso;first|contradiction|omega)))|((first|refine za_ ht ?_|refine ht ?_ ?_|refine ht.1 ?_ ?_|refine ht ?_)<;>clear ht))
  all_goals first
   | exact True.intro
   | (refine ⟨?_,rfl⟩
      obtain ⟨q1,q2,q3⟩:=rf_0 (D:=false) (x:=x) ht
      rw [q1,q2,q3];done)
   | (intro r h1 h2;clear h1;refine h2 ⟨[1,2,4,6,7,8],Nat,(fun i=>i=0),fun i=>[.nils,.ptr 0 0,.ptr 1 0,.ptr 2 0,.int .i64 (szT tt),.int .i64 i],fun i=>[.box [.int .i64 tt,.imm (.int .u8) x],.box [.int .i64 0,.nils,.nils],.box [.int .i64 tt,.nils,.nils]],fun i=>0 - i,⟨0,rfl,rfl,rfl⟩,?_⟩;clear h2)
  rintro i rfl
  have hce:((false:Bool) && !otT tt)=false:=rfl
  have hDf:True->otT tt=false->false=false:=fun _ _=>rfl
  repeat'(intro t ht;first|(cases t<;>first|(cases ht;done)|(try simp only[zh_]at ht;try(exfalso;first|contradiction|omega)))|((first|refine za_ ht ?_|refine ht ?_ ?_|refine ht.1 ?_ ?_|refine ht ?_)<;>clear ht))
  all_goals (try generalize (Ty.dflt (.cons (.int .i64) (.cons (.sl (.int .u64)) (.cons (.sl (.int .u8)) .nil))))=od at*)
  all_goals first
   | exact True.intro
   | exact ‹¬ szT tt=0›
   | omega
   | exact t4
   | exact t8
   | ((try dsimp only);simp only [zl_];omega)
   | (refine ⟨?_,?_⟩<;>omega)
   | (refine ⟨?_,?_,?_⟩<;>omega)
   | (refine ⟨?_,rfl⟩
      obtain ⟨q1,q2,q3⟩:=rf_o (D:=false) (x:=x) ‹¬ szT tt=0› ‹otT tt=true›
      rw [q1,q2,q3]
      first
       | (simp only [if_pos (show x.length < 8 by omega)];done)
       | (simp only [if_neg (show ¬ x.length < 8 by omega)];rw [v8];rfl))
   | (refine ⟨?_,rfl⟩
      obtain ⟨q1,q2,q3⟩:=rf_m (D:=false) (x:=x) ‹¬ szT tt=0› ‹otT tt=false› (hDf (by first | omega | trivial) ‹otT tt=false›) ‹¬ (x.length:Int).tmod (szT tt)=0›
      rw [q1,q2,q3];done)
   | skip
  ·have hs0:¬ szT tt=0:=by assumption
   have hot:otT tt=false:=by assumption
   have hmod:(x.length:Int).tmod (szT tt)=0:=by assumption
   have h8:=rf_n (D:=false) (x:=x) hs0 hot (hDf (by first | omega | trivial) hot) hmod
   have hz2:(szT tt=1/\tyT tt=false)\/(szT tt=4/\tyT tt=true)\/(szT tt=4/\tyT tt=false):=by
    rcases hz with ⟨q,_⟩ | ⟨q,r,_⟩ | ⟨q,_⟩ | ⟨_,_,q,_⟩
    ·exact absurd q hs0
    ·exact .inl ⟨q,r⟩
    ·cases h:tyT tt
     ·exact .inr (.inr ⟨q,rfl⟩)
     ·exact .inr (.inl ⟨q,rfl⟩)
    ·rw [hot] at q;cases q
   clear hz
   rcases hz2 with ⟨hs,hty⟩ | ⟨hs,hty⟩ | ⟨hs,hty⟩
   ·-- a number has 1 bytes
    have hx4:x.length % 1=0:=by rw [hs,Int.tmod_eq_emod_of_nonneg (by omega)] at hmod;omega
    have hng:=xb_ (t:=tt) (x:=x) (s:=1) hs (by decide)
    have hnw:nuW tt=1:=by unfold nuW;rw [hty,hs];decide
    first
     | (intro r h1 h2;clear h1;refine h2 ⟨[2,4,6,7,9,10],Option (List Int × Nat),(fun a=>match a with | none=>True | some a=>a.2<=x.length/\a.1.length<=a.2/\(x.length - a.2) % 1=0/\nuG tt x=(a.1++(nuG tt (x.drop a.2)).1,(nuG tt (x.drop a.2)).2)),(fun a=>[.ptr 0 0,.ptr 1 0,.ptr 2 0,.int .i64 1,.imm (.int .u8) x,.int .i64 (match a with | none=>(0:Int) | some a=>(a.2:Int))]),(fun a=>match a with | none=>[.box [.int .i64 tt,.imm (.int .u8) x],.box [.int .i64 0,.nils,.nils],.box [.int .i64 tt,.nils,.nils]] | some a=>[.box [.int .i64 tt,.imm (.int .u8) x],.box [.int .i64 0,.nils,.nils],.box [.int .i64 tt,.own 3,.nils],.row false (.int .u64) a.1]),(fun a=>match a with | none=>x.length+1 | some a=>x.length - a.2),⟨none,True.intro,(by rw [hs];rfl),rfl⟩,?_⟩;clear h2)
    rintro (_ | ⟨ns,p⟩) hJ
    ·clear hJ
     have hfit:0 < x.length->0+1<=x.length:=fun h=>by omega
     have g1:=fun h:0+1<=x.length=>kq_ (x:=x) (p:=0) (s:=1) hb h (by decide)
     have hx0:nuG tt x=(([]:List Int)++(nuG tt (x.drop 0)).1,(nuG tt (x.drop 0)).2):=rfl
     have hg:=fun h:0 < x.length=>hng 0 h
     repeat'(intro t ht;first|(cases t<;>first|(cases ht;done)|(try simp only[zh_]at ht;try(exfalso;first|contradiction|omega)))|((first|refine za_ ht ?_|refine ht ?_ ?_|refine ht.1 ?_ ?_|refine ht ?_)<;>clear ht))
     all_goals (try dsimp only at ht)
     all_goals (try dsimp only)
     all_goals first
      | exact True.intro
      | (exfalso;have q:=hty.symm.trans ‹tyT tt=true›;exact absurd q (by decide))
      | omega
      | decide
      | (dsimp only;omega)
      | ((try dsimp only);simp only [zl_];omega)
      | (refine ⟨?_,?_⟩<;>first | omega | (dsimp only;omega))
      | (refine ⟨?_,?_,?_⟩<;>first | omega | (dsimp only;omega))
      | (simp only [List.length_take,List.length_drop];omega)
      | (simp only [List.length_cons,List.length_nil];constructor<;>omega)
      | (refine ⟨?_,rfl⟩
         have e:nuG tt x=([],0):=k4_ (by omega)
         rw [h8.1,h8.2.1,h8.2.2,e];rfl)
      | skip
     all_goals have hlt:0 < x.length:=by first | omega | (dsimp only at*;omega)
     all_goals obtain ⟨a1,a2⟩:=g1 (hfit hlt)
     all_goals have z2:((0:Int)+1).toNat=0+1:=rfl
     all_goals have hv:nuV tt (x.drop 0)=ze_ ((x.drop 0).take 1):=by unfold nuV;rw [hnw];rfl
     all_goals have n1:=wC_ ((x.drop 0).take 1) (fun z hz=>hb z (List.mem_of_mem_drop (List.mem_of_mem_take hz)))
     all_goals have n2:((x.drop 0).take 1).length=1:=by rw [List.length_take,List.length_drop];omega
     all_goals rw [n2] at n1
     all_goals have n3:ze_ ((x.drop 0).take 1) < 256:=n1.2
     all_goals (try simp only [q1z,z2,a2] at ht)
     all_goals (try simp only [q1z,z2,a2])
     all_goals first
      | omega
      | ((try dsimp only);simp only [zl_];omega)
      | (simp only [List.length_cons,List.length_nil];constructor<;>omega)
      | (have e:=(hg hlt).1 (by rw [ym_ hty hs,hv];exact decide_eq_true (by omega))
         have e2:nuG tt x=([]++[nuV tt (x.drop 0)],3333):=by rw [hx0,e]
         first | refine ⟨?_,rfl⟩ | refine ⟨?_,trivial⟩
         rw [h8.1,h8.2.1,h8.2.2,e2];dsimp only;rw [if_neg (by decide),List.dropLast_concat])
      | (have e:=(hg hlt).2 (by rw [ym_ hty hs,hv];exact decide_eq_false (by omega))
         refine ⟨some ([]++[nuV tt (x.drop 0)],0+1),⟨by dsimp only;omega,by dsimp only;simp only [List.length_append,List.length_cons,List.length_nil];omega,by dsimp only;omega,?_⟩,by dsimp only;omega,?_,?_⟩
         ·rw [hx0,e];dsimp only;rw [List.append_assoc];rfl
         ·rfl
         ·first | rfl | (rw [hv];rfl) | (dsimp only;rw [hv];rfl))
    ·obtain ⟨j1,j2,j3,j4⟩:=hJ
     dsimp only at j1 j2 j3 j4
     have hfit:p < x.length->p+1<=x.length:=fun h=>by omega
     have g1:=fun h:p+1<=x.length=>kq_ (x:=x) (p:=p) (s:=1) hb h (by decide)
     have hg:=fun h:p < x.length=>hng p h
     repeat'(intro t ht;first|(cases t<;>first|(cases ht;done)|(try simp only[zh_]at ht;try(exfalso;first|contradiction|omega)))|((first|refine za_ ht ?_|refine ht ?_ ?_|refine ht.1 ?_ ?_|refine ht ?_)<;>clear ht))
     all_goals (try dsimp only at ht)
     all_goals (try dsimp only)
     all_goals first
      | exact True.intro
      | (exfalso;have q:=hty.symm.trans ‹tyT tt=true›;exact absurd q (by decide))
      | omega
      | decide
      | (dsimp only;omega)
      | ((try dsimp only);simp only [zl_];omega)
      | (refine ⟨?_,?_⟩<;>first | omega | (dsimp only;omega))
      | (refine ⟨?_,?_,?_⟩<;>first | omega | (dsimp only;omega))
      | (simp only [List.length_take,List.length_drop];omega)
      | (simp only [List.length_cons,List.length_nil];constructor<;>omega)
      | (refine ⟨?_,rfl⟩
         have e:nuG tt x=(ns,0):=by rw [j4,jx_ (by omega),List.append_nil]
         rw [h8.1,h8.2.1,h8.2.2,e];rfl)
      | skip
     all_goals have hlt:p < x.length:=by first | omega | (dsimp only at*;omega)
     all_goals obtain ⟨a1,a2⟩:=g1 (hfit hlt)
     all_goals have z2:((p:Int)+1).toNat=p+1:=by omega
     all_goals have hv:nuV tt (x.drop p)=ze_ ((x.drop p).take 1):=by unfold nuV;rw [hnw];rfl
     all_goals have n1:=wC_ ((x.drop p).take 1) (fun z hz=>hb z (List.mem_of_mem_drop (List.mem_of_mem_take hz)))
     all_goals have n2:((x.drop p).take 1).length=1:=by rw [List.length_take,List.length_drop];omega
     all_goals rw [n2] at n1
     all_goals have n3:ze_ ((x.drop p).take 1) < 256:=n1.2
     all_goals (try simp only [z2,Int.toNat_natCast,a2] at ht)
     all_goals (try simp only [z2,Int.toNat_natCast,a2])
     all_goals first
      | omega
      | ((try dsimp only);simp only [zl_];omega)
      | (simp only [List.length_cons,List.length_nil];constructor<;>omega)
      | (have e:=(hg hlt).1 (by rw [ym_ hty hs,hv];exact decide_eq_true (by omega))
         have e2:nuG tt x=(ns++[nuV tt (x.drop p)],3333):=by rw [j4,e]
         first | refine ⟨?_,rfl⟩ | refine ⟨?_,trivial⟩
         rw [h8.1,h8.2.1,h8.2.2,e2];dsimp only;rw [if_neg (by decide),List.dropLast_concat])
      | (have e:=(hg hlt).2 (by rw [ym_ hty hs,hv];exact decide_eq_false (by omega))
         refine ⟨some (ns++[nuV tt (x.drop p)],p+1),⟨by dsimp only;omega,by dsimp only;simp only [List.length_append,List.length_cons,List.length_nil];omega,by dsimp only;omega,?_⟩,by dsimp only;omega,?_,?_⟩
         ·rw [j4,e];dsimp only;rw [List.append_assoc];rfl
         ·dsimp only;first | rfl | (rw [show ((p:Int)+1)=((p+1:Nat):Int) by omega];rfl)
         ·first | rfl | (rw [hv];rfl) | (dsimp only;rw [hv];rfl))
   ·-- a number has 4 bytes
    have hx4:x.length % 4=0:=by rw [hs,Int.tmod_eq_emod_of_nonneg (by omega)] at hmod;omega
    have hng:=xb_ (t:=tt) (x:=x) (s:=4) hs (by decide)
    have hnw:nuW tt=2:=by unfold nuW;rw [hty,hs];decide
    first
     | (intro r h1 h2;clear h1;refine h2 ⟨[2,4,6,7,9,10],Option (List Int × Nat),(fun a=>match a with | none=>True | some a=>a.2<=x.length/\a.1.length<=a.2/\(x.length - a.2) % 4=0/\nuG tt x=(a.1++(nuG tt (x.drop a.2)).1,(nuG tt (x.drop a.2)).2)),(fun a=>[.ptr 0 0,.ptr 1 0,.ptr 2 0,.int .i64 4,.imm (.int .u8) x,.int .i64 (match a with | none=>(0:Int) | some a=>(a.2:Int))]),(fun a=>match a with | none=>[.box [.int .i64 tt,.imm (.int .u8) x],.box [.int .i64 0,.nils,.nils],.box [.int .i64 tt,.nils,.nils]] | some a=>[.box [.int .i64 tt,.imm (.int .u8) x],.box [.int .i64 0,.nils,.nils],.box [.int .i64 tt,.own 3,.nils],.row false (.int .u64) a.1]),(fun a=>match a with | none=>x.length+1 | some a=>x.length - a.2),⟨none,True.intro,(by rw [hs];rfl),rfl⟩,?_⟩;clear h2)
    rintro (_ | ⟨ns,p⟩) hJ
    ·clear hJ
     have hfit:0 < x.length->0+4<=x.length:=fun h=>by omega
     have g1:=fun h:0+4<=x.length=>kq_ (x:=x) (p:=0) (s:=4) hb h (by decide)
     have hx0:nuG tt x=(([]:List Int)++(nuG tt (x.drop 0)).1,(nuG tt (x.drop 0)).2):=rfl
     have hg:=fun h:0 < x.length=>hng 0 h
     have h4:=fun h:0+4<=x.length=>num4 (y:=x.drop 0) (fun z hz=>hb z (List.mem_of_mem_drop hz)) (by rw [List.length_drop];omega)
     repeat'(intro t ht;first|(cases t<;>first|(cases ht;done)|(try simp only[zh_]at ht;try(exfalso;first|contradiction|omega)))|((first|refine za_ ht ?_|refine ht ?_ ?_|refine ht.1 ?_ ?_|refine ht ?_)<;>clear ht))
     all_goals (try dsimp only at ht)
     all_goals (try dsimp only)
     all_goals first
      | exact True.intro
      | (exfalso;have q:=hty.symm.trans ‹tyT tt=false›;exact absurd q (by decide))
      | omega
      | decide
      | (dsimp only;omega)
      | ((try dsimp only);simp only [zl_];omega)
      | (refine ⟨?_,?_⟩<;>first | omega | (dsimp only;omega))
      | (refine ⟨?_,?_,?_⟩<;>first | omega | (dsimp only;omega))
      | (simp only [List.length_take,List.length_drop];omega)
      | (simp only [List.length_cons,List.length_nil];constructor<;>omega)
      | (refine ⟨?_,rfl⟩
         have e:nuG tt x=([],0):=k4_ (by omega)
         rw [h8.1,h8.2.1,h8.2.2,e];rfl)
      | skip
     all_goals have hlt:0 < x.length:=by first | omega | (dsimp only at*;omega)
     all_goals obtain ⟨a1,a2⟩:=g1 (hfit hlt)
     all_goals have z2:((0:Int)+4).toNat=0+4:=rfl
     all_goals have hv:nuV tt (x.drop 0)=ze_ ((x.drop 0).take 2):=by unfold nuV;rw [hnw];rfl
     all_goals obtain ⟨n1,n2,n3,n4,n5⟩:=h4 (hfit hlt)
     all_goals have n6:(ze_ ((x.drop 0).take 4)).tmod 65536=ze_ (((x.drop 0).drop 2).take 2):=by rw [Int.tmod_eq_emod_of_nonneg (by omega)];omega
     all_goals have n7:(ze_ ((x.drop 0).take 4)).tdiv 65536=nuV tt (x.drop 0):=by rw [hv,Int.tdiv_eq_ediv_of_nonneg (by omega)];omega
     all_goals (try simp only [q1z,z2,a2,n6,n7])
     all_goals have n8:(ze_ (List.drop (Int.toNat 0) (List.take ((0:Int)+4).toNat x))).tmod 65536=ze_ (((x.drop 0).drop 2).take 2):=by simp only [q1z,z2,a2];exact n6
     all_goals first
      | omega
      | ((try dsimp only);simp only [zl_];omega)
      | (simp only [List.length_cons,List.length_nil];constructor<;>omega)
      | (have e:=(hg hlt).1 (by rw [jT_ hty hs,decide_eq_false fun c=>(show ¬ (ze_ (List.drop (Int.toNat 0) (List.take ((0:Int)+4).toNat x))).tmod 65536=4 by assumption) (n8.trans c)];rfl)
         have e2:nuG tt x=([]++[nuV tt (x.drop 0)],3333):=by rw [hx0,e]
         first | refine ⟨?_,rfl⟩ | refine ⟨?_,trivial⟩
         rw [h8.1,h8.2.1,h8.2.2,e2];dsimp only;rw [if_neg (by decide),List.dropLast_concat])
      | (have e:=(hg hlt).2 (by rw [jT_ hty hs,decide_eq_true (n8.symm.trans (by assumption))];rfl)
         refine ⟨some ([]++[nuV tt (x.drop 0)],0+4),⟨by dsimp only;omega,by dsimp only;simp only [List.length_append,List.length_cons,List.length_nil];omega,by dsimp only;omega,?_⟩,by dsimp only;omega,?_,?_⟩
         ·rw [hx0,e];dsimp only;rw [List.append_assoc];rfl
         ·rfl
         ·rfl)
    ·obtain ⟨j1,j2,j3,j4⟩:=hJ
     dsimp only at j1 j2 j3 j4
     have hfit:p < x.length->p+4<=x.length:=fun h=>by omega
     have g1:=fun h:p+4<=x.length=>kq_ (x:=x) (p:=p) (s:=4) hb h (by decide)
     have hg:=fun h:p < x.length=>hng p h
     have h4:=fun h:p+4<=x.length=>num4 (y:=x.drop p) (fun z hz=>hb z (List.mem_of_mem_drop hz)) (by rw [List.length_drop];omega)
     repeat'(intro t ht;first|(cases t<;>first|(cases ht;done)|(try simp only[zh_]at ht;try(exfalso;first|contradiction|omega)))|((first|refine za_ ht ?_|refine ht ?_ ?_|refine ht.1 ?_ ?_|refine ht ?_)<;>clear ht))
     all_goals (try dsimp only at ht)
     all_goals (try dsimp only)
     all_goals first
      | exact True.intro
      | (exfalso;have q:=hty.symm.trans ‹tyT tt=false›;exact absurd q (by decide))
      | omega
      | decide
      | (dsimp only;omega)
      | ((try dsimp only);simp only [zl_];omega)
      | (refine ⟨?_,?_⟩<;>first | omega | (dsimp only;omega))
      | (refine ⟨?_,?_,?_⟩<;>first | omega | (dsimp only;omega))
      | (simp only [List.length_take,List.length_drop];omega)
      | (simp only [List.length_cons,List.length_nil];constructor<;>omega)
      | (refine ⟨?_,rfl⟩
         have e:nuG tt x=(ns,0):=by rw [j4,jx_ (by omega),List.append_nil]
         rw [h8.1,h8.2.1,h8.2.2,e];rfl)
      | skip
     all_goals have hlt:p < x.length:=by first | omega | (dsimp only at*;omega)
     all_goals obtain ⟨a1,a2⟩:=g1 (hfit hlt)
     all_goals have z2:((p:Int)+4).toNat=p+4:=by omega
     all_goals have hv:nuV tt (x.drop p)=ze_ ((x.drop p).take 2):=by unfold nuV;rw [hnw];rfl
     all_goals obtain ⟨n1,n2,n3,n4,n5⟩:=h4 (hfit hlt)
     all_goals have n6:(ze_ ((x.drop p).take 4)).tmod 65536=ze_ (((x.drop p).drop 2).take 2):=by rw [Int.tmod_eq_emod_of_nonneg (by omega)];omega
     all_goals have n7:(ze_ ((x.drop p).take 4)).tdiv 65536=nuV tt (x.drop p):=by rw [hv,Int.tdiv_eq_ediv_of_nonneg (by omega)];omega
     all_goals (try simp only [z2,Int.toNat_natCast,a2,n6,n7])
     all_goals have n8:(ze_ (List.drop p (List.take ((p:Int)+4).toNat x))).tmod 65536=ze_ (((x.drop p).drop 2).take 2):=by simp only [z2,Int.toNat_natCast,a2];exact n6
     all_goals first
      | omega
      | ((try dsimp only);simp only [zl_];omega)
      | (simp only [List.length_cons,List.length_nil];constructor<;>omega)
      | (have e:=(hg hlt).1 (by rw [jT_ hty hs,decide_eq_false fun c=>(show ¬ (ze_ (List.drop p (List.take ((p:Int)+4).toNat x))).tmod 65536=4 by assumption) (n8.trans c)];rfl)
         have e2:nuG tt x=(ns++[nuV tt (x.drop p)],3333):=by rw [j4,e]
         first | refine ⟨?_,rfl⟩ | refine ⟨?_,trivial⟩
         rw [h8.1,h8.2.1,h8.2.2,e2];dsimp only;rw [if_neg (by decide),List.dropLast_concat])
      | (have e:=(hg hlt).2 (by rw [jT_ hty hs,decide_eq_true (n8.symm.trans (by assumption))];rfl)
         refine ⟨some (ns++[nuV tt (x.drop p)],p+4),⟨by dsimp only;omega,by dsimp only;simp only [List.length_append,List.length_cons,List.length_nil];omega,by dsimp only;omega,?_⟩,by dsimp only;omega,?_,?_⟩
         ·rw [j4,e];dsimp only;rw [List.append_assoc];rfl
         ·dsimp only;first | rfl | (rw [show ((p:Int)+4)=((p+4:Nat):Int) by omega];rfl)
         ·rfl)
   ·-- a number has 4 bytes
    have hx4:x.length % 4=0:=by rw [hs,Int.tmod_eq_emod_of_nonneg (by omega)] at hmod;omega
    have hng:=xb_ (t:=tt) (x:=x) (s:=4) hs (by decide)
    have hnw:nuW tt=4:=by unfold nuW;rw [hty,hs];decide
    first
     | (intro r h1 h2;clear h1;refine h2 ⟨[2,4,6,7,9,10],Option (List Int × Nat),(fun a=>match a with | none=>True | some a=>a.2<=x.length/\a.1.length<=a.2/\(x.length - a.2) % 4=0/\nuG tt x=(a.1++(nuG tt (x.drop a.2)).1,(nuG tt (x.drop a.2)).2)),(fun a=>[.ptr 0 0,.ptr 1 0,.ptr 2 0,.int .i64 4,.imm (.int .u8) x,.int .i64 (match a with | none=>(0:Int) | some a=>(a.2:Int))]),(fun a=>match a with | none=>[.box [.int .i64 tt,.imm (.int .u8) x],.box [.int .i64 0,.nils,.nils],.box [.int .i64 tt,.nils,.nils]] | some a=>[.box [.int .i64 tt,.imm (.int .u8) x],.box [.int .i64 0,.nils,.nils],.box [.int .i64 tt,.own 3,.nils],.row false (.int .u64) a.1]),(fun a=>match a with | none=>x.length+1 | some a=>x.length - a.2),⟨none,True.intro,(by rw [hs];rfl),rfl⟩,?_⟩;clear h2)
    rintro (_ | ⟨ns,p⟩) hJ
    ·clear hJ
     have hfit:0 < x.length->0+4<=x.length:=fun h=>by omega
     have g1:=fun h:0+4<=x.length=>kq_ (x:=x) (p:=0) (s:=4) hb h (by decide)
     have hx0:nuG tt x=(([]:List Int)++(nuG tt (x.drop 0)).1,(nuG tt (x.drop 0)).2):=rfl
     have hg:=fun h:0 < x.length=>hng 0 h
     repeat'(intro t ht;first|(cases t<;>first|(cases ht;done)|(try simp only[zh_]at ht;try(exfalso;first|contradiction|omega)))|((first|refine za_ ht ?_|refine ht ?_ ?_|refine ht.1 ?_ ?_|refine ht ?_)<;>clear ht))
     all_goals (try dsimp only at ht)
     all_goals (try dsimp only)
     all_goals first
      | exact True.intro
      | (exfalso;have q:=hty.symm.trans ‹tyT tt=true›;exact absurd q (by decide))
      | omega
      | decide
      | (dsimp only;omega)
      | ((try dsimp only);simp only [zl_];omega)
      | (refine ⟨?_,?_⟩<;>first | omega | (dsimp only;omega))
      | (refine ⟨?_,?_,?_⟩<;>first | omega | (dsimp only;omega))
      | (simp only [List.length_take,List.length_drop];omega)
      | (simp only [List.length_cons,List.length_nil];constructor<;>omega)
      | (refine ⟨?_,rfl⟩
         have e:nuG tt x=([],0):=k4_ (by omega)
         rw [h8.1,h8.2.1,h8.2.2,e];rfl)
      | skip
     all_goals have hlt:0 < x.length:=by first | omega | (dsimp only at*;omega)
     all_goals obtain ⟨a1,a2⟩:=g1 (hfit hlt)
     all_goals have z2:((0:Int)+4).toNat=0+4:=rfl
     all_goals have hv:nuV tt (x.drop 0)=ze_ ((x.drop 0).take 4):=by unfold nuV;rw [hnw];rfl
     all_goals (try simp only [q1z,z2,a2])
     all_goals first
      | omega
      | ((try dsimp only);simp only [zl_];omega)
      | (simp only [List.length_cons,List.length_nil];constructor<;>omega)
      | (have e:=(hg hlt).2 (h9_ hty hs _)
         refine ⟨some ([]++[nuV tt (x.drop 0)],0+4),⟨by dsimp only;omega,by dsimp only;simp only [List.length_append,List.length_cons,List.length_nil];omega,by dsimp only;omega,?_⟩,by dsimp only;omega,?_,?_⟩
         ·rw [hx0,e];dsimp only;rw [List.append_assoc];rfl
         ·rfl
         ·first | rfl | (rw [hv];rfl) | (dsimp only;rw [hv];rfl))
    ·obtain ⟨j1,j2,j3,j4⟩:=hJ
     dsimp only at j1 j2 j3 j4
     have hfit:p < x.length->p+4<=x.length:=fun h=>by omega
     have g1:=fun h:p+4<=x.length=>kq_ (x:=x) (p:=p) (s:=4) hb h (by decide)
     have hg:=fun h:p < x.length=>hng p h
     repeat'(intro t ht;first|(cases t<;>first|(cases ht;done)|(try simp only[zh_]at ht;try(exfalso;first|contradiction|omega)))|((first|refine za_ ht ?_|refine ht ?_ ?_|refine ht.1 ?_ ?_|refine ht ?_)<;>clear ht))
     all_goals (try dsimp only at ht)
     all_goals (try dsimp only)
     all_goals first
      | exact True.intro
      | (exfalso;have q:=hty.symm.trans ‹tyT tt=true›;exact absurd q (by decide))
      | omega
      | decide
      | (dsimp only;omega)
      | ((try dsimp only);simp only [zl_];omega)
      | (refine ⟨?_,?_⟩<;>first | omega | (dsimp only;omega))
      | (refine ⟨?_,?_,?_⟩<;>first | omega | (dsimp only;omega))
      | (simp only [List.length_take,List.length_drop];omega)
      | (simp only [List.length_cons,List.length_nil];constructor<;>omega)
      | (refine ⟨?_,rfl⟩
         have e:nuG tt x=(ns,0):=by rw [j4,jx_ (by omega),List.append_nil]
         rw [h8.1,h8.2.1,h8.2.2,e];rfl)
      | skip
     all_goals have hlt:p < x.length:=by first | omega | (dsimp only at*;omega)
     all_goals obtain ⟨a1,a2⟩:=g1 (hfit hlt)
     all_goals have z2:((p:Int)+4).toNat=p+4:=by omega
     all_goals have hv:nuV tt (x.drop p)=ze_ ((x.drop p).take 4):=by unfold nuV;rw [hnw];rfl
     all_goals (try simp only [z2,Int.toNat_natCast,a2])
     all_goals first
      | omega
      | ((try dsimp only);simp only [zl_];omega)
      | (simp only [List.length_cons,List.length_nil];constructor<;>omega)
      | (have e:=(hg hlt).2 (h9_ hty hs _)
         refine ⟨some (ns++[nuV tt (x.drop p)],p+4),⟨by dsimp only;omega,by dsimp only;simp only [List.length_append,List.length_cons,List.length_nil];omega,by dsimp only;omega,?_⟩,by dsimp only;omega,?_,?_⟩
         ·rw [j4,e];dsimp only;rw [List.append_assoc];rfl
         ·dsimp only;first | rfl | (rw [show ((p:Int)+4)=((p+4:Nat):Int) by omega];rfl)
         ·first | rfl | (rw [hv];rfl) | (dsimp only;rw [hv];rfl))
 ·rename_i tt x acc
  cases e
  refine ⟨rfl,fun hw ho hp=>?_⟩
  change List Int at x
  have hb:∀ y ∈ (x:List Int),(0:Int)<=y/\y<=255:=by
   have h1:=(hw (.agg [.int .i64 tt,.imm (.int .u8) x]) (List.mem_cons_self ..)) (.imm (.int .u8) x) (by simp)
   exact fun y hy=>h1.1 y hy
  clear hw ho
  change List Int at x
  change List FV at acc
  obtain ⟨hp,hpa⟩:=hp
  have hz:=KK_ tt
  have t4:(x.take 4).length<=8:=by rw [List.length_take];omega
  have t8:((x.take 8).drop 4).length<=8:=by rw [List.length_drop,List.length_take];omega
  have v8:ze_ ((x.take (8:Int).toNat).drop (4:Int).toNat)=ze_ ((x.drop 4).take 4):=by rw [List.drop_take];rfl
  repeat'(intro t ht;first|(cases t<;>first|(cases ht;done)|(try simp only[zh_]at ht;try(exfalso;first|contradiction|omega)))|((first|refine za_ ht ?_|refine ht ?_ ?_|refine ht.1 ?_ ?_|refine ht ?_)<;>clear ht))
  all_goals first
   | exact True.intro
   | (refine ⟨?_,rfl⟩
      obtain ⟨q1,q2,q3⟩:=rf_0 (D:=((tyL acc).contains tt)) (x:=x) ht
      rw [q1,q2,q3];done)
   | (intro r h1 h2;clear h1;refine h2 ⟨[1,2,4,6,7,8],Nat,(fun i=>i<=acc.length/\((tyL (acc.take i)).contains tt && !otT tt)=false),fun i=>[.own 0,.ptr 1 0,.ptr 2 0,.ptr 3 0,.int .i64 (szT tt),.int .i64 i],fun i=>[.row false (.cons (.int .i64) (.cons (.sl (.int .u64)) (.cons (.sl (.int .u8)) .nil))) acc,.box [.int .i64 tt,.imm (.int .u8) x],.box [.int .i64 0,.nils,.nils],.box [.int .i64 tt,.nils,.nils]],fun i=>acc.length - i,⟨0,⟨Nat.zero_le _,rfl⟩,rfl,rfl⟩,?_⟩;clear h2)
  rintro i ⟨hi,hJ⟩
  have hcs:=fun (h:i < acc.length) (z:FV)=>Bj_ h z tt
  have hcm:∀ (_:i < acc.length) (z:FV) (_:(acc.getD i z).1=tt),(tyL acc).contains tt=true:=fun h z q=>by
   have:=zaI_ (i:=acc.length) h (Nat.le_refl _) z q
   rwa [List.take_length] at this
  have hce:acc.length<=i->((tyL acc).contains tt && !otT tt)=false:=fun h=>by rw [List.take_of_length_le h] at hJ;exact hJ
  have hDf:acc.length<=i->otT tt=false->((tyL acc).contains tt)=false:=fun h k=>by
   have:=hce h
   rw [k] at this
   simpa using this
  repeat'(intro t ht;first|(cases t<;>first|(cases ht;done)|(try simp only[zh_]at ht;try(exfalso;first|contradiction|omega)))|((first|refine za_ ht ?_|refine ht ?_ ?_|refine ht.1 ?_ ?_|refine ht ?_)<;>clear ht))
  all_goals (try generalize (Ty.dflt (.cons (.int .i64) (.cons (.sl (.int .u64)) (.cons (.sl (.int .u8)) .nil))))=od at*)
  all_goals first
   | exact True.intro
   | exact ‹¬ szT tt=0›
   | omega
   | exact t4
   | exact t8
   | ((try dsimp only);simp only [zl_];omega)
   | (refine ⟨?_,?_⟩<;>omega)
   | (refine ⟨?_,?_,?_⟩<;>omega)
   | (refine ⟨?_,rfl⟩
      obtain ⟨q1,q2,q3⟩:=rf_o (D:=((tyL acc).contains tt)) (x:=x) ‹¬ szT tt=0› ‹otT tt=true›
      rw [q1,q2,q3]
      first
       | (simp only [if_pos (show x.length < 8 by omega)];done)
       | (simp only [if_neg (show ¬ x.length < 8 by omega)];rw [v8];rfl))
   | (refine ⟨?_,rfl⟩
      obtain ⟨q1,q2,q3⟩:=rf_m (D:=((tyL acc).contains tt)) (x:=x) ‹¬ szT tt=0› ‹otT tt=false› (hDf (by first | omega | trivial) ‹otT tt=false›) ‹¬ (x.length:Int).tmod (szT tt)=0›
      rw [q1,q2,q3];done)
   | (refine ⟨?_,rfl⟩
      obtain ⟨q1,q2,q3⟩:=rf_d (D:=((tyL acc).contains tt)) (x:=x) ‹¬ szT tt=0› ‹otT tt=false› (hcm (by omega) od ‹(acc.getD i od).1=tt›)
      rw [q1,q2,q3];done)
   | (refine ⟨i+1,⟨by omega,?_⟩,by dsimp only;omega,rfl,rfl⟩
      first
       | (rw [hcs (by omega) od,decide_eq_false ‹¬ (acc.getD i od).1=tt›,Bool.or_false];exact hJ)
       | (rw [show otT tt=true from ‹otT tt=true›,Bool.not_true,Bool.and_false]))
   | skip
  ·have hs0:¬ szT tt=0:=by assumption
   have hot:otT tt=false:=by assumption
   have hmod:(x.length:Int).tmod (szT tt)=0:=by assumption
   have h8:=rf_n (D:=((tyL acc).contains tt)) (x:=x) hs0 hot (hDf (by first | omega | trivial) hot) hmod
   have hz2:(szT tt=1/\tyT tt=false)\/(szT tt=4/\tyT tt=true)\/(szT tt=4/\tyT tt=false):=by
    rcases hz with ⟨q,_⟩ | ⟨q,r,_⟩ | ⟨q,_⟩ | ⟨_,_,q,_⟩
    ·exact absurd q hs0
    ·exact .inl ⟨q,r⟩
    ·cases h:tyT tt
     ·exact .inr (.inr ⟨q,rfl⟩)
     ·exact .inr (.inl ⟨q,rfl⟩)
    ·rw [hot] at q;cases q
   clear hz
   rcases hz2 with ⟨hs,hty⟩ | ⟨hs,hty⟩ | ⟨hs,hty⟩
   ·-- a number has 1 bytes
    have hx4:x.length % 1=0:=by rw [hs,Int.tmod_eq_emod_of_nonneg (by omega)] at hmod;omega
    have hng:=xb_ (t:=tt) (x:=x) (s:=1) hs (by decide)
    have hnw:nuW tt=1:=by unfold nuW;rw [hty,hs];decide
    first
     | (intro r h1 h2;clear h1;refine h2 ⟨[2,4,6,7,9,10],Option (List Int × Nat),(fun a=>match a with | none=>True | some a=>a.2<=x.length/\a.1.length<=a.2/\(x.length - a.2) % 1=0/\nuG tt x=(a.1++(nuG tt (x.drop a.2)).1,(nuG tt (x.drop a.2)).2)),(fun a=>[.ptr 1 0,.ptr 2 0,.ptr 3 0,.int .i64 1,.imm (.int .u8) x,.int .i64 (match a with | none=>(0:Int) | some a=>(a.2:Int))]),(fun a=>match a with | none=>[.row false (.cons (.int .i64) (.cons (.sl (.int .u64)) (.cons (.sl (.int .u8)) .nil))) acc,.box [.int .i64 tt,.imm (.int .u8) x],.box [.int .i64 0,.nils,.nils],.box [.int .i64 tt,.nils,.nils]] | some a=>[.row false (.cons (.int .i64) (.cons (.sl (.int .u64)) (.cons (.sl (.int .u8)) .nil))) acc,.box [.int .i64 tt,.imm (.int .u8) x],.box [.int .i64 0,.nils,.nils],.box [.int .i64 tt,.own 4,.nils],.row false (.int .u64) a.1]),(fun a=>match a with | none=>x.length+1 | some a=>x.length - a.2),⟨none,True.intro,(by rw [hs];rfl),rfl⟩,?_⟩;clear h2)
    rintro (_ | ⟨ns,p⟩) hJ
    ·clear hJ
     have hfit:0 < x.length->0+1<=x.length:=fun h=>by omega
     have g1:=fun h:0+1<=x.length=>kq_ (x:=x) (p:=0) (s:=1) hb h (by decide)
     have hx0:nuG tt x=(([]:List Int)++(nuG tt (x.drop 0)).1,(nuG tt (x.drop 0)).2):=rfl
     have hg:=fun h:0 < x.length=>hng 0 h
     repeat'(intro t ht;first|(cases t<;>first|(cases ht;done)|(try simp only[zh_]at ht;try(exfalso;first|contradiction|omega)))|((first|refine za_ ht ?_|refine ht ?_ ?_|refine ht.1 ?_ ?_|refine ht ?_)<;>clear ht))
     all_goals (try dsimp only at ht)
     all_goals (try dsimp only)
     all_goals first
      | exact True.intro
      | (exfalso;have q:=hty.symm.trans ‹tyT tt=true›;exact absurd q (by decide))
      | omega
      | decide
      | (dsimp only;omega)
      | ((try dsimp only);simp only [zl_];omega)
      | (refine ⟨?_,?_⟩<;>first | omega | (dsimp only;omega))
      | (refine ⟨?_,?_,?_⟩<;>first | omega | (dsimp only;omega))
      | (simp only [List.length_take,List.length_drop];omega)
      | (simp only [List.length_cons,List.length_nil];constructor<;>omega)
      | (refine ⟨?_,rfl⟩
         have e:nuG tt x=([],0):=k4_ (by omega)
         rw [h8.1,h8.2.1,h8.2.2,e];rfl)
      | skip
     all_goals have hlt:0 < x.length:=by first | omega | (dsimp only at*;omega)
     all_goals obtain ⟨a1,a2⟩:=g1 (hfit hlt)
     all_goals have z2:((0:Int)+1).toNat=0+1:=rfl
     all_goals have hv:nuV tt (x.drop 0)=ze_ ((x.drop 0).take 1):=by unfold nuV;rw [hnw];rfl
     all_goals have n1:=wC_ ((x.drop 0).take 1) (fun z hz=>hb z (List.mem_of_mem_drop (List.mem_of_mem_take hz)))
     all_goals have n2:((x.drop 0).take 1).length=1:=by rw [List.length_take,List.length_drop];omega
     all_goals rw [n2] at n1
     all_goals have n3:ze_ ((x.drop 0).take 1) < 256:=n1.2
     all_goals (try simp only [q1z,z2,a2] at ht)
     all_goals (try simp only [q1z,z2,a2])
     all_goals first
      | omega
      | ((try dsimp only);simp only [zl_];omega)
      | (simp only [List.length_cons,List.length_nil];constructor<;>omega)
      | (have e:=(hg hlt).1 (by rw [ym_ hty hs,hv];exact decide_eq_true (by omega))
         have e2:nuG tt x=([]++[nuV tt (x.drop 0)],3333):=by rw [hx0,e]
         first | refine ⟨?_,rfl⟩ | refine ⟨?_,trivial⟩
         rw [h8.1,h8.2.1,h8.2.2,e2];dsimp only;rw [if_neg (by decide),List.dropLast_concat])
      | (have e:=(hg hlt).2 (by rw [ym_ hty hs,hv];exact decide_eq_false (by omega))
         refine ⟨some ([]++[nuV tt (x.drop 0)],0+1),⟨by dsimp only;omega,by dsimp only;simp only [List.length_append,List.length_cons,List.length_nil];omega,by dsimp only;omega,?_⟩,by dsimp only;omega,?_,?_⟩
         ·rw [hx0,e];dsimp only;rw [List.append_assoc];rfl
         ·rfl
         ·first | rfl | (rw [hv];rfl) | (dsimp only;rw [hv];rfl))
    ·obtain ⟨j1,j2,j3,j4⟩:=hJ
     dsimp only at j1 j2 j3 j4
     have hfit:p < x.length->p+1<=x.length:=fun h=>by omega
     have g1:=fun h:p+1<=x.length=>kq_ (x:=x) (p:=p) (s:=1) hb h (by decide)
     have hg:=fun h:p < x.length=>hng p h
     repeat'(intro t ht;first|(cases t<;>first|(cases ht;done)|(try simp only[zh_]at ht;try(exfalso;first|contradiction|omega)))|((first|refine za_ ht ?_|refine ht ?_ ?_|refine ht.1 ?_ ?_|refine ht ?_)<;>clear ht))
     all_goals (try dsimp only at ht)
     all_goals (try dsimp only)
     all_goals first
      | exact True.intro
      | (exfalso;have q:=hty.symm.trans ‹tyT tt=true›;exact absurd q (by decide))
      | omega
      | decide
      | (dsimp only;omega)
      | ((try dsimp only);simp only [zl_];omega)
      | (refine ⟨?_,?_⟩<;>first | omega | (dsimp only;omega))
      | (refine ⟨?_,?_,?_⟩<;>first | omega | (dsimp only;omega))
      | (simp only [List.length_take,List.length_drop];omega)
      | (simp only [List.length_cons,List.length_nil];constructor<;>omega)
      | (refine ⟨?_,rfl⟩
         have e:nuG tt x=(ns,0):=by rw [j4,jx_ (by omega),List.append_nil]
         rw [h8.1,h8.2.1,h8.2.2,e];rfl)
      | skip
     all_goals have hlt:p < x.length:=by first | omega | (dsimp only at*;omega)
     all_goals obtain ⟨a1,a2⟩:=g1 (hfit hlt)
     all_goals have z2:((p:Int)+1).toNat=p+1:=by omega
     all_goals have hv:nuV tt (x.drop p)=ze_ ((x.drop p).take 1):=by unfold nuV;rw [hnw];rfl
     all_goals have n1:=wC_ ((x.drop p).take 1) (fun z hz=>hb z (List.mem_of_mem_drop (List.mem_of_mem_take hz)))
     all_goals have n2:((x.drop p).take 1).length=1:=by rw [List.length_take,List.length_drop];omega
     all_goals rw [n2] at n1
     all_goals have n3:ze_ ((x.drop p).take 1) < 256:=n1.2
     all_goals (try simp only [z2,Int.toNat_natCast,a2] at ht)
     all_goals (try simp only [z2,Int.toNat_natCast,a2])
     all_goals first
      | omega
      | ((try dsimp only);simp only [zl_];omega)
      | (simp only [List.length_cons,List.length_nil];constructor<;>omega)
      | (have e:=(hg hlt).1 (by rw [ym_ hty hs,hv];exact decide_eq_true (by omega))
         have e2:nuG tt x=(ns++[nuV tt (x.drop p)],3333):=by rw [j4,e]
         first | refine ⟨?_,rfl⟩ | refine ⟨?_,trivial⟩
         rw [h8.1,h8.2.1,h8.2.2,e2];dsimp only;rw [if_neg (by decide),List.dropLast_concat])
      | (have e:=(hg hlt).2 (by rw [ym_ hty hs,hv];exact decide_eq_false (by omega))
         refine ⟨some (ns++[nuV tt (x.drop p)],p+1),⟨by dsimp only;omega,by dsimp only;simp only [List.length_append,List.length_cons,List.length_nil];omega,by dsimp only;omega,?_⟩,by dsimp only;omega,?_,?_⟩
         ·rw [j4,e];dsimp only;rw [List.append_assoc];rfl
         ·dsimp only;first | rfl | (rw [show ((p:Int)+1)=((p+1:Nat):Int) by omega];rfl)
         ·first | rfl | (rw [hv];rfl) | (dsimp only;rw [hv];rfl))
   ·-- a number has 4 bytes
    have hx4:x.length % 4=0:=by rw [hs,Int.tmod_eq_emod_of_nonneg (by omega)] at hmod;omega
    have hng:=xb_ (t:=tt) (x:=x) (s:=4) hs (by decide)
    have hnw:nuW tt=2:=by unfold nuW;rw [hty,hs];decide
    first
     | (intro r h1 h2;clear h1;refine h2 ⟨[2,4,6,7,9,10],Option (List Int × Nat),(fun a=>match a with | none=>True | some a=>a.2<=x.length/\a.1.length<=a.2/\(x.length - a.2) % 4=0/\nuG tt x=(a.1++(nuG tt (x.drop a.2)).1,(nuG tt (x.drop a.2)).2)),(fun a=>[.ptr 1 0,.ptr 2 0,.ptr 3 0,.int .i64 4,.imm (.int .u8) x,.int .i64 (match a with | none=>(0:Int) | some a=>(a.2:Int))]),(fun a=>match a with | none=>[.row false (.cons (.int .i64) (.cons (.sl (.int .u64)) (.cons (.sl (.int .u8)) .nil))) acc,.box [.int .i64 tt,.imm (.int .u8) x],.box [.int .i64 0,.nils,.nils],.box [.int .i64 tt,.nils,.nils]] | some a=>[.row false (.cons (.int .i64) (.cons (.sl (.int .u64)) (.cons (.sl (.int .u8)) .nil))) acc,.box [.int .i64 tt,.imm (.int .u8) x],.box [.int .i64 0,.nils,.nils],.box [.int .i64 tt,.own 4,.nils],.row false (.int .u64) a.1]),(fun a=>match a with | none=>x.length+1 | some a=>x.length - a.2),⟨none,True.intro,(by rw [hs];rfl),rfl⟩,?_⟩;clear h2)
    rintro (_ | ⟨ns,p⟩) hJ
    ·clear hJ
     have hfit:0 < x.length->0+4<=x.length:=fun h=>by omega
     have g1:=fun h:0+4<=x.length=>kq_ (x:=x) (p:=0) (s:=4) hb h (by decide)
     have hx0:nuG tt x=(([]:List Int)++(nuG tt (x.drop 0)).1,(nuG tt (x.drop 0)).2):=rfl
     have hg:=fun h:0 < x.length=>hng 0 h
     have h4:=fun h:0+4<=x.length=>num4 (y:=x.drop 0) (fun z hz=>hb z (List.mem_of_mem_drop hz)) (by rw [List.length_drop];omega)
     repeat'(intro t ht;first|(cases t<;>first|(cases ht;done)|(try simp only[zh_]at ht;try(exfalso;first|contradiction|omega)))|((first|refine za_ ht ?_|refine ht ?_ ?_|refine ht.1 ?_ ?_|refine ht ?_)<;>clear ht))
     all_goals (try dsimp only at ht)
     all_goals (try dsimp only)
     all_goals first
      | exact True.intro
      | (exfalso;have q:=hty.symm.trans ‹tyT tt=false›;exact absurd q (by decide))
      | omega
      | decide
      | (dsimp only;omega)
      | ((try dsimp only);simp only [zl_];omega)
      | (refine ⟨?_,?_⟩<;>first | omega | (dsimp only;omega))
      | (refine ⟨?_,?_,?_⟩<;>first | omega | (dsimp only;omega))
      | (simp only [List.length_take,List.length_drop];omega)
      | (simp only [List.length_cons,List.length_nil];constructor<;>omega)
      | (refine ⟨?_,rfl⟩
         have e:nuG tt x=([],0):=k4_ (by omega)
         rw [h8.1,h8.2.1,h8.2.2,e];rfl)
      | skip
     all_goals have hlt:0 < x.length:=by first | omega | (dsimp only at*;omega)
     all_goals obtain ⟨a1,a2⟩:=g1 (hfit hlt)
     all_goals have z2:((0:Int)+4).toNat=0+4:=rfl
     all_goals have hv:nuV tt (x.drop 0)=ze_ ((x.drop 0).take 2):=by unfold nuV;rw [hnw];rfl
     all_goals obtain ⟨n1,n2,n3,n4,n5⟩:=h4 (hfit hlt)
     all_goals have n6:(ze_ ((x.drop 0).take 4)).tmod 65536=ze_ (((x.drop 0).drop 2).take 2):=by rw [Int.tmod_eq_emod_of_nonneg (by omega)];omega
     all_goals have n7:(ze_ ((x.drop 0).take 4)).tdiv 65536=nuV tt (x.drop 0):=by rw [hv,Int.tdiv_eq_ediv_of_nonneg (by omega)];omega
     all_goals (try simp only [q1z,z2,a2,n6,n7])
     all_goals have n8:(ze_ (List.drop (Int.toNat 0) (List.take ((0:Int)+4).toNat x))).tmod 65536=ze_ (((x.drop 0).drop 2).take 2):=by simp only [q1z,z2,a2];exact n6
     all_goals first
      | omega
      | ((try dsimp only);simp only [zl_];omega)
      | (simp only [List.length_cons,List.length_nil];constructor<;>omega)
      | (have e:=(hg hlt).1 (by rw [jT_ hty hs,decide_eq_false fun c=>(show ¬ (ze_ (List.drop (Int.toNat 0) (List.take ((0:Int)+4).toNat x))).tmod 65536=4 by assumption) (n8.trans c)];rfl)
         have e2:nuG tt x=([]++[nuV tt (x.drop 0)],3333):=by rw [hx0,e]
         first | refine ⟨?_,rfl⟩ | refine ⟨?_,trivial⟩
         rw [h8.1,h8.2.1,h8.2.2,e2];dsimp only;rw [if_neg (by decide),List.dropLast_concat])
      | (have e:=(hg hlt).2 (by rw [jT_ hty hs,decide_eq_true (n8.symm.trans (by assumption))];rfl)
         refine ⟨some ([]++[nuV tt (x.drop 0)],0+4),⟨by dsimp only;omega,by dsimp only;simp only [List.length_append,List.length_cons,List.length_nil];omega,by dsimp only;omega,?_⟩,by dsimp only;omega,?_,?_⟩
         ·rw [hx0,e];dsimp only;rw [List.append_assoc];rfl
         ·rfl
         ·rfl)
    ·obtain ⟨j1,j2,j3,j4⟩:=hJ
     dsimp only at j1 j2 j3 j4
     have hfit:p < x.length->p+4<=x.length:=fun h=>by omega
     have g1:=fun h:p+4<=x.length=>kq_ (x:=x) (p:=p) (s:=4) hb h (by decide)
     have hg:=fun h:p < x.length=>hng p h
     have h4:=fun h:p+4<=x.length=>num4 (y:=x.drop p) (fun z hz=>hb z (List.mem_of_mem_drop hz)) (by rw [List.length_drop];omega)
     repeat'(intro t ht;first|(cases t<;>first|(cases ht;done)|(try simp only[zh_]at ht;try(exfalso;first|contradiction|omega)))|((first|refine za_ ht ?_|refine ht ?_ ?_|refine ht.1 ?_ ?_|refine ht ?_)<;>clear ht))
     all_goals (try dsimp only at ht)
     all_goals (try dsimp only)
     all_goals first
      | exact True.intro
      | (exfalso;have q:=hty.symm.trans ‹tyT tt=false›;exact absurd q (by decide))
      | omega
      | decide
      | (dsimp only;omega)
      | ((try dsimp only);simp only [zl_];omega)
      | (refine ⟨?_,?_⟩<;>first | omega | (dsimp only;omega))
      | (refine ⟨?_,?_,?_⟩<;>first | omega | (dsimp only;omega))
      | (simp only [List.length_take,List.length_drop];omega)
      | (simp only [List.length_cons,List.length_nil];constructor<;>omega)
      | (refine ⟨?_,rfl⟩
         have e:nuG tt x=(ns,0):=by rw [j4,jx_ (by omega),List.append_nil]
         rw [h8.1,h8.2.1,h8.2.2,e];rfl)
      | skip
     all_goals have hlt:p < x.length:=by first | omega | (dsimp only at*;omega)
     all_goals obtain ⟨a1,a2⟩:=g1 (hfit hlt)
     all_goals have z2:((p:Int)+4).toNat=p+4:=by omega
     all_goals have hv:nuV tt (x.drop p)=ze_ ((x.drop p).take 2):=by unfold nuV;rw [hnw];rfl
     all_goals obtain ⟨n1,n2,n3,n4,n5⟩:=h4 (hfit hlt)
     all_goals have n6:(ze_ ((x.drop p).take 4)).tmod 65536=ze_ (((x.drop p).drop 2).take 2):=by rw [Int.tmod_eq_emod_of_nonneg (by omega)];omega
     all_goals have n7:(ze_ ((x.drop p).take 4)).tdiv 65536=nuV tt (x.drop p):=by rw [hv,Int.tdiv_eq_ediv_of_nonneg (by omega)];omega
     all_goals (try simp only [z2,Int.toNat_natCast,a2,n6,n7])
     all_goals have n8:(ze_ (List.drop p (List.take ((p:Int)+4).toNat x))).tmod 65536=ze_ (((x.drop p).drop 2).take 2):=by simp only [z2,Int.toNat_natCast,a2];exact n6
     all_goals first
      | omega
      | ((try dsimp only);simp only [zl_];omega)
      | (simp only [List.length_cons,List.length_nil];constructor<;>omega)
      | (have e:=(hg hlt).1 (by rw [jT_ hty hs,decide_eq_false fun c=>(show ¬ (ze_ (List.drop p (List.take ((p:Int)+4).toNat x))).tmod 65536=4 by assumption) (n8.trans c)];rfl)
         have e2:nuG tt x=(ns++[nuV tt (x.drop p)],3333):=by rw [j4,e]
         first | refine ⟨?_,rfl⟩ | refine ⟨?_,trivial⟩
         rw [h8.1,h8.2.1,h8.2.2,e2];dsimp only;rw [if_neg (by decide),List.dropLast_concat])
      | (have e:=(hg hlt).2 (by rw [jT_ hty hs,decide_eq_true (n8.symm.trans (by assumption))];rfl)
         refine ⟨some (ns++[nuV tt (x.drop p)],p+4),⟨by dsimp only;omega,by dsimp only;simp only [List.length_append,List.length_cons,List.length_nil];omega,by dsimp only;omega,?_⟩,by dsimp only;omega,?_,?_⟩
         ·rw [j4,e];dsimp only;rw [List.append_assoc];rfl
         ·dsimp only;first | rfl | (rw [show ((p:Int)+4)=((p+4:Nat):Int) by omega];rfl)
         ·rfl)
   ·-- a number has 4 bytes
    have hx4:x.length % 4=0:=by rw [hs,Int.tmod_eq_emod_of_nonneg (by omega)] at hmod;omega
    have hng:=xb_ (t:=tt) (x:=x) (s:=4) hs (by decide)
    have hnw:nuW tt=4:=by unfold nuW;rw [hty,hs];decide
    first
     | (intro r h1 h2;clear h1;refine h2 ⟨[2,4,6,7,9,10],Option (List Int × Nat),(fun a=>match a with | none=>True | some a=>a.2<=x.length/\a.1.length<=a.2/\(x.length - a.2) % 4=0/\nuG tt x=(a.1++(nuG tt (x.drop a.2)).1,(nuG tt (x.drop a.2)).2)),(fun a=>[.ptr 1 0,.ptr 2 0,.ptr 3 0,.int .i64 4,.imm (.int .u8) x,.int .i64 (match a with | none=>(0:Int) | some a=>(a.2:Int))]),(fun a=>match a with | none=>[.row false (.cons (.int .i64) (.cons (.sl (.int .u64)) (.cons (.sl (.int .u8)) .nil))) acc,.box [.int .i64 tt,.imm (.int .u8) x],.box [.int .i64 0,.nils,.nils],.box [.int .i64 tt,.nils,.nils]] | some a=>[.row false (.cons (.int .i64) (.cons (.sl (.int .u64)) (.cons (.sl (.int .u8)) .nil))) acc,.box [.int .i64 tt,.imm (.int .u8) x],.box [.int .i64 0,.nils,.nils],.box [.int .i64 tt,.own 4,.nils],.row false (.int .u64) a.1]),(fun a=>match a with | none=>x.length+1 | some a=>x.length - a.2),⟨none,True.intro,(by rw [hs];rfl),rfl⟩,?_⟩;clear h2)
    rintro (_ | ⟨ns,p⟩) hJ
    ·clear hJ
     have hfit:0 < x.length->0+4<=x.length:=fun h=>by omega
     have g1:=fun h:0+4<=x.length=>kq_ (x:=x) (p:=0) (s:=4) hb h (by decide)
     have hx0:nuG tt x=(([]:List Int)++(nuG tt (x.drop 0)).1,(nuG tt (x.drop 0)).2):=rfl
     have hg:=fun h:0 < x.length=>hng 0 h
     repeat'(intro t ht;first|(cases t<;>first|(cases ht;done)|(try simp only[zh_]at ht;try(exfalso;first|contradiction|omega)))|((first|refine za_ ht ?_|refine ht ?_ ?_|refine ht.1 ?_ ?_|refine ht ?_)<;>clear ht))
     all_goals (try dsimp only at ht)
     all_goals (try dsimp only)
     all_goals first
      | exact True.intro
      | (exfalso;have q:=hty.symm.trans ‹tyT tt=true›;exact absurd q (by decide))
      | omega
      | decide
      | (dsimp only;omega)
      | ((try dsimp only);simp only [zl_];omega)
      | (refine ⟨?_,?_⟩<;>first | omega | (dsimp only;omega))
      | (refine ⟨?_,?_,?_⟩<;>first | omega | (dsimp only;omega))
      | (simp only [List.length_take,List.length_drop];omega)
      | (simp only [List.length_cons,List.length_nil];constructor<;>omega)
      | (refine ⟨?_,rfl⟩
         have e:nuG tt x=([],0):=k4_ (by omega)
         rw [h8.1,h8.2.1,h8.2.2,e];rfl)
      | skip
     all_goals have hlt:0 < x.length:=by first | omega | (dsimp only at*;omega)
     all_goals obtain ⟨a1,a2⟩:=g1 (hfit hlt)
     all_goals have z2:((0:Int)+4).toNat=0+4:=rfl
     all_goals have hv:nuV tt (x.drop 0)=ze_ ((x.drop 0).take 4):=by unfold nuV;rw [hnw];rfl
     all_goals (try simp only [q1z,z2,a2])
     all_goals first
      | omega
      | ((try dsimp only);simp only [zl_];omega)
      | (simp only [List.length_cons,List.length_nil];constructor<;>omega)
      | (have e:=(hg hlt).2 (h9_ hty hs _)
         refine ⟨some ([]++[nuV tt (x.drop 0)],0+4),⟨by dsimp only;omega,by dsimp only;simp only [List.length_append,List.length_cons,List.length_nil];omega,by dsimp only;omega,?_⟩,by dsimp only;omega,?_,?_⟩
         ·rw [hx0,e];dsimp only;rw [List.append_assoc];rfl
         ·rfl
         ·first | rfl | (rw [hv];rfl) | (dsimp only;rw [hv];rfl))
    ·obtain ⟨j1,j2,j3,j4⟩:=hJ
     dsimp only at j1 j2 j3 j4
     have hfit:p < x.length->p+4<=x.length:=fun h=>by omega
     have g1:=fun h:p+4<=x.length=>kq_ (x:=x) (p:=p) (s:=4) hb h (by decide)
     have hg:=fun h:p < x.length=>hng p h
     repeat'(intro t ht;first|(cases t<;>first|(cases ht;done)|(try simp only[zh_]at ht;try(exfalso;first|contradiction|omega)))|((first|refine za_ ht ?_|refine ht ?_ ?_|refine ht.1 ?_ ?_|refine ht ?_)<;>clear ht))
     all_goals (try dsimp only at ht)
     all_goals (try dsimp only)
     all_goals first
      | exact True.intro
      | (exfalso;have q:=hty.symm.trans ‹tyT tt=true›;exact absurd q (by decide))
      | omega
      | decide
      | (dsimp only;omega)
      | ((try dsimp only);simp only [zl_];omega)
      | (refine ⟨?_,?_⟩<;>first | omega | (dsimp only;omega))
      | (refine ⟨?_,?_,?_⟩<;>first | omega | (dsimp only;omega))
      | (simp only [List.length_take,List.length_drop];omega)
      | (simp only [List.length_cons,List.length_nil];constructor<;>omega)
      | (refine ⟨?_,rfl⟩
         have e:nuG tt x=(ns,0):=by rw [j4,jx_ (by omega),List.append_nil]
         rw [h8.1,h8.2.1,h8.2.2,e];rfl)
      | skip
     all_goals have hlt:p < x.length:=by first | omega | (dsimp only at*;omega)
     all_goals obtain ⟨a1,a2⟩:=g1 (hfit hlt)
     all_goals have z2:((p:Int)+4).toNat=p+4:=by omega
     all_goals have hv:nuV tt (x.drop p)=ze_ ((x.drop p).take 4):=by unfold nuV;rw [hnw];rfl
     all_goals (try simp only [z2,Int.toNat_natCast,a2])
     all_goals first
      | omega
      | ((try dsimp only);simp only [zl_];omega)
      | (simp only [List.length_cons,List.length_nil];constructor<;>omega)
      | (have e:=(hg hlt).2 (h9_ hty hs _)
         refine ⟨some (ns++[nuV tt (x.drop p)],p+4),⟨by dsimp only;omega,by dsimp only;simp only [List.length_append,List.length_cons,List.length_nil];omega,by dsimp only;omega,?_⟩,by dsimp only;omega,?_,?_⟩
         ·rw [j4,e];dsimp only;rw [List.append_assoc];rfl
         ·dsimp only;first | rfl | (rw [show ((p:Int)+4)=((p+4:Nat):Int) by omega];rfl)
         ·first | rfl | (rw [hv];rfl) | (dsimp only;rw [hv];rfl))
 ·cases e
def u1N (x:List Int):Int:=Jm_ 2 x 0 0
def u1P (x:List Int):Int:=zi_ 2 x 0 0
def u1E (x:List Int):Int:=zj_ 2 x 0 3332 3333 0
def u2B (x:List Int) (a:Int):Bool:=decide (u1N x < 64) || (!decide ((u1N x).tmod 8=0) || decide (a < u1N x))
def u2E (x:List Int) (a:Int):Int:=if u2B x a=true then zn_ (u1E x) 3332 else u1E x
def u3V (x:List Int) (a:Int):Int:=Jm_ 1 x (u1P x) (u2E x a)
def u3P (x:List Int) (a:Int):Int:=zi_ 1 x (u1P x) (u2E x a)
def u3E (x:List Int) (a:Int):Int:=zj_ 1 x (u1P x) 3332 3333 (u2E x a)
def u4P (x:List Int) (a:Int):Int:=Zu_ [-5] x (u3P x a) (u3E x a)
def u4E (x:List Int) (a:Int):Int:=Zm_ [-5] x (u3P x a) 3332 3333 (u3E x a)
def u5E (x:List Int) (a:Int):Int:=if 254 < u3V x a then zn_ (u4E x a) 266 else u4E x a
def u6N (x:List Int) (a:Int):List Int:=zm_ 32 x (u4P x a) 3332 (u5E x a)
def u6P (x:List Int) (a:Int):Int:=Z5_ 32 x (u4P x a) 3332 (u5E x a)
def u6E (x:List Int) (a:Int):Int:=zW_ 32 x (u4P x a) 3332 (u5E x a)
def u7O (x:List Int) (a:Int):Bool:=(!ctK (u6N x a) 0 || !qw_ (ctB (u6N x a) 0)) || decide (0 < (q4_ (Q7_ (ctR (u6N x a) 0) 0) 0).length)
def u7E (x:List Int) (a:Int):Int:=if u7O x a=true then zn_ (u6E x a) 3333 else u6E x a
def u8L (x:List Int) (a:Int):List Int:=Jy_ [8,8,4,4] x (u6P x a) (u7E x a)++[0,0,0,0]
def u8E (x:List Int) (a:Int):Int:=Zm_ [8,8,4,4] x (u6P x a) 3332 3333 (u7E x a)
def uS (x:List Int) (a:Int) (k:Nat):Int:=(u8L x a).getD k 0
theorem hk_ {w p e:Int} {b:List Int} (h0:0<=p) (h1:p<=b.length):0<=zi_ w b p e/\zi_ w b p e<=b.length:=by
 unfold zi_;split
 ·exact hB_ h0 h1
 ·exact ⟨h0,h1⟩
theorem b64 {b:List Int} {p sh:Int} (h0:0<=p) (h:¬ (b.length:Int) - p < 64):zW_ 64 b p sh 0=0/\zm_ 64 b p sh 0=(b.drop p.toNat).take 64/\Z5_ 64 b p sh 0=p+64:=by
 have e:zW_ 64 b p sh 0=0:=by unfold zW_;rw [if_neg (by decide),if_neg h]
 refine ⟨e,?_,?_⟩
 ·unfold zm_;rw [if_pos e,List.drop_take];congr 1;omega
 ·unfold Z5_;rw [if_pos e]
theorem gl_ {x:List Int} (hb:∀ z ∈ x,0<=z/\z<=255) (hl:x.length=64):u1N x=ze_ (x.take 2)/\0<=u1N x/\u1N x<=65535/\u1P x=2/\u1E x=0:=by
 obtain ⟨a,b,c⟩:=yC_ (w:=2) (p:=0) (sh:=3332) (od:=3333) (b:=x) (by decide) (by decide) (Int.le_refl _) (by omega)
 have h2:=Kp_ (a:=0) hb
 have e:u1N x=ze_ (x.take 2):=a
 rw [List.drop_zero] at h2
 rw [e]
 exact ⟨rfl,h2.1,h2.2,b,c⟩
def hdX (b:List Int) (p:Int):List Int:=(b.drop p.toNat).take 64
def hdA (b:List Int) (p:Int):Int:=(b.length:Int) - p
abbrev HV:Type:=Int × List Int × Int × Int × Int × Int × Unit
def hdT (b:List Int) (p:Int):HV:=if hdA b p < 64 then (0,[],0,0,0,0,()) else (u3V (hdX b p) (hdA b p),ctB (u6N (hdX b p) (hdA b p)) 0,uS (hdX b p) (hdA b p) 0,uS (hdX b p) (hdA b p) 1,uS (hdX b p) (hdA b p) 2,uS (hdX b p) (hdA b p) 3,())
def hdQ (b:List Int) (p:Int):Int:=if hdA b p < 64 then 0 else u1N (hdX b p) - 64
def hdP (b:List Int) (p:Int):Int:=if hdA b p < 64 then p else p+64
def hdE (b:List Int) (p:Int):Int:=if hdA b p < 64 then 3332 else u8E (hdX b p) (hdA b p)
theorem hi_ {w p e:Int} {b:List Int} (h:e ≠ 0):Jm_ w b p e=0:=by
 unfold Jm_;split
 ·unfold Jy_;rw [if_neg h];rfl
 ·rfl
theorem hl_ {w p sh od e:Int} {b:List Int} (h:e ≠ 0):zj_ w b p sh od e ≠ 0:=by
 unfold zj_;split
 ·unfold Zm_;rw [if_neg h];exact h
 ·unfold zn_;rw [if_neg h];exact h
theorem uK_ {w b:List Int} {p sh od e:Int} (h:e ≠ 0):Zm_ w b p sh od e ≠ 0:=by unfold Zm_;rw [if_neg h];exact h
theorem K0_ {e x:Int} (h:e ≠ 0):zn_ e x=e:=by unfold zn_;rw [if_neg h]
theorem WR_ {n p sh e:Int} {b:List Int} (h:e ≠ 0):zW_ n b p sh e=e:=by
 unfold zW_
 rw [K0_ h,K0_ h]
 split
 ·rfl
 ·split<;>rfl
theorem Bg_ {n p sh e:Int} {x:List Int} (h:e ≠ 0):¬ ctK (zm_ n x p sh e) 0=true:=by
 have:zm_ n x p sh e=[]:=by unfold zm_;rw [WR_ h,if_neg h]
 rw [this];decide
theorem za0_ {x:List Int} {a:Int} (h:u1N x < 64\/¬ (u1N x).tmod 8=0\/a < u1N x):u2B x a=true:=by
 unfold u2B
 rcases h with h | h | h
 ·rw [decide_eq_true h];rfl
 ·rw [decide_eq_false h];simp
 ·rw [decide_eq_true h];simp
theorem G0_ {x:List Int} {a:Int} (h:¬ u1N x < 64) (h1:(u1N x).tmod 8=0) (h2:¬ a < u1N x):u2B x a=false:=by
 unfold u2B;rw [decide_eq_false h,decide_eq_true h1,decide_eq_false h2];rfl
theorem yN_ {x:List Int} {A E:Int} (h2:u2E x A=E):u3V x A=Jm_ 1 x (zi_ 2 x 0 0) E/\u4P x A=(Zu_ [-5] x (zi_ 1 x (zi_ 2 x 0 0) E) (zj_ 1 x (zi_ 2 x 0 0) 3332 3333 E))/\u4E x A=(Zm_ [-5] x (zi_ 1 x (zi_ 2 x 0 0) E) 3332 3333 (zj_ 1 x (zi_ 2 x 0 0) 3332 3333 E)):=by
 unfold u4P u4E u3V u3P u3E u1P;rw [h2];exact ⟨rfl,rfl,rfl⟩
theorem uA_ {x:List Int} {A E E5:Int} {O:Bool} (h2:u2E x A=E) (h5:u5E x A=E5) (h7:u7O x A=O):
 u3V x A=Jm_ 1 x (zi_ 2 x 0 0) E/\u6N x A=zm_ 32 x (Zu_ [-5] x (zi_ 1 x (zi_ 2 x 0 0) E) (zj_ 1 x (zi_ 2 x 0 0) 3332 3333 E)) 3332 E5/\(∀ k,uS x A k=(Jy_ [8,8,4,4] x (Z5_ 32 x (Zu_ [-5] x (zi_ 1 x (zi_ 2 x 0 0) E) (zj_ 1 x (zi_ 2 x 0 0) 3332 3333 E)) 3332 E5) (if O=true then zn_ (zW_ 32 x (Zu_ [-5] x (zi_ 1 x (zi_ 2 x 0 0) E) (zj_ 1 x (zi_ 2 x 0 0) 3332 3333 E)) 3332 E5) 3333 else zW_ 32 x (Zu_ [-5] x (zi_ 1 x (zi_ 2 x 0 0) E) (zj_ 1 x (zi_ 2 x 0 0) 3332 3333 E)) 3332 E5)++[0,0,0,0]).getD k 0)/\u8E x A=Zm_ [8,8,4,4] x (Z5_ 32 x (Zu_ [-5] x (zi_ 1 x (zi_ 2 x 0 0) E) (zj_ 1 x (zi_ 2 x 0 0) 3332 3333 E)) 3332 E5) 3332 3333 (if O=true then zn_ (zW_ 32 x (Zu_ [-5] x (zi_ 1 x (zi_ 2 x 0 0) E) (zj_ 1 x (zi_ 2 x 0 0) 3332 3333 E)) 3332 E5) 3333 else zW_ 32 x (Zu_ [-5] x (zi_ 1 x (zi_ 2 x 0 0) E) (zj_ 1 x (zi_ 2 x 0 0) 3332 3333 E)) 3332 E5):=by
 obtain ⟨a1,a2,a3⟩:=yN_ h2
 unfold uS u8L u8E u7E u6N u6P u6E
 rw [h7,h5,a2]
 exact ⟨a1,rfl,fun _=>rfl,rfl⟩
theorem zct_ {b:List Int} {p:Int} (hs:hdA b p < 64):hdT b p=(0,[],0,0,0,0,())/\hdQ b p=0/\hdP b p=p/\hdE b p=3332:=⟨if_pos hs,if_pos hs,if_pos hs,if_pos hs⟩
theorem bY_ {b:List Int} {p:Int} (hs:¬ hdA b p < 64):hdT b p=(u3V (hdX b p) (hdA b p),ctB (u6N (hdX b p) (hdA b p)) 0,uS (hdX b p) (hdA b p) 0,uS (hdX b p) (hdA b p) 1,uS (hdX b p) (hdA b p) 2,uS (hdX b p) (hdA b p) 3,())/\hdQ b p=u1N (hdX b p) - 64/\hdP b p=p+64/\hdE b p=u8E (hdX b p) (hdA b p):=⟨if_neg hs,if_neg hs,if_neg hs,if_neg hs⟩
end Go.Eng
