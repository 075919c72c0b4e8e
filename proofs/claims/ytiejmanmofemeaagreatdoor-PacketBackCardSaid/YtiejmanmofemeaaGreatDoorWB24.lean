/- Parts of the proof: XB, XD, XC, XE, XF. No condition. -/
import Derived.Test.YtiejmanmofemeaaGreatDoorProg
import Derived.Test.YtiejmanmofemeaaGreatDoorWB10
import Derived.KernelRfl
import Derived.Test.YtiejmanmofemeaaGreatDoorWB23
namespace Go.Eng
open Go.Proofs
set_option linter.unusedVariables false
set_option linter.unusedSimpArgs false
set_option maxRecDepth 100000
set_option maxHeartbeats 1000000
def zbq_:IR:=
(sq (kr [0] [oD 1 (.boxv 0),
oD 2 (.nilrow (.int .u8)),
oD 3 (.mov (cI 0))])
(sq (.reg [oK 14 15 1,
oD 4 (.box [.int .i64 0,.int .u32 0,.imm (.int .u64) [],.imm (.int .u8) [],.imm YB [],.imm Y1 [],.imm Y2 [],.imm Y3 [],.imm Y4 [],.imm Y5 [],.imm Y7 [],.imm Y8 [],.int .i64 0,.int .i64 0,.imm YC []]),
oS 15 4 14])
(sq (.reg [oA 15 2 4,
oN (.store 1 15 (.c (.imm (.int .u64) [])))])
(sq (.reg [oA 16 3 4,
oN (.store 1 16 (.c (.imm (.int .u8) [])))])
(sq (kr [1,4] [oD 5 (.nilrow (.int .u8))])
(sq (sq (.reg [oA 17 0 1,
oL 18 17,
oB 19 .eql 18 (cI 10)])
(.cond 19
(sq (.reg [oA 20 5 4,
oN (.store 1 20 (.c (.imm Y1 [])))])
(sq (kr [1,4] [oD 22 (.sliceAll (.int .i64) 5 [(0,1,(cI 4)),(1,1,(cI 2)),(2,1,(cI 1)),(3,1,(cI 1)),(4,1,(cI 8))]),
oA 23 2 1,
oL 24 23,
oC 25 81 [22,24],
oM 21 25,
oX 26 21 0,
oX 27 21 1,
oM 6 26,
oM 7 27])
(sq (kr [1,4,6,7] [oA 29 5 1,
oL 30 29,
oC 31 82 [30],
oM 28 31,
oX 32 28 0,
oX 33 28 1,
oM 8 32,
oM 9 33])
(sq (sq (kd [1,4,6,7,8,9] [(oM 34 7,[]),
(oD 35 (.un .not 34),[]),
(oM 36 35,[]),
(oF 36 37 (.mov 9),[]),
(oF 36 38 (.bin .neq 37 (cI 0)),[]),
(oP 39 36 cT 38,[]),
(oM 40 39,[]),
(oF 40 41 (.fieldAddr 2 1),[]),
(oF 40 42 (.load none 41),[]),
(oF 40 43 (.indexSl 1 42 (cI 2)),[]),
(oF 40 44 (.load none 43),[]),
(oF 40 45 (.bin .gtr 44 (.c (.int .u64 2))),[]),
(oP 46 40 cT 45,[]),
(oM 47 46,[]),
(oF 47 48 (.fieldAddr 3 1),[]),
(oF 47 49 (.load none 48),[]),
(oF 47 50 (.len 49),[]),
(oF 47 51 (.conv .u64 50),[]),
(oF 47 52 (.fieldAddr 2 1),[0,0,0,0]),
(oF 47 53 (.load none 52),[1,0,0,0]),
(oF 47 54 (.indexSl 1 53 (cI 1)),[2,0,0,0]),
(oF 47 55 (.load none 54),[3,0,0,0]),
(oF 47 56 (.bin .gtr 51 55),[]),
(oP 57 47 cT 56,[])])
(.cond 57
(sq (kr [] [oD 2 (.nilrow (.int .u8)),
oD 3 (.mov (cI 10001))])
.ret)
.skip))
(kd [1,4,6,8] [(oM 58 6,[]),
(oM 59 8,[0]),
(oD 60 (.append (.int .u8) 1 58 59),[]),
(oD 61 (.sliceAll (.int .u8) 2 [(0,1,(.c (.int .u8 0))),(1,1,(.c (.int .u8 0)))]),[0,0,0]),
(oD 62 (.append (.int .u8) 1 60 61),[]),
(oA 63 3 1,[0,0,0,0,0]),
(oL 64 63,[1,0,0,0,0]),
(oD 65 (.append (.int .u8) 1 62 64),[]),
(oM 5 65,[])])))))
(sq (.reg [oA 66 0 1,
oL 67 66,
oB 68 .eql 67 (cI 13)])
(.cond 68
(sq (kr [1,4] [oA 69 6 4,
oN (.store 1 69 (.c (.imm Y2 [])))])
(sq (kr [1,4] [oA 71 6 1,
oL 72 71,
oC 73 83 [72],
oM 70 73,
oX 74 70 0,
oX 75 70 1,
oM 10 74,
oM 11 75])
(sq (kr [1,4,10,11] [oD 77 (.sliceAll (.int .i64) 2 [(0,1,(cI 4)),(1,1,(cI 4))]),
oA 78 2 1,
oL 79 78,
oC 80 81 [77,79],
oM 76 80,
oX 81 76 0,
oX 82 76 1,
oM 12 81,
oM 13 82])
(sq (sq (kr [1,4,10,11,12,13] [oM 83 13,
oD 84 (.un .not 83),
oM 85 84,
oF 85 86 (.mov 11),
oF 85 87 (.bin .neq 86 (cI 0)),
oP 88 85 cT 87,
oM 89 88,
oF 89 90 (.fieldAddr 2 1),
oF 89 91 (.load none 90),
oF 89 92 (.indexSl 1 91 (cI 1)),
oF 89 93 (.load none 92),
oF 89 94 (.bin .eql 93 (.c (.int .u64 0))),
oP 95 89 cT 94,
oM 96 95,
oF 96 97 (.fieldAddr 2 1),
oF 96 98 (.load none 97),
oF 96 99 (.indexSl 1 98 (cI 0)),
oF 96 100 (.load none 99),
oF 96 101 (.bin .neq 100 (.c (.int .u64 4294967295))),
oF 96 102 (.mov 101),
oT 102 103 (.fieldAddr 3 1),
oT 102 104 (.load none 103),
oT 102 105 (.len 104),
oT 102 106 (.bin .gtr 105 (cI 0)),
oF 96 107 (.pick 102 106 cF),
oP 108 96 cT 107])
(.cond 108
(sq (kr [] [oD 2 (.nilrow (.int .u8)),
oD 3 (.mov (cI 10001))])
.ret)
.skip))
(sq (kr [1,4,10,12] [oM 109 12,
oM 110 10,
oE 111 110,
oD 112 (.conv .u64 111),
oC 113 84 [112,(cI 2)],
oD 114 (.append (.int .u8) 1 109 113),
oD 115 (.sliceAll (.int .u8) 6 [(0,1,(.c (.int .u8 0))),(1,1,(.c (.int .u8 0))),(2,1,(.c (.int .u8 0))),(3,1,(.c (.int .u8 0))),(4,1,(.c (.int .u8 0))),(5,1,(.c (.int .u8 0)))]),
oD 116 (.append (.int .u8) 1 114 115),
oM 5 116])
(kd [1,4,5,10] [(oM 117 5,[]),
(oM 118 10,[0]),
(oD 119 (.append (.int .u8) 1 117 118),[]),
(oA 120 3 1,[0,0,0]),
(oL 121 120,[1,0,0]),
(oD 122 (.append (.int .u8) 1 119 121),[]),
(oM 5 122,[])]))))))
(sq (kr [] [oD 2 (.nilrow (.int .u8)),
oD 3 (.mov (cI 10001))])
.ret)))))
(sq (sq (kr [4,5] [oK 123 15 4,
oC 124 85 [123],
oD 125 (.un .not 124),
oM 126 125,
oF 126 127 (.mov 5),
oF 126 128 (.len 127),
oF 126 129 (.bin .gtr 128 (cI 65527)),
oP 130 126 cT 129])
(.cond 130
(sq (kr [] [oD 2 (.nilrow (.int .u8)),
oD 3 (.mov (cI 10001))])
.ret)
.skip))
(sq (kr [5] [oM 131 5,
oM 2 131,
oD 3 (.mov (cI 0))])
.ret))))))))
def B2_:List RD:=[.tmp 2 true (some (.int .u8)),.tmp 3 true none]
theorem zaD_:zn_ Tryz.prog Tryz.f31 zbq_ B2_=true:=by kernel_rfl
def yo_:List AV->List Obj->Option (Prop × AV)
 | [.agg zz0],[]=>K1_ YD zz0 fun ⟨tt,xi,n,d,el,x,a,ins,bu,ba,qu,po,ki,fl,pa,_⟩=>some ((okM x/\okL a/\d.length<=1000000/\n.length<=1000000,.tup [.imm (.int .u8) (wrR ((tt,xi,n,d,el,x,a,ins,bu,ba,qu,po,ki,fl,pa,()):VMs)).1,.int .i64 (wrR ((tt,xi,n,d,el,x,a,ins,bu,ba,qu,po,ki,fl,pa,()):VMs)).2]))
 | _,_=>none
theorem h4_:zd_ Tryz.prog 31 (RoF yo_).sum:=by
 refine zi_ Tryz.func31 zaD_ (za_ (s:=RwF jB_) XJ_ (za_ (s:=RoF wz_) uu_ (za_ (s:=RoF wx_) us_ (za_ (s:=RwF Qb_) qL_ (za_ (s:=RoF yr_) h7_ (zc_ _)))))) fun args objs p v e=>?_
 unfold yo_ at e
 split at e
 ·rename_i zz0
  replace e:=qk_ e
  obtain ⟨⟨tt,xi,n,d,el,x,a,ins,bu,ba,qu,po,ki,fl,pa,_⟩,hz,e⟩:=e
  replace hz:zz0=[.int .i64 tt,.int .u32 xi,.imm (.int .u64) n,.imm (.int .u8) d,.imm YB el,.imm Y1 x,.imm Y2 a,.imm Y3 ins,.imm Y4 bu,.imm Y5 ba,.imm Y7 qu,.imm Y8 po,.int .i64 ki,.int .i64 fl,.imm YC pa]:=hz
  subst hz
  change Int at tt
  change Int at xi
  change Int at ki
  change Int at fl
  cases e
  refine ⟨rfl,fun hw ho hp=>?_⟩
  change List Int at n
  change List Int at d
  clear hw ho
  change List AC at a
  change List OV at x
  change List Int at n
  change List Int at d
  obtain ⟨hx,ha,hd,hn⟩:=hp
  by_cases h10:tt=10
  ·subst h10
   obtain ⟨k1,k2⟩:=zjS_ xi n d el x a (ins,bu,ba,qu,po,ki,fl,pa,())
   have hpl:=u7_ [4,2,1,1,8] n
   by_cases hk:ZM_ w10 n=true
   ·have hk2:¬ ZM_ [4,2,1,1,8] n=false:=fun z=>by rw [show ZM_ w10 n=false from z] at hk;cases hk
    have hc:n.length=5:=by have:=y9_ hk;rw [show zq_ w10=5 by decide] at this;omega
    have hbd:=zhY_ (d:=d) hc
    cases hr:rgM x with
    | false=>
      have hE:meE x=10001:=by unfold meE;rw [hr];rfl
      have c:=k2 (fun q=>by rw [hr] at q;cases q.2.1)
      clear k1 k2
      repeat'(intro t ht;first|(cases t<;>first|(cases ht;done)|(try simp only[zg_]at ht;try(exfalso;first|contradiction|omega)))|((first|refine zb_ ht ?_|refine ht ?_ ?_|refine ht.1 ?_ ?_|refine ht ?_)<;>clear ht))
      all_goals first
       | exact True.intro
       | exact hx
       | (rw [c];exact ⟨rfl,rfl⟩)
       | (exfalso;simp_all;done)
    | true=>
      have hE:meE x=0:=if_pos hr
      have hL:meL x=meB x:=if_pos hr
      obtain ⟨h1,h2,h3,h4,h5⟩:=kB_ hr
      have hml:=bD_ x (by omega)
      have hz:=XO_ (n:=meN x) (by omega)
      replace k1:=k1 hk hr
      repeat'(intro t ht;first|(cases t<;>first|(cases ht;done)|(try simp only[zg_]at ht;try(exfalso;first|contradiction|omega)))|((first|refine zb_ ht ?_|refine ht ?_ ?_|refine ht.1 ?_ ?_|refine ht ?_)<;>clear ht))
      all_goals first
       | exact True.intro
       | exact hx
       | (simp only [hL,List.length_append,List.length_cons,List.length_nil];constructor<;>omega)
       | ((try simp only [zk_,zl_,zj_] at*);omega)
       | (have hb:Zy_ n d=false:=by rw [hbd,decide_eq_false (by assumption),decide_eq_false (by assumption)];rfl
          have c:=k1 hb
          have hY:Zm_ [4,2,1,1,8] n++meL x++[0,0]++d=Y10 n x d:=by unfold Y10 w10;rw [hL]
          first
           | (have hl:¬ (65527:Int) < (Y10 n x d).length:=by rw [<- hY];exact ht
              rw [if_pos (by assumption),if_neg hl] at c
              rw [c,<- hY];exact ⟨rfl,rfl⟩)
           | (have hl:(65527:Int) < (Y10 n x d).length:=by rw [<- hY];exact ht
              rw [if_pos (by assumption),if_pos hl] at c
              rw [c];exact ⟨rfl,rfl⟩)
           | (rw [if_neg (fun z=>by rw [z] at ht;cases ht)] at c
              rw [c];exact ⟨rfl,rfl⟩)
           | fail)
       | (have hb:Zy_ n d=true:=by
           rw [hbd]
           first
            | (rw [decide_eq_true (show 2 < n.getD 2 0 from ht)];rfl)
            | (rw [decide_eq_true (show n.getD 1 0 < (d.length:Int) from ht),Bool.or_true])
          have c:=k2 (fun q=>by rw [hb] at q;cases q.2.2)
          rw [c];exact ⟨rfl,rfl⟩)
   ·have c:=k2 (fun q=>hk q.1)
    clear k1 k2
    repeat'(intro t ht;first|(cases t<;>first|(cases ht;done)|(try simp only[zg_]at ht;try(exfalso;first|contradiction|omega)))|((first|refine zb_ ht ?_|refine ht ?_ ?_|refine ht.1 ?_ ?_|refine ht ?_)<;>clear ht))
    all_goals first
     | exact True.intro
     | exact hx
     | (rw [c];exact ⟨rfl,rfl⟩)
     | (exfalso;simp_all;done)
  ·by_cases h13:tt=13
   ·subst h13
    obtain ⟨k1,k2⟩:=zjR_ xi n d el x a (ins,bu,ba,qu,po,ki,fl,pa,())
    have hpl:=u7_ [4,4] n
    cases hr:rgL a with
    | false=>
      have hE:alE a=10001:=by unfold alE;rw [hr];rfl
      have c:=k2 (fun q=>by rw [hr] at q;cases q.2.1)
      clear k1 k2
      repeat'(intro t ht;first|(cases t<;>first|(cases ht;done)|(try simp only[zg_]at ht;try(exfalso;first|contradiction|omega)))|((first|refine zb_ ht ?_|refine ht ?_ ?_|refine ht.1 ?_ ?_|refine ht ?_)<;>clear ht))
      all_goals first
       | exact True.intro
       | exact ha
       | (rw [c];exact ⟨rfl,rfl⟩)
       | (exfalso;simp_all;done)
    | true=>
      have hE:alE a=0:=if_pos hr
      have hL:alL a=boA a:=if_pos hr
      obtain ⟨p1,p2,p3,p4⟩:=qg_ hr
      by_cases hk:ZM_ [4,4] n=true
      ·have hk2:¬ ZM_ [4,4] n=false:=fun z=>by rw [z] at hk;cases hk
       have hc:n.length=2:=by have:=y9_ hk;rw [show zq_ [4,4]=2 by decide] at this;omega
       have hbd:=zhX_ (d:=d) hc
       replace k1:=k1 hk hr
       have hbn:=zm_ (n:=((boA a).length:Int)) (w:=2) (by decide)
       repeat'(intro t ht;first|(cases t<;>first|(cases ht;done)|(try simp only[zg_]at ht;try(exfalso;first|contradiction|omega)))|((first|refine zb_ ht ?_|refine ht ?_ ?_|refine ht.1 ?_ ?_|refine ht ?_)<;>clear ht))
       all_goals first
        | exact True.intro
        | exact ha
        | (simp only [hL,List.length_append,List.length_cons,List.length_nil];constructor<;>omega)
        | ((try simp only [hL,zk_,zl_,zj_] at*);omega)
        | exact (by decide:(0:Int)<=2/\(2:Int)<=100)
        | (have hY:Zm_ [4,4] n++ze_ (alL a).length 2++[0,0,0,0,0,0]++alL a++d=Y13 n a d:=by unfold Y13;rw [hL]
           have hb:Zr_ n d=false:=by
            rw [hbd,decide_eq_false (by assumption)]
            first
             | (rw [decide_eq_false (not_not_intro (show n.getD 0 0=4294967295 by assumption))];rfl)
             | (rw [decide_eq_false (show ¬ 0 < d.length by omega),Bool.and_false];rfl)
           have c:=k1 hb
           first
            | (have hl:¬ (65527:Int) < (Y13 n a d).length:=by rw [<- hY];exact ht
               rw [if_pos (by assumption),if_neg hl] at c
               rw [c,<- hY];exact ⟨rfl,rfl⟩)
            | (have hl:(65527:Int) < (Y13 n a d).length:=by rw [<- hY];exact ht
               rw [if_pos (by assumption),if_pos hl] at c
               rw [c];exact ⟨rfl,rfl⟩)
            | (rw [if_neg (fun z=>by rw [z] at ht;cases ht)] at c
               rw [c];exact ⟨rfl,rfl⟩)
            | fail)
        | (have hb:Zr_ n d=true:=by
            rw [hbd]
            first
             | (rw [decide_eq_true (show n.getD 1 0=0 from ht)];rfl)
             | (rw [decide_eq_true (show ¬ n.getD 0 0=4294967295 by assumption),decide_eq_true (show 0 < d.length by omega)];simp)
           have c:=k2 (fun q=>by rw [hb] at q;cases q.2.2)
           rw [c];exact ⟨rfl,rfl⟩)
      ·have c:=k2 (fun q=>hk q.1)
       clear k1 k2
       repeat'(intro t ht;first|(cases t<;>first|(cases ht;done)|(try simp only[zg_]at ht;try(exfalso;first|contradiction|omega)))|((first|refine zb_ ht ?_|refine ht ?_ ?_|refine ht.1 ?_ ?_|refine ht ?_)<;>clear ht))
       all_goals first
        | exact True.intro
        | exact ha
        | (rw [c];exact ⟨rfl,rfl⟩)
        | (exfalso;simp_all;done)
   ·have c:=zjQ_ (m:=((tt,xi,n,d,el,x,a,ins,bu,ba,qu,po,ki,fl,pa,()):VMs)) h10 h13
    repeat'(intro t ht;first|(cases t<;>first|(cases ht;done)|(try simp only[zg_]at ht;try(exfalso;first|contradiction|omega)))|((first|refine zb_ ht ?_|refine ht ?_ ?_|refine ht.1 ?_ ?_|refine ht ?_)<;>clear ht))
    all_goals first
     | exact True.intro
     | (rw [c];exact ⟨rfl,rfl⟩)
 ·cases e
theorem ziu_ {a:AC} (h:rgA a=true):lenA a:=by
 by_cases h25:a.1=25
 ·obtain ⟨_,_,hd,_,_,_,hR⟩:=KN_ h25 h
  have hn:=Z9_ hR
  unfold lenA;rw [hd]
  refine ⟨?_,?_,by decide⟩<;>omega
 ·obtain ⟨k1,k2,k3,k4,k5,k6,k7⟩:=QD_ h25 h
  obtain ⟨_,_,_,_,e5,e6⟩:=hd_ k2
  unfold lenA;rw [e5,e6]
  refine ⟨by decide,by decide,?_⟩
  rcases k7 with ⟨_,_,k⟩ | ⟨_,k⟩
  ·omega
  ·rw [k];decide
theorem zcP_ {l:List AC} (h:rgL l=true):okL l:=by
 obtain ⟨h1,h2,_⟩:=qg_ h
 exact ⟨fun o ho=>ziu_ (List.all_eq_true.1 h1 o ho),by omega⟩
theorem ziX_ (w b:List Int):(zC_ w b).length<=w.length:=by
 have h:=Bl_ w b 0 0
 unfold Qy_ at h;rw [if_pos rfl] at h;exact h
theorem ze8_ {m:VMs} (h:fwMs m=true):okM (mX m)/\okL (mA m)/\(mD m).length<=1000000/\(mN m).length<=1000000:=by
 unfold fwMs at h
 simp only [Bool.and_eq_true,decide_eq_true_eq] at h
 obtain ⟨_,_,⟨⟨⟨⟨⟨⟨⟨⟨⟨⟨q1,q2⟩,q3⟩,q4⟩,q5⟩,q6⟩,_⟩,_⟩,_⟩,_⟩,_⟩⟩:=h
 exact ⟨(zkE_ q5).1,(zi0_ q6).1,Nat.le_trans q2 (by decide),Nat.le_trans q1 (by decide)⟩
theorem zeB_ (m:VMs):(wrR m).1.length<=65527:=by
 by_cases h:(wrR m).2=0
 ·obtain ⟨y,z,_,_,h3,_,h5⟩:=zgo_ h
  rw [h3];show y.length<=65527;omega
 ·unfold wrR at h ⊢
  split
  ·split
   ·split
    ·exact Nat.zero_le _
    ·rename_i hl;show (_:List Int).length<=65527;dsimp only;omega
   ·exact Nat.zero_le _
  ·exact Nat.zero_le _
theorem zj8_ (t:Int) (b:List Int):(mN (Z0_ t b)).length<=1000000:=by
 unfold Z0_
 split
 ·split
  ·exact Nat.le_trans (ziX_ w10 b) (by decide)
  ·show ((zC_ w13 b).take 2).length<=1000000
   rw [List.length_take];omega
 ·exact Nat.zero_le _
theorem s24a:wrR (13,0,[4294967295,3],[7],[],[],[(0,2,0,(0,0,false,0,[],[],()),[],())],[],[],[],[],[],0,0,[],())=([255,255,255,255,0,0,0,3,0,16,0,0,0,0,0,0,0,0,0,16,0,0,0,2,0,0,0,0,0,0,0,0,7],0):=by decide+kernel
theorem s24b:jM_ 13 [255,255,255,255,0,0,0,3,0,16,0,0,0,0,0,0,0,0,0,16,0,0,0,2,0,0,0,0,0,0,0,0,7]=0/\(Z0_ 13 [255,255,255,255,0,0,0,3,0,16,0,0,0,0,0,0,0,0,0,16,0,0,0,2,0,0,0,0,0,0,0,0,7]).2.2=([4294967295,3],[7],[],[],[(0,2,0,(0,0,false,0,[],[],()),[],())],[],[],[],[],[],0,0,[],()):=by
 have h:=zez_ (m:=(13,0,[4294967295,3],[7],[],[],[(0,2,0,(0,0,false,0,[],[],()),[],())],[],[],[],[],[],0,0,[],())) ⟨by decide,by decide,fun a ha=>by rcases List.mem_singleton.1 ha with rfl;exact ⟨by decide,by decide,by decide⟩⟩ (by rw [s24a])
 rw [s24a] at h
 exact ⟨h.1,congrArg (fun q:VMs=>q.2.2) h.2.2⟩
def zbR_:IR:=
(sq (kr [] [oD 0 (.mov cF)])
(sq (kr [] [oD 10 (.sliceAll (.int .u64) 2 [(0,1,(.c (.int .u64 4294967295))),(1,1,(.c (.int .u64 3)))]),
oD 11 (.build [.int .i64 0,.int .u64 0,.int .u64 0,.int .i64 0,.int .i64 0,.kb false,.int .u64 0,.imm (.int .u8) [],.imm (.int .u8) [],.imm (.int .u8) []] [(1,1,(.c (.int .u64 2)))]),
oD 12 (.sliceAll Y2 1 [(0,10,11)]),
oD 13 (.sliceAll (.int .u8) 1 [(0,1,(.c (.int .u8 7)))]),
oD 14 (.build [.int .i64 0,.int .u32 0,.imm (.int .u64) [],.imm (.int .u8) [],.imm YB [],.imm Y1 [],.imm Y2 [],.imm Y3 [],.imm Y4 [],.imm Y5 [],.imm Y7 [],.imm Y8 [],.int .i64 0,.int .i64 0,.imm YC []] [(0,1,(cI 13)),(2,1,10),(6,1,12),(3,1,13)]),
oC 15 30 [14],
oM 9 15,
oX 16 9 0,
oX 17 9 1,
oM 1 16,
oM 2 17])
(sq (kr [1,2] [oM 19 1,
oC 20 34 [(cI 13),19],
oM 18 20,
oX 21 18 0,
oX 22 18 1,
oD 3 (.box [.int .i64 0,.int .u32 0,.imm (.int .u64) [],.imm (.int .u8) [],.imm YB [],.imm Y1 [],.imm Y2 [],.imm Y3 [],.imm Y4 [],.imm Y5 [],.imm Y7 [],.imm Y8 [],.int .i64 0,.int .i64 0,.imm YC []]),
oS 15 3 21,
oM 4 22])
(sq (kr [1,2,3,4] [oD 24 (.mkrow (.int .u8) 1 (0:Int) (cI 16) (cI 16)),
oC 25 34 [(cI 13),24],
oM 23 25,
oX 26 23 0,
oX 27 23 1,
oD 5 (.box [.int .i64 0,.int .u32 0,.imm (.int .u64) [],.imm (.int .u8) [],.imm YB [],.imm Y1 [],.imm Y2 [],.imm Y3 [],.imm Y4 [],.imm Y5 [],.imm Y7 [],.imm Y8 [],.int .i64 0,.int .i64 0,.imm YC []]),
oS 15 5 26,
oM 6 27])
(sq (kr [1,2,3,4,6] [oD 29 (.sliceAll (.int .u64) 5 [(0,1,(.c (.int .u64 0))),(1,1,(.c (.int .u64 1))),(2,1,(.c (.int .u64 0))),(3,1,(.c (.int .u64 0))),(4,1,(.c (.int .u64 0)))]),
oD 30 (.sliceAll (.int .u8) 1 [(0,1,(.c (.int .u8 5)))]),
oD 31 (.build [.int .i64 0,.int .u32 0,.imm (.int .u64) [],.imm (.int .u8) [],.imm YB [],.imm Y1 [],.imm Y2 [],.imm Y3 [],.imm Y4 [],.imm Y5 [],.imm Y7 [],.imm Y8 [],.int .i64 0,.int .i64 0,.imm YC []] [(0,1,(cI 10)),(2,1,29),(3,1,30)]),
oC 32 30 [31],
oM 28 32,
oX 33 28 0,
oX 34 28 1,
oM 7 33,
oM 8 34])
(sq (kr [1,2,3,4,6,7,8] [oM 35 2,
oB 36 .eql 35 (cI 0),
oM 37 36,
oT 37 38 (.mov 1),
oT 37 39 (.len 38),
oT 37 40 (.bin .eql 39 (cI 33)),
oP 41 37 40 cF,
oM 42 41,
oT 42 43 (.mov 4),
oT 42 44 (.bin .eql 43 (cI 0)),
oP 45 42 44 cF,
oM 46 45,
oT 46 47 (.fieldAddr 6 3),
oT 46 48 (.load none 47),
oT 46 49 (.len 48),
oT 46 50 (.bin .eql 49 (cI 1)),
oP 51 46 50 cF,
oM 52 51,
oT 52 53 (.fieldAddr 3 3),
oT 52 54 (.load none 53),
oT 52 55 (.sliceAll (.int .u8) 1 [(0,1,(.c (.int .u8 7)))]),
oT 52 56 (.call false (.f 27) [54,55]),
oP 57 52 56 cF,
oM 58 57,
oT 58 59 (.mov 6),
oT 58 60 (.bin .eql 59 (cI 268)),
oP 61 58 60 cF,
oM 62 61,
oT 62 63 (.mov 8),
oT 62 64 (.bin .eql 63 (cI 0)),
oP 65 62 64 cF,
oM 66 65,
oT 66 67 (.mov 7),
oT 66 68 (.len 67),
oT 66 69 (.bin .eql 68 (cI 27)),
oP 70 66 69 cF,
oM 71 70,
oT 71 72 (.call false (.f 32) [(cI 10)]),
oP 73 71 72 cF,
oM 74 73,
oT 74 75 (.call false (.f 32) [(cI 11)]),
oT 74 76 (.un .not 75),
oP 77 74 76 cF,
oM 0 77])
.ret))))))
def zat_:List RD:=[.tmp 0 true none]
theorem za4_:zn_ Tryz.prog Tryz.f29 zbR_ zat_=true:=by kernel_rfl
def wJ_:List AV->List Obj->Option (Prop × AV)
 | [],[]=>some ((True,.bool true))
 | _,_=>none
theorem yZ_:zd_ Tryz.prog 29 (RoF wJ_).sum:=by
 refine zi_ Tryz.func29 za4_ (za_ (s:=RoF Qz_) Kg_ (za_ (s:=RoF kV_) wQ_ (za_ (s:=RoF z1_) zQ_ (za_ (s:=RoF ke_) KT_ (zc_ _))))) fun args objs p v e=>?_
 unfold wJ_ at e
 split at e
 ·cases e
  refine ⟨rfl,fun hw ho hp=>?_⟩
  clear hw ho
  obtain ⟨b1,b2⟩:=s24b
  have hA:=congrArg (fun q:List Int × List Int × List VEl × List OV × List AC × List VIn × List BK × List VBd × List VQu × List PV × Int × Int × List VPa × Unit=>q.2.2.2.2.1) b2
  have hD:=congrArg (fun q:List Int × List Int × List VEl × List OV × List AC × List VIn × List BK × List VBd × List VQu × List PV × Int × Int × List VPa × Unit=>q.2.1) b2
  dsimp only at hA hD
  have hM0:okM []:=zjC_ (by decide)
  have hL0:okL []:=zcP_ (by decide)
  have hL2:okL [((0:Int),(2:Int),(0:Int),((0:Int),(0:Int),false,(0:Int),([]:List Int),([]:List Int),()),([]:List Int),())]:=zcP_ (by decide+kernel)
  repeat'(intro t ht;first|(cases t<;>first|(cases ht;done)|(try simp only[zg_]at ht;try(exfalso;first|contradiction|omega)))|((first|refine zb_ ht ?_|refine ht ?_ ?_|refine ht.1 ?_ ?_|refine ht ?_)<;>clear ht))
  all_goals first
   | exact True.intro
   | exact ⟨hM0,hL2,by decide,by decide⟩
   | exact ⟨hM0,hL0,by decide,by decide⟩
   | exact Nat.le_trans (zeB_ _) (by decide)
   | exact (by decide:(0:Int)<=16/\(16:Int)<=16/\(16:Int)*((1:Nat):Int)<=140737488355328/\(16:Int)<=140737488355328)
   | exact (by decide:(List.replicate (Int.toNat 16) (0:Int)).length<=100000000)
   | (exfalso;simp only [s24a,b1,hA,hD] at*;first | contradiction | (simp at*;done))
   | exact ⟨congrArg AV.bool (show (!(decide ((11:Int)=10) || decide ((11:Int)=13)))=true by decide),rfl⟩
 ·cases e
def XC_:IR:=
(sq (kr [0,1] [oD 2 (.boxv 0),
oD 4 (.mov cF)])
(sq (sq (.reg [oK 9 15 2,
oC 10 28 [9],
oD 11 (.un .not 10)])
(.cond 11
(sq (.reg [oC 12 29 [],
oM 4 12])
.ret)
.skip))
(sq (kr [1,2] [oK 14 15 2,
oC 15 30 [14],
oM 13 15,
oX 16 13 0,
oX 17 13 1,
oM 5 16,
oM 6 17])
(sq (kr [1,2,5,6] [oK 19 15 2,
oC 20 31 [19],
oM 18 20,
oX 21 18 0,
oX 22 18 1,
oM 7 21,
oM 8 22])
(sq (kr [1,5,6,7,8] [oM 23 1,
oC 24 32 [23],
oM 25 1,
oC 26 33 [25],
oD 27 (.eqb false 24 26),
oM 28 27,
oT 28 29 (.mov 5),
oT 28 30 (.mov 7),
oT 28 31 (.call false (.f 27) [29,30]),
oP 32 28 31 cF,
oM 33 32,
oT 33 34 (.mov 6),
oT 33 35 (.mov 8),
oT 33 36 (.bin .eql 34 35),
oP 37 33 36 cF,
oM 38 37,
oT 38 39 (.call false (.f 29) []),
oP 40 38 39 cF,
oM 4 40])
.ret)))))
def Xw_:List RD:=[.tmp 4 true none]
theorem Xy_:zn_ Tryz.prog Tryz.f6 XC_ Xw_=true:=by kernel_rfl
def QF_:List AV->List Obj->Option (Prop × AV)
 | [.agg zz0,.int .i64 k],[]=>K1_ YD zz0 fun ⟨tt,xi,n,d,el,x,a,ins,bu,ba,qu,po,ki,fl,pa,_⟩=>some ((True,.bool true))
 | _,_=>none
theorem WV_:zd_ Tryz.prog 6 (RoF QF_).sum:=by
 refine zi_ Tryz.func6 Xy_ (za_ (s:=RoF Xi_) vW_ (za_ (s:=RoF wJ_) yZ_ (za_ (s:=RoF Qz_) Kg_ (za_ (s:=RoF yo_) h4_ (za_ (s:=RoF ke_) KT_ (za_ (s:=RoF vE_) BK_ (za_ (s:=RoF z1_) zQ_ (zc_ _)))))))) fun args objs p v e=>?_
 unfold QF_ at e
 split at e
 ·rename_i zz0 k
  replace e:=qk_ e
  obtain ⟨⟨tt,xi,n,d,el,x,a,ins,bu,ba,qu,po,ki,fl,pa,_⟩,hz,e⟩:=e
  replace hz:zz0=[.int .i64 tt,.int .u32 xi,.imm (.int .u64) n,.imm (.int .u8) d,.imm YB el,.imm Y1 x,.imm Y2 a,.imm Y3 ins,.imm Y4 bu,.imm Y5 ba,.imm Y7 qu,.imm Y8 po,.int .i64 ki,.int .i64 fl,.imm YC pa]:=hz
  subst hz
  change Int at tt
  change Int at xi
  change Int at ki
  change Int at fl
  cases e
  refine ⟨rfl,fun hw ho hp=>?_⟩
  change List Int at n
  change List Int at d
  clear hw ho
  cases hf:fwMs ((tt,xi,n,d,el,x,a,ins,bu,ba,qu,po,ki,fl,pa,()):VMs) with
  | false=>
    repeat'(intro t ht;first|(cases t<;>first|(cases ht;done)|(try simp only[zg_]at ht;try(exfalso;first|contradiction|omega)))|((first|refine zb_ ht ?_|refine ht ?_ ?_|refine ht.1 ?_ ?_|refine ht ?_)<;>clear ht))
    all_goals first
     | exact True.intro
     | exact ⟨rfl,rfl⟩
     | (exfalso;simp_all;done)
  | true=>
    have hok:=ze8_ hf
    repeat'(intro t ht;first|(cases t<;>first|(cases ht;done)|(try simp only[zg_]at ht;try(exfalso;first|contradiction|omega)))|((first|refine zb_ ht ?_|refine ht ?_ ?_|refine ht.1 ?_ ?_|refine ht ?_)<;>clear ht))
    all_goals first
     | exact True.intro
     | exact hok
     | exact ⟨rfl,rfl⟩
     | (exfalso;simp_all;done)
 ·cases e
def Ys_:IR:=
(sq (kr [0,1,2] [oD 3 (.boxv 0),
oD 6 (.mov cF)])
(sq (sq (kr [1,2,3] [oK 15 15 3,
oC 16 28 [15],
oD 17 (.un .not 16),
oM 18 17,
oF 18 19 (.mov 2),
oF 18 20 (.len 19),
oF 18 21 (.bin .gtr 20 (cI 2500)),
oP 22 18 cT 21])
(.cond 22
(sq (kr [] [oC 23 29 [],
oM 6 23])
.ret)
.skip))
(sq (sq (kr [1,2,3] [oK 25 15 3,
oC 26 30 [25],
oM 24 26,
oX 27 24 0,
oX 28 24 1,
oM 7 27,
oM 8 28])
(sq (kr [1,2,3,7,8] [oM 29 8,
oB 30 .eql 29 (cI 0)])
(.cond 30
(sq (kr [1,2,3,7] [oA 32 0 3,
oL 33 32,
oM 34 7,
oC 35 34 [33,34],
oM 31 35,
oX 36 31 0,
oX 37 31 1,
oD 9 (.box [.int .i64 0,.int .u32 0,.imm (.int .u64) [],.imm (.int .u8) [],.imm YB [],.imm Y1 [],.imm Y2 [],.imm Y3 [],.imm Y4 [],.imm Y5 [],.imm Y7 [],.imm Y8 [],.int .i64 0,.int .i64 0,.imm YC []]),
oS 15 9 36,
oM 10 37])
(sq (kr [1,2,3,9,10] [oA 38 1 3,
oL 39 38,
oA 40 1 9,
oS 1 40 39])
(sq (kr [1,2,3,9,10] [oM 41 10,
oB 42 .neq 41 (cI 0),
oM 43 42,
oF 43 44 (.fieldAddr 0 3),
oF 43 45 (.load none 44),
oF 43 46 (.call false (.f 32) [45]),
oF 43 47 (.un .not 46),
oP 48 43 cT 47,
oM 49 48,
oF 49 50 (.load (some 15) 9),
oF 49 51 (.load (some 15) 3),
oF 49 52 (.call false (.f 36) [50,51]),
oF 49 53 (.un .not 52),
oP 54 49 cT 53])
(.cond 54
(sq (kr [] [oD 6 (.mov cF)])
.ret)
.skip))))
.skip)))
(sq (kr [1,2] [oM 56 1,
oM 57 2,
oC 58 34 [56,57],
oM 55 58,
oX 59 55 0,
oX 60 55 1,
oD 11 (.box [.int .i64 0,.int .u32 0,.imm (.int .u64) [],.imm (.int .u8) [],.imm YB [],.imm Y1 [],.imm Y2 [],.imm Y3 [],.imm Y4 [],.imm Y5 [],.imm Y7 [],.imm Y8 [],.int .i64 0,.int .i64 0,.imm YC []]),
oS 15 11 59,
oM 12 60])
(sq (sq (kr [1,2,11,12] [oM 61 12,
oB 62 .neq 61 (cI 0)])
(.cond 62
(sq (kr [11] [oK 63 15 11,
oD 64 (.build [.int .i64 0,.int .u32 0,.imm (.int .u64) [],.imm (.int .u8) [],.imm YB [],.imm Y1 [],.imm Y2 [],.imm Y3 [],.imm Y4 [],.imm Y5 [],.imm Y7 [],.imm Y8 [],.int .i64 0,.int .i64 0,.imm YC []] []),
oC 65 36 [63,64],
oM 66 65,
oT 66 67 (.call false (.f 29) []),
oP 68 66 67 cF,
oM 6 68])
.ret)
.skip))
(sq (kr [1,2,11] [oK 70 15 11,
oC 71 30 [70],
oM 69 71,
oX 72 69 0,
oX 73 69 1,
oM 13 72,
oM 14 73])
(sq (kr [1,2,11,13,14] [oM 74 14,
oB 75 .eql 74 (cI 0),
oM 76 75,
oT 76 77 (.fieldAddr 0 11),
oT 76 78 (.load none 77),
oT 76 79 (.mov 1),
oT 76 80 (.bin .eql 78 79),
oP 81 76 80 cF,
oM 82 81,
oT 82 83 (.fieldAddr 1 11),
oT 82 84 (.load none 83),
oT 82 85 (.bin .eql 84 (.c (.int .u32 0))),
oP 86 82 85 cF,
oM 87 86,
oT 87 88 (.mov 13),
oT 87 89 (.mov 2),
oT 87 90 (.call false (.f 27) [88,89]),
oP 91 87 90 cF,
oM 92 91,
oT 92 93 (.call false (.f 29) []),
oP 94 92 93 cF,
oM 6 94])
.ret)))))))
def y5_:List RD:=[.tmp 6 true none]
theorem Yf_:zn_ Tryz.prog Tryz.f8 Ys_ y5_=true:=by kernel_rfl
def kM_:List AV->List Obj->Option (Prop × AV)
 | [.agg zz0,.int .i64 k,.imm (.int .u8) b],[]=>K1_ YD zz0 fun ⟨tt,xi,n,d,el,x,a,ins,bu,ba,qu,po,ki,fl,pa,_⟩=>some ((True,.bool true))
 | _,_=>none
theorem XV_:zd_ Tryz.prog 8 (RoF kM_).sum:=by
 refine zi_ Tryz.func8 Yf_ (za_ (s:=RoF Xi_) vW_ (za_ (s:=RoF wJ_) yZ_ (za_ (s:=RoF Qz_) Kg_ (za_ (s:=RoF kV_) wQ_ (za_ (s:=RoF ke_) KT_ (za_ (s:=RoF yp_) h5_ (za_ (s:=RoF z1_) zQ_ (zc_ _)))))))) fun args objs p v e=>?_
 unfold kM_ at e
 split at e
 ·rename_i zz0 k b
  replace e:=qk_ e
  obtain ⟨⟨tt,xi,n,d,el,x,a,ins,bu,ba,qu,po,ki,fl,pa,_⟩,hz,e⟩:=e
  replace hz:zz0=[.int .i64 tt,.int .u32 xi,.imm (.int .u64) n,.imm (.int .u8) d,.imm YB el,.imm Y1 x,.imm Y2 a,.imm Y3 ins,.imm Y4 bu,.imm Y5 ba,.imm Y7 qu,.imm Y8 po,.int .i64 ki,.int .i64 fl,.imm YC pa]:=hz
  subst hz
  change Int at tt
  change Int at xi
  change Int at ki
  change Int at fl
  cases e
  refine ⟨rfl,fun hw ho hp=>?_⟩
  change List Int at n
  change List Int at d
  change List Int at b
  have hb:∀ z ∈ (b:List Int),(0:Int)<=z/\z<=255:=fun z hz=>(hw (.imm (.int .u8) b) (by simp)).1 z hz
  have hv:=hw (.agg [.int .i64 tt,.int .u32 xi,.imm (.int .u64) n,.imm (.int .u8) d,.imm YB el,.imm Y1 x,.imm Y2 a,.imm Y3 ins,.imm Y4 bu,.imm Y5 ba,.imm Y7 qu,.imm Y8 po,.int .i64 ki,.int .i64 fl,.imm YC pa]) (by simp)
  have hn:∀ q ∈ (n:List Int),(0:Int)<=q/\q<=18446744073709551615:=fun q hq=>(hv (.imm (.int .u64) n) (by simp)).1 q hq
  have hx:=zde_ (l:=x) (hv (.imm Y1 x) (by simp))
  have ha:=zh5_ (l:=a) (hv (.imm Y2 a) (by simp))
  clear hw ho hv
  cases hf:fwMs ((tt,xi,n,d,el,x,a,ins,bu,ba,qu,po,ki,fl,pa,()):VMs) with
  | false=>
    repeat'(intro t ht;first|(cases t<;>first|(cases ht;done)|(try simp only[zg_]at ht;try(exfalso;first|contradiction|omega)))|((first|refine zb_ ht ?_|refine ht ?_ ?_|refine ht.1 ?_ ?_|refine ht ?_)<;>clear ht))
    all_goals first
     | exact True.intro
     | exact ⟨rfl,rfl⟩
     | (exfalso;simp_all;done)
  | true=>
    have hok:=ze8_ hf
    have hwf:wfM24 ((tt,xi,n,d,el,x,a,ins,bu,ba,qu,po,ki,fl,pa,()):VMs):=⟨hn,fun o ho=>(hx o ho).1,fun o ho=>⟨(ha o ho).1,(ha o ho).2.2.2.2.1,(ha o ho).2.2.2.2.2⟩⟩
    have L1:=zez_ hwf
    have L0:=zeB_ ((tt,xi,n,d,el,x,a,ins,bu,ba,qu,po,ki,fl,pa,()):VMs)
    have L2:=zix_ (t:=k) hb
    have L3:=hj_ (t:=k) (b:=b)
    have L4:=zj8_ k b
    clear hn hx ha hwf hb
    repeat'(intro t ht;first|(cases t<;>first|(cases ht;done)|(try simp only[zg_]at ht;try(exfalso;first|contradiction|omega)))|((first|refine zb_ ht ?_|refine ht ?_ ?_|refine ht.1 ?_ ?_|refine ht ?_)<;>clear ht))
    all_goals first
     | exact True.intro
     | exact hok
     | exact ⟨rfl,rfl⟩
     | exact Nat.le_trans L0 (by decide)
     | omega
     | (have h0:jM_ k b=0:=by assumption
        obtain ⟨w1,w2,w3,w4,w5,w6⟩:=L2 h0
        have w7:rgM (mX (Z0_ k b))=true:=w4.trans (by rw [show rgM []=true by decide];simp)
        first
         | exact ⟨zjC_ w7,zcP_ w5,Nat.le_trans w6 (by omega),L4⟩
         | exact absurd (show (wrR (Z0_ k b)).2=0 by rw [w1]) ht
         | exact absurd (show (wrR (Z0_ k b)).1=b by rw [w1]) ht
         | exact absurd w2 ht
         | exact absurd w3 ht
         | fail)
     | (have e:=L3 (by assumption)
        exact absurd e ht)
     | (obtain ⟨a1,a2,a3⟩:=L1 (by assumption)
        first
         | exact absurd a1 ht
         | exact absurd a3 ht
         | (have c:(decide (tt=10) || decide (tt=13))=true:=by
             have a2':tt=10\/tt=13:=a2
             rcases a2' with c | c<;>simp [c]
            rw [c] at ht;cases ht)
         | fail)
 ·cases e
end Go.Eng
