/- Parts of the proof: IA, IB, ID, IC. No condition. -/
import Derived.Test.YtiejmanmofemeaaGreatDoorProg
import Derived.Test.YtiejmanmofemeaaGreatDoorWI10
import Derived.KernelRfl
import Derived.Test.YtiejmanmofemeaaGreatDoorWI20
namespace Go.Eng
open Go.Proofs
set_option linter.unusedVariables false
set_option linter.unusedSimpArgs false
set_option maxRecDepth 100000
set_option maxHeartbeats 1000000
def nxI:List VIn->Int->Int
 | [],_=>-1
 | i :: r,k=>if i.1=1 then k else nxI r (k+1)
theorem zbs_ {l:List VIn} {i:Nat} {d:VIn} (h:i < l.length):nxI (l.drop i) i=if (l.getD i d).1=1 then (i:Int) else nxI (l.drop (i+1)) ((i+1:Nat):Int):=by
 rw [zz_ h d];rfl
theorem Bl_:∀ (l:List VIn) (k:Int),0<=k->(nxI l k=-1\/(k<=nxI l k/\nxI l k < k+l.length))
 | [],k,_=>.inl rfl
 | i :: r,k,h=>by
   unfold nxI
   split
   ·right;rw [List.length_cons];omega
   ·have:=Bl_ r (k+1) (by omega)
    rw [List.length_cons];omega
def yq_:IR:=
(sq (kr [0] [oD 1 (.boxv 0),
oD 2 (.mov cF)])
(sq (.reg [oA 3 0 1,
oL 4 3,
oB 5 .eql 4 (cI 1),
oM 2 5])
.ret))
def ya_:List RD:=[.tmp 2 true none]
theorem yi_:zn_ Tryz.prog Tryz.f112 yq_ ya_=true:=by kernel_rfl
def Qk_:List AV->List Obj->Option (Prop × AV)
 | [.agg [.int .i64 tt,.int .u64 a,.int .u64 b,.imm ty0 c,.imm (.int .u8) d]],[]=>Z1_ ty0 Y2 c fun c=>some ((True,.bool (decide (tt=1))))
 | _,_=>none
theorem Km_:ze_ Tryz.prog 112 (RoF Qk_).sum:=by
 refine zj_ Tryz.func112 yi_ (zd_ _) fun args objs p v e=>?_
 unfold Qk_ at e
 split at e
 ·rename_i tt a b ty0 c d
  obtain rfl:=z6_ e
  replace e:=z7_ e
  cases e
  refine ⟨rfl,fun hw ho hp=>?_⟩
  change List Int at d
  clear hw ho
  repeat'(intro t ht;first|(cases t<;>first|(cases ht;done)|(try simp only[zh_]at ht;try(exfalso;first|contradiction|omega)))|((first|refine zb_ ht ?_|refine ht ?_ ?_|refine ht.1 ?_ ?_|refine ht ?_)<;>clear ht))
  all_goals first
   | exact True.intro
   | exact ⟨rfl,rfl⟩
 ·cases e
def qO_:IR:=
(sq (kr [0,1] [oD 4 (.mov (cI 0))])
(sq (sq (.reg [oM 6 0,
oE 7 6,
oD 8 (.mov (cI 0))])
(.block 0
(.loop
(sq (kr [0,1,7,8] [oB 9 .lss 8 7])
(sq (.cond 9
.skip
(.exit 0))
(sq (.block 1
(sq (.reg [oM 10 8,
oM 5 10])
(sq (kr [0,1,5,7,8] [oM 11 1,
oM 12 0,
oM 13 5,
oI 14 5 12 13,
oK 15 5 14,
oD 16 (.call false 11 [15])])
(.cond 16
(sq (kr [5] [oM 17 5,
oM 4 17])
.ret)
.skip))))
(kr [0,1,7,8] [oB 18 .add 8 (cI 1),
oM 8 18])))))))
(sq (kr [] [oD 4 (.mov (cI (-1)))])
.ret)))
def qJ_:List RD:=[.tmp 4 true none]
theorem qL_:zn_ Tryz.prog Tryz.f111 qO_ qJ_=true:=by kernel_rfl
def z2_:List AV->List Obj->Option (Prop × AV)
 | [.imm ty0 l,.fn 112 [] []],[]=>Z1_ ty0 Y3 l fun l=>some ((True,.int .i64 (nxI l 0)))
 | _,_=>none
theorem qy_:ze_ Tryz.prog 111 (RoF z2_).sum:=by
 refine zj_ Tryz.func111 qL_ (za_ (s:=RoF Qk_) Km_ (zd_ _)) fun args objs p v e=>?_
 unfold z2_ at e
 split at e
 ·rename_i ty0 l
  obtain rfl:=z6_ e
  replace e:=z7_ e
  cases e
  refine ⟨rfl,fun hw ho hp=>?_⟩
  change List VIn at l
  have hl:l.length<=maxLen:=(hw (.imm Y3 l) (by simp)).2
  unfold maxLen at hl
  clear hw ho
  repeat'(intro t ht;first|(cases t<;>first|(cases ht;done)|(try simp only[zh_]at ht))|((first|refine zb_ ht ?_|refine ht ?_ ?_|refine ht.1 ?_ ?_|refine ht ?_)<;>clear ht))
  all_goals first
   | (intro r h1 h2;clear h1;refine h2 ⟨[0,1,7,8],Nat,(fun i=>i<=l.length/\nxI l 0=nxI (l.drop i) i),fun i=>[.imm Y3 l,.fn 112 [] [],.int .i64 l.length,.int .i64 i],fun _=>[],fun i=>l.length - i,⟨0,⟨Nat.zero_le _,rfl⟩,rfl,rfl⟩,?_⟩;clear h2)
  rintro i ⟨hi,he⟩
  repeat'(intro t ht;first|(cases t<;>first|(cases ht;done)|(try simp only[zh_]at ht;try(exfalso;first|contradiction|omega)))|((first|refine zb_ ht ?_|refine ht ?_ ?_|refine ht.1 ?_ ?_|refine ht ?_)<;>clear ht))
  all_goals (try generalize (Ty.dflt Y3)=od at*)
  all_goals first
   | exact True.intro
   | ((try simp only [zk_,zl_,zi_] at*);omega)
   | (refine ⟨?_,rfl⟩;rw [he,List.drop_of_length_le (by omega)];rfl)
   | (have hs:=he.trans (zbs_ (d:=od) (by omega))
      first
       | (rw [if_pos (show (l.getD i od).1=1 from ht)] at hs
          refine ⟨?_,rfl⟩;rw [hs])
       | (rw [if_neg (show ¬ (l.getD i od).1=1 from ht)] at hs
          exact ⟨i+1,⟨by omega,hs⟩,by (try dsimp only);omega,rfl,rfl⟩)
       | fail)
 ·cases e
structure nxOk (l:List VIn):Prop where
 a:∀ i ∈ l,0<=i.2.1/\i.2.1<=255
def V2_:IR:=
(sq (kr [0] [oD 2 (.mov (cI 0)),
oD 3 (.mov cF)])
(sq (.reg [oM 5 0,
oC 6 111 [5,.f 112],
oM 4 6])
(sq (sq (.reg [oM 7 4,
oB 8 .lss 7 (cI 0)])
(.cond 8
(sq (kr [] [oD 2 (.mov (cI 0)),
oD 3 (.mov cF)])
.ret)
.skip))
(sq (kr [0,4] [oM 9 0,
oM 10 4,
oI 11 5 9 10,
oA 12 1 11,
oL 13 12,
oD 14 (.conv .i64 13),
oM 2 14,
oD 3 (.mov cT)])
.ret))))
def Vg_:List RD:=[.tmp 2 true none,.tmp 3 true none]
theorem VD_:zn_ Tryz.prog Tryz.f45 V2_ Vg_=true:=by kernel_rfl
def jy_:List AV->List Obj->Option (Prop × AV)
 | [.imm ty0 l],[]=>Z1_ ty0 Y3 l fun l=>some ((nxOk l,.tup [.int .i64 (if nxI l 0 < 0 then 0 else (l.getD (nxI l 0).toNat (Ty.dflt Y3)).2.1),.bool (decide (¬ nxI l 0 < 0))]))
 | _,_=>none
theorem y9_:ze_ Tryz.prog 45 (RoF jy_).sum:=by
 refine zj_ Tryz.func45 VD_ (za_ (s:=RoF z2_) qy_ (za_ (s:=RoF Qk_) Km_ (zd_ _))) fun args objs p v e=>?_
 unfold jy_ at e
 split at e
 ·rename_i ty0 l
  obtain rfl:=z6_ e
  replace e:=z7_ e
  cases e
  refine ⟨rfl,fun hw ho hp=>?_⟩
  change List VIn at l
  have hl:l.length<=maxLen:=(hw (.imm Y3 l) (by simp)).2
  unfold maxLen at hl
  clear hw ho
  have hr:=Bl_ l 0 (by decide)
  repeat'(intro t ht;first|(cases t<;>first|(cases ht;done)|(try simp only[zh_]at ht;try(exfalso;first|contradiction|omega)))|((first|refine zb_ ht ?_|refine ht ?_ ?_|refine ht.1 ?_ ?_|refine ht ?_)<;>clear ht))
  all_goals first
   | exact True.intro
   | ((try simp only [zk_,zl_,zi_] at*);omega)
   | (have hm:=hp.a _ (zS_ (show (nxI l 0).toNat < l.length by omega) (Ty.dflt Y3))
      exact (show IntKind.i64.min<=(l.getD (nxI l 0).toNat (Ty.dflt Y3)).2.1/\(l.getD (nxI l 0).toNat (Ty.dflt Y3)).2.1<=IntKind.i64.max by simp only [zi_];omega))
   | (rw [if_neg ht,decide_eq_true ht];exact ⟨rfl,rfl⟩)
   | (rw [if_pos ht,decide_eq_false (not_not_intro ht)];exact ⟨rfl,rfl⟩)
 ·cases e
theorem uI_ {l:List VIn} (h:J0_ l=true):okI l/\l.length<=20:=by
 unfold J0_ at h
 simp only [Bool.and_eq_true,decide_eq_true_eq] at h
 refine ⟨⟨fun i hi=>?_,by omega⟩,h.2⟩
 have:=List.all_eq_true.1 h.1 i hi
 unfold bB_ at this
 simp only [Bool.and_eq_true,decide_eq_true_eq] at this
 exact ⟨(zdr_ this.1).1,by omega⟩
theorem s15r:rgI [((1:Int),(7:Int),(0:Int),([]:List AC),([]:List Int),())]=true/\boI [((1:Int),(7:Int),(0:Int),([]:List AC),([]:List Int),())]=[0,1,0,8,7,0,0,0]:=by decide+kernel
theorem s15w:∀ i ∈ [((1:Int),(7:Int),(0:Int),([]:List AC),([]:List Int),())],wfI i:=fun i hi=>by
 rcases List.mem_singleton.1 hi with rfl
 exact ⟨by decide,by decide,fun a ha=>by cases ha⟩
theorem s15a:idL [0,1,0,8,7,0,0,0]=[(1,7,0,[],[],())]/\idE [0,1,0,8,7,0,0,0]=0:=by
 have h:=zeI_ s15r.1 s15w
 rw [s15r.2] at h;exact h
theorem s15b:idE [0,1,0,8,7,0,0,0,0,1,0,8,7,0,0,0]=778:=by
 have hb:(bdO ((1:Int),(7:Int),(0:Int),([]:List AC),([]:List Int),()))=some [7,0,0,0]:=by decide+kernel
 have hE:enI ((1:Int),(7:Int),(0:Int),([]:List AC),([]:List Int),())=[0,1,0,8,7,0,0,0]:=by decide+kernel
 obtain ⟨e1,e2,e3⟩:=zbV_ (acc:=[]) (rest:=[0,1,0,8,7,0,0,0]) hb (s15w _ (List.mem_singleton.2 rfl)) (by decide)
 rw [hE] at e1 e2 e3
 have g:=Y9_ (acc:=[]) (y:=[0,1,0,8,7,0,0,0]++[0,1,0,8,7,0,0,0]) (by decide) e1 (by rw [e3];decide)
 rw [e2,e3] at g
 have h2:inE [((1:Int),(7:Int),(0:Int),([]:List AC),([]:List Int),())] [0,1,0,8,7,0,0,0]=778:=by decide+kernel
 have g2:=jd_ (acc:=[((1:Int),(7:Int),(0:Int),([]:List AC),([]:List Int),())]) (y:=[0,1,0,8,7,0,0,0]) (by decide) (by rw [h2];decide)
 rw [h2] at g2
 refine (Wl_ (b:=[0,1,0,8,7,0,0,0,0,1,0,8,7,0,0,0]) (e:=778) ?_ (by decide)).2
 have g3:inG [] [0,1,0,8,7,0,0,0,0,1,0,8,7,0,0,0]=inG [((1:Int),(7:Int),(0:Int),([]:List AC),([]:List Int),())] [0,1,0,8,7,0,0,0]:=g
 rw [g3,g2]
theorem s15c:ieL [((1:Int),(7:Int),(0:Int),([]:List AC),([]:List Int),())]=[0,1,0,8,7,0,0,0]/\ieE [((1:Int),(7:Int),(0:Int),([]:List AC),([]:List Int),())]=0:=by
 unfold ieL ieE;rw [if_pos s15r.1,if_pos s15r.1];exact ⟨s15r.2,rfl⟩
theorem zev_:okI [((1:Int),(7:Int),(0:Int),([]:List AC),([]:List Int),())]:=(uI_ (by decide)).1
def hF_:IR:=
(sq (kr [] [oD 0 (.mov cF)])
(sq (.reg [oD 10 (.sliceAll (.int .u8) 8 [(0,1,(.c (.int .u8 0))),(1,1,(.c (.int .u8 1))),(2,1,(.c (.int .u8 0))),(3,1,(.c (.int .u8 8))),(4,1,(.c (.int .u8 7))),(5,1,(.c (.int .u8 0))),(6,1,(.c (.int .u8 0))),(7,1,(.c (.int .u8 0)))]),
oM 1 10])
(sq (kr [1] [oM 12 1,
oC 13 17 [12],
oM 11 13,
oX 14 11 0,
oX 15 11 1,
oM 2 14,
oM 3 15])
(sq (kr [1,2,3] [oD 17 (.slice0 (.int .u8)),
oM 18 1,
oD 19 (.append (.int .u8) 1 17 18),
oM 20 1,
oD 21 (.append (.int .u8) 1 19 20),
oC 22 17 [21],
oM 16 22,
oX 23 16 0,
oX 24 16 1,
oM 4 23,
oM 5 24])
(sq (kr [1,2,3,5] [oM 26 2,
oC 27 16 [26],
oM 25 27,
oX 28 25 0,
oX 29 25 1,
oM 6 28,
oM 7 29])
(sq (kr [1,2,3,5,6,7] [oM 31 2,
oC 32 45 [31],
oM 30 32,
oX 33 30 0,
oX 34 30 1,
oM 8 33,
oM 9 34])
(sq (kr [1,2,3,5,6,7,8,9] [oM 35 3,
oB 36 .eql 35 (cI 0),
oM 37 36,
oT 37 38 (.mov 2),
oT 37 39 (.len 38),
oT 37 40 (.bin .eql 39 (cI 1)),
oP 41 37 40 cF,
oM 42 41,
oT 42 43 (.mov 2),
oT 42 44 (.indexSl 5 43 (cI 0)),
oT 42 45 (.fieldAddr 0 44),
oT 42 46 (.load none 45),
oT 42 47 (.bin .eql 46 (cI 1)),
oP 48 42 47 cF,
oM 49 48,
oT 49 50 (.mov 9),
oP 51 49 50 cF,
oM 52 51,
oT 52 53 (.mov 8),
oT 52 54 (.bin .eql 53 (cI 7)),
oP 55 52 54 cF,
oM 56 55,
oT 56 57 (.mov 5),
oT 56 58 (.bin .eql 57 (cI 778)),
oP 59 56 58 cF,
oM 60 59,
oT 60 61 (.mov 7),
oT 60 62 (.bin .eql 61 (cI 0)),
oP 63 60 62 cF,
oM 64 63,
oT 64 65 (.mov 6),
oT 64 66 (.mov 1),
oT 64 67 (.call false (.f 27) [65,66]),
oP 68 64 67 cF,
oM 69 68,
oP 70 69 cT cF,
oM 0 70])
.ret)))))))
def GK_:List RD:=[.tmp 0 true none]
theorem G6_:zn_ Tryz.prog Tryz.f15 hF_ GK_=true:=by kernel_rfl
def ju_:List AV->List Obj->Option (Prop × AV)
 | [],[]=>some ((True,.bool true))
 | _,_=>none
theorem WR_:ze_ Tryz.prog 15 (RoF ju_).sum:=by
 refine zj_ Tryz.func15 G6_ (za_ (s:=RoF qj_) Qw_ (za_ (s:=RoF qi_) Qv_ (za_ (s:=RoF jy_) y9_ (za_ (s:=RoF q3_) QK_ (zd_ _))))) fun args objs p v e=>?_
 unfold ju_ at e
 split at e
 ·cases e
  refine ⟨rfl,fun hw ho hp=>?_⟩
  clear hw ho
  obtain ⟨a1,a2⟩:=s15a
  have a3:=s15b
  obtain ⟨a4,a5⟩:=s15c
  have a6:=zev_
  have a7:nxOk [((1:Int),(7:Int),(0:Int),([]:List AC),([]:List Int),())]:=⟨fun i hi=>by rcases List.mem_singleton.1 hi with rfl;decide⟩
  repeat'(intro t ht;first|(cases t<;>first|(cases ht;done)|(try simp only[zh_]at ht;try(exfalso;first|contradiction|omega)))|((first|refine zb_ ht ?_|refine ht ?_ ?_|refine ht.1 ?_ ?_|refine ht ?_)<;>clear ht))
  all_goals first
   | exact True.intro
   | (show okI (idL [0,1,0,8,7,0,0,0]);rw [a1];exact a6)
   | (show nxOk (idL [0,1,0,8,7,0,0,0]);rw [a1];exact a7)
   | exact ⟨rfl,rfl⟩
   | exact absurd a3 ht
   | (rw [a1] at ht;first | exact absurd a5 ht | exact absurd a4 ht | exact absurd rfl ht | (exact absurd (by decide) ht))
   | (rw [a1];constructor<;>decide)
   | (rw [a1];decide)
   | (constructor<;>decide)
   | decide
 ·cases e
def xV_:IR:=
(sq (kr [0,1] [oD 4 (.mov cF)])
(sq (sq (kr [0,1] [oM 14 0,
oC 15 13 [14],
oD 16 (.un .not 15),
oM 17 16,
oF 17 18 (.mov 0),
oF 17 19 (.len 18),
oF 17 20 (.bin .eql 19 (cI 0)),
oP 21 17 cT 20,
oM 22 21,
oF 22 23 (.mov 0),
oF 22 24 (.call false (.f 14) [23]),
oF 22 25 (.un .not 24),
oP 26 22 cT 25])
(.cond 26
(sq (kr [] [oC 27 15 [],
oM 4 27])
.ret)
.skip))
(sq (kr [0,1] [oM 28 1,
oD 29 (.conv .i64 28),
oM 30 0,
oE 31 30,
oB 32 .rem 29 31,
oM 5 32])
(sq (kd [0,5] [(oD 33 (.slice0 Y3),[]),
(oM 34 0,[0]),
(oM 35 5,[0,0]),
(oD 36 (.slice 5 34 none (some 35) none),[2]),
(oD 37 (.append Y3 72 33 36),[]),
(oM 38 0,[0,0,0,0,0]),
(oM 39 5,[0,0,0,0,0,0]),
(oB 40 .add 39 (cI 1),[1,0,0,0,0,0]),
(oD 41 (.slice 5 38 (some 40) none none),[3,0,0,0,0]),
(oD 42 (.append Y3 72 37 41),[]),
(oM 6 42,[])])
(sq (kr [0,5,6] [oM 44 0,
oC 45 16 [44],
oM 43 45,
oX 46 43 0,
oX 47 43 1,
oM 7 46,
oM 8 47])
(sq (kr [0,5,6,7,8] [oM 49 6,
oC 50 16 [49],
oM 48 50,
oX 51 48 0,
oX 52 48 1,
oM 9 51,
oM 10 52])
(sq (kr [0,5,7,8,9,10] [oM 54 0,
oM 55 5,
oM 56 5,
oB 57 .add 56 (cI 1),
oD 58 (.slice 5 54 (some 55) (some 57) none),
oC 59 16 [58],
oM 53 59,
oX 60 53 0,
oX 61 53 1,
oM 11 60,
oM 12 61])
(sq (kd [0,5,7,8,9,10,11,12] [(oD 62 (.slice0 Y3),[]),
(oM 63 0,[0]),
(oD 64 (.append Y3 72 62 63),[]),
(oM 65 0,[0,0,0]),
(oM 66 5,[0,0,0,0]),
(oI 67 5 65 66,[2,0,0]),
(oK 68 5 67,[3,0,0]),
(oD 69 (.sliceAll Y3 1 [(0,5,68)]),[4,0,0]),
(oD 70 (.append Y3 72 64 69),[]),
(oM 13 70,[])])
(sq (kd [0,5,7,8,9,10,11,12,13] [(oM 71 8,[]),
(oB 72 .eql 71 (cI 0),[]),
(oM 73 72,[]),
(oT 73 74 (.mov 10),[]),
(oT 73 75 (.bin .eql 74 (cI 0)),[]),
(oP 76 73 75 cF,[]),
(oM 77 76,[]),
(oT 77 78 (.mov 12),[]),
(oT 77 79 (.bin .eql 78 (cI 0)),[]),
(oP 80 77 79 cF,[]),
(oM 81 80,[]),
(oT 81 82 (.mov 7),[]),
(oT 81 83 (.len 82),[]),
(oT 81 84 (.mov 9),[0,0]),
(oT 81 85 (.len 84),[1,0]),
(oT 81 86 (.mov 11),[0,0,0,0]),
(oT 81 87 (.len 86),[1,0,0,0]),
(oT 81 88 (.bin .add 85 87),[4,0]),
(oT 81 89 (.bin .eql 83 88),[]),
(oP 90 81 89 cF,[]),
(oM 91 90,[]),
(oT 91 92 (.mov 13),[]),
(oT 91 93 (.call false (.f 14) [92]),[]),
(oT 91 94 (.mov 0),[0,0]),
(oT 91 95 (.mov 5),[0,0,0]),
(oT 91 96 (.indexSl 5 94 95),[2,0]),
(oT 91 97 (.fieldAddr 0 96),[3,0]),
(oT 91 98 (.load none 97),[4,0]),
(oT 91 99 (.bin .eql 98 (cI 65535)),[5,0]),
(oT 91 100 (.eqb false 93 99),[]),
(oT 91 101 (.mov 100),[]),
(oF 101 102 (.mov 7),[]),
(oF 101 103 (.len 102),[]),
(oF 101 104 (.mov 11),[0,0]),
(oF 101 105 (.len 104),[1,0]),
(oF 101 106 (.bin .add 103 105),[]),
(oF 101 107 (.bin .gtr 106 (cI 65528)),[]),
(oT 91 108 (.pick 101 cT 107),[]),
(oP 109 91 108 cF,[]),
(oM 110 109,[]),
(oT 110 111 (.call false (.f 15) []),[]),
(oP 112 110 111 cF,[]),
(oM 4 112,[])])
.ret)))))))))
def xF_:List RD:=[.tmp 4 true none]
theorem xN_:zn_ Tryz.prog Tryz.f3 xV_ xF_=true:=by kernel_rfl
def Q8_:List AV->List Obj->Option (Prop × AV)
 | [.imm ty0 l,.int .u8 k],[]=>Z1_ ty0 Y3 l fun l=>some ((True,.bool true))
 | _,_=>none
theorem WS_:ze_ Tryz.prog 3 (RoF Q8_).sum:=by
 refine zj_ Tryz.func3 xN_ (za_ (s:=RoF Xk_) Gg_ (za_ (s:=RoF Kf_) X5_ (za_ (s:=RoF ju_) WR_ (za_ (s:=RoF qi_) Qv_ (zd_ _))))) fun args objs p v e=>?_
 unfold Q8_ at e
 split at e
 ·rename_i ty0 l k
  obtain rfl:=z6_ e
  replace e:=z7_ e
  cases e
  refine ⟨rfl,fun hw ho hp=>?_⟩
  change List VIn at l
  have hk:0<=k:=((hw (.int .u8 k) (by simp)):0<=k/\k<=255).1
  have hk2:k<=255:=((hw (.int .u8 k) (by simp)):0<=k/\k<=255).2
  clear hw ho
  cases hf:J0_ l with
  | false=>
    repeat'(intro t ht;first|(cases t<;>first|(cases ht;done)|(try simp only[zh_]at ht;try(exfalso;first|contradiction|omega)))|((first|refine zb_ ht ?_|refine ht ?_ ?_|refine ht.1 ?_ ?_|refine ht ?_)<;>clear ht))
    all_goals first
     | exact True.intro
     | exact ⟨rfl,rfl⟩
     | (exfalso;simp_all;done)
  | true=>
    obtain ⟨hok,hn⟩:=uI_ hf
    have hf':¬ J0_ l=false:=fun z=>by rw [hf] at z;cases z
    by_cases hr:rgI l=true/\¬ (l.length:Int)=0
    ·obtain ⟨hr,h0⟩:=hr
     have hr':¬ rgI l=false:=fun z=>by rw [hr] at z;cases z
     have hm1:=Int.tmod_nonneg (l.length:Int) hk
     have hm2:=Int.tmod_lt_of_pos k (show (0:Int) < l.length by omega)
     obtain ⟨j,hj⟩:∃ j:Nat,k.tmod (l.length:Int)=j:=⟨(k.tmod (l.length:Int)).toNat,by omega⟩
     have hj':j < l.length:=by omega
     have hjt:((j:Int)).toNat=j:=Int.toNat_natCast j
     have hjt1:((j:Int)+1).toNat=j+1:=by omega
     obtain ⟨x,hx⟩:∃ x:VIn,x=l.getD j (Ty.dflt Y3):=⟨_,rfl⟩
     have hsplit:l=l.take j++x :: l.drop (j+1):=by rw [hx,<- zz_ hj' (Ty.dflt Y3),List.take_append_drop]
     have hsl:(l.take (j+1)).drop j=[x]:=by
      rw [<- Kl_ (d:=(Ty.dflt Y3)) hj',List.drop_left' (by rw [List.length_take];omega),hx]
     have hrs:=hr
     rw [hsplit] at hrs
     obtain ⟨L1,L2,L3,L4⟩:=zbM_ hrs
     rw [<- hsplit] at L3 L4
     have o1:okI (l.take j++l.drop (j+1)):=⟨fun i hi=>hok.a i ((List.mem_append.1 hi).elim List.mem_of_mem_take List.mem_of_mem_drop),by rw [List.length_append,List.length_take,List.length_drop];omega⟩
     have hxm:x ∈ l:=by rw [hx];exact zS_ hj' _
     have o2:okI [x]:=⟨fun i hi=>by rcases List.mem_singleton.1 hi with rfl;exact hok.a _ hxm,by simp⟩
     have o3:okI (l++[x]):=⟨fun i hi=>by
      rcases List.mem_append.1 hi with h | h
      ·exact hok.a i h
      ·rcases List.mem_singleton.1 h with rfl;exact hok.a _ hxm,by rw [List.length_append,List.length_singleton];omega⟩
     have e1:ieE l=0/\ieL l=boI l:=⟨if_pos hr,if_pos hr⟩
     have e2:ieE (l.take j++l.drop (j+1))=0/\ieL (l.take j++l.drop (j+1))=boI (l.take j++l.drop (j+1)):=⟨if_pos L1,if_pos L1⟩
     have e3:ieE [x]=0/\ieL [x]=boI [x]:=⟨if_pos L2,if_pos L2⟩
     have l1:=gI_ l
     have l2:=gI_ (l.take j++l.drop (j+1))
     have l3:=gI_ [x]
     clear hsplit hrs
     repeat'(intro t ht;first|(cases t<;>first|(cases ht;done)|(try simp only[zh_]at ht;try(exfalso;first|contradiction|omega)))|((first|refine zb_ ht ?_|refine ht ?_ ?_|refine ht.1 ?_ ?_|refine ht ?_)<;>clear ht))
     all_goals (try simp only [hj,hjt,hjt1,List.nil_append,hsl] at*)
     all_goals first
      | exact True.intro
      | exact hok
      | exact o1
      | exact o2
      | (simp only [List.length_append,List.length_take,List.length_drop,List.length_cons,List.length_nil];constructor<;>omega)
      | (simp only [zi_];omega)
      | (constructor<;>omega)
      | omega
      | exact ⟨rfl,rfl⟩
      | exact (show okI (l++[l.getD j (Ty.dflt Y3)]) from hx ▸ o3)
      | (exfalso
         have z:¬ ((ieL l).length:Int)=(ieL (l.take j++l.drop (j+1))).length+(ieL [x]).length:=ht
         rw [e1.2,e2.2,e3.2] at z;omega)
      | (exfalso
         have z:¬ (65528:Int) < (ieL l).length+(ieL [x]).length:=ht
         rw [e1.2,e3.2] at z
         rcases L4 with h | h
         ·rw [hx] at h
          have y:(rgI (l++[l.getD j (Ty.dflt Y3)]) == decide ((l.getD j (Ty.dflt Y3)).1=65535))=false:=by assumption
          rw [h] at y;simp at y
         ·omega)
    ·repeat'(intro t ht;first|(cases t<;>first|(cases ht;done)|(try simp only[zh_]at ht;try(exfalso;first|contradiction|omega)))|((first|refine zb_ ht ?_|refine ht ?_ ?_|refine ht.1 ?_ ?_|refine ht ?_)<;>clear ht))
     all_goals first
      | exact True.intro
      | exact hok
      | exact ⟨rfl,rfl⟩
      | (exfalso;exact hr ⟨by assumption,by assumption⟩)
 ·cases e
def wU_:IR:=
(sq (kr [0,1] [oD 4 (.mov cF)])
(sq (sq (kr [0,1] [oM 11 0,
oE 12 11,
oB 13 .gtr 12 (cI 1500),
oM 14 13,
oF 14 15 (.mov 1),
oF 14 16 (.len 15),
oF 14 17 (.bin .gtr 16 (cI 100)),
oP 18 14 cT 17])
(.cond 18
(sq (kr [] [oC 19 15 [],
oM 4 19])
.ret)
.skip))
(sq (kr [0,1] [oM 21 0,
oC 22 17 [21],
oM 20 22,
oX 23 20 0,
oX 24 20 1,
oM 5 23,
oM 6 24])
(sq (kr [0,1,5,6] [oM 26 0,
oC 27 18 [26],
oM 25 27,
oX 28 25 0,
oX 29 25 1,
oM 7 28,
oM 8 29])
(sq (sq (kr [0,1,5,6,7,8] [oM 30 5,
oM 31 7,
oC 32 19 [30,31],
oD 33 (.un .not 32),
oM 34 33,
oF 34 35 (.mov 6),
oF 34 36 (.mov 8),
oF 34 37 (.bin .neq 35 36),
oP 38 34 cT 37])
(.cond 38
(sq (kr [] [oD 4 (.mov cF)])
.ret)
.skip))
(sq (kr [0,1,7,8] [oD 39 (.slice0 (.int .u8)),
oM 40 1,
oD 41 (.append (.int .u8) 1 39 40),
oM 42 0,
oD 43 (.append (.int .u8) 1 41 42),
oC 44 20 [43,(cI 263),(cI 269)],
oM 9 44])
(sq (kr [1,7,8,9] [oM 45 9,
oM 46 1,
oE 47 46,
oC 48 21 [45,47]])
(sq (.reg [oM 49 9,
oC 50 22 [49],
oM 10 50])
(sq (kr [7,8,9,10] [oM 51 10,
oM 52 7,
oC 53 19 [51,52],
oM 54 53,
oT 54 55 (.mov 9),
oT 54 56 (.call false (.f 23) [55]),
oT 54 57 (.mov 8),
oT 54 58 (.bin .eql 56 57),
oP 59 54 58 cF,
oM 60 59,
oT 60 61 (.mov 8),
oT 60 62 (.bin .neq 61 (cI 0)),
oT 60 63 (.mov 62),
oF 63 64 (.mov 9),
oF 63 65 (.call false (.f 24) [64]),
oF 63 66 (.bin .eql 65 (cI 0)),
oT 60 67 (.pick 63 cT 66),
oP 68 60 67 cF,
oM 69 68,
oT 69 70 (.call false (.f 15) []),
oP 71 69 70 cF,
oM 4 71])
.ret)))))))))
def wP_:List RD:=[.tmp 4 true none]
theorem wR_:zn_ Tryz.prog Tryz.f4 wU_ wP_=true:=by kernel_rfl
def qZ_:List AV->List Obj->Option (Prop × AV)
 | [.imm (.int .u8) b,.imm (.int .u8) x],[]=>some ((True,.bool true))
 | _,_=>none
theorem Jr_:ze_ Tryz.prog 4 (RoF qZ_).sum:=by
 refine zj_ Tryz.func4 wR_ (za_ (s:=RoF ju_) WR_ (za_ (s:=RoF qj_) Qw_ (za_ (s:=RoF jk_) yY_ (za_ (s:=RoF Wv_) Ua_ (za_ (s:=RwF ZV_) qc_ (za_ (s:=RwF zL_) z3_ (za_ (s:=RwF jx_) y8_ (za_ (s:=RoF zr_) zt_ (za_ (s:=RoF zP_) Ze_ (zd_ _)))))))))) fun args objs p v e=>?_
 unfold qZ_ at e
 split at e
 ·rename_i b x
  cases e
  refine ⟨rfl,fun hw ho hp=>?_⟩
  change List Int at b
  change List Int at x
  clear hw ho
  by_cases hc:b.length<=1500/\x.length<=100
  ·obtain ⟨c1,c2⟩:=hc
   obtain ⟨k1,k2,k3⟩:=KK_ (n:=x.length) (p:=0) (sh:=263) (b:=x++b) (by omega) (by rw [List.length_append];omega)
   have hd:(x++b).drop (0+(x.length:Int)).toNat=b:=by rw [show (0+(x.length:Int)).toNat=x.length by omega];exact List.drop_left
   have q1:itL5 (x++b) (0+(x.length:Int)) 0=idL b:=by unfold itL5;rw [if_pos rfl,hd]
   have q3:itE5 (x++b) (0+(x.length:Int)) 0=idE b:=by unfold itE5;rw [if_pos rfl,hd]
   repeat'(intro t ht;first|(cases t<;>first|(cases ht;done)|(try simp only[zh_]at ht))|((first|refine zb_ ht ?_|refine ht ?_ ?_|refine ht.1 ?_ ?_|refine ht ?_)<;>clear ht))
   all_goals (try simp only [zN_,List.nil_append,k1,k2,k3,q1,q3,if_true] at*)
   all_goals first
    | exact True.intro
    | contradiction
    | omega
    | exact ⟨rfl,by first | rfl | exact True.intro⟩
    | exact ⟨True.intro,True.intro⟩
    | (constructor<;>(try simp only [List.length_nil])<;>omega)
    | (rw [List.length_append];omega)
    | (simp only [zN_,List.length_append,List.length_nil,Nat.zero_add] at*;constructor<;>omega)
    | (simp only [zN_,List.length_append,List.length_nil,Nat.zero_add] at*;refine ⟨?_,?_,?_,?_⟩<;>omega)
    | (exfalso;omega)
    | (exfalso;simp_all;done)
    | ((try simp only [zk_,zl_,zi_] at*);omega)
  ·repeat'(intro t ht;first|(cases t<;>first|(cases ht;done)|(try simp only[zh_]at ht;try(exfalso;first|contradiction|omega)))|((first|refine zb_ ht ?_|refine ht ?_ ?_|refine ht.1 ?_ ?_|refine ht ?_)<;>clear ht))
   all_goals first
    | exact True.intro
    | exact ⟨rfl,rfl⟩
    | (exfalso;omega)
    | (exfalso;simp_all;done)
 ·cases e
end Go.Eng
