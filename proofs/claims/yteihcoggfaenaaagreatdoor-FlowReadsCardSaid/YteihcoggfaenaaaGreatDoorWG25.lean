/- Parts of the proof: I9, Y7, YE. No condition. -/
import Derived.Test.YteihcoggfaenaaaGreatDoorProg
import Derived.Test.YteihcoggfaenaaaGreatDoorWG10
import Derived.KernelRfl
import Derived.Test.YteihcoggfaenaaaGreatDoorWG24
import Derived.Test.YteihcoggfaenaaaGreatDoorWG21
namespace Go.Eng
open Go.Proofs
set_option linter.unusedVariables false
set_option linter.unusedSimpArgs false
set_option maxRecDepth 100000
set_option maxHeartbeats 1000000
theorem zlB_ {t:Int} {x:List Int} (h:zQ_ (wI t) x=0) (hb:∀ z ∈ x,0<=z/\z<=255) (hk:kI t=true):((zG_ (wI t) x).length:Int)=zH_ (wI t)/\sI t<=x.length/\o5A t x=(if 0 < (zG_ (wI t) x).length then (zG_ (wI t) x).getD 0 0 else 0)/\o5B t x=(if 1 < (zG_ (wI t) x).length then (zG_ (wI t) x).getD 1 0 else 0):=by
 obtain ⟨_,_,p3⟩:=JC_ hb (show Zy_ (wI t) x=(zG_ (wI t) x,0) from Prod.ext rfl h)
 have hc:=zlo_ hb h
 have hw:=(zay_ hk).2
 unfold nuI at hw
 refine ⟨hc,p3,?_,?_⟩
 ·unfold o5A o5N QR_
  rw [if_pos rfl,show (0:Int).toNat=0 from rfl,List.drop_zero]
  rcases hg:zG_ (wI t) x with _ | ⟨a,r⟩
  ·rfl
  ·rfl
 ·unfold o5B o5N QR_
  rw [if_pos rfl,show (0:Int).toNat=0 from rfl,List.drop_zero]
  rcases hg:zG_ (wI t) x with _ | ⟨a,_ | ⟨b,r⟩⟩
  ·rfl
  ·rfl
  ·rfl
theorem zk0_ {acc:List VIn} {t:Int} (h:dbI acc t=true):snI acc t=true/\¬ t=65535:=by
 unfold dbI at h;simpa using h
theorem zk1_ {acc:List VIn} {t:Int} (h:dbI acc t=false):¬ (snI acc t=true/\¬ t=65535):=by
 rintro ⟨a,b⟩
 unfold dbI at h;rw [a,decide_eq_true b] at h;cases h
theorem Uq_ {acc:List VIn} {y b:List Int} {e:Int} (hl:¬ y.length=0) (hT:tlE y 8 8 776=0) (he:o5E (snI acc (tT y)) (tT y) (bd y)=e) (h0:¬ e=0) (je:inG [] b=inG acc y):idL b=[]/\idE b=e:=by
 have hi:=(zeO_ (acc:=acc) hT).trans he
 have hg:=jK_ (acc:=acc) hl (by rw [hi];exact h0)
 rw [hi,<- je] at hg
 exact xT_ (by rw [hg]) h0
theorem zkN_ {acc:List VIn} {y b:List Int} {v:VIn} (hl:¬ y.length=0) (hT:tlE y 8 8 776=0) (he:o5E (snI acc (tT y)) (tT y) (bd y)=0) (hv:o5V (snI acc (tT y)) (tT y) (bd y)=v) (je:inG [] b=inG acc y):inG [] b=inG (acc++[v]) (y.drop (tN y).toNat)/\8<=tN y/\tN y<=y.length:=by
 have hi:=(zeO_ (acc:=acc) hT).trans he
 obtain ⟨n1,n2,n3⟩:=gm_ hi
 have hg:=gn_ (acc:=acc) hl hi (by omega)
 have hv':vI acc y=v:=hv
 rw [hv'] at hg
 exact ⟨je.trans hg,n1,n2⟩
theorem zmH_ {t:Int} {x:List Int} (h:zQ_ (wI t) x=0) (h2:¬ zD_ (wI t) < x.length\/t=3\/t=4\/t=65535):o5K t x=true:=by
 unfold o5K mI sI
 rw [decide_eq_true h,Bool.true_and]
 simp only [Bool.or_eq_true,decide_eq_true_eq]
 rcases h2 with h2 | h2 | h2 | h2
 ·right;omega
 ·left;left;left;exact h2
 ·left;left;right;exact h2
 ·left;right;exact h2
theorem zlz_ {s:Bool} {t:Int} {x:List Int} (h:t=65535) (ho:o5K t x=true):o5E s t x=0/\o5V s t x=(t,o5A t x,o5B t x,[],o5R t x,()):=by subst h;exact zkQ_ ho
theorem zmI_ {t:Int} {x:List Int} (h2:zD_ (wI t) < x.length) (h3:¬ t=3) (h4:¬ t=4) (h5:¬ t=65535):o5K t x=false:=by
 unfold o5K mI sI
 rw [decide_eq_false h3,decide_eq_false h4,decide_eq_false h5,decide_eq_false (show ¬ (x.length:Int)<=zD_ (wI t) by omega)]
 simp
def ht_:IR:=
(sq (kr [0] [oD 2 (.nilrow Y3),
oD 3 (.mov (cI 0))])
(sq (.reg [oM 18 0,
oE 19 18,
oM 4 19])
(sq (.reg [oD 5 (.nilrow Y3)])
(sq (.block 0
(.loop
(sq (sq (kr [0,4,5] [oM 20 0,
oE 21 20,
oB 22 .gtr 21 (cI 0)])
(.cond 22
.skip
(.exit 0)))
(.block 1
(sq (kr [0,4,5] [oD 24 (.build [.int .i64 0,.int .i64 0,.kb false,.int .i64 0,.int .i64 0] [(0,1,(cI 8)),(1,1,(cI 8)),(3,1,(cI 776)),(4,1,(cI 776))]),
oM 25 0,
oC 26 105 [24,25],
oM 23 26,
oX 27 23 0,
oX 28 23 1,
oX 29 23 2,
oD 6 (.box [.int .i64 0,.imm (.int .u8) []]),
oS 2 6 27,
oM 7 28,
oM 8 29])
(sq (sq (kr [0,4,5,6,7,8] [oM 30 8,
oB 31 .neq 30 (cI 0)])
(.cond 31
(sq (.reg [oM 32 8,
oD 2 (.nilrow Y3),
oM 3 32])
.ret)
.skip))
(sq (kr [0,4,5,6,7] [oA 34 0 6,
oL 35 34,
oC 36 106 [35],
oM 33 36,
oX 37 33 0,
oX 38 33 1,
oM 9 37,
oM 10 38])
(sq (sq (kr [0,4,5,6,7,9,10] [oM 39 10,
oD 40 (.un .not 39)])
(.cond 40
(sq (.reg [oD 2 (.nilrow Y3),
oD 3 (.mov (cI 769))])
.ret)
.skip))
(sq (sq (.reg [oM 41 5,
oA 42 0 6,
oL 43 42,
oC 44 92 [41,43]])
(.cond 44
(sq (kr [] [oD 2 (.nilrow Y3),
oD 3 (.mov (cI 778))])
.ret)
.skip))
(sq (kr [0,4,5,6,7,9] [oM 45 9,
oC 46 49 [45],
oM 11 46])
(sq (kr [0,4,5,6,7,9,11] [oM 48 9,
oA 49 1 6,
oL 50 49,
oC 51 48 [48,50],
oM 47 51,
oX 52 47 0,
oX 53 47 1,
oM 12 52,
oM 13 53])
(sq (sq (kr [0,4,5,6,7,11,12,13] [oM 54 13,
oB 55 .neq 54 (cI 0),
oM 56 55,
oF 56 57 (.fieldAddr 1 6),
oF 56 58 (.load none 57),
oF 56 59 (.len 58),
oF 56 60 (.mov 11),
oF 56 61 (.bin .gtr 59 60),
oF 56 62 (.mov 61),
oT 62 63 (.fieldAddr 0 6),
oT 62 64 (.load none 63),
oT 62 65 (.bin .neq 64 (cI 3)),
oF 56 66 (.pick 62 65 cF),
oF 56 67 (.mov 66),
oT 67 68 (.fieldAddr 0 6),
oT 67 69 (.load none 68),
oT 67 70 (.bin .neq 69 (cI 4)),
oF 56 71 (.pick 67 70 cF),
oF 56 72 (.mov 71),
oT 72 73 (.fieldAddr 0 6),
oT 72 74 (.load none 73),
oT 72 75 (.bin .neq 74 (cI 65535)),
oF 56 76 (.pick 72 75 cF),
oP 77 56 cT 76])
(.cond 77
(sq (kr [] [oD 2 (.nilrow Y3),
oD 3 (.mov (cI 776))])
.ret)
.skip))
(sq (kr [0,4,5,6,7,11,12] [oA 78 0 6,
oL 79 78,
oD 80 (.build [.int .i64 0,.int .u64 0,.int .u64 0,.imm Y2 [],.imm (.int .u8) []] [(0,1,79)]),
oD 14 (.box [.int .i64 0,.int .u64 0,.int .u64 0,.imm Y2 [],.imm (.int .u8) []]),
oS 5 14 80])
(sq (sq (.reg [oM 81 12,
oE 82 81,
oB 83 .gtr 82 (cI 0)])
(.cond 83
(kr [0,4,5,6,7,11,12,14] [oM 84 12,
oD 85 (.indexSl 1 84 (cI 0)),
oL 86 85,
oA 87 1 14,
oS 1 87 86])
.skip))
(sq (sq (kr [0,4,5,6,7,11,12,14] [oM 88 12,
oE 89 88,
oB 90 .gtr 89 (cI 1)])
(.cond 90
(.reg [oM 91 12,
oD 92 (.indexSl 1 91 (cI 1)),
oL 93 92,
oA 94 2 14,
oS 1 94 93])
.skip))
(sq (sq (kr [0,4,5,6,7,11,14] [oK 95 5 14,
oC 96 107 [95],
oM 15 96])
(sq (.reg [oM 97 15,
oB 98 .neq 97 (cI 0)])
(.cond 98
(sq (.reg [oM 99 15,
oD 2 (.nilrow Y3),
oM 3 99])
.ret)
.skip)))
(sq (sq (kr [0,4,5,6,7,11,14] [oA 100 0 6,
oL 101 100,
oB 102 .eql 101 (cI 65535)])
(.cond 102
(kr [0,4,5,6,7,11,14] [oA 103 1 6,
oL 104 103,
oM 105 11,
oD 106 (.slice 1 104 (some 105) none none),
oA 107 4 14,
oS 1 107 106])
(sq (kr [0,4,5,6,7,11,14] [oA 109 1 6,
oL 110 109,
oM 111 11,
oD 112 (.slice 1 110 (some 111) none none),
oC 113 108 [112],
oM 108 113,
oX 114 108 0,
oX 115 108 1,
oM 16 114,
oM 17 115])
(sq (sq (kr [0,4,5,7,14,16,17] [oM 116 17,
oB 117 .neq 116 (cI 0)])
(.cond 117
(sq (.reg [oM 118 17,
oD 2 (.nilrow Y3),
oM 3 118])
.ret)
.skip))
(.reg [oM 119 16,
oA 120 3 14,
oS 1 120 119])))))
(sq (kr [0,4,5,7,14] [oM 121 5,
oK 122 5 14,
oD 123 (.sliceAll Y3 1 [(0,5,122)]),
oD 124 (.append Y3 72 121 123),
oM 5 124])
(.reg [oM 125 0,
oM 126 7,
oD 127 (.slice 1 125 (some 126) none none),
oM 0 127])))))))))))))))))))
(sq (sq (kr [4,5] [oM 128 4,
oB 129 .gtr 128 (cI 65528)])
(.cond 129
(sq (.reg [oD 2 (.nilrow Y3),
oD 3 (.mov (cI 776))])
.ret)
.skip))
(sq (.reg [oM 130 5,
oM 2 130,
oD 3 (.mov (cI 0))])
.ret))))))
def Go_:List RD:=[.tmp 2 true (some Y3),.tmp 3 true none]
theorem GU_:zm_ Tryz.prog Tryz.f51 ht_ Go_=true:=by kernel_rfl
def wT_:List AV->List Obj->Option (Prop × AV)
 | [.imm (.int .u8) b],[]=>some ((b.length<=100000,.tup [.imm Y3 (idL b),.int .i64 (idE b)]))
 | _,_=>none
theorem uS_:zd_ Tryz.prog 51 (RoF wT_).sum:=by
 refine zi_ Tryz.func51 GU_ (za_ (s:=RoF XK_) Vb_ (za_ (s:=RoF vT_) zaF_ (za_ (s:=RoF Xc_) g7_ (za_ (s:=RoF jl_) JY_ (za_ (s:=RoF JN_) W8_ (za_ (s:=RoF Xd_) g8_ (za_ (s:=RoF wU_) uT_ (zc_ _)))))))) fun args objs p v e=>?_
 unfold wT_ at e
 split at e
 ·rename_i b
  cases e
  refine ⟨rfl,fun hw ho hp=>?_⟩
  change List Int at b
  have hb:∀ z ∈ (b:List Int),(0:Int)<=z/\z<=255:=fun z hz=>(hw (.imm (.int .u8) b) (by simp)).1 z hz
  clear hw ho
  repeat'(intro t ht;first|(cases t<;>first|(cases ht;done)|(try simp only[zg_]at ht;try(exfalso;first|contradiction|omega)))|((first|refine zb_ ht ?_|refine ht ?_ ?_|refine ht.1 ?_ ?_|refine ht ?_)<;>clear ht))
  all_goals first
   | exact True.intro
   | (intro r h1 h2;clear h1;refine h2 ⟨[0,4,5],List VIn × List Int,(fun a=>a.1.length+a.2.length<=b.length/\(∀ z ∈ a.2,(0:Int)<=z/\z<=255)/\inG [] b=inG a.1 a.2),fun a=>[.imm (.int .u8) a.2,.int .i64 b.length,.own 0],fun a=>[.row false Y3 a.1],fun a=>a.2.length,⟨([],b),⟨by simp,hb,rfl⟩,rfl,rfl⟩,?_⟩;clear h2)
  clear hb
  rintro ⟨acc,y⟩ ⟨jl,jb,je⟩
  dsimp only at jl jb je
  by_cases hy:y.length=0
  ·repeat'(intro t ht;first|(cases t<;>first|(cases ht;done)|(try simp only[zg_]at ht;try(exfalso;first|contradiction|omega)))|((first|refine zb_ ht ?_|refine ht ?_ ?_|refine ht.1 ?_ ?_|refine ht ?_)<;>clear ht))
   all_goals first
    | exact True.intro
    | (rw [Yw_ hy] at je
       first
        | (obtain ⟨d1,d2⟩:=(vy_ je).2 (by omega)
           rw [d1,d2];exact ⟨rfl,rfl⟩)
        | (obtain ⟨d1,d2⟩:=(vy_ je).1 (by omega)
           rw [d1,d2];exact ⟨rfl,rfl⟩)
        | fail)
    | (exfalso;omega)
  by_cases hT:tlE y 8 8 776=0
  ·obtain ⟨t1,t2,t3⟩:=yT_ hT
   have hbb:∀ z ∈ bd y,0<=z/\z<=255:=fun z hz=>jb z (List.mem_of_mem_take (List.mem_of_mem_drop hz))
   have hbl:=gN_ jb
   have hsz:=Jq_ (wI (tT y))
   repeat'(intro t ht;first|(cases t<;>first|(cases ht;done)|(try simp only[zg_]at ht;try(exfalso;first|contradiction|omega)))|((first|refine zb_ ht ?_|refine ht ?_ ?_|refine ht.1 ?_ ?_|refine ht ?_)<;>clear ht))
   all_goals (try simp only [t1,t2,t3] at*)
   all_goals first
    | exact True.intro
    | ((try simp only [zk_,zl_,zj_] at*);omega)
    | exact ⟨True.intro,by decide,by omega⟩
    | (have hk:kI (tT y)=false:=ht
       obtain ⟨d1,d2⟩:=Uq_ hy hT (zhP_ hk).1 (by decide) je
       rw [d1,d2];exact ⟨rfl,True.intro⟩)
    | (have hk:kI (tT y)=true:=by assumption
       have hd:dbI acc (tT y)=true:=ht
       obtain ⟨d1,d2⟩:=Uq_ hy hT (zhO_ hk (zk0_ hd).1 (zk0_ hd).2).1 (by decide) je
       rw [d1,d2];exact ⟨rfl,True.intro⟩)
    | (have hk:kI (tT y)=true:=by assumption
       have hd:=zk1_ (show dbI acc (tT y)=false by assumption)
       have ho:o5K (tT y) (bd y)=false:=by
        first
         | exact (zhQ_ (show ¬ zQ_ (wI (tT y)) (bd y)=0 from ht)).1
         | exact zmI_ (by assumption) (by assumption) (by assumption) (by assumption)
       obtain ⟨d1,d2⟩:=Uq_ hy hT (bR_ hk hd ho).1 (by decide) je
       rw [d1,d2];exact ⟨rfl,True.intro⟩)
    | (have hk:kI (tT y)=true:=by assumption
       have hd:=zk1_ (show dbI acc (tT y)=false by assumption)
       have hg:zQ_ (wI (tT y)) (bd y)=0:=by assumption
       obtain ⟨n1,n2,n3,n4⟩:=zlB_ hg hbb hk
       unfold sI at n2
       have ho:o5K (tT y) (bd y)=true:=zmH_ hg (by omega)
       obtain ⟨p1,p2,p3,p4⟩:=uM_ hT (by decide)
       first
        | exact ⟨hsz.1,n2⟩
        | (rw [List.length_drop];omega)
        | (simp only [List.length_cons,List.length_nil];constructor<;>omega)
        | (constructor<;>omega)
        | (first | rw [if_pos (by omega)] at n3 | rw [if_neg (by omega)] at n3
           first | rw [if_pos (by omega)] at n4 | rw [if_neg (by omega)] at n4
           first
            | (have h6:tT y=65535:=ht
               obtain ⟨e1,e2⟩:=zlz_ (s:=snI acc (tT y)) h6 ho
               obtain ⟨g1,g2,g3⟩:=zkN_ hy hT e1 e2 je
               refine ⟨(_,_),⟨?_,fun z hz=>jb z (List.mem_of_mem_drop hz),g1⟩,?_,rfl,?_⟩
               ·dsimp only;rw [List.length_append,List.length_singleton,List.length_drop];omega
               ·dsimp only;rw [List.length_drop];omega
               ·rw [n3,n4];rfl)
            | (have h6:¬ tT y=65535:=by
                first
                 | assumption
                 | (intro c;refine ht ?_;rw [c];exact qI_x)
               obtain ⟨e1,e2⟩:=zkP_ (s:=snI acc (tT y)) hk hd ho h6
               rw [n3,n4] at e1 e2
               first
                | (have z:=e1.trans (if_neg ht)
                   obtain ⟨d1,d2⟩:=Uq_ hy hT z ht je
                   rw [d1,d2];exact ⟨rfl,True.intro⟩)
                | (rw [if_pos (by assumption)] at e1 e2
                   first
                    | (have z:=Uq_ hy hT e1 ht je
                       obtain ⟨d1,d2⟩:=z
                       rw [d1,d2];exact ⟨rfl,True.intro⟩)
                    | (have z:=zkN_ hy hT (e1.trans ht) e2 je
                       obtain ⟨g1,g2,g3⟩:=z
                       refine ⟨(_,_),⟨?_,fun z hz=>jb z (List.mem_of_mem_drop hz),g1⟩,?_,rfl,?_⟩
                       ·dsimp only;rw [List.length_append,List.length_singleton,List.length_drop];omega
                       ·dsimp only;rw [List.length_drop];omega
                       ·rfl)
                    | fail)
                | fail)
            | fail)
        | fail)
  ·have hi:=uy_ (acc:=acc) hT
   have hg:=jK_ (acc:=acc) (y:=y) hy (by rw [hi];exact hT)
   rw [hi,<- je] at hg
   obtain ⟨d1,d2⟩:=xT_ (b:=b) (e:=tlE y 8 8 776) (by rw [hg]) hT
   repeat'(intro t ht;first|(cases t<;>first|(cases ht;done)|(try simp only[zg_]at ht;try(exfalso;first|contradiction|omega)))|((first|refine zb_ ht ?_|refine ht ?_ ?_|refine ht.1 ?_ ?_|refine ht ?_)<;>clear ht))
   all_goals first
    | exact True.intro
    | exact ⟨rfl,by decide,by dsimp only;omega⟩
    | (rw [d1,d2];exact ⟨rfl,rfl⟩)
    | (exfalso;omega)
 ·cases e
theorem zkI_ {t:Int} {b:List Int} (h:¬ qF t (zG_ (wF t) b)=0):x23 t b=qF t (zG_ (wF t) b):=if_pos h
theorem zkJ_ {t:Int} {b:List Int} (h:qF t (zG_ (wF t) b)=0) (h2:¬ mdE (b.drop 40)=0):x23 t b=mdE (b.drop 40):=by
 unfold x23;rw [if_neg (not_not_intro h),if_pos h2]
theorem zk8_ {b:List Int} (h:qF 14 (zG_ (wF 14) b)=0) (h2:mdE (b.drop 40)=0):x23 14 b=idE (rF b):=by
 unfold x23;rw [if_neg (not_not_intro h),if_neg (not_not_intro h2),if_pos rfl]
theorem zk9_ {b:List Int} (h:qF 11 (zG_ (wF 11) b)=0) (h2:mdE (b.drop 40)=0):x23 11 b=if 0 < (rF b).length then 263 else 0:=by
 unfold x23;rw [if_neg (not_not_intro h),if_neg (not_not_intro h2),if_neg (by decide)]
def zcp_:IR:=
(sq (kr [0,1] [oD 4 (.box [.int .i64 0,.int .u32 0,.imm (.int .u64) [],.imm (.int .u8) [],.imm YB [],.imm Y1 [],.imm Y2 [],.imm Y3 [],.imm Y4 [],.imm Y5 [],.imm Y7 [],.imm Y8 [],.int .i64 0,.int .i64 0,.imm YC []]),
oD 5 (.mov (cI 0))])
(sq (sq (.reg [oM 16 0,
oC 17 12 [16],
oD 18 (.un .not 17)])
(.cond 18
(sq (.reg [oD 19 (.build [.int .i64 0,.int .u32 0,.imm (.int .u64) [],.imm (.int .u8) [],.imm YB [],.imm Y1 [],.imm Y2 [],.imm Y3 [],.imm Y4 [],.imm Y5 [],.imm Y7 [],.imm Y8 [],.int .i64 0,.int .i64 0,.imm YC []] []),
oS 15 4 19,
oD 5 (.mov (cI 10001))])
.ret)
.skip))
(sq (kr [0,1,4] [oM 21 0,
oC 22 36 [21],
oM 23 1,
oC 24 48 [22,23],
oM 20 24,
oX 25 20 0,
oX 26 20 1,
oM 6 25,
oM 7 26])
(sq (sq (kr [0,1,4,6,7] [oM 27 7,
oB 28 .eql 27 (cI 1)])
(.cond 28
(sq (.reg [oD 29 (.build [.int .i64 0,.int .u32 0,.imm (.int .u64) [],.imm (.int .u8) [],.imm YB [],.imm Y1 [],.imm Y2 [],.imm Y3 [],.imm Y4 [],.imm Y5 [],.imm Y7 [],.imm Y8 [],.int .i64 0,.int .i64 0,.imm YC []] []),
oS 15 4 29,
oD 5 (.mov (cI 263))])
.ret)
.skip))
(sq (sq (.reg [oM 30 7,
oB 31 .eql 30 (cI 2)])
(.cond 31
(sq (kr [4] [oD 32 (.build [.int .i64 0,.int .u32 0,.imm (.int .u64) [],.imm (.int .u8) [],.imm YB [],.imm Y1 [],.imm Y2 [],.imm Y3 [],.imm Y4 [],.imm Y5 [],.imm Y7 [],.imm Y8 [],.int .i64 0,.int .i64 0,.imm YC []] []),
oS 15 4 32,
oD 5 (.mov (cI 269))])
.ret)
.skip))
(sq (sq (kr [0,1,4,6] [oM 33 0,
oM 34 6,
oC 35 40 [33,34],
oM 8 35])
(sq (.reg [oM 36 8,
oB 37 .neq 36 (cI 0)])
(.cond 37
(sq (kr [4,8] [oD 38 (.build [.int .i64 0,.int .u32 0,.imm (.int .u64) [],.imm (.int .u8) [],.imm YB [],.imm Y1 [],.imm Y2 [],.imm Y3 [],.imm Y4 [],.imm Y5 [],.imm Y7 [],.imm Y8 [],.int .i64 0,.int .i64 0,.imm YC []] []),
oM 39 8,
oS 15 4 38,
oM 5 39])
.ret)
.skip)))
(sq (kr [0,1,4,6] [oM 40 1,
oM 41 0,
oC 42 36 [41],
oC 43 49 [42],
oD 44 (.slice 1 40 (some 43) none none),
oM 9 44])
(sq (kr [0,1,4,6,9] [oM 46 9,
oC 47 50 [46],
oM 45 47,
oX 48 45 0,
oX 49 45 1,
oX 50 45 2,
oM 10 48,
oM 11 49,
oM 12 50])
(sq (sq (kr [0,1,4,6,9,10,11,12] [oM 51 12,
oB 52 .neq 51 (cI 0)])
(.cond 52
(sq (.reg [oD 53 (.build [.int .i64 0,.int .u32 0,.imm (.int .u64) [],.imm (.int .u8) [],.imm YB [],.imm Y1 [],.imm Y2 [],.imm Y3 [],.imm Y4 [],.imm Y5 [],.imm Y7 [],.imm Y8 [],.int .i64 0,.int .i64 0,.imm YC []] []),
oM 54 12,
oS 15 4 53,
oM 5 54])
.ret)
.skip))
(sq (kr [0,1,4,6,9,10,11] [oM 55 0,
oM 56 6,
oM 57 10,
oD 58 (.build [.int .i64 0,.int .u32 0,.imm (.int .u64) [],.imm (.int .u8) [],.imm YB [],.imm Y1 [],.imm Y2 [],.imm Y3 [],.imm Y4 [],.imm Y5 [],.imm Y7 [],.imm Y8 [],.int .i64 0,.int .i64 0,.imm YC []] [(0,1,55),(2,1,56),(5,1,57)]),
oD 13 (.box [.int .i64 0,.int .u32 0,.imm (.int .u64) [],.imm (.int .u8) [],.imm YB [],.imm Y1 [],.imm Y2 [],.imm Y3 [],.imm Y4 [],.imm Y5 [],.imm Y7 [],.imm Y8 [],.int .i64 0,.int .i64 0,.imm YC []]),
oS 15 13 58])
(sq (sq (.reg [oM 59 0,
oB 60 .eql 59 (cI 14)])
(.cond 60
(sq (kr [1,4,9,11,13] [oM 62 9,
oM 63 11,
oD 64 (.slice 1 62 (some 63) none none),
oC 65 51 [64],
oM 61 65,
oX 66 61 0,
oX 67 61 1,
oM 14 66,
oM 15 67])
(sq (sq (kr [1,4,13,14,15] [oM 68 15,
oB 69 .neq 68 (cI 0)])
(.cond 69
(sq (.reg [oD 70 (.build [.int .i64 0,.int .u32 0,.imm (.int .u64) [],.imm (.int .u8) [],.imm YB [],.imm Y1 [],.imm Y2 [],.imm Y3 [],.imm Y4 [],.imm Y5 [],.imm Y7 [],.imm Y8 [],.int .i64 0,.int .i64 0,.imm YC []] []),
oM 71 15,
oS 15 4 70,
oM 5 71])
.ret)
.skip))
(.reg [oM 72 14,
oA 73 7 13,
oS 1 73 72])))
(sq (kr [1,4,9,11,13] [oM 74 9,
oE 75 74,
oM 76 11,
oB 77 .gtr 75 76])
(.cond 77
(sq (.reg [oD 78 (.build [.int .i64 0,.int .u32 0,.imm (.int .u64) [],.imm (.int .u8) [],.imm YB [],.imm Y1 [],.imm Y2 [],.imm Y3 [],.imm Y4 [],.imm Y5 [],.imm Y7 [],.imm Y8 [],.int .i64 0,.int .i64 0,.imm YC []] []),
oS 15 4 78,
oD 5 (.mov (cI 263))])
.ret)
.skip))))
(sq (sq (kr [1,4,13] [oM 79 1,
oE 80 79,
oB 81 .gtr 80 (cI 65527)])
(.cond 81
(sq (.reg [oD 82 (.build [.int .i64 0,.int .u32 0,.imm (.int .u64) [],.imm (.int .u8) [],.imm YB [],.imm Y1 [],.imm Y2 [],.imm Y3 [],.imm Y4 [],.imm Y5 [],.imm Y7 [],.imm Y8 [],.int .i64 0,.int .i64 0,.imm YC []] []),
oS 15 4 82,
oD 5 (.mov (cI 263))])
.ret)
.skip))
(sq (.reg [oK 83 15 13,
oS 15 4 83,
oD 5 (.mov (cI 0))])
.ret)))))))))))))
def zaY_:List RD:=[.cell 4 (some 15) true [],.tmp 5 true none]
theorem zbB_:zm_ Tryz.prog Tryz.f15 zcp_ zaY_=true:=by kernel_rfl
def yy_:List AV->List Obj->Option (Prop × AV)
 | [.int .i64 tt,.imm (.int .u8) b],[]=>some ((b.length<=50000,.tup [.agg [.int .i64 ((qp_ tt b)).1,.int .u32 ((qp_ tt b)).2.1,.imm (.int .u64) ((qp_ tt b)).2.2.1,.imm (.int .u8) ((qp_ tt b)).2.2.2.1,.imm YB ((qp_ tt b)).2.2.2.2.1,.imm Y1 ((qp_ tt b)).2.2.2.2.2.1,.imm Y2 ((qp_ tt b)).2.2.2.2.2.2.1,.imm Y3 ((qp_ tt b)).2.2.2.2.2.2.2.1,.imm Y4 ((qp_ tt b)).2.2.2.2.2.2.2.2.1,.imm Y5 ((qp_ tt b)).2.2.2.2.2.2.2.2.2.1,.imm Y7 ((qp_ tt b)).2.2.2.2.2.2.2.2.2.2.1,.imm Y8 ((qp_ tt b)).2.2.2.2.2.2.2.2.2.2.2.1,.int .i64 ((qp_ tt b)).2.2.2.2.2.2.2.2.2.2.2.2.1,.int .i64 ((qp_ tt b)).2.2.2.2.2.2.2.2.2.2.2.2.2.1,.imm YC ((qp_ tt b)).2.2.2.2.2.2.2.2.2.2.2.2.2.2.1],.int .i64 (ZN_ tt b)]))
 | _,_=>none
theorem HU_:zd_ Tryz.prog 15 (RoF yy_).sum:=by
 refine zi_ Tryz.func15 zbB_ (za_ (s:=RoF vS_) zaE_ (za_ (s:=RoF vR_) zaD_ (za_ (s:=RoF JN_) W8_ (za_ (s:=RoF x9_) g4_ (za_ (s:=RoF jl_) JY_ (za_ (s:=RoF wW_) uV_ (za_ (s:=RoF wT_) uS_ (zc_ _)))))))) fun args objs p v e=>?_
 unfold yy_ at e
 split at e
 ·rename_i tt b
  cases e
  refine ⟨rfl,fun hw ho hp=>?_⟩
  change List Int at b
  have hb:∀ x ∈ (b:List Int),(0:Int)<=x/\x<=255:=fun x hx=>(hw (.imm (.int .u8) b) (by simp)).1 x hx
  clear hw ho
  by_cases h14:tt=14
  ·subst h14
   obtain ⟨e1,e2,e0⟩:=Uy_ (t:=14) (b:=b) rfl
   rcases KF_ (wF 14) b with hk | hk | hk
   ·obtain ⟨n1,n2⟩:=rowN hb hk
    have hs:zD_ (wF 14)=40:=by decide
    rw [hs] at n2
    have e:=e0 hk
    rw [if_neg (show ¬ (65527:Int) < b.length by omega)] at e
    have E:ZN_ 14 b=x23 14 b:=by
     rw [e]
     by_cases h0:x23 14 b=0
     ·rw [if_neg (not_not_intro h0),h0]
     ·rw [if_pos h0]
    clear e
    obtain ⟨r1,r2⟩:=rF_p hb
    have hN:=U0_ (b.drop 40) fun x hx=>hb x (List.mem_of_mem_drop hx)
    have hdl:(b.drop 40).length=b.length - 40:=List.length_drop
    have hr:(b.drop 40).drop (mdN (b.drop 40)).toNat=rF b:=by unfold rF;rw [List.drop_drop]
    have hrl:(rF b).length<=100000:=by unfold rF;rw [List.length_drop];omega
    have t40:(40:Int).toNat=40:=rfl
    clear hb
    repeat'(intro t ht;first|(cases t<;>first|(cases ht;done)|(try simp only[zg_]at ht;try(exfalso;first|contradiction|omega)))|((first|refine zb_ ht ?_|refine ht ?_ ?_|refine ht.1 ?_ ?_|refine ht ?_)<;>clear ht))
    all_goals (try simp only [hs,t40,hr] at*)
    all_goals first
     | exact True.intro
     | exact rfl
     | omega
     | (constructor<;>omega)
     | (refine ⟨?_,?_,?_⟩<;>omega)
     | exact ⟨rfl,n1⟩
     | (rw [zkI_ (by assumption)] at E
        rw [ZB_ (by rw [E];assumption),E];(first | exact ⟨rfl,rfl⟩ | exact ⟨rfl,True.intro⟩))
     | (rw [zkJ_ (by assumption) (by assumption)] at E
        rw [ZB_ (by rw [E];assumption),E];(first | exact ⟨rfl,rfl⟩ | exact ⟨rfl,True.intro⟩))
     | (rw [zk8_ (by assumption) (by assumption)] at E
        first
         | (have h0:¬ idE (rF b)=0:=by assumption
            rw [ZB_ (by rw [E];exact h0),E];(first | exact ⟨rfl,rfl⟩ | exact ⟨rfl,True.intro⟩))
         | (have h0:idE (rF b)=0:=by assumption
            rw [wl_ (E.trans h0),E,h0];(first | exact ⟨rfl,rfl⟩ | exact ⟨rfl,True.intro⟩))
         | fail)
   ·have e:=e1 hk
    have hM:=ZB_ (t:=14) (b:=b) (by rw [e];decide)
    repeat'(intro t ht;first|(cases t<;>first|(cases ht;done)|(try simp only[zg_]at ht;try(exfalso;first|contradiction|omega)))|((first|refine zb_ ht ?_|refine ht ?_ ?_|refine ht.1 ?_ ?_|refine ht ?_)<;>clear ht))
    all_goals first
     | exact True.intro
     | exact rfl
     | (rw [hM,e];(first | exact ⟨rfl,rfl⟩ | exact ⟨rfl,True.intro⟩))
   ·have e:=e2 hk
    have hM:=ZB_ (t:=14) (b:=b) (by rw [e];decide)
    repeat'(intro t ht;first|(cases t<;>first|(cases ht;done)|(try simp only[zg_]at ht;try(exfalso;first|contradiction|omega)))|((first|refine zb_ ht ?_|refine ht ?_ ?_|refine ht.1 ?_ ?_|refine ht ?_)<;>clear ht))
    all_goals first
     | exact True.intro
     | exact rfl
     | (rw [hM,e];(first | exact ⟨rfl,rfl⟩ | exact ⟨rfl,True.intro⟩))
  ·by_cases h11:tt=11
   ·subst h11
    obtain ⟨e1,e2,e0⟩:=Uy_ (t:=11) (b:=b) rfl
    rcases KF_ (wF 11) b with hk | hk | hk
    ·obtain ⟨n1,n2⟩:=rowN hb hk
     have hs:zD_ (wF 11)=40:=by decide
     rw [hs] at n2
     have e:=e0 hk
     rw [if_neg (show ¬ (65527:Int) < b.length by omega)] at e
     have E:ZN_ 11 b=x23 11 b:=by
      rw [e]
      by_cases h0:x23 11 b=0
      ·rw [if_neg (not_not_intro h0),h0]
      ·rw [if_pos h0]
     clear e
     obtain ⟨r1,r2⟩:=rF_p hb
     have hN:=U0_ (b.drop 40) fun x hx=>hb x (List.mem_of_mem_drop hx)
     have hdl:(b.drop 40).length=b.length - 40:=List.length_drop
     have hr:(b.drop 40).drop (mdN (b.drop 40)).toNat=rF b:=by unfold rF;rw [List.drop_drop]
     have hrl:(rF b).length<=100000:=by unfold rF;rw [List.length_drop];omega
     have t40:(40:Int).toNat=40:=rfl
     clear hb
     repeat'(intro t ht;first|(cases t<;>first|(cases ht;done)|(try simp only[zg_]at ht;try(exfalso;first|contradiction|omega)))|((first|refine zb_ ht ?_|refine ht ?_ ?_|refine ht.1 ?_ ?_|refine ht ?_)<;>clear ht))
     all_goals (try simp only [hs,t40,hr] at*)
     all_goals first
      | exact True.intro
      | exact rfl
      | omega
      | (constructor<;>omega)
      | (refine ⟨?_,?_,?_⟩<;>omega)
      | exact ⟨rfl,n1⟩
      | (rw [zkI_ (by assumption)] at E
         rw [ZB_ (by rw [E];assumption),E];(first | exact ⟨rfl,rfl⟩ | exact ⟨rfl,True.intro⟩))
      | (rw [zkJ_ (by assumption) (by assumption)] at E
         rw [ZB_ (by rw [E];assumption),E];(first | exact ⟨rfl,rfl⟩ | exact ⟨rfl,True.intro⟩))
      | (rw [zk9_ (by assumption) (by assumption)] at E
         first
          | (rw [if_neg (show ¬ 0 < (rF b).length by omega)] at E
             rw [wl_ E,E];(first | exact ⟨rfl,rfl⟩ | exact ⟨rfl,True.intro⟩))
          | (rw [if_pos (show 0 < (rF b).length by omega)] at E
             rw [ZB_ (by rw [E];decide),E];(first | exact ⟨rfl,rfl⟩ | exact ⟨rfl,True.intro⟩))
          | fail)
    ·have e:=e1 hk
     have hM:=ZB_ (t:=11) (b:=b) (by rw [e];decide)
     repeat'(intro t ht;first|(cases t<;>first|(cases ht;done)|(try simp only[zg_]at ht;try(exfalso;first|contradiction|omega)))|((first|refine zb_ ht ?_|refine ht ?_ ?_|refine ht.1 ?_ ?_|refine ht ?_)<;>clear ht))
     all_goals first
      | exact True.intro
      | exact rfl
      | (rw [hM,e];(first | exact ⟨rfl,rfl⟩ | exact ⟨rfl,True.intro⟩))
    ·have e:=e2 hk
     have hM:=ZB_ (t:=11) (b:=b) (by rw [e];decide)
     repeat'(intro t ht;first|(cases t<;>first|(cases ht;done)|(try simp only[zg_]at ht;try(exfalso;first|contradiction|omega)))|((first|refine zb_ ht ?_|refine ht ?_ ?_|refine ht.1 ?_ ?_|refine ht ?_)<;>clear ht))
     all_goals first
      | exact True.intro
      | exact rfl
      | (rw [hM,e];(first | exact ⟨rfl,rfl⟩ | exact ⟨rfl,True.intro⟩))
   ·obtain ⟨k1,k2⟩:=zch_ h14 h11
    have k3:¬ kF tt=true:=by rw [k1];decide
    have e:ZN_ tt b=10001:=by unfold ZN_;rw [if_pos k1]
    have hM:=ZB_ (t:=tt) (b:=b) (by rw [e];decide)
    repeat'(intro t ht;first|(cases t<;>first|(cases ht;done)|(try simp only[zg_]at ht;try(exfalso;first|contradiction|omega)))|((first|refine zb_ ht ?_|refine ht ?_ ?_|refine ht.1 ?_ ?_|refine ht ?_)<;>clear ht))
    all_goals first
     | exact True.intro
     | (rw [hM,e];exact ⟨rfl,rfl⟩)
 ·cases e
def vt_:IR:=
(sq (kr [0,1] [oD 4 (.mov cF)])
(sq (sq (.reg [oM 9 1,
oE 10 9,
oB 11 .gtr 10 (cI 2500)])
(.cond 11
(sq (.reg [oC 12 8 [],
oM 4 12])
.ret)
.skip))
(sq (kr [0,1] [oM 14 0,
oM 15 1,
oC 16 14 [14,15],
oM 13 16,
oX 17 13 0,
oX 18 13 1,
oD 5 (.box [.int .i64 0,.int .u32 0,.imm (.int .u64) [],.imm (.int .u8) [],.imm YB [],.imm Y1 [],.imm Y2 [],.imm Y3 [],.imm Y4 [],.imm Y5 [],.imm Y7 [],.imm Y8 [],.int .i64 0,.int .i64 0,.imm YC []]),
oS 15 5 17,
oM 6 18])
(sq (kr [0,1,5,6] [oM 20 0,
oM 21 1,
oC 22 15 [20,21],
oM 19 22,
oX 23 19 0,
oX 24 19 1,
oD 7 (.box [.int .i64 0,.int .u32 0,.imm (.int .u64) [],.imm (.int .u8) [],.imm YB [],.imm Y1 [],.imm Y2 [],.imm Y3 [],.imm Y4 [],.imm Y5 [],.imm Y7 [],.imm Y8 [],.int .i64 0,.int .i64 0,.imm YC []]),
oS 15 7 23,
oM 8 24])
(sq (kr [5,6,7,8] [oK 25 15 5,
oK 26 15 7,
oC 27 16 [25,26],
oM 28 27,
oT 28 29 (.mov 6),
oT 28 30 (.mov 8),
oT 28 31 (.bin .eql 29 30),
oP 32 28 31 cF,
oM 33 32,
oT 33 34 (.call false (.f 8) []),
oP 35 33 34 cF,
oM 4 35])
.ret)))))
def Y8_:List RD:=[.tmp 4 true none]
theorem vi_:zm_ Tryz.prog Tryz.f4 vt_ Y8_=true:=by kernel_rfl
def Km_:List AV->List Obj->Option (Prop × AV)
 | [.int .i64 tt,.imm (.int .u8) b],[]=>some ((True,.bool true))
 | _,_=>none
theorem y4_:zd_ Tryz.prog 4 (RoF Km_).sum:=by
 refine zi_ Tryz.func4 vi_ (za_ (s:=RoF yL_) H7_ (za_ (s:=RoF Xm_) Gh_ (za_ (s:=RoF yy_) HU_ (za_ (s:=RoF yz_) HV_ (zc_ _))))) fun args objs p v e=>?_
 unfold Km_ at e
 split at e
 ·rename_i tt b
  cases e
  refine ⟨rfl,fun hw ho hp=>?_⟩
  change List Int at b
  clear hw ho
  repeat'(intro t ht;first|(cases t<;>first|(cases ht;done)|(try simp only[zg_]at ht;try(exfalso;first|contradiction|omega)))|((first|refine zb_ ht ?_|refine ht ?_ ?_|refine ht.1 ?_ ?_|refine ht ?_)<;>clear ht))
  all_goals first
   | exact True.intro
   | omega
   | exact ⟨rfl,rfl⟩
   | (exfalso;simp_all;done)
 ·cases e
end Go.Eng
