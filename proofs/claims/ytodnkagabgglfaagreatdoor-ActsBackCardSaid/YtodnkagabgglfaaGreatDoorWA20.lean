/- Parts of the proof: HG. No condition. -/
import Derived.Test.YtodnkagabgglfaaGreatDoorProg
import Derived.Test.YtodnkagabgglfaaGreatDoorWA10
import Derived.KernelRfl
import Derived.Test.YtodnkagabgglfaaGreatDoorWA19
namespace Go.Eng
open Go.Proofs
set_option linter.unusedVariables false
set_option linter.unusedSimpArgs false
set_option maxRecDepth 100000
set_option maxHeartbeats 1000000
theorem hA_ (a b:List AC):boA (a++b)=boA a++boA b:=by unfold boA;exact List.flatMap_append
theorem zbO_ {l m:List AC} (hl:∀ a ∈ l,bysU a) (hm:∀ a ∈ m,bysU a) (h1:alE l=0) (h2:alE m=0) (hn:(l.length:Int)+m.length<=64) (hb:((alL l).length:Int)+(alL m).length<=65528):adL (alL l++alL m)=l++m/\adE (alL l++alL m)=0/\((alL l).length:Int)=szL l:=by
 have r1:rgL l=true:=by unfold alE at h1;split at h1<;>first | assumption | cases h1
 have r2:rgL m=true:=by unfold alE at h2;split at h2<;>first | assumption | cases h2
 have e1:alL l=boA l:=if_pos r1
 have e2:alL m=boA m:=if_pos r2
 rw [e1,e2] at hb
 obtain ⟨p1,p2,p3,p4⟩:=qA_ r1
 obtain ⟨q1,q2,q3,q4⟩:=qA_ r2
 have hr:rgL (l++m)=true:=zaf_ (by rw [List.all_append,p1,q1];rfl) (by rw [List.length_append];omega) (by rw [hA_,List.length_append];omega)
 have h:=bb_ hr fun a ha=>(List.mem_append.1 ha).elim (hl a) (hm a)
 rw [hA_] at h
 rw [e1,e2]
 exact ⟨h.1,h.2,p4.symm⟩
theorem zag_ {a:AC} (h:rgA a=true):lenA a:=by
 by_cases h25:a.1=25
 ·obtain ⟨_,_,hd,_,_,_,hR⟩:=wr_ h25 h
  have hn:=ql_ hR
  unfold lenA;rw [hd]
  refine ⟨?_,?_,by decide⟩<;>omega
 ·obtain ⟨k1,k2,k3,k4,k5,k6,k7⟩:=kP_ h25 h
  obtain ⟨_,_,_,_,e5,e6⟩:=VU_ k2
  unfold lenA;rw [e5,e6]
  refine ⟨by decide,by decide,?_⟩
  rcases k7 with ⟨_,_,k⟩ | ⟨_,k⟩
  ·omega
  ·rw [k];decide
theorem zbf_ {b:List Int} (hb:∀ x ∈ b,0<=x/\x<=255) (h:adE b=0):alE (adL b)=0/\alL (adL b)=b/\rgL (adL b)=true/\okL (adL b):=by
 obtain ⟨d1,d2,_⟩:=zdC_ hb h
 obtain ⟨p1,p2,_⟩:=qA_ d1
 refine ⟨if_pos d1,by unfold alL;rw [if_pos d1,d2],d1,⟨fun o ho=>zag_ (List.all_eq_true.1 p1 o ho),by omega⟩⟩
theorem zdD_ {b:List Int} (h:¬ adE b=0):adL b=[]:=if_neg h
def yj_:IR:=
(sq (kr [0,1,2] [oD 6 (.mov cF)])
(sq (sq (kr [0,1,2] [oM 18 0,
oC 19 7 [18],
oD 20 (.un .not 19),
oM 21 20,
oF 21 22 (.mov 1),
oF 21 23 (.call false (.f 7) [22]),
oF 21 24 (.un .not 23),
oP 25 21 cT 24,
oM 26 25,
oF 26 27 (.mov 2),
oF 26 28 (.len 27),
oF 26 29 (.bin .gtr 28 (cI 1500)),
oP 30 26 cT 29])
(.cond 30
(sq (kr [] [oC 31 8 [],
oM 6 31])
.ret)
.skip))
(sq (kr [0,1,2] [oM 33 0,
oC 34 9 [33],
oM 32 34,
oX 35 32 0,
oX 36 32 1,
oM 7 35,
oM 8 36])
(sq (kr [0,1,2,7,8] [oM 38 1,
oC 39 9 [38],
oM 37 39,
oX 40 37 0,
oX 41 37 1,
oM 9 40,
oM 10 41])
(sq (sq (kr [0,1,2,7,8,9,10] [oM 42 8,
oB 43 .eql 42 (cI 0),
oM 44 43,
oT 44 45 (.mov 10),
oT 44 46 (.bin .eql 45 (cI 0)),
oP 47 44 46 cF,
oM 48 47,
oT 48 49 (.mov 0),
oT 48 50 (.len 49),
oT 48 51 (.mov 1),
oT 48 52 (.len 51),
oT 48 53 (.bin .add 50 52),
oT 48 54 (.bin .leq 53 (cI 64)),
oP 55 48 54 cF,
oM 56 55,
oT 56 57 (.mov 7),
oT 56 58 (.len 57),
oT 56 59 (.mov 9),
oT 56 60 (.len 59),
oT 56 61 (.bin .add 58 60),
oT 56 62 (.bin .leq 61 (cI 65528)),
oP 63 56 62 cF])
(.cond 63
(sq (kr [0,1,2,7,9] [oD 65 (.slice0 (.int .u8)),
oM 66 7,
oD 67 (.append (.int .u8) 1 65 66),
oM 68 9,
oD 69 (.append (.int .u8) 1 67 68),
oC 70 21 [69],
oM 64 70,
oX 71 64 0,
oX 72 64 1,
oM 11 71,
oM 12 72])
(sq (kr [0,1,2,7,11,12] [oM 73 12,
oB 74 .neq 73 (cI 0),
oM 75 74,
oF 75 76 (.mov 11),
oF 75 77 (.slice0 Y2),
oF 75 78 (.mov 0),
oF 75 79 (.append Y2 128 77 78),
oF 75 80 (.mov 1),
oF 75 81 (.append Y2 128 79 80),
oF 75 82 (.call false (.f 23) [76,81]),
oF 75 83 (.un .not 82),
oP 84 75 cT 83,
oM 85 84,
oF 85 86 (.mov 7),
oF 85 87 (.len 86),
oF 85 88 (.mov 0),
oF 85 89 (.call false (.f 16) [88]),
oF 85 90 (.bin .neq 87 89),
oP 91 85 cT 90])
(.cond 91
(sq (kr [] [oD 6 (.mov cF)])
.ret)
.skip)))
.skip))
(sq (kr [0,1,2] [oM 92 0,
oC 93 29 [92],
oM 13 93])
(sq (sq (kr [0,1,2,13] [oM 94 13,
oM 95 0,
oC 96 23 [94,95],
oD 97 (.un .not 96),
oM 98 97,
oF 98 99 (.mov 13),
oF 98 100 (.mov 0),
oF 98 101 (.call false (.f 30) [99,100]),
oF 98 102 (.un .not 101),
oP 103 98 cT 102,
oM 104 103,
oF 104 105 (.mov 0),
oF 104 106 (.mov 1),
oF 104 107 (.call false (.f 30) [105,106]),
oF 104 108 (.mov 0),
oF 104 109 (.mov 1),
oF 104 110 (.call false (.f 23) [108,109]),
oF 104 111 (.eqb true 107 110),
oP 112 104 cT 111])
(.cond 112
(sq (kr [] [oD 6 (.mov cF)])
.ret)
.skip))
(sq (kr [2] [oM 114 2,
oC 115 21 [114],
oM 113 115,
oX 116 113 0,
oX 117 113 1,
oM 14 116,
oM 15 117])
(sq (sq (kr [2,14,15] [oM 118 15,
oB 119 .neq 118 (cI 0)])
(.cond 119
(sq (kr [14] [oM 120 14,
oE 121 120,
oB 122 .eql 121 (cI 0),
oM 123 122,
oT 123 124 (.call false (.f 8) []),
oP 125 123 124 cF,
oM 6 125])
.ret)
.skip))
(sq (kr [2,14] [oM 127 14,
oC 128 9 [127],
oM 126 128,
oX 129 126 0,
oX 130 126 1,
oM 16 129,
oM 17 130])
(sq (kr [2,14,16,17] [oM 131 17,
oB 132 .eql 131 (cI 0),
oM 133 132,
oT 133 134 (.mov 14),
oT 133 135 (.call false (.f 15) [134]),
oP 136 133 135 cF,
oM 137 136,
oT 137 138 (.mov 16),
oT 137 139 (.mov 2),
oT 137 140 (.call false (.f 17) [138,139]),
oP 141 137 140 cF,
oM 142 141,
oT 142 143 (.call false (.f 8) []),
oP 144 142 143 cF,
oM 6 144])
.ret)))))))))))
def X7_:List RD:=[.tmp 6 true none]
theorem yd_:zn_ Tryz.prog Tryz.f6 yj_ X7_=true:=by kernel_rfl
def kW_:List AV->List Obj->Option (Prop × AV)
 | [.imm ty0 l,.imm ty1 m,.imm (.int .u8) b],[]=>Qi_ ty0 Y2 l fun l=>Qi_ ty1 Y2 m fun m=>some ((True,.bool true))
 | _,_=>none
theorem xD_:ze_ Tryz.prog 6 (RoF kW_).sum:=by
 refine zm_ Tryz.func6 yd_ (zb_ (s:=RoF Xn_) gG_ (zb_ (s:=RoF jv_) WV_ (zb_ (s:=RoF QT_) jD_ (zb_ (s:=RoF qa_) qY_ (zb_ (s:=RoF jl_) WQ_ (zb_ (s:=RoF Q8_) Kk_ (zb_ (s:=RwF wk_) vF_ (zb_ (s:=RoF wj_) vE_ (zb_ (s:=RoF kE_) Jr_ (zb_ (s:=RoF Q6_) Ki_ (zd_ _))))))))))) fun args objs p v e=>?_
 unfold kW_ at e
 split at e
 ·rename_i ty0 l ty1 m b
  obtain rfl:=ZR_ e
  replace e:=ZS_ e
  obtain rfl:=ZR_ e
  replace e:=ZS_ e
  cases e
  refine ⟨rfl,fun hw ho hp=>?_⟩
  change List Int at b
  have hb:∀ z ∈ (b:List Int),(0:Int)<=z/\z<=255:=fun z hz=>(hw (.imm (.int .u8) b) (by simp)).1 z hz
  have hla:=zby_ (l:=l) (hw (.imm Y2 l) (by simp))
  have hma:=zby_ (l:=m) (hw (.imm Y2 m) (by simp))
  change List AC at l
  change List AC at m
  clear hw ho
  cases hf:hk_ l with
  | false=>
    repeat'(intro t ht;first|(cases t<;>first|(cases ht;done)|(try simp only[zh_]at ht;try(exfalso;first|contradiction|omega)))|((first|refine za_ ht ?_|refine ht ?_ ?_|refine ht.1 ?_ ?_|refine ht ?_)<;>clear ht))
    all_goals first
     | exact True.intro
     | exact ⟨rfl,rfl⟩
     | (exfalso;simp_all;done)
  | true=>
    cases hg:hk_ m with
    | false=>
      repeat'(intro t ht;first|(cases t<;>first|(cases ht;done)|(try simp only[zh_]at ht;try(exfalso;first|contradiction|omega)))|((first|refine za_ ht ?_|refine ht ?_ ?_|refine ht.1 ?_ ?_|refine ht ?_)<;>clear ht))
      all_goals first
       | exact True.intro
       | exact ⟨rfl,rfl⟩
       | (exfalso;simp_all;done)
    | true=>
      obtain ⟨ol,nl⟩:=gc_ hf
      obtain ⟨om,nm⟩:=gc_ hg
      by_cases hlen:(1500:Int) < b.length
      ·repeat'(intro t ht;first|(cases t<;>first|(cases ht;done)|(try simp only[zh_]at ht;try(exfalso;first|contradiction|omega)))|((first|refine za_ ht ?_|refine ht ?_ ?_|refine ht.1 ?_ ?_|refine ht ?_)<;>clear ht))
       all_goals first
        | exact True.intro
        | exact ⟨rfl,rfl⟩
        | (exfalso;simp_all;done)
      ·have T:=zbO_ (l:=l) (m:=m) (fun o ho=>⟨(hla o ho).1,(hla o ho).2.2.2.2.1,(hla o ho).2.2.2.2.2⟩) (fun o ho=>⟨(hma o ho).1,(hma o ho).2.2.2.2.1,(hma o ho).2.2.2.2.2⟩)
       have B1:=zbf_ hb
       have B2:=zdD_ (b:=b)
       clear hla hma hb
       have q1:(alL l).length<=1000000:=by unfold alL;split<;>first | (rename_i r;have:=(qA_ r).2.2.1;omega) | exact Nat.zero_le _
       have q2:(alL m).length<=1000000:=by unfold alL;split<;>first | (rename_i r;have:=(qA_ r).2.2.1;omega) | exact Nat.zero_le _
       have hEq:(decide (l=m) == decide (l=m))=true:=by simp
       by_cases hd:adE b=0
       ·obtain ⟨b1,b2,b3,b4⟩:=B1 hd
        clear B1 B2
        repeat'(intro t ht;first|(cases t<;>first|(cases ht;done)|(try simp only[zh_]at ht;try(exfalso;first|contradiction|omega)))|((first|refine za_ ht ?_|refine ht ?_ ?_|refine ht.1 ?_ ?_|refine ht ?_)<;>clear ht))
        all_goals first
         | exact True.intro
         | exact ol
         | exact om
         | exact b4
         | omega
         | exact ⟨rfl,rfl⟩
         | exact absurd b2 ht
         | (rw [b3] at ht;cases ht)
         | (rw [hEq] at ht;cases ht)
         | (simp only [zi_];omega)
         | (show IntKind.i64.min<=((alL l).length:Int)+((alL m).length:Int)/\((alL l).length:Int)+((alL m).length:Int)<=IntKind.i64.max
            simp only [zi_];omega)
         | (simp only [List.length_append,List.length_nil];omega)
         | (simp only [zA_,List.length_append,List.length_nil,Nat.zero_add];constructor<;>omega)
         | (obtain ⟨t1,t2,t3⟩:=T (by assumption) (by assumption) (by assumption) (by assumption)
            first
             | exact absurd t2 ht
             | exact absurd t1 ht
             | exact absurd t3 ht
             | fail)
       ·have b0:=B2 hd
        have b1:(adL b).length=0:=by rw [b0];rfl
        clear B1 B2
        repeat'(intro t ht;first|(cases t<;>first|(cases ht;done)|(try simp only[zh_]at ht;try(exfalso;first|contradiction|omega)))|((first|refine za_ ht ?_|refine ht ?_ ?_|refine ht.1 ?_ ?_|refine ht ?_)<;>clear ht))
        all_goals first
         | exact True.intro
         | exact ol
         | exact om
         | omega
         | exact ⟨rfl,rfl⟩
         | (rw [hEq] at ht;cases ht)
         | (simp only [zi_];omega)
         | (show IntKind.i64.min<=((alL l).length:Int)+((alL m).length:Int)/\((alL l).length:Int)+((alL m).length:Int)<=IntKind.i64.max
            simp only [zi_];omega)
         | (simp only [List.length_append,List.length_nil];omega)
         | (simp only [zA_,List.length_append,List.length_nil,Nat.zero_add];constructor<;>omega)
         | (obtain ⟨t1,t2,t3⟩:=T (by assumption) (by assumption) (by assumption) (by assumption)
            first
             | exact absurd t2 ht
             | exact absurd t1 ht
             | exact absurd t3 ht
             | fail)
 ·cases e
end Go.Eng
