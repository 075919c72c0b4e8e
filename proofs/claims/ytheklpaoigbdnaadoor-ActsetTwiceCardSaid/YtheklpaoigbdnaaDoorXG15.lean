/- Parts of the proof: UE, UF. No condition. -/
import Derived.Test.YtheklpaoigbdnaaDoorProg
import Derived.Test.YtheklpaoigbdnaaDoorXG11
import Derived.KernelRfl
import Derived.Test.YtheklpaoigbdnaaDoorXG14
import GoSem.ClaimJoined
namespace Go.Eng
open Go.Proofs
set_option linter.unusedVariables false
set_option linter.unusedSimpArgs false
set_option maxRecDepth 100000
set_option maxHeartbeats 1000000
theorem YR_ (a:AC):∀ l:List AC,(qc_ a l).length<=l.length+1
 | []=>Nat.le_refl _
 | x :: r=>by
   have:=YR_ a r
   unfold qc_
   split
   ·rw [List.length_cons,List.length_cons];omega
   ·split
    ·rw [List.length_cons,List.length_cons];omega
    ·exact Nat.le_refl _
theorem VN_:∀ {l u:List AC} {x:AC},x ∈ foK l u->x ∈ l\/x ∈ u
 | [],_,_,h=>.inr h
 | a :: r,u,x,h=>by
   rcases VN_ (l:=r) (u:=qc_ a u) h with h | h
   ·exact .inl (List.mem_cons_of_mem _ h)
   ·rcases jR_ h with h | h
    ·exact .inl (by simp [h])
    ·exact .inr h
theorem jV_:∀ (l u:List AC),(foK l u).length<=u.length+l.length
 | [],_=>Nat.le_refl _
 | a :: r,u=>by
   have h1:=jV_ r (qc_ a u)
   have h2:=YR_ a u
   show (foK r (qc_ a u)).length<=_
   rw [List.length_cons];omega
theorem wE_ {l u:List AC} (h1:okL l) (h2:okL u) (hn:u.length+l.length<=1000000):okL (foK l u):=
 ⟨fun o ho=>by rcases VN_ ho with h | h<;>first | exact h1.a o h | exact h2.a o h,Nat.le_trans (jV_ l u) hn⟩
theorem gK_ {l m:List AC} (h1:okL l) (h2:okL m) (hn:l.length+m.length<=1000000):okL (l++m):=
 ⟨fun o ho=>by rcases List.mem_append.1 ho with h | h<;>first | exact h1.a o h | exact h2.a o h,by rw [List.length_append];exact hn⟩
theorem Qv_:okL []:=⟨fun o h=>absurd h List.not_mem_nil,Nat.zero_le _⟩
theorem XX_:setM []:=⟨fun o h=>absurd h List.not_mem_nil,List.Pairwise.nil⟩
structure Twice (l m x y a:List AC):Prop where
 fx:wtL [] l=x
 fy:wtL [] m=y
 fa:wtL x m=a
 fb:wtL [] (l++m)=a
 fc:wtL a m=a
 fd:wtL x y=a
 ea:wtE x m=0
 eb:wtE [] (l++m)=0
 ec:wtE a m=0
 ed:wtE x y=0
 s:setM a
 lx:x.length<=l.length
 ly:y.length<=m.length
 la:a.length<=l.length+m.length
 ox:okL x
 oy:okL y
 oa:okL a
 w:∀ z,m.getLast?=some z->z ∈ a
theorem hb_ {l m:List AC} (hl:okL l) (hm:okL m) (nl:l.length<=80) (nm:m.length<=80) (e:wtE [] l=0) (f:wtE [] m=0):∃ x y a,Twice l m x y a:=by
 obtain ⟨_,al,x1,sx⟩:=JP_ e
 obtain ⟨_,am,y1,sy⟩:=JP_ f
 have x2:wtL [] l=foK l []:=x1
 have y2:wtL [] m=foK m []:=y1
 rw [x2] at sx
 rw [y2] at sy
 have lx:=jV_ l []
 have ly:=jV_ m []
 have la:=jV_ m (foK l [])
 rw [List.length_nil] at lx ly
 have hs:=(JP_ (x3_ sx am)).2.2.2
 rw [jW_ sx am] at hs
 have alm:x0_ (l++m):=fun z hz=>(List.mem_append.1 hz).elim (al z) (am z)
 have ox:=wE_ hl Qv_ (by rw [List.length_nil];omega)
 have oy:=wE_ hm Qv_ (by rw [List.length_nil];omega)
 refine ⟨foK l [],foK m [],foK m (foK l []),⟨x2,y2,jW_ sx am,?_,?_,?_,x3_ sx am,x3_ XX_ alm,x3_ hs am,x3_ sx sy.m,hs,by omega,by omega,by omega,ox,oy,wE_ hm ox (by omega),fun z hz=>?_⟩⟩
 ·rw [jW_ XX_ alm,GV_]
 ·rw [jW_ hs am,UJ_ sx.s]
 ·rw [jW_ sx sy.m,GU_ sx.s]
 ·obtain ⟨ys,rfl⟩:=List.getLast?_eq_some_iff.1 hz
  exact gV_ sx.s
theorem gq_ {A m:List AC} (hw:∀ z,m.getLast?=some z->z ∈ A) (h0:0 < m.length):∃ j,j < A.length/\(A.drop j).take 1=m.drop (m.length - 1):=by
 have hne:m ≠ []:=fun e=>by rw [e] at h0;exact absurd h0 (Nat.lt_irrefl 0)
 obtain ⟨j,hj,e⟩:=List.mem_iff_getElem.1 (hw _ (List.getLast?_eq_some_getLast hne))
 refine ⟨j,hj,?_⟩
 rw [List.drop_eq_getElem_cons hj,List.drop_eq_getElem_cons (show m.length - 1 < m.length by omega),e,List.getLast_eq_getElem,List.drop_of_length_le (show m.length<=m.length - 1+1 by omega)]
 rfl
theorem gp_ {A m:List AC} {k:Nat} {b:Bool} (hb:b=decide ((A.take ((k:Int)+1).toNat).drop (k:Int).toNat=m.drop ((m.length:Int) - 1).toNat)) (h0:0 < m.length) (hj:∀ j,j < k->¬ (A.drop j).take 1=m.drop (m.length - 1)):b=true\/∀ j,j < k+1->¬ (A.drop j).take 1=m.drop (m.length - 1):=by
 have e1:(A.take ((k:Int)+1).toNat).drop (k:Int).toNat=(A.drop k).take 1:=by
  rw [show ((k:Int)+1).toNat=k+1 by omega,Int.toNat_natCast,List.drop_take,show k+1 - k=1 by omega]
 rw [e1,show ((m.length:Int) - 1).toNat=m.length - 1 by omega] at hb
 by_cases h:(A.drop k).take 1=m.drop (m.length - 1)
 ·exact .inl (by rw [hb];exact decide_eq_true h)
 ·refine .inr fun j hjk=>?_
  by_cases e:j=k
  ·rw [e];exact h
  ·exact hj j (by omega)
def K1_:IR:=
(sq (kr [0,1] [oD 4 (.mov cF)])
(sq (sq (kr [0,1] [oM 19 0,
oC 20 5 [19],
oD 21 (.un .not 20),
oM 22 21,
oF 22 23 (.mov 1),
oF 22 24 (.call false (.f 5) [23]),
oF 22 25 (.un .not 24),
oP 26 22 cT 25])
(.cond 26
(sq (kr [] [oC 27 6 [],
oM 4 27])
.ret)
.skip))
(sq (kr [0,1] [oM 29 0,
oC 30 7 [(.c (.imm Y2 [])),29],
oM 28 30,
oX 31 28 0,
oX 32 28 1,
oM 5 31,
oM 6 32])
(sq (kr [0,1,5,6] [oM 34 1,
oC 35 7 [(.c (.imm Y2 [])),34],
oM 33 35,
oX 36 33 0,
oX 37 33 1,
oM 7 36,
oM 8 37])
(sq (sq (kr [0,1,5,6,7,8] [oM 38 6,
oB 39 .neq 38 (cI 0),
oM 40 39,
oF 40 41 (.mov 8),
oF 40 42 (.bin .neq 41 (cI 0)),
oP 43 40 cT 42])
(.cond 43
(sq (kr [5,6,7,8] [oM 44 6,
oB 45 .eql 44 (cI 0),
oM 46 45,
oF 46 47 (.mov 5),
oF 46 48 (.len 47),
oF 46 49 (.bin .eql 48 (cI 0)),
oP 50 46 cT 49,
oM 51 50,
oT 51 52 (.mov 8),
oT 51 53 (.bin .eql 52 (cI 0)),
oT 51 54 (.mov 53),
oF 54 55 (.mov 7),
oF 54 56 (.len 55),
oF 54 57 (.bin .eql 56 (cI 0)),
oT 51 58 (.pick 54 cT 57),
oP 59 51 58 cF,
oM 60 59,
oT 60 61 (.call false (.f 6) []),
oP 62 60 61 cF,
oM 4 62])
.ret)
.skip))
(sq (kr [0,1,5,7] [oM 64 5,
oM 65 1,
oC 66 7 [64,65],
oM 63 66,
oX 67 63 0,
oX 68 63 1,
oM 9 67,
oM 10 68])
(sq (kr [0,1,5,7,9,10] [oD 70 (.slice0 Y2),
oM 71 0,
oD 72 (.append Y2 128 70 71),
oM 73 1,
oD 74 (.append Y2 128 72 73),
oC 75 7 [(.c (.imm Y2 [])),74],
oM 69 75,
oX 76 69 0,
oX 77 69 1,
oM 11 76,
oM 12 77])
(sq (kr [0,1,5,7,9,10,11,12] [oM 79 9,
oM 80 1,
oC 81 7 [79,80],
oM 78 81,
oX 82 78 0,
oX 83 78 1,
oM 13 82,
oM 14 83])
(sq (kr [0,1,5,7,9,10,11,12,13,14] [oM 85 5,
oM 86 7,
oC 87 7 [85,86],
oM 84 87,
oX 88 84 0,
oX 89 84 1,
oM 15 88,
oM 16 89])
(sq (sq (kr [0,1,9,10,11,12,13,14,15,16] [oM 90 10,
oB 91 .neq 90 (cI 0),
oM 92 91,
oF 92 93 (.mov 12),
oF 92 94 (.bin .neq 93 (cI 0)),
oP 95 92 cT 94,
oM 96 95,
oF 96 97 (.mov 14),
oF 96 98 (.bin .neq 97 (cI 0)),
oP 99 96 cT 98,
oM 100 99,
oF 100 101 (.mov 16),
oF 100 102 (.bin .neq 101 (cI 0)),
oP 103 100 cT 102,
oM 104 103,
oF 104 105 (.mov 9),
oF 104 106 (.mov 11),
oF 104 107 (.call false (.f 8) [105,106]),
oF 104 108 (.un .not 107),
oP 109 104 cT 108,
oM 110 109,
oF 110 111 (.mov 9),
oF 110 112 (.mov 13),
oF 110 113 (.call false (.f 8) [111,112]),
oF 110 114 (.un .not 113),
oP 115 110 cT 114,
oM 116 115,
oF 116 117 (.mov 9),
oF 116 118 (.mov 15),
oF 116 119 (.call false (.f 8) [117,118]),
oF 116 120 (.un .not 119),
oP 121 116 cT 120])
(.cond 121
(sq (kr [] [oD 4 (.mov cF)])
.ret)
.skip))
(sq (sq (kr [0,1,9] [oM 122 1,
oE 123 122,
oB 124 .gtr 123 (cI 0)])
(.cond 124
(sq (.reg [oD 17 (.mov cF)])
(sq (sq (.reg [oD 18 (.mov (cI 0))])
(.block 0
(.loop
(sq (sq (kr [0,1,9,17,18] [oM 125 18,
oM 126 9,
oE 127 126,
oB 128 .lss 125 127])
(.cond 128
.skip
(.exit 0)))
(sq (.block 1
(kd [0,1,9,17,18] [(oM 131 17,[]),
(oM 132 131,[]),
(oF 132 133 (.mov 9),[]),
(oF 132 134 (.mov 18),[0]),
(oF 132 135 (.mov 18),[0,0]),
(oF 132 136 (.bin .add 135 (cI 1)),[1,0]),
(oF 132 137 (.slice 10 133 (some 134) (some 136) none),[]),
(oF 132 138 (.mov 1),[0,0,0,0,0]),
(oF 132 139 (.mov 1),[0,0,0,0,0,0]),
(oF 132 140 (.len 139),[1,0,0,0,0,0]),
(oF 132 141 (.bin .sub 140 (cI 1)),[2,0,0,0,0,0]),
(oF 132 142 (.slice 10 138 (some 141) none none),[4,0,0,0,0]),
(oF 132 143 (.call false (.f 8) [137,142]),[]),
(oP 144 132 cT 143,[]),
(oM 17 144,[])]))
(kr [0,1,9,17,18] [oM 129 18,
oB 130 .add 129 (cI 1),
oM 18 130]))))))
(sq (kr [0,1,9,17] [oM 145 17,
oD 146 (.un .not 145)])
(.cond 146
(sq (.reg [oD 4 (.mov cF)])
.ret)
.skip))))
.skip))
(sq (kr [0,1,9] [oM 147 9,
oC 148 9 [147],
oM 149 148,
oT 149 150 (.mov 9),
oT 149 151 (.len 150),
oT 149 152 (.bin .leq 151 (cI 51)),
oP 153 149 152 cF,
oM 154 153,
oT 154 155 (.mov 9),
oT 154 156 (.len 155),
oT 154 157 (.mov 0),
oT 154 158 (.len 157),
oT 154 159 (.mov 1),
oT 154 160 (.len 159),
oT 154 161 (.bin .add 158 160),
oT 154 162 (.bin .leq 156 161),
oP 163 154 162 cF,
oM 164 163,
oT 164 165 (.call false (.f 6) []),
oP 166 164 165 cF,
oM 4 166])
.ret))))))))))))
def KP_:List RD:=[.tmp 4 true none]
theorem KT_:zs_ Tryd.prog Tryd.f3 K1_ KP_=true:=by kernel_rfl
def qg_:List AV->List Obj->Option (Prop × AV)
 | [.imm ty0 l,.imm ty1 m],[]=>z8_ ty0 Y2 l fun l=>z8_ ty1 Y2 m fun m=>some ((True,.bool true))
 | _,_=>none
theorem Ky_:zg_ Tryd.prog 3 (RoF qg_).sum:=by
 refine zm_ Tryd.func3 KT_ (zc_ (s:=RoF Kt_) JU_ (zc_ (s:=RoF ks_) jp_ (zc_ (s:=RoF Zu_) qp_ (zc_ (s:=RoF Qj_) Q9_ (zc_ (s:=RoF Za_) Zx_ (ze_ _)))))) fun args objs p v e=>?_
 unfold qg_ at e
 split at e
 ·rename_i ty0 l ty1 m
  obtain rfl:=zy_ e
  replace e:=zz_ e
  obtain rfl:=zy_ e
  replace e:=zz_ e
  cases e
  refine ⟨rfl,fun hw ho hp=>?_⟩
  change List AC at l
  change List AC at m
  clear hw ho
  cases hf:xX_ l with
  | false=>
    repeat'(intro t ht;first|(cases t<;>first|(cases ht;done)|(try simp only[zh_]at ht;try(exfalso;first|contradiction|omega)))|((first|refine zb_ ht ?_|refine ht ?_ ?_|refine ht.1 ?_ ?_|refine ht ?_)<;>clear ht))
    all_goals first
     | exact True.intro
     | exact ⟨rfl,by first | rfl | exact True.intro⟩
     | (exfalso;rw [hf] at*;contradiction)
  | true=>
    cases hg:xX_ m with
    | false=>
      repeat'(intro t ht;first|(cases t<;>first|(cases ht;done)|(try simp only[zh_]at ht;try(exfalso;first|contradiction|omega)))|((first|refine zb_ ht ?_|refine ht ?_ ?_|refine ht.1 ?_ ?_|refine ht ?_)<;>clear ht))
      all_goals first
       | exact True.intro
       | exact ⟨rfl,by first | rfl | exact True.intro⟩
       | (exfalso;rw [hf] at*;contradiction)
       | (exfalso;rw [hg] at*;contradiction)
    | true=>
      obtain ⟨hok1,hl1⟩:=wI_ hf
      obtain ⟨hok2,hl2⟩:=wI_ hg
      have o1:okL ([]:List AC)/\okL l/\([]:List AC).length<=100000/\l.length<=100000:=⟨Qv_,hok1,Nat.zero_le _,Nat.le_trans hl1 (by decide)⟩
      have o2:okL ([]:List AC)/\okL m/\([]:List AC).length<=100000/\m.length<=100000:=⟨Qv_,hok2,Nat.zero_le _,Nat.le_trans hl2 (by decide)⟩
      by_cases he:wtE [] l=0
      ·by_cases hf0:wtE [] m=0
       ·obtain ⟨x,y,a,T⟩:=hb_ hok1 hok2 hl1 hl2 he hf0
        have tx:=T.fx
        have ty:=T.fy
        have ta:=T.fa
        have tb:=T.fb
        have tc:=T.fc
        have td:=T.fd
        have ua:=T.ea
        have ub:=T.eb
        have uc:=T.ec
        have ud:=T.ed
        have vl:=T.lx
        have vm:=T.ly
        have va:=T.la
        have v51:=gw_ T.s
        have vr:=vw_ T.s
        have o3:okL x/\okL m/\x.length<=100000/\m.length<=100000:=⟨T.ox,hok2,by omega,by omega⟩
        have o4:okL ([]:List AC)/\okL (l++m)/\([]:List AC).length<=100000/\(l++m).length<=100000:=⟨Qv_,gK_ hok1 hok2 (by omega),Nat.zero_le _,by rw [List.length_append];omega⟩
        have o5:okL a/\okL m/\a.length<=100000/\m.length<=100000:=⟨T.oa,hok2,by omega,by omega⟩
        have o6:okL x/\okL y/\x.length<=100000/\y.length<=100000:=⟨T.ox,T.oy,by omega,by omega⟩
        have oa:=T.oa
        have tl:=gq_ T.w
        rw [<- ta,<- tx,<- ty] at*
        have ub2:wtE [] ([]++l++m)=0:=ub
        have tb2:wtL (wtL [] l) m=wtL [] ([]++l++m):=tb.symm
        have tc2:=tc.symm
        have td2:=td.symm
        repeat'(intro t ht;first|(cases t<;>first|(cases ht;done)|(try simp only[zh_]at ht;try(exfalso;first|contradiction|omega)))|((first|refine zb_ ht ?_|refine ht ?_ ?_|refine ht.1 ?_ ?_|refine ht ?_)<;>clear ht))
        all_goals first
         | exact True.intro
         | exact o1
         | exact o2
         | exact o3
         | exact o4
         | exact o5
         | exact o6
         | exact oa
         | (exfalso;rw [hf] at*;contradiction)
         | (exfalso;rw [hg] at*;contradiction)
         | (simp only [List.length_append,List.length_nil];omega)
         | (simp only [List.length_append,List.length_nil];constructor<;>omega)
         | (simp only [zv_];omega)
         | (rw [vr] at ht;cases ht;done)
         | omega
         | exact ⟨rfl,by first | rfl | exact True.intro⟩
         | (intro r h1 h2;clear h1;refine h2 ⟨[0,1,9,17,18],(Nat × Bool),(fun s=>s.1<=(wtL (wtL [] l) m).length/\(s.2=true\/∀ j,j < s.1->¬ ((wtL (wtL [] l) m).drop j).take 1=m.drop (m.length - 1))),fun s=>[.imm Y2 l,.imm Y2 m,.imm Y2 (wtL (wtL [] l) m),.bool s.2,.int .i64 s.1],fun _=>[],fun s=>(wtL (wtL [] l) m).length - s.1,⟨(0,false),⟨Nat.zero_le _,.inr fun j h=>absurd h (Nat.not_lt_zero j)⟩,rfl,rfl⟩,?_⟩;clear h2)
        rintro ⟨k,is⟩ ⟨hk,hj⟩
        dsimp only at hk hj
        repeat'(intro t ht;first|(cases t<;>first|(cases ht;done)|(try simp only[zh_]at ht;try(exfalso;first|contradiction|omega)))|((first|refine zb_ ht ?_|refine ht ?_ ?_|refine ht.1 ?_ ?_|refine ht ?_)<;>clear ht))
        all_goals first
         | exact True.intro
         | omega
         | (simp only [zv_];omega)
         | exact oa
         | exact ⟨rfl,by first | rfl | exact True.intro⟩
         | (rw [vr] at ht;cases ht;done)
         | (exfalso
            rcases hj with h | h
            ·rw [h] at ht;cases ht
            ·obtain ⟨j,j1,j2⟩:=tl (by omega)
             exact h j (by omega) j2)
         | exact ⟨(k+1,_),⟨by dsimp only;omega,.inl (by first | rfl | assumption)⟩,by dsimp only;omega,rfl,rfl⟩
         | (rcases hj with h | h
            ·rw [h] at ht;cases ht
            ·exact ⟨(k+1,_),⟨by dsimp only;omega,gp_ rfl (by omega) h⟩,by dsimp only;omega,rfl,rfl⟩)
       ·have hy:=JQ_ hf0
        repeat'(intro t ht;first|(cases t<;>first|(cases ht;done)|(try simp only[zh_]at ht;try(exfalso;first|contradiction|omega)))|((first|refine zb_ ht ?_|refine ht ?_ ?_|refine ht.1 ?_ ?_|refine ht ?_)<;>clear ht))
        all_goals first
         | exact True.intro
         | exact o1
         | exact o2
         | (exfalso;rw [hf] at*;contradiction)
         | (exfalso;rw [hg] at*;contradiction)
         | exact ⟨rfl,by first | rfl | exact True.intro⟩
         | (rw [hy] at ht;exact absurd rfl ht)
      ·have hx:=JQ_ he
       repeat'(intro t ht;first|(cases t<;>first|(cases ht;done)|(try simp only[zh_]at ht;try(exfalso;first|contradiction|omega)))|((first|refine zb_ ht ?_|refine ht ?_ ?_|refine ht.1 ?_ ?_|refine ht ?_)<;>clear ht))
       all_goals first
        | exact True.intro
        | exact o1
        | exact o2
        | (exfalso;rw [hf] at*;contradiction)
        | (exfalso;rw [hg] at*;contradiction)
        | exact ⟨rfl,by first | rfl | exact True.intro⟩
        | (rw [hx] at ht;exact absurd rfl ht)
        | (rw [JQ_ (by assumption)] at ht;exact absurd rfl ht)
 ·cases e
end Go.Eng
namespace Go.Eng
open Go.Proofs
set_option linter.unusedVariables false
set_option linter.unusedSimpArgs false
set_option maxRecDepth 100000
set_option maxHeartbeats 1000000
open Go.RowKit Go.ChangeShapes Go.WideShapes in
theorem uz_ {H:Type} {enc:TypeId × Value->H} {P:Program} {W:World} {a:Ty} {ys:List a.den} {avs:List AV} {t e:TypeId} {ts tv:List TypeId} {vs:List Value} {ds gs:List (DataW H)} {ps:List MemPlace} (hu:P.underlying t=some (.slice e)) (hR:ql_ (Q1_ W) W noM (.imm a ys :: avs) vs)
 (hA:DataW.TrodAll enc P W 0 (fun _=>true) true (t :: ts) vs ds ps) (hz:(DataW.weightsEach P (t :: tv) (ds++gs)).all (· <=reachBytes)=true):ys.length*P.bytesOf e<=reachBytes:=by
 match vs,ds,hR,hA with
 | v :: vs,d :: ds,hR,hA=>
   obtain ⟨ao,len,cap,e1,h2⟩:=hR.1
   rw [j9_] at h2
   obtain ⟨p,q,⟨fuel,hf⟩,_,_⟩:=hA
   subst e1
   rcases DataW.trod_slice hu hf with ⟨h3,_⟩ | ⟨ad,len',cap',elems,rest,n,_,h3,h4,_,_,_,h5,_⟩
   ·have e3:len=0:=by
     have:[Value.slice ao len cap]=[Value.slice none 0 0]:=h3
     cases this;rfl
    rw [<- h2.1,e3,Nat.zero_mul];exact Nat.zero_le _
   ·have e3:len=len':=by
     have:[Value.slice ao len cap]=[Value.slice (some ad) len' cap']:=h3
     cases this;rfl
    have e4:d=.slice (elems.map (·.1)) (rest.map (·.1)):=congrArg Prod.fst h4
    subst e4
    rw [List.cons_append] at hz
    simp only [DataW.weightsEach,DataW.weights,hu,List.cons_append,List.all_cons,Bool.and_eq_true,decide_eq_true_eq,List.length_map] at hz
    have h6:=hz.1
    rw [<- h2.1,e3,<- h5]
    exact Nat.le_trans (Nat.mul_le_mul_right _ (Nat.le_add_right _ _)) h6
open Go.RowKit Go.ChangeShapes Go.WideShapes in
theorem uq_ {P:Program} {id:FuncId} {f:List AV->List Obj->Option (Prop × AV)} {p:Prop} (h:zg_ P id (RoF f).sum) {w:World} {args:List AV} {cargs:Array Value} (hA:ql_ (Q1_ w) w noM args cargs.toList) (hf:f args []=some (p,.bool true)) (hp:p):
 Calls P id cargs w fun e w'=>e=.returned (.bool true)/\Below w.heap.size w w':=by
 have hH:HRel (Q1_ w) w noM (ofL []):=⟨fun i hi=>absurd rfl hi,fun i o e=>(by cases e),fun i j o o' b e=>(by cases e),fun i o b e=>(by cases e),fun i t x b e=>(by cases e),fun b hb=>hb⟩
 have hS:(RoF f).sum args [] (fun v _=>v=.bool true):=by
  simp only [RoF,SumK.sum,hf]
  exact jJ_ hp fun _=>trivial
 refine (h.2.2 hH hA (fun i hi=>hi.elim) hS).mono ?_
 rintro e w' ⟨v,cv,objs',I',m',rfl,rfl,hL⟩
 have hv:cv=.bool true:=hL.rv
 subst hv
 exact ⟨rfl,hL.fr.below fun b _ ⟨i,o,e,_⟩=>by cases e⟩
theorem uR_ (u l:List AC):(wtL u l).length<=u.length+l.length:=by
 unfold wtL
 split
 ·exact Jy_ l u
 ·exact Nat.zero_le _
theorem Uh_ {u l:List AC} (h1:okL u) (h2:okL l) (hn:u.length+l.length<=1000000):okL (wtL u l):=by
 by_cases h:wtE u l=0
 ·rw [(JP_ h).2.2.1]
  exact wE_ h2 h1 hn
 ·rw [JQ_ h];exact Qv_
theorem Gv_ (u l:List AC):setM (wtL u l):=by
 by_cases h:wtE u l=0
 ·exact (JP_ h).2.2.2
 ·rw [JQ_ h];exact XX_
theorem wO_ (u:List AC) (a b:AC):wtE u [a,b]=wtE u [b,a]:=by
 have e:([a,b].any fun o=>!Zf_ o)=[b,a].any fun o=>!Zf_ o:=by
  simp only [List.any_cons,List.any_nil,Bool.or_false];exact Bool.or_comm _ _
 unfold wtE wok
 rw [e]
theorem uS_ {u:List AC} {a b:AC} (hk:¬ a.1=b.1):wtL u [a,b]=wtL u [b,a]:=by
 by_cases h:wtE u [a,b]=0
 ·have h':wtE u [b,a]=0:=by rw [<- wO_];exact h
  obtain ⟨h1,h2,h3,_⟩:=JP_ h
  obtain ⟨_,_,h4,_⟩:=JP_ h'
  have e1:wtL u [a,b]=foK [a,b] u:=h3
  have e2:wtL u [b,a]=foK [b,a] u:=h4
  rw [e1,e2]
  exact gU_ h1.s fun e=>hk ((yt_ (h2 a (by simp)) (h2 b (by simp))).2 e).1
 ·have h':¬ wtE u [b,a]=0:=by rw [<- wO_];exact h
  rw [JQ_ h,JQ_ h']
theorem ud_ {x a:AC} (hx:Zf_ x=true) (ha:Zf_ a=true) (h:kyA x < kyA a):zC_ x.1<=zC_ a.1:=by
 have:=(Xj_ hx ha).2 h
 unfold Jl_ at this
 rw [VD_] at this
 omega
theorem GO_ {a:AC} (h:a.1=0):kyA a=50:=by
 unfold kyA kyF
 rw [h];rfl
theorem US_:∀ {l:List AC},setM l->l.length<=(dlA l).length+1
 | [],_=>Nat.zero_le _
 | x :: r,h=>by
   obtain ⟨h1,h2⟩:=List.pairwise_cons.1 h.s
   have hr:setM r:=⟨fun y hy=>h.m y (List.mem_cons_of_mem _ hy),h2⟩
   by_cases h0:x.1=0
   ·cases r with
    | nil=>exact Nat.le_add_left _ _
    | cons y s=>
      have e1:=GO_ h0
      have e2:=h1 y (by simp)
      have e3:=Gr_ (h.m y (by simp))
      omega
   ·have:=US_ hr
    have e:dlA (x :: r)=x :: dlA r:=List.filter_cons_of_pos (by unfold Xl_;rw [decide_eq_false h0];rfl)
    rw [e,List.length_cons,List.length_cons];omega
structure PlnF (x p:List AC):Prop where
 a:p.length<=x.length
 b:x.length<=p.length+1
 r:∀ i,0 < i->i < p.length->zC_ (p.getD (i - 1) (Ty.dflt Y2)).1<=zC_ (p.getD i (Ty.dflt Y2)).1
 o:(x.any fun a=>decide (a.1=22))=true->∀ i,i < p.length->¬ (p.getD i (Ty.dflt Y2)).1=0
theorem hj_ {x:List AC} (h:setM x):PlnF x (kG_ x):=by
 have hp:kG_ x=if (x.any fun a=>decide (a.1=22))=true then dlA x else x:=by unfold kG_;rw [if_pos (vw_ h)]
 have hs:(kG_ x).Sublist x:=by
  rw [hp]
  split
  ·exact List.filter_sublist
  ·exact List.Sublist.refl _
 have hm:∀ y ∈ kG_ x,Zf_ y=true:=fun y hy=>h.m y (hs.subset hy)
 refine ⟨hs.length_le,?_,fun i h0 hi=>?_,fun ha i hi=>?_⟩
 ·rw [hp]
  split
  ·exact US_ h
  ·exact Nat.le_succ _
 ·have:=List.pairwise_iff_getElem.1 (List.Pairwise.sublist hs h.s) (i - 1) i (by omega) hi (by omega)
  refine ud_ (hm _ (zJ_ (by omega) _)) (hm _ (zJ_ hi _)) ?_
  rw [List.getD_eq_getElem?_getD,List.getD_eq_getElem?_getD,List.getElem?_eq_getElem hi,List.getElem?_eq_getElem (show i - 1 < (kG_ x).length by omega)]
  exact this
 ·have hmem:=zJ_ hi (Ty.dflt Y2)
  rw [hp,if_pos ha] at hmem
  have:=(List.mem_filter.1 hmem).2
  rw [hp,if_pos ha]
  unfold Xl_ at this
  simpa using this
theorem gc_ {x:List AC} {i:Nat} {d:AC} (h:i < x.length):((x.take (i+1)).any fun a=>decide (a.1=22))=((x.take i).any (fun a=>decide (a.1=22)) || decide ((x.getD i d).1=22)):=by
 rw [<- Kh_ (d:=d) h,List.any_append,List.any_cons,List.any_nil,Bool.or_false]
def jN_:IR:=
(sq (kr [0,1,2] [oD 4 (.boxv 1),
oD 5 (.boxv 2),
oD 6 (.mov cF)])
(sq (sq (kr [0,4,5] [oK 17 10 4,
oK 18 10 5,
oD 19 (.sliceOwn Y2 2 [(0,10,17),(10,10,18)]),
oM 20 0,
oD 21 (.append Y2 128 19 20),
oC 22 5 [21],
oD 23 (.un .not 22)])
(.cond 23
(sq (kr [] [oC 24 6 [],
oM 6 24])
.ret)
.skip))
(sq (kr [0,4,5] [oM 26 0,
oC 27 7 [(.c (.imm Y2 [])),26],
oM 25 27,
oX 28 25 0,
oX 29 25 1,
oM 7 28,
oM 8 29])
(sq (kr [4,5,7,8] [oM 31 7,
oK 32 10 4,
oK 33 10 5,
oD 34 (.sliceAll Y2 2 [(0,10,32),(10,10,33)]),
oC 35 7 [31,34],
oM 30 35,
oX 36 30 0,
oX 37 30 1,
oM 9 36,
oM 10 37])
(sq (kr [4,5,7,8,9,10] [oM 39 7,
oK 40 10 5,
oK 41 10 4,
oD 42 (.sliceAll Y2 2 [(0,10,40),(10,10,41)]),
oC 43 7 [39,42],
oM 38 43,
oX 44 38 0,
oX 45 38 1,
oM 11 44,
oM 12 45])
(sq (sq (kr [4,5,7,8,9,10,11,12] [oM 46 8,
oB 47 .neq 46 (cI 0)])
(.cond 47
(sq (kr [7] [oM 48 7,
oE 49 48,
oB 50 .eql 49 (cI 0),
oM 51 50,
oT 51 52 (.call false (.f 6) []),
oP 53 51 52 cF,
oM 6 53])
.ret)
.skip))
(sq (sq (kr [4,5,9,10,11,12] [oM 54 10,
oM 55 12,
oB 56 .neq 54 55,
oM 57 56,
oF 57 58 (.fieldAddr 0 4),
oF 57 59 (.load none 58),
oF 57 60 (.fieldAddr 0 5),
oF 57 61 (.load none 60),
oF 57 62 (.bin .neq 59 61),
oF 57 63 (.mov 62),
oT 63 64 (.mov 9),
oT 63 65 (.mov 11),
oT 63 66 (.call false (.f 8) [64,65]),
oT 63 67 (.un .not 66),
oF 57 68 (.pick 63 67 cF),
oP 69 57 cT 68])
(.cond 69
(sq (kr [] [oD 6 (.mov cF)])
.ret)
.skip))
(sq (kr [9] [oM 70 9,
oC 71 10 [70],
oM 13 71])
(sq (.reg [oD 14 (.mov cF)])
(sq (sq (.reg [oD 15 (.mov (cI 0))])
(.block 0
(.loop
(sq (sq (kr [9,13,14,15] [oM 72 15,
oM 73 9,
oE 74 73,
oB 75 .lss 72 74])
(.cond 75
.skip
(.exit 0)))
(sq (.block 1
(kr [9,13,14,15] [oM 78 14,
oM 79 78,
oF 79 80 (.mov 9),
oF 79 81 (.mov 15),
oF 79 82 (.indexSl 10 80 81),
oF 79 83 (.fieldAddr 0 82),
oF 79 84 (.load none 83),
oF 79 85 (.bin .eql 84 (cI 22)),
oP 86 79 cT 85,
oM 14 86]))
(kr [9,13,14,15] [oM 76 15,
oB 77 .add 76 (cI 1),
oM 15 77]))))))
(sq (sq (kr [9,13,14] [oD 16 (.mov (cI 0))])
(.block 2
(.loop
(sq (sq (kr [9,13,14,16] [oM 87 16,
oM 88 13,
oE 89 88,
oB 90 .lss 87 89])
(.cond 90
.skip
(.exit 2)))
(sq (.block 3
(sq (kd [9,13,14,16] [(oM 93 16,[]),
(oB 94 .gtr 93 (cI 0),[]),
(oM 95 94,[]),
(oT 95 96 (.mov 13),[]),
(oT 95 97 (.mov 16),[0]),
(oT 95 98 (.indexSl 10 96 97),[]),
(oT 95 99 (.load (some 10) 98),[]),
(oT 95 100 (.call false (.f 11) [99]),[]),
(oT 95 101 (.mov 13),[0,0,0,0,0]),
(oT 95 102 (.mov 16),[0,0,0,0,0,0]),
(oT 95 103 (.bin .sub 102 (cI 1)),[1,0,0,0,0,0]),
(oT 95 104 (.indexSl 10 101 103),[3,0,0,0,0]),
(oT 95 105 (.load (some 10) 104),[4,0,0,0,0]),
(oT 95 106 (.call false (.f 11) [105]),[]),
(oT 95 107 (.bin .lss 100 106),[]),
(oP 108 95 107 cF,[]),
(oM 109 108,[]),
(oF 109 110 (.mov 14),[]),
(oF 109 111 (.mov 110),[]),
(oT 111 112 (.mov 13),[]),
(oT 111 113 (.mov 16),[0]),
(oT 111 114 (.indexSl 10 112 113),[]),
(oT 111 115 (.fieldAddr 0 114),[]),
(oT 111 116 (.load none 115),[]),
(oT 111 117 (.bin .eql 116 (cI 0)),[]),
(oF 109 118 (.pick 111 117 cF),[]),
(oP 119 109 cT 118,[])])
(.cond 119
(sq (kr [] [oD 6 (.mov cF)])
.ret)
.skip)))
(kr [9,13,14,16] [oM 91 16,
oB 92 .add 91 (cI 1),
oM 16 92]))))))
(sq (kr [9,13] [oM 120 13,
oE 121 120,
oM 122 9,
oE 123 122,
oB 124 .leq 121 123,
oM 125 124,
oT 125 126 (.mov 13),
oT 125 127 (.len 126),
oT 125 128 (.mov 9),
oT 125 129 (.len 128),
oT 125 130 (.bin .sub 129 (cI 1)),
oT 125 131 (.bin .geq 127 130),
oP 132 125 131 cF,
oM 133 132,
oT 133 134 (.call false (.f 6) []),
oP 135 133 134 cF,
oM 6 135])
.ret))))))))))))
def jt_:List RD:=[.tmp 6 true none]
theorem jC_:zs_ Tryd.prog Tryd.f4 jN_ jt_=true:=by kernel_rfl
def qv_:List AV->List Obj->Option (Prop × AV)
 | [.imm ty0 l,.agg [.int .i64 q,.int .u64 a,.int .u64 b,.int .i64 c,.int .i64 f,.bool h,.int .u64 x,.imm (.int .u8) v,.imm (.int .u8) m,.imm (.int .u8) d],.agg [.int .i64 q',.int .u64 a',.int .u64 b',.int .i64 c',.int .i64 f',.bool h',.int .u64 x',.imm (.int .u8) v',.imm (.int .u8) m',.imm (.int .u8) d']],[]=>z8_ ty0 Y2 l fun l=>some (((l:List AC).length<=1099511627774,.bool true))
 | _,_=>none
theorem KK_:zg_ Tryd.prog 4 (RoF qv_).sum:=by
 refine zm_ Tryd.func4 jC_ (zc_ (s:=RoF Kt_) JU_ (zc_ (s:=RoF ks_) jp_ (zc_ (s:=RoF Zu_) qp_ (zc_ (s:=RoF Qj_) Q9_ (zc_ (s:=RoF qD_) kz_ (zc_ (s:=RoF ZP_) qQ_ (ze_ _))))))) fun args objs p v e=>?_
 unfold qv_ at e
 split at e
 ·rename_i ty0 l q a b c f h x v m d q' a' b' c' f' h' x' v' m' d'
  obtain rfl:=zy_ e
  replace e:=zz_ e
  cases e
  refine ⟨rfl,fun hw ho hp=>?_⟩
  change List Int at v
  change List Int at m
  change List Int at d
  change List Int at v'
  change List Int at m'
  change List Int at d'
  change List AC at l
  clear hw ho
  by_cases hf:xX_ (([(q,a,b,(c,f,h,x,v,m,()),d,()),(q',a',b',(c',f',h',x',v',m',()),d',())]:List AC)++l)=true
  ·obtain ⟨hok,hlen⟩:=wI_ hf
   rw [List.length_append] at hlen
   change 2+l.length<=80 at hlen
   have ol:okL l:=⟨fun o ho=>hok.a o (List.mem_append_right _ ho),by omega⟩
   have oab:okL ([(q,a,b,(c,f,h,x,v,m,()),d,()),(q',a',b',(c',f',h',x',v',m',()),d',())]:List AC):=⟨fun o ho=>hok.a o (List.mem_append_left _ ho),show 2<=1000000 by decide⟩
   have oba:okL ([(q',a',b',(c',f',h',x',v',m',()),d',()),(q,a,b,(c,f,h,x,v,m,()),d,())]:List AC):=⟨fun o ho=>oab.a o (by simp only [List.mem_cons,List.not_mem_nil,or_false] at ho ⊢;exact ho.symm),show 2<=1000000 by decide⟩
   have os:=Uh_ Qv_ ol (show 0+l.length<=1000000 by omega)
   have ls:=uR_ [] l
   rw [List.length_nil] at ls
   have hno:=fun he=>JQ_ (u:=[]) (l:=l) he
   have hE:wtE (wtL [] l) ([(q,a,b,(c,f,h,x,v,m,()),d,()),(q',a',b',(c',f',h',x',v',m',()),d',())]:List AC)=wtE (wtL [] l) ([(q',a',b',(c',f',h',x',v',m',()),d',()),(q,a,b,(c,f,h,x,v,m,()),d,())]:List AC):=wO_ _ _ _
   have hL:¬ q=q'->wtL (wtL [] l) ([(q,a,b,(c,f,h,x,v,m,()),d,()),(q',a',b',(c',f',h',x',v',m',()),d',())]:List AC)=wtL (wtL [] l) ([(q',a',b',(c',f',h',x',v',m',()),d',()),(q,a,b,(c,f,h,x,v,m,()),d,())]:List AC):=fun hk=>uS_ hk
   have hX:=Gv_ (wtL [] l) ([(q,a,b,(c,f,h,x,v,m,()),d,()),(q',a',b',(c',f',h',x',v',m',()),d',())]:List AC)
   have oX:=Uh_ os oab (show (wtL [] l).length+2<=1000000 by omega)
   have lX:=uR_ (wtL [] l) ([(q,a,b,(c,f,h,x,v,m,()),d,()),(q',a',b',(c',f',h',x',v',m',()),d',())]:List AC)
   change _<=(wtL [] l).length+2 at lX
   have p1:okL ([]:List AC)/\okL l/\([]:List AC).length<=100000/\l.length<=100000:=⟨Qv_,ol,Nat.zero_le _,by omega⟩
   have p2:okL (wtL [] l)/\okL ([(q,a,b,(c,f,h,x,v,m,()),d,()),(q',a',b',(c',f',h',x',v',m',()),d',())]:List AC)/\(wtL [] l).length<=100000/\2<=100000:=⟨os,oab,by omega,by decide⟩
   have p3:okL (wtL [] l)/\okL ([(q',a',b',(c',f',h',x',v',m',()),d',()),(q,a,b,(c,f,h,x,v,m,()),d,())]:List AC)/\(wtL [] l).length<=100000/\2<=100000:=⟨os,oba,by omega,by decide⟩
   have hP:=hj_ hX
   have hPa:=hP.a
   have hPb:=hP.b
   repeat'(intro t ht;first|(cases t<;>first|(cases ht;done)|(try simp only[zh_]at ht;try(exfalso;first|contradiction|omega)))|((first|refine zb_ ht ?_|refine ht ?_ ?_|refine ht.1 ?_ ?_|refine ht ?_)<;>clear ht))
   all_goals first
    | exact True.intro
    | exact p1
    | exact p2
    | exact p3
    | exact oX
    | (exfalso;exact ht (hL (by assumption)))
    | (exfalso;exact ht (by rw [hno (by assumption)];rfl))
    | omega
    | (simp only [List.length_cons,List.length_nil];omega)
    | (simp only [List.length_cons,List.length_nil];constructor<;>omega)
    | exact ⟨rfl,by first | rfl | exact True.intro⟩
    | (intro r h1 h2;clear h1;refine h2 ⟨[9,13,14,15],(Nat × Bool),(fun s=>s.1<=(wtL (wtL [] l) ([(q,a,b,(c,f,h,x,v,m,()),d,()),(q',a',b',(c',f',h',x',v',m',()),d',())]:List AC)).length/\s.2=((wtL (wtL [] l) ([(q,a,b,(c,f,h,x,v,m,()),d,()),(q',a',b',(c',f',h',x',v',m',()),d',())]:List AC)).take s.1).any (fun a=>decide (a.1=22))),fun s=>[.imm Y2 (wtL (wtL [] l) ([(q,a,b,(c,f,h,x,v,m,()),d,()),(q',a',b',(c',f',h',x',v',m',()),d',())]:List AC)),.imm Y2 (kG_ (wtL (wtL [] l) ([(q,a,b,(c,f,h,x,v,m,()),d,()),(q',a',b',(c',f',h',x',v',m',()),d',())]:List AC))),.bool s.2,.int .i64 s.1],fun _=>[],fun s=>(wtL (wtL [] l) ([(q,a,b,(c,f,h,x,v,m,()),d,()),(q',a',b',(c',f',h',x',v',m',()),d',())]:List AC)).length - s.1,⟨(0,false),⟨Nat.zero_le _,rfl⟩,rfl,rfl⟩,?_⟩;clear h2)
   all_goals
    rintro ⟨i,g⟩ ⟨hi,hg⟩
    dsimp only at hi hg
    have hst:=fun hh=>gc_ (x:=wtL (wtL [] l) ([(q,a,b,(c,f,h,x,v,m,()),d,()),(q',a',b',(c',f',h',x',v',m',()),d',())]:List AC)) (i:=i) (d:=(Ty.dflt Y2)) hh
    have hen:=fun hh:(wtL (wtL [] l) ([(q,a,b,(c,f,h,x,v,m,()),d,()),(q',a',b',(c',f',h',x',v',m',()),d',())]:List AC)).length<=i=>List.take_of_length_le hh
    rw [<- hg] at hst
    repeat'(intro t ht;first|(cases t<;>first|(cases ht;done)|(try simp only[zh_]at ht;try(exfalso;first|contradiction|omega)))|((first|refine zb_ ht ?_|refine ht ?_ ?_|refine ht.1 ?_ ?_|refine ht ?_)<;>clear ht))
    all_goals first
     | exact True.intro
     | omega
     | (simp only [zv_];omega)
     | (have hh:i < (wtL (wtL [] l) ([(q,a,b,(c,f,h,x,v,m,()),d,()),(q',a',b',(c',f',h',x',v',m',()),d',())]:List AC)).length:=by omega
        refine ⟨(i+1,_),⟨by dsimp only;omega,?_⟩,by dsimp only;omega,rfl,rfl⟩
        dsimp only;rw [hst hh,ht];rfl)
     | (intro r h1 h2;clear h1;refine h2 ⟨[9,13,14,16],Nat,(fun k=>k<=(kG_ (wtL (wtL [] l) ([(q,a,b,(c,f,h,x,v,m,()),d,()),(q',a',b',(c',f',h',x',v',m',()),d',())]:List AC))).length),fun k=>[.imm Y2 (wtL (wtL [] l) ([(q,a,b,(c,f,h,x,v,m,()),d,()),(q',a',b',(c',f',h',x',v',m',()),d',())]:List AC)),.imm Y2 (kG_ (wtL (wtL [] l) ([(q,a,b,(c,f,h,x,v,m,()),d,()),(q',a',b',(c',f',h',x',v',m',()),d',())]:List AC))),.bool g,.int .i64 k],fun _=>[],fun k=>(kG_ (wtL (wtL [] l) ([(q,a,b,(c,f,h,x,v,m,()),d,()),(q',a',b',(c',f',h',x',v',m',()),d',())]:List AC))).length - k,⟨0,Nat.zero_le _,rfl,rfl⟩,?_⟩;clear h2)
   all_goals
    rintro k hk
    have hgx:g=(wtL (wtL [] l) ([(q,a,b,(c,f,h,x,v,m,()),d,()),(q',a',b',(c',f',h',x',v',m',()),d',())]:List AC)).any (fun a=>decide (a.1=22)):=by rw [hg,hen (by omega)]
    have hr:=hP.r k
    have hq:=fun hh:g=true=>hP.o (hgx ▸ hh) k
    repeat'(intro t ht;first|(cases t<;>first|(cases ht;done)|(try simp only[zh_]at ht;try(exfalso;first|contradiction|omega)))|((first|refine zb_ ht ?_|refine ht ?_ ?_|refine ht.1 ?_ ?_|refine ht ?_)<;>clear ht))
    all_goals first
     | exact True.intro
     | omega
     | (simp only [zv_];omega)
     | (exfalso
        have h8:=hr (by omega) (by omega)
        rw [show ((k:Int) - 1).toNat=k - 1 by omega] at ht
        omega)
     | (exfalso;exact hq (by assumption) (by omega) (by assumption))
     | exact ⟨k+1,by dsimp only;omega,by dsimp only;omega,rfl,rfl⟩
     | exact ⟨rfl,by first | rfl | exact True.intro⟩
  ·repeat'(intro t ht;first|(cases t<;>first|(cases ht;done)|(try simp only[zh_]at ht;try(exfalso;first|contradiction|omega)))|((first|refine zb_ ht ?_|refine ht ?_ ?_|refine ht.1 ?_ ?_|refine ht ?_)<;>clear ht))
   all_goals first
    | exact True.intro
    | exact ⟨rfl,by first | rfl | exact True.intro⟩
    | (constructor<;>(try simp only [List.length_cons,List.length_nil])<;>omega)
 ·cases e
end Go.Eng
