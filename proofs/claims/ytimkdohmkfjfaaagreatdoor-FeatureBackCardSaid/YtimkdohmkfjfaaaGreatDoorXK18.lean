/- Parts of the proof: S7, S9, SB, S8, S4, SA, SC. No condition. -/
import Derived.Test.YtimkdohmkfjfaaaGreatDoorProg
import Derived.Test.YtimkdohmkfjfaaaGreatDoorXK11
import Derived.KernelRfl
import Derived.Test.YtimkdohmkfjfaaaGreatDoorXK17
namespace Go.Eng
open Go.Proofs
set_option linter.unusedVariables false
set_option linter.unusedSimpArgs false
set_option maxRecDepth 100000
set_option maxHeartbeats 1000000
theorem Ht_ {l u:List Int} {a b i j:Nat} (J:PartJ l u a b i j) (hij:i<=j) (h:u.getD i 0<=u.getD a 0):PartJ l u a b (i+1) j:=
 ⟨J.R,by have:=J.ai;omega,J.jb,by omega,fun k h1 h2=>by
  by_cases e:k=i
  ·rw [e];exact h
  ·exact J.lt k h1 (by omega),J.ge⟩
theorem Hu_ {l u:List Int} {a b i j:Nat} (J:PartJ l u a b i j) (hij:i<=j) (h:u.getD a 0<=u.getD j 0):PartJ l u a b i (j - 1):=
 ⟨J.R,J.ai,by have:=J.jb;omega,by have:=J.ai;omega,J.lt,fun k h1 h2=>by
  by_cases e:k=j
  ·rw [e];exact h
  ·exact J.ge k (by omega) h2⟩
theorem bo_ {l:List Int} {a b p:Nat} (hb:b<=l.length) (ha:a < b) (hp:a<=p/\p < b):PartJ l (swp l a p) a b (a+1) (b - 1):=
 ⟨Rear.swp (by omega) (by omega) hb,by omega,by omega,by omega,fun k h1 h2=>by omega,fun k h1 h2=>by omega⟩
theorem zdG_ {l u:List Int} {a b i j:Nat} {x:Int} (J:EqlJ l u a b i j x) (hij:i<=j) (h:u.getD i 0<=u.getD a 0):EqlJ l u a b (i+1) j x:=
 ⟨J.R,J.pv,by have:=J.ai;omega,J.jb,by omega,fun k h1 h2=>by
  by_cases e:k=i
  ·rw [e];exact h
  ·exact J.le k h1 (by omega),J.gt⟩
theorem zdH_ {l u:List Int} {a b i j:Nat} {x:Int} (J:EqlJ l u a b i j x) (hij:i<=j) (h:u.getD a 0 < u.getD j 0):EqlJ l u a b i (j - 1) x:=
 ⟨J.R,J.pv,J.ai,by have:=J.jb;omega,by have:=J.ai;omega,J.le,fun k h1 h2=>by
  by_cases e:k=j
  ·rw [e];exact h
  ·exact J.gt k (by omega) h2⟩
theorem zaP_ {l:List Int} {a b p:Nat} (hb:b<=l.length) (ha:a < b) (hp:a<=p/\p < b):EqlJ l (swp l a p) a b (a+1) (b - 1) (l.getD p 0):=
 ⟨Rear.swp (by omega) (by omega) hb,by
  rw [KK_ l (by omega) (by omega)]
  by_cases e:a=p
  ·rw [if_pos e,e]
  ·rw [if_neg e,if_pos rfl],by omega,by omega,by omega,fun k h1 h2=>by omega,fun k h1 h2=>by omega⟩
def Q2_:IR:=
(sq (kr [0,1,2] [oM 8 1,
oM 6 8])
(sq (.reg [oM 9 2,
oB 10 .sub 9 (cI 1),
oM 7 10])
(.block 0
(.loop
(sq (sq (kr [0,6,7] [oM 11 6,
oM 12 7,
oB 13 .lss 11 12])
(.cond 13
.skip
(.exit 0)))
(.block 1
(sq (kd [0,6,7] [(oM 14 0,[]),
(oM 15 6,[0]),
(oM 16 0,[0,0]),
(oM 17 7,[0,0,0]),
(oM 18 0,[0,0,0,0]),
(oM 19 7,[0,0,0,0,0]),
(oI 20 1 18 19,[2,0,0,0]),
(oL 21 20,[3,0,0,0]),
(oM 22 0,[0,0,0,0,0,0,0,0]),
(oM 23 6,[0,0,0,0,0,0,0,0,0]),
(oI 24 1 22 23,[2,0,0,0,0,0,0,0]),
(oL 25 24,[3,0,0,0,0,0,0,0]),
(oI 26 1 14 15,[8,0]),
(oS 1 26 21,[9,0]),
(oI 27 1 16 17,[]),
(oS 1 27 25,[])])
(sq (kr [0,6,7] [oM 28 6,
oB 29 .add 28 (cI 1),
oM 6 29])
(.reg [oM 30 7,
oB 31 .sub 30 (cI 1),
oM 7 31])))))))))
def Q0_:List RD:=[]
theorem Q1_:zo_ Tryz.prog Tryz.f183 Q2_ Q0_=true:=by kernel_rfl
def Ze_:List AV->List Obj->Option NdR
 | [.own 0,.int .i64 a,.int .i64 b],[.row false (.int .i64) l]=>some (⟨0<=a/\a < b/\b<=l.length/\l.length<=1000000,SrX,fun x=>Rear l a.toNat b.toNat x.r,fun _=>.tup [],fun x=>[.row false (.int .i64) x.r]⟩)
 | _,_=>none
theorem QD_:Ji_ Tryz.prog 183 (NdF Ze_):=by
 refine y8_ Tryz.func183 Q1_ (zf_ _) fun args objs r e=>?_
 unfold Ze_ at e
 split at e
 ·rename_i a b l
  cases e
  refine ⟨rfl,fun hw ho hp=>?_⟩
  change List Int at l
  clear hw ho
  change List Int at l
  obtain ⟨g1,g2,g3,g4⟩:=hp
  obtain ⟨a,rfl⟩:=Int.eq_ofNat_of_zero_le g1
  obtain ⟨b,rfl⟩:=Int.eq_ofNat_of_zero_le (show 0<=b by omega)
  have eb:(b:Int) - 1=((b - 1:Nat):Int):=by omega
  repeat'(intro t ht;first|(cases t<;>first|(cases ht;done)|(try simp only[zh_]at ht;try(exfalso;first|contradiction|omega)))|((first|refine za_ ht ?_|refine ht ?_ ?_|refine ht.1 ?_ ?_|refine ht ?_)<;>clear ht))
  all_goals first
   | exact True.intro
   | (simp only [zn_];omega)
   | (intro r h1 h2;clear h1;refine h2 ⟨[],[0,6,7],Nat × Nat × List Int,(fun s=>a<=s.1/\s.2.1 < b/\Rear l a b s.2.2),fun s=>[.own 0,.int .i64 s.1,.int .i64 s.2.1],fun s=>[.row false (.int .i64) s.2.2],fun s=>s.2.1,⟨(a,b - 1,l),⟨Nat.le_refl _,by dsimp only;omega,Rear.refl _ _ _⟩,(by rw [eb]),rfl⟩,?_⟩;clear h2)
  rintro ⟨i,j,u⟩ ⟨hi,hj,hR⟩
  dsimp only at hi hj hR
  have hl:=hR.len
  repeat'(intro t ht;first|(cases t<;>first|(cases ht;done)|(try simp only[zh_]at ht;try(exfalso;first|contradiction|omega)))|((first|refine za_ ht ?_|refine ht ?_ ?_|refine ht.1 ?_ ?_|refine ht ?_)<;>clear ht))
  all_goals first
   | exact True.intro
   | (dsimp only;omega)
   | (dsimp only;simp only [zn_];omega)
   | (dsimp only;rw [List.length_set];omega)
   | exact ⟨⟨u⟩,hR,rfl,rfl⟩
   | (refine ⟨(i+1,j - 1,swp u i j),⟨?_,?_,hR.trans (Rear.swp (by omega) (by omega) (by omega))⟩,?_,?_,rfl⟩
      ·show a<=i+1;omega
      ·show j - 1 < b;omega
      ·show j - 1 < j;omega
      ·show [AV.own 0,AV.int .i64 ((i:Int)+1),AV.int .i64 ((j:Int) - 1)]=[AV.own 0,AV.int .i64 ((i+1:Nat):Int),AV.int .i64 ((j - 1:Nat):Int)]
       rw [show ((j - 1:Nat):Int)=(j:Int) - 1 by omega];rfl)
 ·cases e
def kJ_:IR:=
(sq (kr [0,1,2,3] [oD 8 (.mov (cI 0)),
oD 9 (.mov cF)])
(sq (kd [0,1,2,3] [(oM 12 0,[]),
(oM 13 1,[0]),
(oM 14 0,[0,0]),
(oM 15 3,[0,0,0]),
(oM 16 0,[0,0,0,0]),
(oM 17 3,[0,0,0,0,0]),
(oI 18 1 16 17,[2,0,0,0]),
(oL 19 18,[3,0,0,0]),
(oM 20 0,[0,0,0,0,0,0,0,0]),
(oM 21 1,[0,0,0,0,0,0,0,0,0]),
(oI 22 1 20 21,[2,0,0,0,0,0,0,0]),
(oL 23 22,[3,0,0,0,0,0,0,0]),
(oI 24 1 12 13,[8,0]),
(oS 1 24 19,[9,0]),
(oI 25 1 14 15,[]),
(oS 1 25 23,[])])
(sq (kr [0,1,2] [oM 26 1,
oB 27 .add 26 (cI 1),
oM 28 2,
oB 29 .sub 28 (cI 1),
oM 10 27,
oM 11 29])
(sq (.block 0
(.loop
(sq (sq (kd [0,1,10,11] [(oM 30 10,[]),
(oM 31 11,[0]),
(oB 32 .leq 30 31,[]),
(oM 33 32,[]),
(oT 33 34 (.mov 0),[]),
(oT 33 35 (.mov 10),[0]),
(oT 33 36 (.indexSl 1 34 35),[]),
(oT 33 37 (.load none 36),[]),
(oT 33 38 (.mov 0),[0,0,0,0]),
(oT 33 39 (.mov 1),[0,0,0,0,0]),
(oT 33 40 (.indexSl 1 38 39),[2,0,0,0]),
(oT 33 41 (.load none 40),[3,0,0,0]),
(oT 33 42 (.call false (.f 185) [37,41]),[]),
(oP 43 33 42 cF,[])])
(.cond 43
.skip
(.exit 0)))
(.block 1
(kr [0,1,10,11] [oM 44 10,
oB 45 .add 44 (cI 1),
oM 10 45])))))
(sq (.block 2
(.loop
(sq (sq (kd [0,1,10,11] [(oM 46 10,[]),
(oM 47 11,[0]),
(oB 48 .leq 46 47,[]),
(oM 49 48,[]),
(oT 49 50 (.mov 0),[]),
(oT 49 51 (.mov 11),[0]),
(oT 49 52 (.indexSl 1 50 51),[]),
(oT 49 53 (.load none 52),[]),
(oT 49 54 (.mov 0),[0,0,0,0]),
(oT 49 55 (.mov 1),[0,0,0,0,0]),
(oT 49 56 (.indexSl 1 54 55),[2,0,0,0]),
(oT 49 57 (.load none 56),[3,0,0,0]),
(oT 49 58 (.call false (.f 185) [53,57]),[]),
(oT 49 59 (.un .not 58),[]),
(oP 60 49 59 cF,[])])
(.cond 60
.skip
(.exit 2)))
(.block 3
(kr [0,1,10,11] [oM 61 11,
oB 62 .sub 61 (cI 1),
oM 11 62])))))
(sq (sq (kr [0,1,10,11] [oM 63 10,
oM 64 11,
oB 65 .gtr 63 64])
(.cond 65
(sq (kd [0,1,11] [(oM 66 0,[]),
(oM 67 11,[0]),
(oM 68 0,[0,0]),
(oM 69 1,[0,0,0]),
(oM 70 0,[0,0,0,0]),
(oM 71 1,[0,0,0,0,0]),
(oI 72 1 70 71,[2,0,0,0]),
(oL 73 72,[3,0,0,0]),
(oM 74 0,[0,0,0,0,0,0,0,0]),
(oM 75 11,[0,0,0,0,0,0,0,0,0]),
(oI 76 1 74 75,[2,0,0,0,0,0,0,0]),
(oL 77 76,[3,0,0,0,0,0,0,0]),
(oI 78 1 66 67,[8,0]),
(oS 1 78 73,[9,0]),
(oI 79 1 68 69,[]),
(oS 1 79 77,[])])
(sq (kr [11] [oM 80 11,
oM 8 80,
oD 9 (.mov cT)])
.ret))
.skip))
(sq (kd [0,1,10,11] [(oM 81 0,[]),
(oM 82 10,[0]),
(oM 83 0,[0,0]),
(oM 84 11,[0,0,0]),
(oM 85 0,[0,0,0,0]),
(oM 86 11,[0,0,0,0,0]),
(oI 87 1 85 86,[2,0,0,0]),
(oL 88 87,[3,0,0,0]),
(oM 89 0,[0,0,0,0,0,0,0,0]),
(oM 90 10,[0,0,0,0,0,0,0,0,0]),
(oI 91 1 89 90,[2,0,0,0,0,0,0,0]),
(oL 92 91,[3,0,0,0,0,0,0,0]),
(oI 93 1 81 82,[8,0]),
(oS 1 93 88,[9,0]),
(oI 94 1 83 84,[]),
(oS 1 94 92,[])])
(sq (kr [0,1,10,11] [oM 95 10,
oB 96 .add 95 (cI 1),
oM 10 96])
(sq (.reg [oM 97 11,
oB 98 .sub 97 (cI 1),
oM 11 98])
(sq (.block 4
(.loop
(.block 5
(sq (.block 6
(.loop
(sq (sq (kd [0,1,10,11] [(oM 99 10,[]),
(oM 100 11,[0]),
(oB 101 .leq 99 100,[]),
(oM 102 101,[]),
(oT 102 103 (.mov 0),[]),
(oT 102 104 (.mov 10),[0]),
(oT 102 105 (.indexSl 1 103 104),[]),
(oT 102 106 (.load none 105),[]),
(oT 102 107 (.mov 0),[0,0,0,0]),
(oT 102 108 (.mov 1),[0,0,0,0,0]),
(oT 102 109 (.indexSl 1 107 108),[2,0,0,0]),
(oT 102 110 (.load none 109),[3,0,0,0]),
(oT 102 111 (.call false (.f 185) [106,110]),[]),
(oP 112 102 111 cF,[])])
(.cond 112
.skip
(.exit 6)))
(.block 7
(kr [0,1,10,11] [oM 113 10,
oB 114 .add 113 (cI 1),
oM 10 114])))))
(sq (.block 8
(.loop
(sq (sq (kd [0,1,10,11] [(oM 115 10,[]),
(oM 116 11,[0]),
(oB 117 .leq 115 116,[]),
(oM 118 117,[]),
(oT 118 119 (.mov 0),[]),
(oT 118 120 (.mov 11),[0]),
(oT 118 121 (.indexSl 1 119 120),[]),
(oT 118 122 (.load none 121),[]),
(oT 118 123 (.mov 0),[0,0,0,0]),
(oT 118 124 (.mov 1),[0,0,0,0,0]),
(oT 118 125 (.indexSl 1 123 124),[2,0,0,0]),
(oT 118 126 (.load none 125),[3,0,0,0]),
(oT 118 127 (.call false (.f 185) [122,126]),[]),
(oT 118 128 (.un .not 127),[]),
(oP 129 118 128 cF,[])])
(.cond 129
.skip
(.exit 8)))
(.block 9
(kr [0,1,10,11] [oM 130 11,
oB 131 .sub 130 (cI 1),
oM 11 131])))))
(sq (sq (kr [0,1,10,11] [oM 132 10,
oM 133 11,
oB 134 .gtr 132 133])
(.cond 134
(.exit 4)
.skip))
(sq (kd [0,1,10,11] [(oM 135 0,[]),
(oM 136 10,[0]),
(oM 137 0,[0,0]),
(oM 138 11,[0,0,0]),
(oM 139 0,[0,0,0,0]),
(oM 140 11,[0,0,0,0,0]),
(oI 141 1 139 140,[2,0,0,0]),
(oL 142 141,[3,0,0,0]),
(oM 143 0,[0,0,0,0,0,0,0,0]),
(oM 144 10,[0,0,0,0,0,0,0,0,0]),
(oI 145 1 143 144,[2,0,0,0,0,0,0,0]),
(oL 146 145,[3,0,0,0,0,0,0,0]),
(oI 147 1 135 136,[8,0]),
(oS 1 147 142,[9,0]),
(oI 148 1 137 138,[]),
(oS 1 148 146,[])])
(sq (kr [0,1,10,11] [oM 149 10,
oB 150 .add 149 (cI 1),
oM 10 150])
(.reg [oM 151 11,
oB 152 .sub 151 (cI 1),
oM 11 152])))))))))
(sq (kd [0,1,11] [(oM 153 0,[]),
(oM 154 11,[0]),
(oM 155 0,[0,0]),
(oM 156 1,[0,0,0]),
(oM 157 0,[0,0,0,0]),
(oM 158 1,[0,0,0,0,0]),
(oI 159 1 157 158,[2,0,0,0]),
(oL 160 159,[3,0,0,0]),
(oM 161 0,[0,0,0,0,0,0,0,0]),
(oM 162 11,[0,0,0,0,0,0,0,0,0]),
(oI 163 1 161 162,[2,0,0,0,0,0,0,0]),
(oL 164 163,[3,0,0,0,0,0,0,0]),
(oI 165 1 153 154,[8,0]),
(oS 1 165 160,[9,0]),
(oI 166 1 155 156,[]),
(oS 1 166 164,[])])
(sq (kr [11] [oM 167 11,
oM 8 167,
oD 9 (.mov cF)])
.ret))))))))))))
def kG_:List RD:=[.tmp 8 true none,.tmp 9 true none]
theorem kI_:zo_ Tryz.prog Tryz.f187 kJ_ kG_=true:=by kernel_rfl
def Zv_:List AV->List Obj->Option NdR
 | [.own 0,.int .i64 a,.int .i64 b,.int .i64 p],[.row false (.int .i64) l]=>some (⟨0<=a/\a < b/\b<=l.length/\l.length<=1000000/\a<=p/\p < b,SrF,fun x=>PartR l x.r a.toNat b.toNat x.m,fun x=>.tup [.int .i64 x.m,.bool x.f],fun x=>[.row false (.int .i64) x.r]⟩)
 | _,_=>none
theorem kr_:Ji_ Tryz.prog 187 (NdF Zv_):=by
 refine y8_ Tryz.func187 kI_ (zb_ (s:=RoF Zg_) Zq_ (zf_ _)) fun args objs r e=>?_
 unfold Zv_ at e
 split at e
 ·rename_i a b p l
  cases e
  refine ⟨rfl,fun hw ho hp=>?_⟩
  change List Int at l
  clear hw ho
  change List Int at l
  obtain ⟨g1,g2,g3,g4,g5,g6⟩:=hp
  obtain ⟨a,rfl⟩:=Int.eq_ofNat_of_zero_le g1
  obtain ⟨b,rfl⟩:=Int.eq_ofNat_of_zero_le (show 0<=b by omega)
  obtain ⟨p,rfl⟩:=Int.eq_ofNat_of_zero_le (show 0<=p by omega)
  have hb:b<=l.length:=by omega
  have eb:(b:Int) - 1=((b - 1:Nat):Int):=by omega
  have ea:(a:Int)+1=((a+1:Nat):Int):=by omega
  repeat'(intro t ht;first|(cases t<;>first|(cases ht;done)|(try simp only[zh_]at ht;try(exfalso;first|contradiction|omega)))|((first|refine za_ ht ?_|refine ht ?_ ?_|refine ht.1 ?_ ?_|refine ht ?_)<;>clear ht))
  all_goals first
   | exact True.intro
   | omega
   | (dsimp only;omega)
   | (simp only [zn_];omega)
   | (rw [List.length_set];omega)
   | (intro r h1 h2;clear h1;refine h2 ⟨[],[0,1,10,11],Nat,(fun s=>PartJ l (swp l a p) a b s (b - 1)),fun s=>[.own 0,.int .i64 a,.int .i64 s,.int .i64 ((b - 1:Nat):Int)],fun _=>[.row false (.int .i64) (swp l a p)],fun s=>b+1 - s,⟨a+1,bo_ hb (by omega) (by omega),(by rw [eb,ea]),rfl⟩,?_⟩;clear h2)
  have hw0:(swp l a p).length=l.length:=u3_ ..
  generalize swp l a p=w at*
  rintro k hK
  have hk1:=hK.ai
  have hk3:=hK.ij
  repeat'(intro t ht;first|(cases t<;>first|(cases ht;done)|(try simp only[zh_]at ht;try(exfalso;first|contradiction|omega)))|((first|refine za_ ht ?_|refine ht ?_ ?_|refine ht.1 ?_ ?_|refine ht ?_)<;>clear ht))
  all_goals (try simp only [Int.toNat_natCast] at*)
  all_goals first
   | exact True.intro
   | omega
   | (simp only [zn_];omega)
   | (refine ⟨k+1,Ht_ hK (by omega) (by omega),?_,?_,by first | rfl | exact True.intro⟩
      ·show b+1 - (k+1) < b+1 - k;omega
      ·first | rfl | exact True.intro)
   | (intro r h1 h2;clear h1;refine h2 ⟨[],[0,1,10,11],Nat,(fun s=>PartJ l w a b k s/\s<=b - 1/\(k<=s->w.getD a 0<=w.getD k 0)),fun s=>[.own 0,.int .i64 a,.int .i64 k,.int .i64 s],fun _=>[.row false (.int .i64) w],fun s=>s,⟨b - 1,⟨hK,Nat.le_refl _,fun hc=>by first | (exfalso;omega) | omega⟩,rfl,rfl⟩,?_⟩;clear h2)
  all_goals rintro s ⟨hM,hs1,hs2⟩
  all_goals have hm1:=hM.ij
  all_goals have es:(s:Int) - 1=((s - 1:Nat):Int)\/s=0:=by omega
  all_goals repeat'(intro t ht;first|(cases t<;>first|(cases ht;done)|(try simp only[zh_]at ht;try(exfalso;first|contradiction|omega)))|((first|refine za_ ht ?_|refine ht ?_ ?_|refine ht.1 ?_ ?_|refine ht ?_)<;>clear ht))
  all_goals (try simp only [Int.toNat_natCast] at*)
  all_goals first
   | exact True.intro
   | omega
   | (simp only [zn_];omega)
   | (rw [List.length_set];omega)
   | (have hks:¬ k<=s:=by omega
      have hE:=gG_ hb hM hks
      first
       | exact ⟨⟨swp w s a,s,true⟩,hE,rfl,rfl⟩
       | exact ⟨⟨swp w s a,s,true⟩,hE,rfl,True.intro⟩)
   | (refine ⟨s - 1,⟨Hu_ hM (by omega) (by omega),by omega,fun hc=>hs2 (by omega)⟩,?_,?_,by first | rfl | exact True.intro⟩
      ·show s - 1 < s;omega
      ·show [AV.own 0,AV.int .i64 a,AV.int .i64 k,AV.int .i64 ((s:Int) - 1)]=[AV.own 0,AV.int .i64 a,AV.int .i64 k,AV.int .i64 ((s - 1:Nat):Int)]
       rw [es.resolve_right (by omega)])
   | (have hks:=hs2 (by omega)
      have hne:k ≠ s:=fun e=>by subst e;omega
      have hst:=uo_ hb hM (by omega) hks (by omega) (by omega)
      (intro r h1 h2;clear h1;refine h2 ⟨[],[0,1,10,11],Nat × Nat × List Int,(fun z=>PartJ l z.2.2 a b z.1 z.2.1),fun z=>[.own 0,.int .i64 a,.int .i64 z.1,.int .i64 z.2.1],fun z=>[.row false (.int .i64) z.2.2],fun z=>b+1+z.2.1 - z.1,⟨(k+1,s - 1,swp w k s),hst,(by rw [es.resolve_right (by omega)];rfl),rfl⟩,?_⟩;clear h2))
  all_goals (clear hK hk1 hk3 hM hs1 hs2 hm1 es)
  all_goals rintro ⟨i,j,u⟩ hJ
  all_goals dsimp only at hJ
  all_goals repeat'(intro t ht;first|(cases t<;>first|(cases ht;done)|(try simp only[zh_]at ht;try(exfalso;first|contradiction|omega)))|((first|refine za_ ht ?_|refine ht ?_ ?_|refine ht.1 ?_ ?_|refine ht ?_)<;>clear ht))
  all_goals first
   | exact True.intro
   | (intro r h1 h2;clear h1;refine h2 ⟨[],[0,1,10,11],Nat,(fun s=>PartJ l u a b s j/\i<=s),fun s=>[.own 0,.int .i64 a,.int .i64 s,.int .i64 j],fun _=>[.row false (.int .i64) u],fun s=>b+1 - s,⟨i,⟨hJ,Nat.le_refl _⟩,rfl,rfl⟩,?_⟩;clear h2)
  all_goals rintro c ⟨hK,hik⟩
  all_goals have hl:=hK.R.len
  all_goals have hk1:=hK.ai
  all_goals have hk2:=hK.jb
  all_goals have hk3:=hK.ij
  all_goals repeat'(intro t ht;first|(cases t<;>first|(cases ht;done)|(try simp only[zh_]at ht;try(exfalso;first|contradiction|omega)))|((first|refine za_ ht ?_|refine ht ?_ ?_|refine ht.1 ?_ ?_|refine ht ?_)<;>clear ht))
  all_goals (try simp only [Int.toNat_natCast] at*)
  all_goals first
   | exact True.intro
   | omega
   | (simp only [zn_];omega)
   | (refine ⟨c+1,⟨Ht_ hK (by omega) (by omega),by omega⟩,?_,?_,by first | rfl | exact True.intro⟩
      ·show b+1 - (c+1) < b+1 - c;omega
      ·first | rfl | exact True.intro)
   | (intro r h1 h2;clear h1;refine h2 ⟨[],[0,1,10,11],Nat,(fun s=>PartJ l u a b c s/\s<=j/\(c<=s->u.getD a 0<=u.getD c 0)),fun s=>[.own 0,.int .i64 a,.int .i64 c,.int .i64 s],fun _=>[.row false (.int .i64) u],fun s=>s,⟨j,⟨hK,Nat.le_refl _,fun hc=>by first | (exfalso;omega) | omega⟩,rfl,rfl⟩,?_⟩;clear h2)
  all_goals rintro d ⟨hM,hs1,hs2⟩
  all_goals have hm1:=hM.ij
  all_goals have es:(d:Int) - 1=((d - 1:Nat):Int)\/d=0:=by omega
  all_goals repeat'(intro t ht;first|(cases t<;>first|(cases ht;done)|(try simp only[zh_]at ht;try(exfalso;first|contradiction|omega)))|((first|refine za_ ht ?_|refine ht ?_ ?_|refine ht.1 ?_ ?_|refine ht ?_)<;>clear ht))
  all_goals (try simp only [Int.toNat_natCast] at*)
  all_goals first
   | exact True.intro
   | omega
   | (simp only [zn_];omega)
   | (rw [List.length_set];omega)
   | (have hks:¬ c<=d:=by omega
      have hE:=gG_ hb hM hks
      first
       | exact ⟨⟨swp u d a,d,false⟩,hE,rfl,rfl⟩
       | exact ⟨⟨swp u d a,d,false⟩,hE,rfl,True.intro⟩)
   | (refine ⟨d - 1,⟨Hu_ hM (by omega) (by omega),by omega,fun hc=>hs2 (by omega)⟩,?_,?_,by first | rfl | exact True.intro⟩
      ·show d - 1 < d;omega
      ·show [AV.own 0,AV.int .i64 a,AV.int .i64 c,AV.int .i64 ((d:Int) - 1)]=[AV.own 0,AV.int .i64 a,AV.int .i64 c,AV.int .i64 ((d - 1:Nat):Int)]
       rw [es.resolve_right (by omega)])
   | (have hks:=hs2 (by omega)
      have hne:c ≠ d:=fun e=>by subst e;omega
      refine ⟨(c+1,d - 1,swp u c d),uo_ hb hM (by omega) hks (by omega) (by omega),?_,?_,by first | rfl | exact True.intro⟩
      ·show b+1+(d - 1) - (c+1) < b+1+j - i;omega
      ·show [AV.own 0,AV.int .i64 a,AV.int .i64 ((c:Int)+1),AV.int .i64 ((d:Int) - 1)]=[AV.own 0,AV.int .i64 a,AV.int .i64 ((c+1:Nat):Int),AV.int .i64 ((d - 1:Nat):Int)]
       rw [es.resolve_right (by omega)];rfl)
 ·cases e
theorem Kw_.swp {u:List Int} {a i p q:Nat} (h:Kw_ u a i) (hp:i<=p) (hq:i<=q) (lp:p < u.length) (lq:q < u.length):Kw_ (swp u p q) a i:=fun x y h1 h2 h3=>by
 have g:=KK_ u lp lq
 rw [g x,g y,if_neg (by omega),if_neg (by omega),if_neg (by omega),if_neg (by omega)]
 exact h x y h1 h2 h3
theorem Kw_.up {u:List Int} {a i:Nat} (h:Kw_ u a i) (ha:a < i) (hlt:¬ u.getD i 0 < u.getD (i - 1) 0):Kw_ u a (i+1):=fun x y h1 h2 h3=>by
 by_cases e:y=i
 ·subst e
  by_cases e2:x=y - 1
  ·rw [e2];omega
  ·have:=h x (y - 1) h1 (by omega) (by omega);omega
 ·exact h x y h1 h2 (by omega)
theorem Kw_.one (u:List Int) (a:Nat):Kw_ u a (a+1):=fun x y h1 h2 h3=>by omega
theorem Km_.at {l r:List Int} {a b k:Nat} (h:Km_ l a b) (hR:Rear l a b r) (hab:a<=b) (hb:b<=l.length) (h0:0 < a) (h1:a<=k) (h2:k < b):¬ r.getD k 0 < r.getD (a - 1) 0:=by
 have:=h.rear hR hab hb h0 k h1 h2;omega
structure PisJ (l u:List Int) (a b i:Nat):Prop where
 R:Rear l a b u
 ai:a < i
 ib:i<=b
 s:Kw_ u a i
theorem zdb_ {l u:List Int} {a b i:Nat} (J:PisJ l u a b i) (hi:i < b) (hlt:¬ u.getD i 0 < u.getD (i - 1) 0):PisJ l u a b (i+1):=
 ⟨J.R,by have:=J.ai;omega,by omega,J.s.up J.ai hlt⟩
theorem BG_ {l u:List Int} {a b i:Nat} (hb:b<=l.length) (J:PisJ l u a b i) (hi:i < b):Rear l a b (swp u i (i - 1))/\Kw_ (swp u i (i - 1)) a (i - 1):=by
 have hl:=J.R.len
 have h1:=J.ai
 exact ⟨J.R.trans (Rear.swp (by omega) (by omega) (by omega)),(J.s.mono (Nat.sub_le i 1)).swp (by omega) (by omega) (by omega) (by omega)⟩
theorem Hs_ {l u:List Int} {a b i:Nat} (hR:Rear l a b u) (h1:a < i) (h2:i < 2+a) (hb:i<=b):PisJ l u a b i:=
 ⟨hR,h1,hb,by rw [show i=a+1 by omega];exact Kw_.one u a⟩
theorem un_ {l u:List Int} {a b i j:Nat} (hb:b<=l.length) (J:PisJ l u a b i) (h1:i < j) (h2:j < b):PisJ l (swp u j (j - 1)) a b i:=by
 have hl:=J.R.len
 have h3:=J.ai
 exact ⟨J.R.trans (Rear.swp (by omega) (by omega) (by omega)),h3,J.ib,J.s.swp (by omega) (by omega) (by omega) (by omega)⟩
def qs_:IR:=
(sq (kr [0,1,2] [oD 6 (.mov cF)])
(sq (.reg [oM 11 1,
oB 12 .add 11 (cI 1),
oM 7 12])
(sq (sq (.reg [oD 8 (.mov (cI 0))])
(.block 0
(.loop
(sq (sq (kr [0,1,2,7,8] [oM 13 8,
oB 14 .lss 13 (cI 5)])
(.cond 14
.skip
(.exit 0)))
(sq (.block 1
(sq (.block 2
(.loop
(sq (sq (kd [0,1,2,7,8] [(oM 17 7,[]),
(oM 18 2,[0]),
(oB 19 .lss 17 18,[]),
(oM 20 19,[]),
(oT 20 21 (.mov 0),[]),
(oT 20 22 (.mov 7),[0]),
(oT 20 23 (.indexSl 1 21 22),[]),
(oT 20 24 (.load none 23),[]),
(oT 20 25 (.mov 0),[0,0,0,0]),
(oT 20 26 (.mov 7),[0,0,0,0,0]),
(oT 20 27 (.bin .sub 26 (cI 1)),[1,0,0,0,0]),
(oT 20 28 (.indexSl 1 25 27),[3,0,0,0]),
(oT 20 29 (.load none 28),[4,0,0,0]),
(oT 20 30 (.call false (.f 185) [24,29]),[]),
(oT 20 31 (.un .not 30),[]),
(oP 32 20 31 cF,[])])
(.cond 32
.skip
(.exit 2)))
(.block 3
(kr [0,1,2,7,8] [oM 33 7,
oB 34 .add 33 (cI 1),
oM 7 34])))))
(sq (sq (kr [0,1,2,7,8] [oM 35 7,
oM 36 2,
oB 37 .eql 35 36])
(.cond 37
(sq (.reg [oD 6 (.mov cT)])
.ret)
.skip))
(sq (sq (.reg [oM 38 2,
oM 39 1,
oB 40 .sub 38 39,
oB 41 .lss 40 (cI 50)])
(.cond 41
(sq (kr [] [oD 6 (.mov cF)])
.ret)
.skip))
(sq (kd [0,1,2,7,8] [(oM 42 0,[]),
(oM 43 7,[0]),
(oM 44 0,[0,0]),
(oM 45 7,[0,0,0]),
(oB 46 .sub 45 (cI 1),[1,0,0]),
(oM 47 0,[0,0,0,0,0]),
(oM 48 7,[0,0,0,0,0,0]),
(oB 49 .sub 48 (cI 1),[1,0,0,0,0,0]),
(oI 50 1 47 49,[3,0,0,0,0]),
(oL 51 50,[4,0,0,0,0]),
(oM 52 0,[0,0,0,0,0,0,0,0,0,0]),
(oM 53 7,[0,0,0,0,0,0,0,0,0,0,0]),
(oI 54 1 52 53,[2,0,0,0,0,0,0,0,0,0]),
(oL 55 54,[3,0,0,0,0,0,0,0,0,0]),
(oI 56 1 42 43,[9,0,0]),
(oS 1 56 51,[10,0,0]),
(oI 57 1 44 46,[]),
(oS 1 57 55,[])])
(sq (sq (kr [0,1,2,7,8] [oM 58 7,
oM 59 1,
oB 60 .sub 58 59,
oB 61 .geq 60 (cI 2)])
(.cond 61
(sq (.reg [oM 62 7,
oB 63 .sub 62 (cI 1),
oM 9 63])
(.block 4
(.loop
(sq (sq (kr [0,1,2,7,8,9] [oM 64 9,
oB 65 .geq 64 (cI 1)])
(.cond 65
.skip
(.exit 4)))
(sq (.block 5
(sq (sq (kd [0,1,2,7,8,9] [(oM 68 0,[]),
(oM 69 9,[0]),
(oI 70 1 68 69,[]),
(oL 71 70,[]),
(oM 72 0,[0,0,0,0]),
(oM 73 9,[0,0,0,0,0]),
(oB 74 .sub 73 (cI 1),[1,0,0,0,0]),
(oI 75 1 72 74,[3,0,0,0]),
(oL 76 75,[4,0,0,0]),
(oC 77 185 [71,76],[]),
(oD 78 (.un .not 77),[])])
(.cond 78
(.exit 4)
.skip))
(kd [0,1,2,7,8,9] [(oM 79 0,[]),
(oM 80 9,[0]),
(oM 81 0,[0,0]),
(oM 82 9,[0,0,0]),
(oB 83 .sub 82 (cI 1),[1,0,0]),
(oM 84 0,[0,0,0,0,0]),
(oM 85 9,[0,0,0,0,0,0]),
(oB 86 .sub 85 (cI 1),[1,0,0,0,0,0]),
(oI 87 1 84 86,[3,0,0,0,0]),
(oL 88 87,[4,0,0,0,0]),
(oM 89 0,[0,0,0,0,0,0,0,0,0,0]),
(oM 90 9,[0,0,0,0,0,0,0,0,0,0,0]),
(oI 91 1 89 90,[2,0,0,0,0,0,0,0,0,0]),
(oL 92 91,[3,0,0,0,0,0,0,0,0,0]),
(oI 93 1 79 80,[9,0,0]),
(oS 1 93 88,[10,0,0]),
(oI 94 1 81 83,[]),
(oS 1 94 92,[])])))
(kr [0,1,2,7,8,9] [oM 66 9,
oB 67 .sub 66 (cI 1),
oM 9 67]))))))
.skip))
(sq (kr [0,1,2,7,8] [oM 95 2,
oM 96 7,
oB 97 .sub 95 96,
oB 98 .geq 97 (cI 2)])
(.cond 98
(sq (.reg [oM 99 7,
oB 100 .add 99 (cI 1),
oM 10 100])
(.block 6
(.loop
(sq (sq (kr [0,1,2,7,8,10] [oM 101 10,
oM 102 2,
oB 103 .lss 101 102])
(.cond 103
.skip
(.exit 6)))
(sq (.block 7
(sq (sq (kd [0,1,2,7,8,10] [(oM 106 0,[]),
(oM 107 10,[0]),
(oI 108 1 106 107,[]),
(oL 109 108,[]),
(oM 110 0,[0,0,0,0]),
(oM 111 10,[0,0,0,0,0]),
(oB 112 .sub 111 (cI 1),[1,0,0,0,0]),
(oI 113 1 110 112,[3,0,0,0]),
(oL 114 113,[4,0,0,0]),
(oC 115 185 [109,114],[]),
(oD 116 (.un .not 115),[])])
(.cond 116
(.exit 6)
.skip))
(kd [0,1,2,7,8,10] [(oM 117 0,[]),
(oM 118 10,[0]),
(oM 119 0,[0,0]),
(oM 120 10,[0,0,0]),
(oB 121 .sub 120 (cI 1),[1,0,0]),
(oM 122 0,[0,0,0,0,0]),
(oM 123 10,[0,0,0,0,0,0]),
(oB 124 .sub 123 (cI 1),[1,0,0,0,0,0]),
(oI 125 1 122 124,[3,0,0,0,0]),
(oL 126 125,[4,0,0,0,0]),
(oM 127 0,[0,0,0,0,0,0,0,0,0,0]),
(oM 128 10,[0,0,0,0,0,0,0,0,0,0,0]),
(oI 129 1 127 128,[2,0,0,0,0,0,0,0,0,0]),
(oL 130 129,[3,0,0,0,0,0,0,0,0,0]),
(oI 131 1 117 118,[9,0,0]),
(oS 1 131 126,[10,0,0]),
(oI 132 1 119 121,[]),
(oS 1 132 130,[])])))
(kr [0,1,2,7,8,10] [oM 104 10,
oB 105 .add 104 (cI 1),
oM 10 105]))))))
.skip))))))))
(kr [0,1,2,7,8] [oM 15 8,
oB 16 .add 15 (cI 1),
oM 8 16]))))))
(sq (kr [] [oD 6 (.mov cF)])
.ret))))
def qq_:List RD:=[.tmp 6 true none]
theorem qr_:zo_ Tryz.prog Tryz.f184 qs_ qq_=true:=by kernel_rfl
def zN_:List AV->List Obj->Option NdR
 | [.own 0,.int .i64 a,.int .i64 b],[.row false (.int .i64) l]=>some (⟨0<=a/\a < b/\b<=l.length/\l.length<=60000/\Km_ l a.toNat b.toNat,SrF,fun x=>Rear l a.toNat b.toNat x.r/\(x.f=true->Kw_ x.r a.toNat b.toNat),fun x=>.bool x.f,fun x=>[.row false (.int .i64) x.r]⟩)
 | _,_=>none
theorem qj_:Ji_ Tryz.prog 184 (NdF zN_):=by
 refine y8_ Tryz.func184 qr_ (zb_ (s:=RoF Zg_) Zq_ (zf_ _)) fun args objs r e=>?_
 unfold zN_ at e
 split at e
 ·rename_i a b l
  cases e
  refine ⟨rfl,fun hw ho hp=>?_⟩
  change List Int at l
  clear hw ho
  change List Int at l
  obtain ⟨g1,g2,g3,g4,g5⟩:=hp
  obtain ⟨a,rfl⟩:=Int.eq_ofNat_of_zero_le g1
  obtain ⟨b,rfl⟩:=Int.eq_ofNat_of_zero_le (show 0<=b by omega)
  simp only [Int.toNat_natCast] at g5
  have hb:b<=l.length:=by omega
  have hab:a<=b:=by omega
  have ea:(a:Int)+1=((a+1:Nat):Int):=by omega
  repeat'(intro t ht;first|(cases t<;>first|(cases ht;done)|(try simp only[zh_]at ht;try(exfalso;first|contradiction|omega)))|((first|refine za_ ht ?_|refine ht ?_ ?_|refine ht.1 ?_ ?_|refine ht ?_)<;>clear ht))
  all_goals first
   | exact True.intro
   | omega
   | (simp only [zn_];omega)
   | (intro r h1 h2;clear h1;refine h2 ⟨[],[0,1,2,7,8],Nat × Nat × List Int,(fun s=>PisJ l s.2.2 a b s.1/\s.2.1<=5),fun s=>[.own 0,.int .i64 a,.int .i64 b,.int .i64 s.1,.int .i64 s.2.1],fun s=>[.row false (.int .i64) s.2.2],fun s=>6 - s.2.1,⟨(a+1,0,l),⟨⟨Rear.refl _ _ _,Nat.lt_succ_self a,by (try dsimp only);omega,Kw_.one l a⟩,by (try dsimp only);omega⟩,(by rw [ea];try rfl),rfl⟩,?_⟩;clear h2)
  rintro ⟨i0,n,u⟩ ⟨hJ,hn⟩
  dsimp only at hJ hn
  repeat'(intro t ht;first|(cases t<;>first|(cases ht;done)|(try simp only[zh_]at ht;try(exfalso;first|contradiction|omega)))|((first|refine za_ ht ?_|refine ht ?_ ?_|refine ht.1 ?_ ?_|refine ht ?_)<;>clear ht))
  all_goals first
   | exact True.intro
   | exact ⟨⟨u,0,false⟩,⟨hJ.R,fun c=>by cases c⟩,rfl,by first | rfl | exact True.intro⟩
   | (intro r h1 h2;clear h1;refine h2 ⟨[],[0,1,2,7,8],Nat,(fun s=>PisJ l u a b s),fun s=>[.own 0,.int .i64 a,.int .i64 b,.int .i64 s,.int .i64 n],fun _=>[.row false (.int .i64) u],fun s=>b+1 - s,⟨i0,hJ,rfl,rfl⟩,?_⟩;clear h2)
  rintro i hK
  have hl:=hK.R.len
  have k1:=hK.ai
  have k2:=hK.ib
  have e1:((i:Int) - 1).toNat=i - 1:=by omega
  have ei:(i:Int) - 1=((i - 1:Nat):Int):=by omega
  have hPS:=BG_ hb hK
  repeat'(intro t ht;first|(cases t<;>first|(cases ht;done)|(try simp only[zh_]at ht;try(exfalso;first|contradiction|omega)))|((first|refine za_ ht ?_|refine ht ?_ ?_|refine ht.1 ?_ ?_|refine ht ?_)<;>clear ht))
  all_goals first
   | exact True.intro
   | (intro r h1 h2;clear h1;refine h2 ⟨[],[0,1,2,7,8,9],Nat × List Int,(fun z=>InsJ l z.2 a b (i - 1) z.1),fun z=>[.own 0,.int .i64 a,.int .i64 b,.int .i64 i,.int .i64 n,.int .i64 z.1],fun z=>[.row false (.int .i64) z.2],fun z=>z.1,⟨(i - 1,swp u i (i - 1)),uw_ (hPS (by omega)).1 (hPS (by omega)).2 (by omega) (by omega),(by rw [ei];try rfl),(by rw [e1];rfl)⟩,?_⟩;clear h2)
   | (intro r h1 h2;clear h1;refine h2 ⟨[],[0,1,2,7,8,10],Nat × List Int,(fun z=>PisJ l z.2 a b i/\i+1<=z.1),fun z=>[.own 0,.int .i64 a,.int .i64 b,.int .i64 i,.int .i64 n,.int .i64 z.1],fun z=>[.row false (.int .i64) z.2],fun z=>b+1 - z.1,⟨(i+1,swp u i (i - 1)),⟨Hs_ (hPS (by omega)).1 k1 (by omega) k2,Nat.le_refl _⟩,rfl,(by rw [e1];rfl)⟩,?_⟩;clear h2)
   | ((try simp only [Int.toNat_natCast,e1] at ht ⊢)
      first
       | omega
       | (constructor<;>omega)
       | (simp only [zn_];omega)
       | (rw [List.length_set];omega)
       | (simp only [List.length_set];constructor<;>omega)
       | exact ⟨⟨u,0,true⟩,⟨hK.R,fun _=>by rw [show b=i by omega];exact hK.s⟩,rfl,by first | rfl | exact True.intro⟩
       | exact ⟨⟨u,0,false⟩,⟨hK.R,fun c=>by cases c⟩,rfl,by first | rfl | exact True.intro⟩
       | (refine ⟨i+1,zdb_ hK (by omega) (by assumption),?_,rfl,by first | rfl | exact True.intro⟩
          (try dsimp only);omega)
       | (refine ⟨(i,n+1,swp u i (i - 1)),⟨Hs_ (hPS (by omega)).1 k1 (by omega) k2,by (try dsimp only);omega⟩,?_,rfl,by first | rfl | exact True.intro⟩
          (try dsimp only);omega))
  ·rintro ⟨j,q⟩ ⟨hM,hj⟩
   dsimp only at hM hj
   have hq:=hM.R.len
   have f1:((j:Int) - 1).toNat=j - 1:=by omega
   repeat'(intro t ht;first|(cases t<;>first|(cases ht;done)|(try simp only[zh_]at ht;try(exfalso;first|contradiction|omega)))|((first|refine za_ ht ?_|refine ht ?_ ?_|refine ht.1 ?_ ?_|refine ht ?_)<;>clear ht))
   all_goals first
    | exact True.intro
    | ((try simp only [Int.toNat_natCast,f1] at ht ⊢)
       first
        | omega
        | (constructor<;>omega)
        | (simp only [zn_];omega)
        | (rw [List.length_set];omega)
        | (simp only [List.length_set];constructor<;>omega)
        | (refine ⟨(j+1,swp q j (j - 1)),⟨un_ hb hM (by omega) (by omega),by (try dsimp only);omega⟩,?_,rfl,by first | rfl | exact True.intro⟩
           (try dsimp only);omega)
        | (refine ⟨(i,n+1,q),⟨hM,by (try dsimp only);omega⟩,?_,rfl,by first | rfl | exact True.intro⟩
           (try dsimp only);omega))
  ·rintro ⟨j,q⟩ hM
   dsimp only at hM
   have hq:=hM.R.len
   have m1:=hM.aj
   have m2:=hM.ji
   have f1:((j:Int) - 1).toNat=j - 1:=by omega
   have ei1:i - 1+1=i:=by omega
   repeat'(intro t ht;first|(cases t<;>first|(cases ht;done)|(try simp only[zh_]at ht;try(exfalso;first|contradiction|omega)))|((first|refine za_ ht ?_|refine ht ?_ ?_|refine ht.1 ?_ ?_|refine ht ?_)<;>clear ht))
   all_goals first
    | exact True.intro
    | (have hs:=v0_ hM (by first | (right;first | assumption | (rw [<- f1];assumption)) | (left;omega))
       rw [ei1] at hs
       (intro r h1 h2;clear h1;refine h2 ⟨[],[0,1,2,7,8,10],Nat × List Int,(fun z=>PisJ l z.2 a b i/\i+1<=z.1),fun z=>[.own 0,.int .i64 a,.int .i64 b,.int .i64 i,.int .i64 n,.int .i64 z.1],fun z=>[.row false (.int .i64) z.2],fun z=>b+1 - z.1,⟨(i+1,q),⟨⟨hM.R,k1,k2,hs⟩,Nat.le_refl _⟩,rfl,rfl⟩,?_⟩;clear h2))
    | ((try simp only [Int.toNat_natCast,f1] at ht ⊢)
       first
        | omega
        | (constructor<;>omega)
        | (simp only [zn_];omega)
        | (rw [List.length_set];omega)
        | (simp only [List.length_set];constructor<;>omega)
        | (have h9:=ht
           have hja:a < j:=by
            rcases Nat.lt_or_ge a j with h | h
            ·exact h
            ·have e9:j=a:=by omega
             have z9:=g5.at hM.R hab hb (k:=a) (by omega) (Nat.le_refl _) (by omega)
             rw [e9] at h9
             exact absurd h9 z9
           refine ⟨(j - 1,swp q j (j - 1)),Gf_ hb hM hja ht,?_,?_,by first | rfl | exact True.intro⟩
           ·(try dsimp only);omega
           ·show [AV.own 0,AV.int .i64 a,AV.int .i64 b,AV.int .i64 i,AV.int .i64 n,AV.int .i64 ((j:Int) - 1)]=[AV.own 0,AV.int .i64 a,AV.int .i64 b,AV.int .i64 i,AV.int .i64 n,AV.int .i64 ((j - 1:Nat):Int)]
            rw [show ((j - 1:Nat):Int)=(j:Int) - 1 by omega])
        | (have hs:=v0_ hM (by first | (right;first | assumption | (rw [<- f1];assumption)) | (left;omega))
           rw [ei1] at hs
           refine ⟨(i,n+1,q),⟨⟨hM.R,k1,k2,hs⟩,by (try dsimp only);omega⟩,?_,rfl,by first | rfl | exact True.intro⟩
           (try dsimp only);omega))
   all_goals clear hq m1 m2 f1 hM
   all_goals rintro ⟨j,q⟩ ⟨hM,hj⟩
   all_goals dsimp only at hM hj
   all_goals have hq:=hM.R.len
   all_goals have f1:((j:Int) - 1).toNat=j - 1:=by omega
   all_goals repeat'(intro t ht;first|(cases t<;>first|(cases ht;done)|(try simp only[zh_]at ht;try(exfalso;first|contradiction|omega)))|((first|refine za_ ht ?_|refine ht ?_ ?_|refine ht.1 ?_ ?_|refine ht ?_)<;>clear ht))
   all_goals first
    | exact True.intro
    | ((try simp only [Int.toNat_natCast,f1] at ht ⊢)
       first
        | omega
        | (constructor<;>omega)
        | (simp only [zn_];omega)
        | (rw [List.length_set];omega)
        | (simp only [List.length_set];constructor<;>omega)
        | (refine ⟨(j+1,swp q j (j - 1)),⟨un_ hb hM (by omega) (by omega),by (try dsimp only);omega⟩,?_,rfl,by first | rfl | exact True.intro⟩
           (try dsimp only);omega)
        | (refine ⟨(i,n+1,q),⟨hM,by (try dsimp only);omega⟩,?_,rfl,by first | rfl | exact True.intro⟩
           (try dsimp only);omega))
 ·cases e
def Qt_:IR:=
(sq (kr [0,1,2,3] [oD 8 (.mov (cI 0))])
(sq (kd [0,1,2,3] [(oM 11 0,[]),
(oM 12 1,[0]),
(oM 13 0,[0,0]),
(oM 14 3,[0,0,0]),
(oM 15 0,[0,0,0,0]),
(oM 16 3,[0,0,0,0,0]),
(oI 17 1 15 16,[2,0,0,0]),
(oL 18 17,[3,0,0,0]),
(oM 19 0,[0,0,0,0,0,0,0,0]),
(oM 20 1,[0,0,0,0,0,0,0,0,0]),
(oI 21 1 19 20,[2,0,0,0,0,0,0,0]),
(oL 22 21,[3,0,0,0,0,0,0,0]),
(oI 23 1 11 12,[8,0]),
(oS 1 23 18,[9,0]),
(oI 24 1 13 14,[]),
(oS 1 24 22,[])])
(sq (kr [0,1,2] [oM 25 1,
oB 26 .add 25 (cI 1),
oM 27 2,
oB 28 .sub 27 (cI 1),
oM 9 26,
oM 10 28])
(sq (.block 0
(.loop
(.block 1
(sq (.block 2
(.loop
(sq (sq (kd [0,1,9,10] [(oM 29 9,[]),
(oM 30 10,[0]),
(oB 31 .leq 29 30,[]),
(oM 32 31,[]),
(oT 32 33 (.mov 0),[]),
(oT 32 34 (.mov 1),[0]),
(oT 32 35 (.indexSl 1 33 34),[]),
(oT 32 36 (.load none 35),[]),
(oT 32 37 (.mov 0),[0,0,0,0]),
(oT 32 38 (.mov 9),[0,0,0,0,0]),
(oT 32 39 (.indexSl 1 37 38),[2,0,0,0]),
(oT 32 40 (.load none 39),[3,0,0,0]),
(oT 32 41 (.call false (.f 185) [36,40]),[]),
(oT 32 42 (.un .not 41),[]),
(oP 43 32 42 cF,[])])
(.cond 43
.skip
(.exit 2)))
(.block 3
(kr [0,1,9,10] [oM 44 9,
oB 45 .add 44 (cI 1),
oM 9 45])))))
(sq (.block 4
(.loop
(sq (sq (kd [0,1,9,10] [(oM 46 9,[]),
(oM 47 10,[0]),
(oB 48 .leq 46 47,[]),
(oM 49 48,[]),
(oT 49 50 (.mov 0),[]),
(oT 49 51 (.mov 1),[0]),
(oT 49 52 (.indexSl 1 50 51),[]),
(oT 49 53 (.load none 52),[]),
(oT 49 54 (.mov 0),[0,0,0,0]),
(oT 49 55 (.mov 10),[0,0,0,0,0]),
(oT 49 56 (.indexSl 1 54 55),[2,0,0,0]),
(oT 49 57 (.load none 56),[3,0,0,0]),
(oT 49 58 (.call false (.f 185) [53,57]),[]),
(oP 59 49 58 cF,[])])
(.cond 59
.skip
(.exit 4)))
(.block 5
(kr [0,1,9,10] [oM 60 10,
oB 61 .sub 60 (cI 1),
oM 10 61])))))
(sq (sq (kr [0,1,9,10] [oM 62 9,
oM 63 10,
oB 64 .gtr 62 63])
(.cond 64
(.exit 0)
.skip))
(sq (kd [0,1,9,10] [(oM 65 0,[]),
(oM 66 9,[0]),
(oM 67 0,[0,0]),
(oM 68 10,[0,0,0]),
(oM 69 0,[0,0,0,0]),
(oM 70 10,[0,0,0,0,0]),
(oI 71 1 69 70,[2,0,0,0]),
(oL 72 71,[3,0,0,0]),
(oM 73 0,[0,0,0,0,0,0,0,0]),
(oM 74 9,[0,0,0,0,0,0,0,0,0]),
(oI 75 1 73 74,[2,0,0,0,0,0,0,0]),
(oL 76 75,[3,0,0,0,0,0,0,0]),
(oI 77 1 65 66,[8,0]),
(oS 1 77 72,[9,0]),
(oI 78 1 67 68,[]),
(oS 1 78 76,[])])
(sq (kr [0,1,9,10] [oM 79 9,
oB 80 .add 79 (cI 1),
oM 9 80])
(.reg [oM 81 10,
oB 82 .sub 81 (cI 1),
oM 10 82])))))))))
(sq (kr [9] [oM 83 9,
oM 8 83])
.ret)))))
def Qm_:List RD:=[.tmp 8 true none]
theorem Qq_:zo_ Tryz.prog Tryz.f186 Qt_ Qm_=true:=by kernel_rfl
def z3_:List AV->List Obj->Option NdR
 | [.own 0,.int .i64 a,.int .i64 b,.int .i64 p],[.row false (.int .i64) l]=>some (⟨0<=a/\a < b/\b<=l.length/\l.length<=1000000/\a<=p/\p < b,SrM,fun x=>EqlR l x.r a.toNat b.toNat x.m (l.getD p.toNat 0),fun x=>.int .i64 x.m,fun x=>[.row false (.int .i64) x.r]⟩)
 | _,_=>none
theorem q8_:Ji_ Tryz.prog 186 (NdF z3_):=by
 refine y8_ Tryz.func186 Qq_ (zb_ (s:=RoF Zg_) Zq_ (zf_ _)) fun args objs r e=>?_
 unfold z3_ at e
 split at e
 ·rename_i a b p l
  cases e
  refine ⟨rfl,fun hw ho hp=>?_⟩
  change List Int at l
  clear hw ho
  change List Int at l
  obtain ⟨g1,g2,g3,g4,g5,g6⟩:=hp
  obtain ⟨a,rfl⟩:=Int.eq_ofNat_of_zero_le g1
  obtain ⟨b,rfl⟩:=Int.eq_ofNat_of_zero_le (show 0<=b by omega)
  obtain ⟨p,rfl⟩:=Int.eq_ofNat_of_zero_le (show 0<=p by omega)
  have hb:b<=l.length:=by omega
  have eb:(b:Int) - 1=((b - 1:Nat):Int):=by omega
  have ea:(a:Int)+1=((a+1:Nat):Int):=by omega
  repeat'(intro t ht;first|(cases t<;>first|(cases ht;done)|(try simp only[zh_]at ht;try(exfalso;first|contradiction|omega)))|((first|refine za_ ht ?_|refine ht ?_ ?_|refine ht.1 ?_ ?_|refine ht ?_)<;>clear ht))
  all_goals first
   | exact True.intro
   | omega
   | (dsimp only;omega)
   | (simp only [zn_];omega)
   | (rw [List.length_set];omega)
   | (intro r h1 h2;clear h1;refine h2 ⟨[],[0,1,9,10],Nat × Nat × List Int,(fun s=>EqlJ l s.2.2 a b s.1 s.2.1 (l.getD p 0)),fun s=>[.own 0,.int .i64 a,.int .i64 s.1,.int .i64 s.2.1],fun s=>[.row false (.int .i64) s.2.2],fun s=>b+1+s.2.1 - s.1,⟨(a+1,b - 1,swp l a p),zaP_ hb (by omega) (by omega),(by rw [eb,ea]),rfl⟩,?_⟩;clear h2)
  rintro ⟨i,j,u⟩ hJ
  dsimp only at hJ
  repeat'(intro t ht;first|(cases t<;>first|(cases ht;done)|(try simp only[zh_]at ht;try(exfalso;first|contradiction|omega)))|((first|refine za_ ht ?_|refine ht ?_ ?_|refine ht.1 ?_ ?_|refine ht ?_)<;>clear ht))
  all_goals first
   | exact True.intro
   | (intro r h1 h2;clear h1;refine h2 ⟨[],[0,1,9,10],Nat,(fun s=>EqlJ l u a b s j (l.getD p 0)/\i<=s),fun s=>[.own 0,.int .i64 a,.int .i64 s,.int .i64 j],fun _=>[.row false (.int .i64) u],fun s=>b+1 - s,⟨i,⟨hJ,Nat.le_refl _⟩,rfl,rfl⟩,?_⟩;clear h2)
  rintro k ⟨hK,hik⟩
  have hl:=hK.R.len
  have hk1:=hK.ai
  have hk2:=hK.jb
  have hk3:=hK.ij
  repeat'(intro t ht;first|(cases t<;>first|(cases ht;done)|(try simp only[zh_]at ht;try(exfalso;first|contradiction|omega)))|((first|refine za_ ht ?_|refine ht ?_ ?_|refine ht.1 ?_ ?_|refine ht ?_)<;>clear ht))
  all_goals first
   | exact True.intro
   | omega
   | (dsimp only;omega)
   | (simp only [zn_];omega)
   | (dsimp only;simp only [zn_];omega)
   | (refine ⟨k+1,⟨zdG_ hK (by omega) (by omega),by omega⟩,?_,rfl,rfl⟩
      show b+1 - (k+1) < b+1 - k;omega)
   | (intro r h1 h2;clear h1;refine h2 ⟨[],[0,1,9,10],Nat,(fun s=>EqlJ l u a b k s (l.getD p 0)/\s<=j/\(k<=s->u.getD a 0 < u.getD k 0)),fun s=>[.own 0,.int .i64 a,.int .i64 k,.int .i64 s],fun _=>[.row false (.int .i64) u],fun s=>s,⟨j,⟨hK,Nat.le_refl _,fun hc=>by first | (exfalso;omega) | (simp only [Int.toNat_natCast] at*;omega)⟩,rfl,rfl⟩,?_⟩;clear h2)
  all_goals rintro s ⟨hM,hs1,hs2⟩
  all_goals have es:(s:Int) - 1=((s - 1:Nat):Int)\/s=0:=by omega
  all_goals have hm3:=hM.ij
  all_goals repeat'(intro t ht;first|(cases t<;>first|(cases ht;done)|(try simp only[zh_]at ht;try(exfalso;first|contradiction|omega)))|((first|refine za_ ht ?_|refine ht ?_ ?_|refine ht.1 ?_ ?_|refine ht ?_)<;>clear ht))
  all_goals (try simp only [Int.toNat_natCast] at*)
  all_goals first
   | exact True.intro
   | omega
   | (simp only [zn_];omega)
   | (rw [List.length_set];omega)
   | (have hks:¬ k<=s:=by omega
      have hE:=zcc_ hM hks
      first
       | exact ⟨⟨u,k⟩,hE,rfl,rfl⟩
       | exact ⟨⟨u,k⟩,hE,rfl,True.intro⟩)
   | (refine ⟨s - 1,⟨zdH_ hM (by omega) (by assumption),by omega,fun hc=>hs2 (by omega)⟩,?_,?_,by first | rfl | exact True.intro⟩
      ·show s - 1 < s;omega
      ·show [AV.own 0,AV.int .i64 a,AV.int .i64 k,AV.int .i64 ((s:Int) - 1)]=[AV.own 0,AV.int .i64 a,AV.int .i64 k,AV.int .i64 ((s - 1:Nat):Int)]
       rw [es.resolve_right (by omega)])
   | (have hks:=hs2 (by omega)
      have hne:k ≠ s:=fun e=>by subst e;contradiction
      refine ⟨(k+1,s - 1,swp u k s),zaN_ hb hM hks (by omega) (by omega),?_,?_,by first | rfl | exact True.intro⟩
      ·show b+1+(s - 1) - (k+1) < b+1+j - i;omega
      ·show [AV.own 0,AV.int .i64 a,AV.int .i64 ((k:Int)+1),AV.int .i64 ((s:Int) - 1)]=[AV.own 0,AV.int .i64 a,AV.int .i64 ((k+1:Nat):Int),AV.int .i64 ((s - 1:Nat):Int)]
       rw [es.resolve_right (by omega)];rfl)
 ·cases e
def lnT:List Int:=[0,1,2,2,3,3,3,3,4,4,4,4,4,4,4,4,5,5,5,5,5,5,5,5,5,5,5,5,5,5,5,5,6,6,6,6,6,6,6,6,6,6,6,6,6,6,6,6,6,6,6,6,6,6,6,6,6,6,6,6,6,6,6,6,7,7,7,7,7,7,7,7,7,7,7,7,7,7,7,7,7,7,7,7,7,7,7,7,7,7,7,7,7,7,7,7,7,7,7,7,7,7,7,7,7,7,7,7,7,7,7,7,7,7,7,7,7,7,7,7,7,7,7,7,7,7,7,7,8,8,8,8,8,8,8,8,8,8,8,8,8,8,8,8,8,8,8,8,8,8,8,8,8,8,8,8,8,8,8,8,8,8,8,8,8,8,8,8,8,8,8,8,8,8,8,8,8,8,8,8,8,8,8,8,8,8,8,8,8,8,8,8,8,8,8,8,8,8,8,8,8,8,8,8,8,8,8,8,8,8,8,8,8,8,8,8,8,8,8,8,8,8,8,8,8,8,8,8,8,8,8,8,8,8,8,8,8,8,8,8,8,8,8,8,8,8,8,8,8,8,8,8,8,8,8,8]
def lnF (x:Int):Int:=if x < 256 then lnT.getD x.toNat 0 else 8+lnT.getD (x / 256).toNat 0
theorem vR_ (k:Nat):0<=lnT.getD k 0/\lnT.getD k 0<=8:=by
 by_cases h:k < lnT.length
 ·exact (by decide:∀ z ∈ lnT,(0:Int)<=z/\z<=8) _ (zv_ h 0)
 ·rw [List.getD_eq_getElem?_getD,List.getElem?_eq_none (by omega)];exact ⟨by decide,by decide⟩
theorem zcK_ (x:Int):0<=lnF x/\lnF x<=16:=by
 unfold lnF
 have h1:=vR_ x.toNat
 have h2:=vR_ (x / 256).toNat
 split<;>omega
def npF (x:Int):Int:=2 ^ (lnF x).toNat
theorem BX_:∀ k < 256,0 < k->(2 ^ (lnT.getD k 0).toNat:Nat)<=2*k/\k < (2 ^ (lnT.getD k 0).toNat:Nat):=by decide+kernel
theorem zcI_ {x:Int} (h0:1<=x) (h:x<=65535):1<=npF x/\npF x<=2*x:=by
 have key:∃ n:Nat,npF x=(n:Int)/\1<=n/\(n:Int)<=2*x:=by
  unfold npF lnF
  by_cases c:x < 256
  ·rw [if_pos c]
   have:=BX_ x.toNat (by omega) (by omega)
   exact ⟨2 ^ (lnT.getD x.toNat 0).toNat,by rw [Int.natCast_pow];rfl,Nat.one_le_two_pow,by omega⟩
  ·rw [if_neg c]
   have:=BX_ (x / 256).toNat (by omega) (by omega)
   have hr:=vR_ (x / 256).toNat
   refine ⟨2 ^ (8+lnT.getD (x / 256).toNat 0).toNat,by rw [Int.natCast_pow];rfl,Nat.one_le_two_pow,?_⟩
   rw [show (8+lnT.getD (x / 256).toNat 0).toNat=8+(lnT.getD (x / 256).toNat 0).toNat by omega,Nat.pow_add]
   omega
 obtain ⟨n,e,h1,h2⟩:=key
 rw [e];omega
theorem zcm_ (x:Int) {m:Int} (h0:0<=m) (h1:m<=18446744073709551615):0<=kz_ .and .u64 x m/\kz_ .and .u64 x m<=m:=by
 have e2:(BitVec.ofInt 64 m).toNat=m.toNat:=by rw [BitVec.toNat_ofInt];omega
 have e3:(BitVec.ofInt 64 x &&& BitVec.ofInt 64 m).toNat<=m.toNat:=by rw [BitVec.toNat_and,e2];exact Nat.and_le_right
 have e4:kz_ .and .u64 x m=((BitVec.ofInt 64 x &&& BitVec.ofInt 64 m).toNat:Int):=by
  show IntKind.u64.wrap ((BitVec.ofInt 64 x &&& BitVec.ofInt 64 m).toNat:Int)=_
  exact WL_ ⟨by rw [Y8_];omega,by rw [UC_];omega⟩
 rw [e4];omega
def xH_:IR:=
(sq (kr [0] [oD 2 (.mov (cI 0))])
(sq (sq (.reg [oM 3 0,
oB 4 .geq 3 (.c (.int .u64 4294967296))])
(.cond 4
(sq (.reg [oM 5 0,
oB 6 .shr 5 (.c (.int .u64 32)),
oM 0 6])
(kr [0] [oD 2 (.mov (cI 32))]))
.skip))
(sq (sq (.reg [oM 7 0,
oB 8 .geq 7 (.c (.int .u64 65536))])
(.cond 8
(sq (kr [0,2] [oM 9 0,
oB 10 .shr 9 (.c (.int .u64 16)),
oM 0 10])
(.reg [oM 11 2,
oB 12 .add 11 (cI 16),
oM 2 12]))
.skip))
(sq (sq (kr [0,2] [oM 13 0,
oB 14 .geq 13 (.c (.int .u64 256))])
(.cond 14
(sq (.reg [oM 15 0,
oB 16 .shr 15 (.c (.int .u64 8)),
oM 0 16])
(.reg [oM 17 2,
oB 18 .add 17 (cI 8),
oM 2 18]))
.skip))
(sq (kr [0,2] [oM 19 2,
oM 20 0,
oD 21 (.conv .u8 20),
oD 22 (.sindex (.c (.str [0,1,2,2,3,3,3,3,4,4,4,4,4,4,4,4,5,5,5,5,5,5,5,5,5,5,5,5,5,5,5,5,6,6,6,6,6,6,6,6,6,6,6,6,6,6,6,6,6,6,6,6,6,6,6,6,6,6,6,6,6,6,6,6,7,7,7,7,7,7,7,7,7,7,7,7,7,7,7,7,7,7,7,7,7,7,7,7,7,7,7,7,7,7,7,7,7,7,7,7,7,7,7,7,7,7,7,7,7,7,7,7,7,7,7,7,7,7,7,7,7,7,7,7,7,7,7,7,8,8,8,8,8,8,8,8,8,8,8,8,8,8,8,8,8,8,8,8,8,8,8,8,8,8,8,8,8,8,8,8,8,8,8,8,8,8,8,8,8,8,8,8,8,8,8,8,8,8,8,8,8,8,8,8,8,8,8,8,8,8,8,8,8,8,8,8,8,8,8,8,8,8,8,8,8,8,8,8,8,8,8,8,8,8,8,8,8,8,8,8,8,8,8,8,8,8,8,8,8,8,8,8,8,8,8,8,8,8,8,8,8,8,8,8,8,8,8,8,8,8,8,8,8,8,8,8])) 21),
oD 23 (.conv .i64 22),
oB 24 .add 19 23,
oM 2 24])
.ret)))))
def xu_:List RD:=[.tmp 2 true none]
theorem xA_:zo_ Tryz.prog Tryz.f189 xH_ xu_=true:=by kernel_rfl
def kj_:List AV->List Obj->Option (Prop × AV)
 | [.int .u64 x],[]=>some ((0<=x/\x<=65535,.int .i64 (lnF x)))
 | _,_=>none
theorem W5_:ze_ Tryz.prog 189 (RoF kj_).sum:=by
 refine zz_ Tryz.func189 xA_ (zf_ _) fun args objs p v e=>?_
 unfold kj_ at e
 split at e
 ·rename_i x
  cases e
  refine ⟨rfl,fun hw ho hp=>?_⟩
  clear hw ho
  obtain ⟨h0,h5⟩:=hp
  have hsh:x.fdiv (2 ^ min (Int.toNat 8) IntKind.u64.bits)=x / 256:=by
   show x.fdiv (2 ^ 8)=_
   rw [Int.fdiv_eq_ediv_of_nonneg _ (by decide)];rfl
  have hw8:IntKind.u8.wrap (x / 256)=x / 256:=by rw [YX_];omega
  by_cases c:x < 256
  ·have hwr:IntKind.u8.wrap x=x:=by rw [YX_];omega
   repeat'(intro t ht;first|(cases t<;>first|(cases ht;done)|(try simp only[zh_]at ht;try(exfalso;first|contradiction|omega)))|((first|refine za_ ht ?_|refine ht ?_ ?_|refine ht.1 ?_ ?_|refine ht ?_)<;>clear ht))
   all_goals (try simp only [hwr] at*)
   all_goals first
    | exact True.intro
    | omega
    | exact ⟨h0,show x < ((256:Nat):Int) by omega⟩
    | (simp only [zn_];omega)
    | (have hq:=vR_ x.toNat;show IntKind.i64.min<=lnT.getD x.toNat 0/\lnT.getD x.toNat 0<=IntKind.i64.max;simp only [zn_];omega)
    | (have hq:=vR_ x.toNat;show IntKind.i64.min<=0+lnT.getD x.toNat 0/\0+lnT.getD x.toNat 0<=IntKind.i64.max;simp only [zn_];omega)
    | (refine ⟨congrArg (AV.int .i64) ((Int.zero_add _).trans (if_pos c).symm),?_⟩;first | rfl | exact True.intro)
  ·repeat'(intro t ht;first|(cases t<;>first|(cases ht;done)|(try simp only[zh_]at ht;try(exfalso;first|contradiction|omega)))|((first|refine za_ ht ?_|refine ht ?_ ?_|refine ht.1 ?_ ?_|refine ht ?_)<;>clear ht))
   all_goals (try simp only [hsh,hw8] at*)
   all_goals first
    | exact True.intro
    | omega
    | exact ⟨by omega,show x / 256 < ((256:Nat):Int) by omega⟩
    | (simp only [zn_];omega)
    | (have hq:=vR_ (x / 256).toNat;show IntKind.i64.min<=lnT.getD (x / 256).toNat 0/\lnT.getD (x / 256).toNat 0<=IntKind.i64.max;simp only [zn_];omega)
    | (have hq:=vR_ (x / 256).toNat;show IntKind.i64.min<=8+lnT.getD (x / 256).toNat 0/\8+lnT.getD (x / 256).toNat 0<=IntKind.i64.max;simp only [zn_];omega)
    | (refine ⟨congrArg (AV.int .i64) ((if_neg c).symm),?_⟩;first | rfl | exact True.intro)
 ·cases e
def yB_:IR:=
(sq (kr [0] [oD 2 (.mov (cI 0))])
(sq (.cond (.c (.kb false))
(sq (.reg [oM 3 0,
oD 4 (.conv .u32 3),
oC 5 188 [4],
oM 2 5])
.ret)
.skip)
(sq (.reg [oM 6 0,
oC 7 189 [6],
oM 2 7])
.ret)))
def ye_:List RD:=[.tmp 2 true none]
theorem yp_:zo_ Tryz.prog Tryz.f154 yB_ ye_=true:=by kernel_rfl
def QA_:List AV->List Obj->Option (Prop × AV)
 | [.int .u64 x],[]=>some ((0<=x/\x<=65535,.int .i64 (lnF x)))
 | _,_=>none
theorem js_:ze_ Tryz.prog 154 (RoF QA_).sum:=by
 refine zz_ Tryz.func154 yp_ (zb_ (s:=RoF kj_) W5_ (zf_ _)) fun args objs p v e=>?_
 unfold QA_ at e
 split at e
 ·rename_i x
  cases e
  refine ⟨rfl,fun hw ho hp=>?_⟩
  repeat'(intro t ht;first|(cases t<;>first|(cases ht;done)|(try simp only[zh_]at ht;try(exfalso;first|contradiction|omega)))|((first|refine za_ ht ?_|refine ht ?_ ?_|refine ht.1 ?_ ?_|refine ht ?_)<;>clear ht))
  all_goals first
   | exact True.intro
   | exact hp
   | exact ⟨rfl,rfl⟩
 ·cases e
def jM_:IR:=
(sq (kr [0] [oD 2 (.mov (.c (.int .u64 0)))])
(sq (kr [0] [oM 3 0,
oD 4 (.conv .u64 3),
oC 5 154 [4],
oB 6 .shl (.c (.int .u64 1)) 5,
oM 2 6])
.ret))
def jF_:List RD:=[.tmp 2 true none]
theorem jJ_:zo_ Tryz.prog Tryz.f211 jM_ jF_=true:=by kernel_rfl
def qe_:List AV->List Obj->Option (Prop × AV)
 | [.int .i64 x],[]=>some ((1<=x/\x<=65535,.int .u64 (npF x)))
 | _,_=>none
theorem jn_:ze_ Tryz.prog 211 (RoF qe_).sum:=by
 refine zz_ Tryz.func211 jJ_ (zb_ (s:=RoF QA_) js_ (zf_ _)) fun args objs p v e=>?_
 unfold qe_ at e
 split at e
 ·rename_i x
  cases e
  refine ⟨rfl,fun hw ho hp=>?_⟩
  clear hw ho
  have hr:=zcK_ x
  have hn:=zcI_ hp.1 hp.2
  have hs:(1:Int)*2 ^ min (lnF x).toNat IntKind.u64.bits=npF x:=by
   rw [Nat.min_eq_left (show (lnF x).toNat<=IntKind.u64.bits by show _<=64;omega),Int.one_mul];rfl
  repeat'(intro t ht;first|(cases t<;>first|(cases ht;done)|(try simp only[zh_]at ht;try(exfalso;first|contradiction|omega)))|((first|refine za_ ht ?_|refine ht ?_ ?_|refine ht.1 ?_ ?_|refine ht ?_)<;>clear ht))
  all_goals (try simp only [hs])
  all_goals first
   | exact True.intro
   | omega
   | (constructor<;>omega)
   | (simp only [zn_];omega)
   | exact ⟨rfl,rfl⟩
   | exact ⟨True.intro,True.intro⟩
 ·cases e
def Ja_:IR:=
(sq (kr [0] [oD 2 (.mov (.c (.int .u64 0)))])
(sq (kd [0] [(oM 3 0,[]),
(oD 4 (.nilck 3),[]),
(oL 5 4,[]),
(oM 6 0,[0,0,0]),
(oD 7 (.nilck 6),[1,0,0]),
(oL 8 7,[2,0,0]),
(oB 9 .shl 8 (.c (.int .u64 13)),[3,0,0]),
(oB 10 .xor 5 9,[]),
(oD 11 (.nilck 3),[]),
(oS 1 11 10,[])])
(sq (kd [0] [(oM 12 0,[]),
(oD 13 (.nilck 12),[]),
(oL 14 13,[]),
(oM 15 0,[0,0,0]),
(oD 16 (.nilck 15),[1,0,0]),
(oL 17 16,[2,0,0]),
(oB 18 .shr 17 (.c (.int .u64 7)),[3,0,0]),
(oB 19 .xor 14 18,[]),
(oD 20 (.nilck 12),[]),
(oS 1 20 19,[])])
(sq (kd [0] [(oM 21 0,[]),
(oD 22 (.nilck 21),[]),
(oL 23 22,[]),
(oM 24 0,[0,0,0]),
(oD 25 (.nilck 24),[1,0,0]),
(oL 26 25,[2,0,0]),
(oB 27 .shl 26 (.c (.int .u64 17)),[3,0,0]),
(oB 28 .xor 23 27,[]),
(oD 29 (.nilck 21),[]),
(oS 1 29 28,[])])
(sq (kr [0] [oM 30 0,
oD 31 (.nilck 30),
oL 32 31,
oM 2 32])
.ret)))))
def j2_:List RD:=[.tmp 2 true none]
theorem j5_:zo_ Tryz.prog Tryz.f212 Ja_ j2_=true:=by kernel_rfl
def qn_:List AV->List Obj->Option NdR
 | [.ptr 0 0],[.box [.int .u64 s]]=>some (⟨True,SrI,fun _=>True,fun x=>.int .u64 x.s,fun x=>[.box [.int .u64 x.s]]⟩)
 | _,_=>none
theorem jD_:Ji_ Tryz.prog 212 (NdF qn_):=by
 refine y8_ Tryz.func212 j5_ (zf_ _) fun args objs r e=>?_
 unfold qn_ at e
 split at e
 ·rename_i s
  cases e
  refine ⟨rfl,fun hw ho hp=>?_⟩
  clear hw ho
  repeat'(intro t ht;first|(cases t<;>first|(cases ht;done)|(try simp only[zh_]at ht))|((first|refine za_ ht ?_|refine ht ?_ ?_)<;>clear ht)|(refine ht.1 (by simp only[zn_];omega) ?_;clear ht)|(refine ht.2 ?_;clear ht)|(refine ht ?_;clear ht))
  all_goals first
   | exact True.intro
   | decide
   | exact ⟨⟨_⟩,True.intro,rfl,rfl⟩
 ·cases e
def QL_:IR:=
(sq (kr [0,1,2] [oM 11 2,
oM 12 1,
oB 13 .sub 11 12,
oM 6 13])
(sq (.reg [oM 14 6,
oB 15 .geq 14 (cI 8)])
(.cond 15
(sq (kr [0,1,6] [oM 16 6,
oD 17 (.conv .u64 16),
oD 7 (.box [.int .u64 0]),
oS 1 7 17])
(sq (.reg [oM 18 6,
oC 19 211 [18],
oM 8 19])
(sq (kr [0,1,6,7,8] [oM 20 1,
oM 21 6,
oB 22 .quo 21 (cI 4),
oB 23 .mul 22 (cI 2),
oB 24 .add 20 23,
oB 25 .sub 24 (cI 1),
oM 9 25])
(.block 0
(.loop
(sq (sq (kr [0,1,6,7,8,9] [oM 26 9,
oM 27 1,
oM 28 6,
oB 29 .quo 28 (cI 4),
oB 30 .mul 29 (cI 2),
oB 31 .add 27 30,
oB 32 .add 31 (cI 1),
oB 33 .leq 26 32])
(.cond 33
.skip
(.exit 0)))
(sq (.block 1
(sq (kr [0,1,6,7,8,9] [oD 36 (.calln (.f 212) [7]),
oM 37 8,
oB 38 .sub 37 (.c (.int .u64 1)),
oB 39 .and 36 38,
oD 40 (.conv .i64 39),
oM 10 40])
(sq (sq (.reg [oM 41 10,
oM 42 6,
oB 43 .geq 41 42])
(.cond 43
(kr [0,1,6,7,8,9,10] [oM 44 10,
oM 45 6,
oB 46 .sub 44 45,
oM 10 46])
.skip))
(kd [0,1,6,7,8,9,10] [(oM 47 0,[]),
(oM 48 9,[0]),
(oM 49 0,[0,0]),
(oM 50 1,[0,0,0]),
(oM 51 10,[0,0,0,0]),
(oB 52 .add 50 51,[2,0,0]),
(oM 53 0,[0,0,0,0,0,0]),
(oM 54 1,[0,0,0,0,0,0,0]),
(oM 55 10,[0,0,0,0,0,0,0,0]),
(oB 56 .add 54 55,[2,0,0,0,0,0,0]),
(oI 57 1 53 56,[4,0,0,0,0,0]),
(oL 58 57,[5,0,0,0,0,0]),
(oM 59 0,[0,0,0,0,0,0,0,0,0,0,0,0]),
(oM 60 9,[0,0,0,0,0,0,0,0,0,0,0,0,0]),
(oI 61 1 59 60,[2,0,0,0,0,0,0,0,0,0,0,0]),
(oL 62 61,[3,0,0,0,0,0,0,0,0,0,0,0]),
(oI 63 1 47 48,[10,0,0,0]),
(oS 1 63 58,[11,0,0,0]),
(oI 64 1 49 52,[]),
(oS 1 64 62,[])]))))
(kr [0,1,6,7,8,9] [oM 34 9,
oB 35 .add 34 (cI 1),
oM 9 35]))))))))
.skip)))
def QG_:List RD:=[]
theorem QI_:zo_ Tryz.prog Tryz.f181 QL_ QG_=true:=by kernel_rfl
def z8_:List AV->List Obj->Option NdR
 | [.own 0,.int .i64 a,.int .i64 b],[.row false (.int .i64) l]=>some (⟨0<=a/\a<=b/\b<=l.length/\l.length<=60000,SrX,fun x=>Rear l a.toNat b.toNat x.r,fun _=>.tup [],fun x=>[.row false (.int .i64) x.r]⟩)
 | _,_=>none
theorem Qj_:Ji_ Tryz.prog 181 (NdF z8_):=by
 refine y8_ Tryz.func181 QI_ (zb_ (s:=RoF qe_) jn_ (zb_ (s:=NdF qn_) jD_ (zf_ _))) fun args objs r e=>?_
 unfold z8_ at e
 split at e
 ·rename_i a b l
  cases e
  refine ⟨rfl,fun hw ho hp=>?_⟩
  change List Int at l
  clear hw ho
  change List Int at l
  obtain ⟨g1,g2,g3,g4⟩:=hp
  obtain ⟨a,rfl⟩:=Int.eq_ofNat_of_zero_le g1
  obtain ⟨b,rfl⟩:=Int.eq_ofNat_of_zero_le (show 0<=b by omega)
  have hq:((b:Int) - (a:Int)).tdiv 4=(((b - a) / 4:Nat):Int):=by rw [Int.tdiv_eq_ediv_of_nonneg (by omega)];omega
  have hnp:8<=(b:Int) - (a:Int)->1<=npF ((b:Int) - (a:Int))/\npF ((b:Int) - (a:Int))<=2*((b:Int) - (a:Int)):=fun c=>zcI_ (by omega) (by omega)
  have hi:8<=(b:Int) - (a:Int)->(a:Int)+((b:Int) - (a:Int)).tdiv 4*2 - 1=((a+((b - a) / 4)*2 - 1:Nat):Int):=fun c=>by rw [hq];omega
  repeat'(intro t ht;first|(cases t<;>first|(cases ht;done)|(try simp only[zh_]at ht;try(exfalso;first|contradiction|omega)))|((first|refine za_ ht ?_|refine ht ?_ ?_|refine ht.1 ?_ ?_|refine ht ?_)<;>clear ht))
  all_goals first
   | exact True.intro
   | decide
   | omega
   | (constructor<;>omega)
   | (simp only [zn_];omega)
   | exact ⟨⟨l⟩,Rear.refl _ _ _,rfl,rfl⟩
   | (intro r h1 h2;clear h1;refine h2 ⟨[],[0,1,6,7,8,9],Nat × List Int × Int,(fun z=>a+1<=z.1/\z.1<=a+((b - a) / 4)*2+2/\Rear l a b z.2.1),fun z=>[.own 0,.int .i64 a,.int .i64 ((b:Int) - (a:Int)),.ptr 1 0,.int .u64 (npF ((b:Int) - (a:Int))),.int .i64 z.1],fun z=>[.row false (.int .i64) z.2.1,.box [.int .u64 z.2.2]],fun z=>b+5 - z.1,⟨(a+((b - a) / 4)*2 - 1,l,(b:Int) - (a:Int)),⟨by dsimp only;omega,by dsimp only;omega,Rear.refl _ _ _⟩,(by rw [hi (by assumption)];rfl),rfl⟩,?_⟩;clear h2)
  rintro ⟨i,u,s⟩ ⟨hi1,hi2,hR⟩
  dsimp only at hi1 hi2 hR
  have hl:=hR.len
  have hn:=hnp (by assumption)
  clear hi hnp
  have hx:∀ x,0<=kz_ .and .u64 x (npF ((b:Int) - (a:Int)) - 1)/\kz_ .and .u64 x (npF ((b:Int) - (a:Int)) - 1)<=npF ((b:Int) - (a:Int)) - 1:=fun x=>zcm_ x (by omega) (by omega)
  repeat'(intro t ht;first|(cases t<;>first|(cases ht;done)|(try simp only[zh_]at ht;try(exfalso;first|contradiction|omega)))|((first|refine za_ ht ?_|refine ht ?_ ?_|refine ht.1 ?_ ?_|refine ht ?_)<;>clear ht))
  all_goals (try simp only [hq,Int.toNat_natCast] at ht ⊢)
  all_goals first
   | exact True.intro
   | decide
   | omega
   | (constructor<;>omega)
   | (simp only [zn_];omega)
   | exact ⟨⟨u⟩,hR,by first | rfl | exact True.intro,by first | rfl | exact True.intro⟩
   | skip
  all_goals (rename Int=>s9;have hv:=hx s9;clear hx)
  all_goals generalize kz_ .and .u64 _ (npF ((b:Int) - (a:Int)) - 1)=v at*
  all_goals first
   | omega
   | (constructor<;>omega)
   | (simp only [zn_];omega)
   | (simp only [List.length_set];omega)
   | (simp only [List.length_set];constructor<;>omega)
   | (refine ⟨(i+1,swp u i ((a:Int)+v).toNat,_),⟨?_,?_,hR.trans (Rear.swp (by omega) (by omega) (by omega))⟩,?_,rfl,rfl⟩
      ·dsimp only;omega
      ·dsimp only;omega
      ·dsimp only;omega)
   | (refine ⟨(i+1,swp u i ((a:Int)+(v - ((b:Int) - (a:Int)))).toNat,_),⟨?_,?_,hR.trans (Rear.swp (by omega) (by omega) (by omega))⟩,?_,rfl,rfl⟩
      ·dsimp only;omega
      ·dsimp only;omega
      ·dsimp only;omega)
 ·cases e
structure PdqJ (l u:List Int) (a b i j:Nat):Prop where
 n:u.length=l.length
 ai:a<=i
 ij:i<=j
 jb:j<=b
 e:srt u i j=srt l a b
 lo:Km_ u i j
theorem bl_ {l:List Int} {a b:Nat} (hab:a<=b) (h:Km_ l a b):PdqJ l l a b a b:=⟨rfl,Nat.le_refl _,hab,Nat.le_refl _,rfl,h⟩
theorem gF_ {l u r:List Int} {a b i j:Nat} (hb:b<=l.length) (J:PdqJ l u a b i j) (hR:Rear u i j r):PdqJ l r a b i j:=by
 obtain ⟨h1,h2,h3,h4,h5,h6⟩:=J
 exact ⟨by rw [hR.len,h1],h2,h3,h4,by rw [WM_ h3 (by omega) hR,h5],h6.rear hR h3 (by omega)⟩
theorem BJ_ {l u r:List Int} {a b i j:Nat} (hb:b<=l.length) (J:PdqJ l u a b i j) (hR:Rear u i j r) (hS:Kw_ r i j):r=srt l a b:=by
 obtain ⟨h1,h2,h3,h4,h5,h6⟩:=J
 rw [xq_ h3 (by omega) hR hS,h5]
theorem BI_ {l u r:List Int} {a b i j m:Nat} (hb:b<=l.length) (J:PdqJ l u a b i j) (P:PartR u r i j m):Km_ r i m/\PdqJ l (srt r i m) a b (m+1) j:=by
 obtain ⟨h1,h2,h3,h4,h5,h6⟩:=J
 obtain ⟨e,lo⟩:=bn_ (by omega) P
 have hl:=P.R.len
 have p1:=P.am
 have p2:=P.mb
 exact ⟨(h6.rear P.R h3 (by omega)).sub (Nat.le_of_lt p2),⟨by rw [Hl_ r p1,hl,h1],by omega,by omega,h4,by rw [<- e,h5],lo⟩⟩
theorem bm_ {l u r:List Int} {a b i j m:Nat} (hb:b<=l.length) (J:PdqJ l u a b i j) (P:PartR u r i j m):Km_ r (m+1) j/\PdqJ l (srt r (m+1) j) a b i m:=by
 obtain ⟨h1,h2,h3,h4,h5,h6⟩:=J
 have e:=he_ (by omega) P
 have hl:=P.R.len
 have p1:=P.am
 have p2:=P.mb
 have hs:=kZ_ r (a:=m+1) (b:=j) (by omega) (by omega)
 refine ⟨fun _ k k1 k2=>by rw [show m+1 - 1=m by omega];exact P.hi k (by omega) k2,⟨by rw [Hl_ r (by omega),hl,h1],h2,p1,by omega,by rw [<- e,h5],fun h0 k k1 k2=>?_⟩⟩
 rw [hs.get (.inl (by omega)),hs.get (.inl (by omega))]
 exact h6.rear P.R h3 (by omega) h0 k k1 (by omega)
theorem zbK_ {l u r:List Int} {a b i j m:Nat} {x:Int} (hb:b<=l.length) (J:PdqJ l u a b i j) (E:EqlR u r i j m x) (h0:0 < i) (hx:¬ u.getD (i - 1) 0 < x):PdqJ l r a b m j:=by
 obtain ⟨h1,h2,h3,h4,h5,h6⟩:=J
 have p1:=E.am
 have p2:=E.mb
 have hl:=E.R.len
 obtain ⟨e,lo⟩:=zaO_ (by omega) E fun k k1 k2=>by
  have:=h6.rear E.R h3 (by omega) h0 k k1 k2
  rw [E.R.get (.inl (by omega))] at this
  rw [E.pv];omega
 exact ⟨by rw [hl,h1],by omega,p2,h4,by rw [<- e,h5],lo⟩
def Kt_:IR:=
(sq (kr [0,1,2,3] [oD 8 (.mov cT)])
(sq (.reg [oD 9 (.mov cT)])
(.block 0
(.loop
(.block 1
(sq (kr [0,1,2,3,8,9] [oM 19 2,
oM 20 1,
oB 21 .sub 19 20,
oM 10 21])
(sq (sq (.reg [oM 22 10,
oB 23 .leq 22 (cI 12)])
(.cond 23
(sq (kr [0,1,2] [oM 24 0,
oM 25 1,
oM 26 2,
oD 27 (.call true (.f 179) [24,25,26])])
.ret)
.skip))
(sq (sq (kr [0,1,2,3,8,9,10] [oM 28 3,
oB 29 .eql 28 (cI 0)])
(.cond 29
(sq (.reg [oM 30 0,
oM 31 1,
oM 32 2,
oD 33 (.call true (.f 180) [30,31,32])])
.ret)
.skip))
(sq (sq (kr [0,1,2,3,8,9,10] [oM 34 8,
oD 35 (.un .not 34)])
(.cond 35
(sq (.reg [oM 36 0,
oM 37 1,
oM 38 2,
oD 39 (.calln (.f 181) [36,37,38])])
(kr [0,1,2,3,8,9,10] [oM 40 3,
oB 41 .sub 40 (cI 1),
oM 3 41]))
.skip))
(sq (kr [0,1,2,3,8,9,10] [oM 43 0,
oM 44 1,
oM 45 2,
oD 46 (.calln (.f 182) [43,44,45]),
oM 42 46,
oX 47 42 0,
oX 48 42 1,
oM 11 47,
oM 12 48])
(sq (sq (kr [0,1,2,3,8,9,10,11,12] [oM 49 12,
oB 50 .eql 49 (cI 2)])
(.cond 50
(sq (.reg [oM 51 0,
oM 52 1,
oM 53 2,
oD 54 (.calln (.f 183) [51,52,53])])
(sq (kr [0,1,2,3,8,9,10,11] [oM 55 2,
oB 56 .sub 55 (cI 1),
oM 57 11,
oM 58 1,
oB 59 .sub 57 58,
oB 60 .sub 56 59,
oM 11 60])
(kr [0,1,2,3,8,9,10,11] [oD 12 (.mov (cI 1))])))
.skip))
(sq (sq (kr [0,1,2,3,8,9,10,11,12] [oM 61 8,
oM 62 61,
oT 62 63 (.mov 9),
oP 64 62 63 cF,
oM 65 64,
oT 65 66 (.mov 12),
oT 65 67 (.bin .eql 66 (cI 1)),
oP 68 65 67 cF])
(.cond 68
(sq (kr [0,1,2,3,8,9,10,11] [oM 69 0,
oM 70 1,
oM 71 2,
oD 72 (.calln (.f 184) [69,70,71])])
(.cond 72
.ret
.skip))
.skip))
(sq (sq (kd [0,1,2,3,8,9,10,11] [(oM 73 1,[]),
(oB 74 .gtr 73 (cI 0),[]),
(oM 75 74,[]),
(oT 75 76 (.mov 0),[]),
(oT 75 77 (.mov 1),[0]),
(oT 75 78 (.bin .sub 77 (cI 1)),[1]),
(oT 75 79 (.indexSl 1 76 78),[]),
(oT 75 80 (.load none 79),[]),
(oT 75 81 (.mov 0),[0,0,0,0,0]),
(oT 75 82 (.mov 11),[0,0,0,0,0,0]),
(oT 75 83 (.indexSl 1 81 82),[2,0,0,0,0]),
(oT 75 84 (.load none 83),[3,0,0,0,0]),
(oT 75 85 (.call false (.f 185) [80,84]),[]),
(oT 75 86 (.un .not 85),[]),
(oP 87 75 86 cF,[])])
(.cond 87
(sq (kr [0,1,2,3,8,9,11] [oM 88 0,
oM 89 1,
oM 90 2,
oM 91 11,
oD 92 (.calln (.f 186) [88,89,90,91]),
oM 13 92])
(sq (.reg [oM 93 13,
oM 1 93])
(.exit 1)))
.skip))
(sq (kr [0,1,2,3,10,11] [oM 95 0,
oM 96 1,
oM 97 2,
oM 98 11,
oD 99 (.calln (.f 187) [95,96,97,98]),
oM 94 99,
oX 100 94 0,
oX 101 94 1,
oM 14 100,
oM 15 101])
(sq (kr [0,1,2,3,10,14,15] [oM 102 15,
oM 9 102])
(sq (kr [0,1,2,3,9,10,14] [oM 103 14,
oM 104 1,
oB 105 .sub 103 104,
oM 106 2,
oM 107 14,
oB 108 .sub 106 107,
oM 16 105,
oM 17 108])
(sq (kr [0,1,2,3,9,10,14,16,17] [oM 109 10,
oB 110 .quo 109 (cI 8),
oM 18 110])
(sq (.reg [oM 111 16,
oM 112 17,
oB 113 .lss 111 112])
(.cond 113
(sq (kr [0,1,2,3,9,14,16,18] [oM 114 16,
oM 115 18,
oB 116 .geq 114 115,
oM 8 116])
(sq (kr [0,1,2,3,8,9,14] [oM 117 0,
oM 118 1,
oM 119 14,
oM 120 3,
oD 121 (.call true (.f 153) [117,118,119,120])])
(.reg [oM 122 14,
oB 123 .add 122 (cI 1),
oM 1 123])))
(sq (kr [0,1,2,3,9,14,17,18] [oM 124 17,
oM 125 18,
oB 126 .geq 124 125,
oM 8 126])
(sq (kr [0,1,2,3,8,9,14] [oM 127 0,
oM 128 14,
oB 129 .add 128 (cI 1),
oM 130 2,
oM 131 3,
oD 132 (.call true (.f 153) [127,129,130,131])])
(.reg [oM 133 14,
oM 2 133]))))))))))))))))))))))
def Kq_:List RD:=[]
theorem Ks_:zo_ Tryz.prog Tryz.f153 Kt_ Kq_=true:=by kernel_rfl
def ZO_:List AV->List Obj->Option (Prop × AV × List Obj)
 | [.own 0,.int .i64 a,.int .i64 b,.int .i64 n],[.row false (.int .i64) l]=>some ((0<=a/\a<=b/\b<=l.length/\l.length<=60000/\0<=n/\n<=64/\Km_ l a.toNat b.toNat,.tup [],[.row false (.int .i64) (srt l a.toNat b.toNat)]))
 | _,_=>none
theorem k0_:ze_ Tryz.prog 153 (RwF ZO_).sum:=by
 refine zc5_ (fun args=>match args with | [_,.int _ a,.int _ b,_]=>(b - a).toNat | _=>0) Tryz.func153 Ks_ (zb_ (s:=RwF z7_) Qi_ (zb_ (s:=RwF ZJ_) kC_ (zb_ (s:=NdF z8_) Qj_ (zb_ (s:=NdF Zl_) QZ_ (zb_ (s:=NdF Ze_) QD_ (zb_ (s:=NdF zN_) qj_ (zb_ (s:=RoF Zg_) Zq_ (zb_ (s:=NdF z3_) q8_ (zb_ (s:=NdF Zv_) kr_ (zf_ _)))))))))) fun args objs p v o e=>?_
 unfold ZO_ at e
 split at e
 ·rename_i a b n l
  cases e
  refine ⟨rfl,fun hw ho hp=>?_⟩
  change List Int at l
  clear hw ho
  change List Int at l
  obtain ⟨g1,g2,g3,g4,g5,g6,g7⟩:=hp
  obtain ⟨a,rfl⟩:=Int.eq_ofNat_of_zero_le g1
  obtain ⟨b,rfl⟩:=Int.eq_ofNat_of_zero_le (show 0<=b by omega)
  obtain ⟨n,rfl⟩:=Int.eq_ofNat_of_zero_le g5
  simp only [Int.toNat_natCast] at g7 ⊢
  have hb:b<=l.length:=by omega
  have hab:a<=b:=by omega
  repeat'(intro t ht;first|(cases t<;>first|(cases ht;done)|(try simp only[zh_]at ht;try(exfalso;first|contradiction|omega)))|((first|refine za_ ht ?_|refine ht ?_ ?_|refine ht.1 ?_ ?_|refine ht ?_)<;>clear ht))
  all_goals first
   | exact True.intro
   | omega
   | (intro r h1 h2;clear h1;refine h2 ⟨[],[0,1,2,3,8,9],Nat × Nat × Nat × Bool × Bool × List Int,(fun s=>PdqJ l s.2.2.2.2.2 a b s.1 s.2.1/\s.2.2.1<=64),fun s=>[.own 0,.int .i64 s.1,.int .i64 s.2.1,.int .i64 s.2.2.1,.bool s.2.2.2.1,.bool s.2.2.2.2.1],fun s=>[.row false (.int .i64) s.2.2.2.2.2],fun s=>s.2.1 - s.1,⟨(a,b,n,true,true,l),⟨bl_ hab g7,by (try dsimp only);omega⟩,rfl,rfl⟩,?_⟩;clear h2)
  rintro ⟨i,j,k,wb,wp,u⟩ ⟨hJ,hk⟩
  dsimp only at hJ hk
  have hn:=hJ.n
  have k1:=hJ.ai
  have k2:=hJ.ij
  have k3:=hJ.jb
  cases wb<;>cases wp
  all_goals repeat'(intro t ht;first|(cases t<;>first|(cases ht;done)|(try simp only[zh_]at ht;try(exfalso;first|contradiction|omega)))|((first|refine za_ ht ?_|refine ht ?_ ?_|refine ht.1 ?_ ?_|refine ht ?_)<;>clear ht))
  all_goals (try dsimp only)
  all_goals (try simp only [Int.toNat_natCast] at ht ⊢)
  all_goals (have ei:((i:Int) - 1).toNat=i - 1:=by omega)
  all_goals (repeat (replace hJ:=gF_ hb hJ (by assumption)))
  all_goals first
   | exact True.intro
   | (rename Rear _ _ _ _/\_=>hA
      obtain ⟨hA,hB⟩:=hA
      first
       | (have e9:=BJ_ hb hJ hA (hB ht)
          exact ⟨by first | exact True.intro | rfl,congrArg (fun x=>[Obj.row false _ x]) e9⟩)
       | replace hJ:=gF_ hb hJ hA)
   | skip
  all_goals (replace hn:=hJ.n)
  all_goals (have h8:(((j:Int) - (i:Int)).tdiv 8)=((j:Int) - (i:Int)) / 8:=Int.tdiv_eq_ediv_of_nonneg (by omega))
  all_goals (try simp only [h8])
  all_goals first
   | (have ek:(k:Int) - 1=((k - 1:Nat):Int):=by omega
      simp only [ek])
   | skip
  all_goals first
   | omega
   | (simp only [zn_];omega)
   | (constructor<;>omega)
   | (refine ⟨?_,?_,?_,?_,hJ.lo⟩<;>omega)
   | (refine ⟨?_,?_,?_,?_⟩<;>omega)
   | (refine ⟨?_,?_,?_,?_,?_,?_⟩<;>omega)
   | exact ⟨by first | exact True.intro | rfl,congrArg (fun x=>[Obj.row false _ x]) hJ.e⟩
   | (rename PartR _ _ _ _ _=>hP
      have hPL:=BI_ hb hJ hP
      have hPR:=bm_ hb hJ hP
      have p1:=hP.am
      have p2:=hP.mb
      have pl:=hP.R.len
      first
       | omega
       | (simp only [zn_];omega)
       | (refine ⟨⟨?_,?_,?_,?_,?_,?_,hPR.1⟩,?_⟩<;>omega)
       | (refine ⟨⟨?_,?_,?_,?_,?_,?_,hPL.1⟩,?_⟩<;>omega)
       | (refine ⟨(_,_,_,_,_,_),⟨hPL.2,?_⟩,?_,rfl,rfl⟩
          ·(try dsimp only);omega
          ·(try dsimp only);omega)
       | (refine ⟨(_,_,_,_,_,_),⟨hPR.2,?_⟩,?_,rfl,rfl⟩
          ·(try dsimp only);omega
          ·(try dsimp only);omega))
   | (rename EqlR _ _ _ _ _ _=>hE
      have hEJ:=zbK_ hb hJ hE (by omega) (by rw [<- ei];assumption)
      have p1:=hE.am
      have p2:=hE.mb
      have pl:=hE.R.len
      refine ⟨(_,_,_,_,_,_),⟨hEJ,?_⟩,?_,rfl,rfl⟩
      ·(try dsimp only);omega
      ·(try dsimp only);omega)
 ·cases e
def JO_:IR:=
(sq (kr [0] [oM 3 0,
oE 4 3,
oM 2 4])
(kr [0,2] [oM 5 0,
oM 6 2,
oM 7 2,
oD 8 (.conv .u64 7),
oC 9 154 [8],
oD 10 (.call true (.f 153) [5,(cI 0),6,9])]))
def Jx_:List RD:=[]
theorem JE_:zo_ Tryz.prog Tryz.f128 JO_ Jx_=true:=by kernel_rfl
def qw_:List AV->List Obj->Option (Prop × AV × List Obj)
 | [.own 0],[.row false (.int .i64) l]=>some ((l.length<=60000,.tup [],[.row false (.int .i64) (srt l 0 l.length)]))
 | _,_=>none
theorem jV_:ze_ Tryz.prog 128 (RwF qw_).sum:=by
 refine qh_ Tryz.func128 JE_ (zb_ (s:=RoF QA_) js_ (zb_ (s:=RwF ZO_) k0_ (zf_ _))) fun args objs p v o e=>?_
 unfold qw_ at e
 split at e
 ·rename_i l
  cases e
  refine ⟨rfl,fun hw ho hp=>?_⟩
  change List Int at l
  clear hw ho
  change List Int at l
  have hr:=zcK_ l.length
  have hlo:Km_ l 0 l.length:=fun h0=>absurd h0 (by omega)
  repeat'(intro t ht;first|(cases t<;>first|(cases ht;done)|(try simp only[zh_]at ht;try(exfalso;first|contradiction|omega)))|((first|refine za_ ht ?_|refine ht ?_ ?_|refine ht.1 ?_ ?_|refine ht ?_)<;>clear ht))
  all_goals first
   | exact True.intro
   | omega
   | (simp only [zn_];omega)
   | (constructor<;>omega)
   | (refine ⟨?_,?_,?_,?_,?_,?_,hlo⟩<;>omega)
   | exact ⟨rfl,rfl⟩
 ·cases e
end Go.Eng
