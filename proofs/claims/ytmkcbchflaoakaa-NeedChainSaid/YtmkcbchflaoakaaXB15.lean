/- Parts of the proof: S3, S5, S6, S7, S9, SB, S8. No condition. -/
import Derived.Test.YtmkcbchflaoakaaProg
import Derived.Test.YtmkcbchflaoakaaXB10
import Derived.KernelRfl
import Derived.Test.YtmkcbchflaoakaaXB13
namespace Go.Eng
open Go.Proofs
set_option linter.unusedVariables false
set_option linter.unusedSimpArgs false
set_option maxRecDepth 100000
set_option maxHeartbeats 1000000
def qM_:IR:=
(sq (kr [0,1,2] [oM 8 1,
oB 9 .add 8 (cI 1),
oM 6 9])
(.block 0
(.loop
(sq (sq (kr [0,1,2,6] [oM 10 6,
oM 11 2,
oB 12 .lss 10 11])
(.cond 12
.skip
(.exit 0)))
(sq (.block 1
(sq (.reg [oM 15 6,
oM 7 15])
(.block 2
(.loop
(sq (sq (kd [0,1,2,6,7] [(oM 16 7,[]),
(oM 17 1,[0]),
(oB 18 .gtr 16 17,[]),
(oM 19 18,[]),
(oT 19 20 (.mov 0),[]),
(oT 19 21 (.mov 7),[0]),
(oT 19 22 (.indexSl 1 20 21),[]),
(oT 19 23 (.load none 22),[]),
(oT 19 24 (.mov 0),[0,0,0,0]),
(oT 19 25 (.mov 7),[0,0,0,0,0]),
(oT 19 26 (.bin .sub 25 (cI 1)),[1,0,0,0,0]),
(oT 19 27 (.indexSl 1 24 26),[3,0,0,0]),
(oT 19 28 (.load none 27),[4,0,0,0]),
(oT 19 29 (.call false (.f 66) [23,28]),[]),
(oP 30 19 29 cF,[])])
(.cond 30
.skip
(.exit 2)))
(sq (.block 3
(kd [0,1,2,6,7] [(oM 33 0,[]),
(oM 34 7,[0]),
(oM 35 0,[0,0]),
(oM 36 7,[0,0,0]),
(oB 37 .sub 36 (cI 1),[1,0,0]),
(oM 38 0,[0,0,0,0,0]),
(oM 39 7,[0,0,0,0,0,0]),
(oB 40 .sub 39 (cI 1),[1,0,0,0,0,0]),
(oI 41 1 38 40,[3,0,0,0,0]),
(oL 42 41,[4,0,0,0,0]),
(oM 43 0,[0,0,0,0,0,0,0,0,0,0]),
(oM 44 7,[0,0,0,0,0,0,0,0,0,0,0]),
(oI 45 1 43 44,[2,0,0,0,0,0,0,0,0,0]),
(oL 46 45,[3,0,0,0,0,0,0,0,0,0]),
(oI 47 1 33 34,[9,0,0]),
(oS 1 47 42,[10,0,0]),
(oI 48 1 35 37,[]),
(oS 1 48 46,[])]))
(kr [0,1,2,6,7] [oM 31 7,
oB 32 .sub 31 (cI 1),
oM 7 32])))))))
(kr [0,1,2,6] [oM 13 6,
oB 14 .add 13 (cI 1),
oM 6 14]))))))
def qG_:List RD:=[]
theorem qJ_:zl_ Try.prog Try.f60 qM_ qG_=true:=by kernel_rfl
def zM_:List AV->List Obj->Option (Prop × AV × List Obj)
 | [.own 0,.int .i64 a,.int .i64 b],[.row false (.int .i64) l]=>some ((0<=a/\a<=b/\b<=l.length/\l.length<=1000000,.tup [],[.row false (.int .i64) (srt l a.toNat b.toNat)]))
 | _,_=>none
theorem ql_:zf_ Try.prog 60 (RwF zM_).sum:=by
 refine kF_ Try.func60 qJ_ (zc_ (s:=RoF zR_) zZ_ (ze_ _)) fun args objs p v o e=>?_
 unfold zM_ at e
 split at e
 ·rename_i a b l
  cases e
  refine ⟨rfl,fun hw ho hp=>?_⟩
  change List Int at l
  clear hw ho
  change List Int at l
  obtain ⟨h1,h2,h3,h4⟩:=hp
  obtain ⟨a,rfl⟩:=Int.eq_ofNat_of_zero_le h1
  obtain ⟨b,rfl⟩:=Int.eq_ofNat_of_zero_le (show 0<=b by omega)
  rw [Int.toNat_natCast,Int.toNat_natCast]
  have hab:a<=b:=by omega
  have hbl:b<=l.length:=by omega
  repeat'(intro t ht;first|(cases t<;>first|(cases ht;done)|(try simp only[zh_]at ht;try(exfalso;first|contradiction|omega)))|((first|refine za_ ht ?_|refine ht ?_ ?_|refine ht.1 ?_ ?_|refine ht ?_)<;>clear ht))
  all_goals first
   | exact True.intro
   | omega
   | ((try simp only [z0_,z1_,zi_] at*);omega)
   | (intro r h1 h2;clear h1;refine h2 ⟨[0,1,2,6],Nat × List Int,(fun s=>a+1<=s.1/\(s.1<=b\/s.1=a+1)/\Rear l a b s.2/\kA_ s.2 a s.1),fun s=>[.own 0,.int .i64 a,.int .i64 b,.int .i64 s.1],fun s=>[.row false (.int .i64) s.2],fun s=>b+1 - s.1,⟨(a+1,l),⟨Nat.le_refl _,.inr rfl,Rear.refl _ _ _,fun p q _ _ _=>by omega⟩,rfl,rfl⟩,?_⟩;clear h2)
  rintro ⟨i,u⟩ ⟨hi1,hi2,hR,hS⟩
  dsimp only at hi1 hi2 hR hS
  have hl:=hR.len
  repeat'(intro t ht;first|(cases t<;>first|(cases ht;done)|(try simp only[zh_]at ht;try(exfalso;first|contradiction|omega)))|((first|refine za_ ht ?_|refine ht ?_ ?_|refine ht.1 ?_ ?_|refine ht ?_)<;>clear ht))
  all_goals first
   | exact True.intro
   | omega
   | ((try simp only [z0_,z1_,zi_] at*);omega)
   | (intro r h1 h2;clear h1;refine h2 ⟨[0,1,2,6,7],Nat × List Int,(fun s=>InsJ l s.2 a b i s.1),fun s=>[.own 0,.int .i64 a,.int .i64 b,.int .i64 i,.int .i64 s.1],fun s=>[.row false (.int .i64) s.2],fun s=>s.1,⟨(i,u),y1_ hR hS (by omega) (by omega),rfl,rfl⟩,?_⟩;clear h2)
   | (have hge:b<=i:=by omega
      have e:=JG_ hab hbl hR (hS.mono hge)
      rw [e];exact ⟨rfl,rfl⟩)
  rintro ⟨j,q⟩ hJ
  dsimp only at hJ
  have hq:=hJ.R.len
  have hj1:=hJ.aj
  have hj2:=hJ.ji
  have hj3:=hJ.ib
  have e0:((j:Int)).toNat=j:=Int.toNat_natCast j
  have e1:((j:Int) - 1).toNat=j - 1:=by omega
  repeat'(intro t ht;first|(cases t<;>first|(cases ht;done)|(try simp only[zh_]at ht;try(exfalso;first|contradiction|omega)))|((first|refine za_ ht ?_|refine ht ?_ ?_|refine ht.1 ?_ ?_|refine ht ?_)<;>clear ht))
  all_goals (try simp only [e0,e1] at*)
  all_goals first
   | exact True.intro
   | omega
   | ((try simp only [z0_,z1_,zi_] at*);omega)
   | (constructor<;>omega)
   | (rw [List.length_set];omega)
   | (refine ⟨(j - 1,_),Vt_ hbl hJ (by omega) (by assumption),?_,?_,?_⟩
      ·dsimp only;omega
      ·rw [show ((j - 1:Nat):Int)=(j:Int) - 1 by omega]
      ·rfl)
   | (have hs:=Xv_ hJ (by first | exact .inr (by assumption) | exact .inl (by omega))
      refine ⟨(i+1,q),⟨?_,?_,hJ.R,hs⟩,?_,?_,?_⟩
      ·dsimp only;omega
      ·dsimp only;omega
      ·dsimp only;omega
      ·rfl
      ·rfl)
 ·cases e
theorem BP_ {u:List Int} {f hi x:Nat} (h:¬ 2*x+2 < hi\/¬ u.getD (f+(2*x+1)) 0 < u.getD (f+(2*x+2)) 0):∀ c,(c=2*x+1\/c=2*x+2)->c < hi->u.getD (f+c) 0<=u.getD (f+(2*x+1)) 0:=fun c hc hlt=>by
 rcases hc with rfl | rfl
 ·exact Int.le_refl _
 ·rcases h with h | h
  ·omega
  ·omega
theorem BO_ {u:List Int} {f hi x:Nat} (h:u.getD (f+(2*x+1)) 0 < u.getD (f+(2*x+2)) 0):∀ c,(c=2*x+1\/c=2*x+2)->c < hi->u.getD (f+c) 0<=u.getD (f+(2*x+2)) 0:=fun c hc hlt=>by
 rcases hc with rfl | rfl
 ·omega
 ·exact Int.le_refl _
theorem H3_ {u:List Int} {a i:Nat} (hb:a+i < u.length) (h:Hp u a 0 (i+1)):Hp (swp u a (a+i)) a 1 i:=fun j c h1 h2 h3=>by
 have g:=kJ_ u (i:=a) (j:=a+i) (by omega) hb
 rw [g (a+c),g (a+j),if_neg (by omega),if_neg (by omega),if_neg (by omega),if_neg (by omega)]
 exact h j c (by omega) h2 (by omega)
theorem uk_ {l u:List Int} {a b k:Nat} (hR:Rear l a b u) (hH:Hp u a k (b - a)) (hk:k=0) (hab:a<=b):PopJ l u a b (b - a):=by subst hk;exact gi_ hR hH hab
theorem Bi_ (n:Nat):((n:Int) - 1).tdiv 2=(((n - 1) / 2+1:Nat):Int) - 1:=by
 cases n with
 | zero=>rfl
 | succ m=>rw [Int.tdiv_eq_ediv_of_nonneg (by omega)];omega
def kh_:IR:=
(sq (kr [0,1,2,3] [oM 10 1,
oM 8 10])
(.block 0
(.loop
(.block 1
(sq (kr [0,2,3,8] [oM 11 8,
oB 12 .mul (cI 2) 11,
oB 13 .add 12 (cI 1),
oM 9 13])
(sq (sq (.reg [oM 14 9,
oM 15 2,
oB 16 .geq 14 15])
(.cond 16
(.exit 0)
.skip))
(sq (sq (kd [0,2,3,8,9] [(oM 17 9,[]),
(oB 18 .add 17 (cI 1),[]),
(oM 19 2,[0,0]),
(oB 20 .lss 18 19,[]),
(oM 21 20,[]),
(oT 21 22 (.mov 0),[]),
(oT 21 23 (.mov 3),[0]),
(oT 21 24 (.mov 9),[0,0]),
(oT 21 25 (.bin .add 23 24),[2]),
(oT 21 26 (.indexSl 1 22 25),[]),
(oT 21 27 (.load none 26),[]),
(oT 21 28 (.mov 0),[0,0,0,0,0,0]),
(oT 21 29 (.mov 3),[0,0,0,0,0,0,0]),
(oT 21 30 (.mov 9),[0,0,0,0,0,0,0,0]),
(oT 21 31 (.bin .add 29 30),[2,0,0,0,0,0,0]),
(oT 21 32 (.bin .add 31 (cI 1)),[3,0,0,0,0,0,0]),
(oT 21 33 (.indexSl 1 28 32),[5,0,0,0,0,0]),
(oT 21 34 (.load none 33),[6,0,0,0,0,0]),
(oT 21 35 (.call false (.f 66) [27,34]),[]),
(oP 36 21 35 cF,[])])
(.cond 36
(kr [0,2,3,8,9] [oM 37 9,
oB 38 .add 37 (cI 1),
oM 9 38])
.skip))
(sq (sq (kd [0,2,3,8,9] [(oM 39 0,[]),
(oM 40 3,[0]),
(oM 41 8,[0,0]),
(oB 42 .add 40 41,[2]),
(oI 43 1 39 42,[]),
(oL 44 43,[]),
(oM 45 0,[0,0,0,0,0,0]),
(oM 46 3,[0,0,0,0,0,0,0]),
(oM 47 9,[0,0,0,0,0,0,0,0]),
(oB 48 .add 46 47,[2,0,0,0,0,0,0]),
(oI 49 1 45 48,[4,0,0,0,0,0]),
(oL 50 49,[5,0,0,0,0,0]),
(oC 51 66 [44,50],[]),
(oD 52 (.un .not 51),[])])
(.cond 52
.ret
.skip))
(sq (kd [0,2,3,8,9] [(oM 53 0,[]),
(oM 54 3,[0]),
(oM 55 8,[0,0]),
(oB 56 .add 54 55,[2]),
(oM 57 0,[0,0,0,0]),
(oM 58 3,[0,0,0,0,0]),
(oM 59 9,[0,0,0,0,0,0]),
(oB 60 .add 58 59,[2,0,0,0,0]),
(oM 61 0,[0,0,0,0,0,0,0,0]),
(oM 62 3,[0,0,0,0,0,0,0,0,0]),
(oM 63 9,[0,0,0,0,0,0,0,0,0,0]),
(oB 64 .add 62 63,[2,0,0,0,0,0,0,0,0]),
(oI 65 1 61 64,[4,0,0,0,0,0,0,0]),
(oL 66 65,[5,0,0,0,0,0,0,0]),
(oM 67 0,[0,0,0,0,0,0,0,0,0,0,0,0,0,0]),
(oM 68 3,[0,0,0,0,0,0,0,0,0,0,0,0,0,0,0]),
(oM 69 8,[0,0,0,0,0,0,0,0,0,0,0,0,0,0,0,0]),
(oB 70 .add 68 69,[2,0,0,0,0,0,0,0,0,0,0,0,0,0,0]),
(oI 71 1 67 70,[4,0,0,0,0,0,0,0,0,0,0,0,0,0]),
(oL 72 71,[5,0,0,0,0,0,0,0,0,0,0,0,0,0]),
(oI 73 1 53 56,[12,0,0,0]),
(oS 1 73 66,[13,0,0,0]),
(oI 74 1 57 60,[]),
(oS 1 74 72,[])])
(kr [0,2,3,9] [oM 75 9,
oM 8 75]))))))))))
def Q9_:List RD:=[]
theorem kd_:zl_ Try.prog Try.f73 kh_ Q9_=true:=by kernel_rfl
def Za_:List AV->List Obj->Option NdR
 | [.own 0,.int .i64 lo,.int .i64 hi,.int .i64 f],[.row false (.int .i64) l]=>some (⟨0<=lo/\lo<=hi/\0<=f/\0<=hi/\f+hi<=l.length/\l.length<=1000000/\Hp l f.toNat (lo.toNat+1) hi.toNat,SrX,fun x=>Rear l (f.toNat+lo.toNat) (f.toNat+hi.toNat) x.r/\Hp x.r f.toNat lo.toNat hi.toNat,fun _=>.tup [],fun x=>[.row false (.int .i64) x.r]⟩)
 | _,_=>none
theorem QE_:KW_ Try.prog 73 (NdF Za_):=by
 refine WQ_ Try.func73 kd_ (zc_ (s:=RoF zR_) zZ_ (ze_ _)) fun args objs r e=>?_
 unfold Za_ at e
 split at e
 ·rename_i lo hi f l
  cases e
  refine ⟨rfl,fun hw ho hp=>?_⟩
  change List Int at l
  clear hw ho
  change List Int at l
  obtain ⟨g1,g0,g2,g3,g4,g5,g6⟩:=hp
  obtain ⟨lo,rfl⟩:=Int.eq_ofNat_of_zero_le g1
  obtain ⟨f,rfl⟩:=Int.eq_ofNat_of_zero_le g2
  obtain ⟨hi,rfl⟩:=Int.eq_ofNat_of_zero_le g3
  simp only [Int.toNat_natCast] at g6
  have hb:f+hi<=l.length:=by omega
  repeat'(intro t ht;first|(cases t<;>first|(cases ht;done)|(try simp only[zh_]at ht;try(exfalso;first|contradiction|omega)))|((first|refine za_ ht ?_|refine ht ?_ ?_|refine ht.1 ?_ ?_|refine ht ?_)<;>clear ht))
  all_goals first
   | exact True.intro
   | (intro r h1 h2;clear h1;refine h2 ⟨[0,2,3,8],Nat × List Int,(fun s=>SiftJ l s.2 f lo hi s.1/\s.1<=lo+hi),fun s=>[.own 0,.int .i64 hi,.int .i64 f,.int .i64 s.1],fun s=>[.row false (.int .i64) s.2],fun s=>lo+hi+1 - s.1,⟨(lo,l),⟨ub_ g6,by dsimp only;omega⟩,rfl,rfl⟩,?_⟩;clear h2)
  rintro ⟨x,u⟩ ⟨hJ,hx⟩
  dsimp only at hJ hx
  have hl:=hJ.R.len
  have hlx:=hJ.lx
  have e1:((f:Int)+(2*(x:Int)+1)).toNat=f+(2*x+1):=by omega
  have e2:((f:Int)+(2*(x:Int)+1)+1).toNat=f+(2*x+2):=by omega
  have e3:((f:Int)+(2*(x:Int)+1+1)).toNat=f+(2*x+2):=by omega
  have e4:((f:Int)+(x:Int)).toNat=f+x:=by omega
  repeat'(intro t ht;first|(cases t<;>first|(cases ht;done)|(try simp only[zh_]at ht;try(exfalso;first|contradiction|omega)))|((first|refine za_ ht ?_|refine ht ?_ ?_|refine ht.1 ?_ ?_|refine ht ?_)<;>clear ht))
  all_goals (try simp only [e1,e2,e3,e4] at*)
  all_goals first
   | exact True.intro
   | omega
   | (constructor<;>omega)
   | (rw [List.length_set];omega)
   | (rw [List.length_set];constructor<;>omega)
   | (simp only [zi_];omega)
   | (refine ⟨⟨u⟩,⟨hJ.R,gb_ hJ (by omega)⟩,?_,?_⟩<;>first | rfl | exact True.intro)
   | (refine ⟨⟨u⟩,⟨hJ.R,yO_ (c0:=2*x+1) hJ (BP_ (by first | exact .inl (by omega) | exact .inr (by assumption))) (by assumption)⟩,?_,?_⟩<;>first | rfl | exact True.intro)
   | (refine ⟨⟨u⟩,⟨hJ.R,yO_ (c0:=2*x+2) hJ (BO_ (by assumption)) (by assumption)⟩,?_,?_⟩<;>first | rfl | exact True.intro)
   | (refine ⟨(2*x+1,swp u (f+x) (f+(2*x+1))),⟨yP_ hb hJ (.inl rfl) (by omega) (BP_ (by first | exact .inl (by omega) | exact .inr (by assumption))) (by assumption),?_⟩,?_,?_,?_⟩
      ·show 2*x+1<=lo+hi;omega
      ·show lo+hi+1 - (2*x+1) < lo+hi+1 - x;omega
      ·show [AV.own 0,AV.int .i64 hi,AV.int .i64 f,AV.int .i64 (2*(x:Int)+1)]=[AV.own 0,AV.int .i64 hi,AV.int .i64 f,AV.int .i64 ((2*x+1:Nat):Int)]
       rw [show ((2*x+1:Nat):Int)=2*(x:Int)+1 by omega]
      ·rfl)
   | (refine ⟨(2*x+2,swp u (f+x) (f+(2*x+2))),⟨yP_ hb hJ (.inr rfl) (by omega) (BO_ (by assumption)) (by assumption),?_⟩,?_,?_,?_⟩
      ·show 2*x+2<=lo+hi;omega
      ·show lo+hi+1 - (2*x+2) < lo+hi+1 - x;omega
      ·show [AV.own 0,AV.int .i64 hi,AV.int .i64 f,AV.int .i64 (2*(x:Int)+1+1)]=[AV.own 0,AV.int .i64 hi,AV.int .i64 f,AV.int .i64 ((2*x+2:Nat):Int)]
       rw [show ((2*x+2:Nat):Int)=2*(x:Int)+1+1 by omega]
      ·rfl)
 ·cases e
def ki_:IR:=
(sq (kr [0,1,2] [oM 11 1,
oM 6 11])
(sq (.reg [oD 7 (.mov (cI 0))])
(sq (.reg [oM 12 2,
oM 13 1,
oB 14 .sub 12 13,
oM 8 14])
(sq (sq (kr [0,6,7,8] [oM 15 8,
oB 16 .sub 15 (cI 1),
oB 17 .quo 16 (cI 2),
oM 9 17])
(.block 0
(.loop
(sq (sq (kr [0,6,7,8,9] [oM 18 9,
oB 19 .geq 18 (cI 0)])
(.cond 19
.skip
(.exit 0)))
(sq (.block 1
(kr [0,6,7,8,9] [oM 22 0,
oM 23 9,
oM 24 8,
oM 25 6,
oD 26 (.calln (.f 73) [22,23,24,25])]))
(kr [0,6,7,8,9] [oM 20 9,
oB 21 .sub 20 (cI 1),
oM 9 21]))))))
(sq (kr [0,6,7,8] [oM 27 8,
oB 28 .sub 27 (cI 1),
oM 10 28])
(.block 2
(.loop
(sq (sq (kr [0,6,7,10] [oM 29 10,
oB 30 .geq 29 (cI 0)])
(.cond 30
.skip
(.exit 2)))
(sq (.block 3
(sq (kd [0,6,7,10] [(oM 33 0,[]),
(oM 34 6,[0]),
(oM 35 0,[0,0]),
(oM 36 6,[0,0,0]),
(oM 37 10,[0,0,0,0]),
(oB 38 .add 36 37,[2,0,0]),
(oM 39 0,[0,0,0,0,0,0]),
(oM 40 6,[0,0,0,0,0,0,0]),
(oM 41 10,[0,0,0,0,0,0,0,0]),
(oB 42 .add 40 41,[2,0,0,0,0,0,0]),
(oI 43 1 39 42,[4,0,0,0,0,0]),
(oL 44 43,[5,0,0,0,0,0]),
(oM 45 0,[0,0,0,0,0,0,0,0,0,0,0,0]),
(oM 46 6,[0,0,0,0,0,0,0,0,0,0,0,0,0]),
(oI 47 1 45 46,[2,0,0,0,0,0,0,0,0,0,0,0]),
(oL 48 47,[3,0,0,0,0,0,0,0,0,0,0,0]),
(oI 49 1 33 34,[10,0,0,0]),
(oS 1 49 44,[11,0,0,0]),
(oI 50 1 35 38,[]),
(oS 1 50 48,[])])
(kr [0,6,7,10] [oM 51 0,
oM 52 7,
oM 53 10,
oM 54 6,
oD 55 (.calln (.f 73) [51,52,53,54])])))
(kr [0,6,7,10] [oM 31 10,
oB 32 .sub 31 (cI 1),
oM 10 32]))))))))))
def ka_:List RD:=[]
theorem ke_:zl_ Try.prog Try.f61 ki_ ka_=true:=by kernel_rfl
def Zb_:List AV->List Obj->Option (Prop × AV × List Obj)
 | [.own 0,.int .i64 a,.int .i64 b],[.row false (.int .i64) l]=>some ((0<=a/\a<=b/\b<=l.length/\l.length<=1000000,.tup [],[.row false (.int .i64) (srt l a.toNat b.toNat)]))
 | _,_=>none
theorem QF_:zf_ Try.prog 61 (RwF Zb_).sum:=by
 refine kF_ Try.func61 ke_ (zc_ (s:=NdF Za_) QE_ (ze_ _)) fun args objs p v o e=>?_
 unfold Zb_ at e
 split at e
 ·rename_i a b l
  cases e
  refine ⟨rfl,fun hw ho hp=>?_⟩
  change List Int at l
  clear hw ho
  change List Int at l
  obtain ⟨g1,g2,g3,g4⟩:=hp
  obtain ⟨a,rfl⟩:=Int.eq_ofNat_of_zero_le g1
  obtain ⟨b,rfl⟩:=Int.eq_ofNat_of_zero_le (show 0<=b by omega)
  rw [Int.toNat_natCast,Int.toNat_natCast]
  have hab:a<=b:=by omega
  have hbl:b<=l.length:=by omega
  have hh:((b:Int) - (a:Int))=((b - a:Nat):Int):=by omega
  have hq9:((b:Int) - (a:Int) - 1).tdiv 2=(((b - a - 1) / 2+1:Nat):Int) - 1:=by rw [hh];exact Bi_ _
  repeat'(intro t ht;first|(cases t<;>first|(cases ht;done)|(try simp only[zh_]at ht;try(exfalso;first|contradiction|omega)))|((first|refine za_ ht ?_|refine ht ?_ ?_|refine ht.1 ?_ ?_|refine ht ?_)<;>clear ht))
  all_goals first
   | exact True.intro
   | decide
   | (simp only [zi_];omega)
   | (intro r h1 h2;clear h1;refine h2 ⟨[0,6,7,8,9],Nat × List Int,(fun s=>s.1<=(b - a - 1) / 2+1/\Rear l a b s.2/\Hp s.2 a s.1 (b - a)),fun s=>[.own 0,.int .i64 a,.int .i64 0,.int .i64 ((b:Int) - (a:Int)),.int .i64 ((s.1:Int) - 1)],fun s=>[.row false (.int .i64) s.2],fun s=>s.1,⟨((b - a - 1) / 2+1,l),⟨Nat.le_refl _,Rear.refl _ _ _,hu_ (Nat.le_refl _)⟩,(by rw [hq9]),rfl⟩,?_⟩;clear h2)
  rintro ⟨k,u⟩ ⟨hk,hR,hH⟩
  dsimp only at hk hR hH
  have hl:=hR.len
  have hb9:((b:Int) - (a:Int)).toNat=b - a:=by omega
  repeat'(intro t ht;first|(cases t<;>first|(cases ht;done)|(try simp only[zh_]at ht;try(exfalso;first|contradiction|omega)))|((first|refine za_ ht ?_|refine ht ?_ ?_|refine ht.1 ?_ ?_|refine ht ?_)<;>clear ht))
  all_goals first
   | exact True.intro
   | (simp only [zi_];omega)
   | (dsimp only;simp only [zi_];omega)
   | (intro r h1 h2;clear h1;refine h2 ⟨[0,6,7,10],Nat × List Int,(fun s=>s.1<=b - a/\PopJ l s.2 a b s.1),fun s=>[.own 0,.int .i64 a,.int .i64 0,.int .i64 ((s.1:Int) - 1)],fun s=>[.row false (.int .i64) s.2],fun s=>s.1,⟨(b - a,u),⟨Nat.le_refl _,uk_ hR hH (by omega) hab⟩,(by rw [hh]),rfl⟩,?_⟩;clear h2)
   | (refine ⟨?_,?_,?_,?_,?_,?_,?_⟩
      all_goals (try dsimp only)
      all_goals first
       | omega
       | (rw [Int.toNat_natCast,hb9,show ((k:Int) - 1).toNat+1=k by omega];exact hH))
   | (obtain ⟨hr1,hr2⟩:=ht
      rw [hb9,show ((k:Int) - 1).toNat=k - 1 by omega] at hr1 hr2
      refine ⟨(k - 1,_),⟨?_,hR.trans (hr1.wide (by omega) (by omega)),hr2⟩,?_,?_,rfl⟩
      ·show k - 1<=(b - a - 1) / 2+1;omega
      ·show k - 1 < k;omega
      ·show [AV.own 0,AV.int .i64 a,AV.int .i64 0,AV.int .i64 ((b:Int) - (a:Int)),AV.int .i64 ((k:Int) - 1 - 1)]=[AV.own 0,AV.int .i64 a,AV.int .i64 0,AV.int .i64 ((b:Int) - (a:Int)),AV.int .i64 (((k - 1:Nat):Int) - 1)]
       rw [show ((k - 1:Nat):Int)=(k:Int) - 1 by omega])
  clear hk hR hH hl ht k u
  rintro ⟨k,u⟩ ⟨hk,hJ⟩
  dsimp only at hk hJ
  have hl:=hJ.R.len
  by_cases hk0:k=0
  ·subst hk0
   repeat'(intro t ht;first|(cases t<;>first|(cases ht;done)|(try simp only[zh_]at ht;try(exfalso;first|contradiction|omega)))|((first|refine za_ ht ?_|refine ht ?_ ?_|refine ht.1 ?_ ?_|refine ht ?_)<;>clear ht))
   all_goals first
    | exact True.intro
    | (have e:=HI_ hab hbl hJ
       rw [show ((0,u):Nat × List Int).2=srt l a b from e];exact ⟨rfl,rfl⟩)
  ·obtain ⟨i,rfl⟩:∃ i,k=i+1:=⟨k - 1,by omega⟩
   have e1:((a:Int)+(((i+1:Nat):Int) - 1)).toNat=a+i:=by omega
   have e2:(((i+1:Nat):Int) - 1).toNat=i:=by omega
   have e3:((i+1:Nat):Int) - 1=(i:Int):=by omega
   have hlen:(swp u a (a+i)).length=u.length:=YB_ ..
   have hps:=H3_ (u:=u) (a:=a) (i:=i) (by omega) hJ.h
   repeat'(intro t ht;first|(cases t<;>first|(cases ht;done)|(try simp only[zh_]at ht;try(exfalso;first|contradiction|omega)))|((first|refine za_ ht ?_|refine ht ?_ ?_|refine ht.1 ?_ ?_|refine ht ?_)<;>clear ht))
   all_goals first
    | exact True.intro
    | (simp only [zi_];omega)
    | (dsimp only;simp only [zi_];omega)
    | (dsimp only;omega)
    | (dsimp only;rw [List.length_set];omega)
    | (refine ⟨?_,?_,?_,?_,?_,?_,?_⟩
       all_goals (try dsimp only)
       all_goals (try simp only [List.length_set])
       all_goals first
        | omega
        | (rw [e1,e2];exact hps))
    | (rw [e1,e2] at ht
       obtain ⟨hr1,hr2⟩:=ht
       refine ⟨(i,_),⟨?_,GC_ hbl (by omega) hJ hr1 hr2⟩,?_,?_,rfl⟩
       ·show i<=b - a;omega
       ·show i < i+1;omega
       ·show [AV.own 0,AV.int .i64 a,AV.int .i64 0,AV.int .i64 (((i+1:Nat):Int) - 1 - 1)]=[AV.own 0,AV.int .i64 a,AV.int .i64 0,AV.int .i64 ((i:Int) - 1)]
        rw [e3])
 ·cases e
theorem mkP {a b j h:Int} {o:List Obj} (h1:a<=j) (h2:j < b):∃ x:SrP,(a<=x.j/\x.j < b)/\AV.tup [.int .i64 j,.int .i64 h]=AV.tup [.int .i64 x.j,.int .i64 x.h]/\o=o:=⟨⟨j,h,0⟩,⟨h1,h2⟩,rfl,rfl⟩
def o2a (l:List Int) (a b:Int):Int:=if l.getD b.toNat 0 < l.getD a.toNat 0 then b else a
def o2b (l:List Int) (a b:Int):Int:=if l.getD b.toNat 0 < l.getD a.toNat 0 then a else b
def o2s (l:List Int) (a b s:Int):Int:=if l.getD b.toNat 0 < l.getD a.toNat 0 then s+1 else s
theorem v4_ (l:List Int) (a b s:Int):(o2a l a b=a\/o2a l a b=b)/\(o2b l a b=a\/o2b l a b=b)/\s<=o2s l a b s/\o2s l a b s<=s+1:=by
 unfold o2a o2b o2s;split
 ·exact ⟨.inr rfl,.inl rfl,by omega,by omega⟩
 ·exact ⟨.inl rfl,.inr rfl,by omega,by omega⟩
def mdF (l:List Int) (a b c:Int):Int:=o2b l (o2a l a b) (o2a l (o2b l a b) c)
def mdS (l:List Int) (a b c s:Int):Int:=o2s l (o2a l a b) (o2a l (o2b l a b) c) (o2s l (o2b l a b) c (o2s l a b s))
theorem Vd_ (l:List Int) (a b c s:Int):(mdF l a b c=a\/mdF l a b c=b\/mdF l a b c=c)/\s<=mdS l a b c s/\mdS l a b c s<=s+3:=by
 obtain ⟨p1,p2,p3,p4⟩:=v4_ l a b s
 obtain ⟨q1,q2,q3,q4⟩:=v4_ l (o2b l a b) c (o2s l a b s)
 obtain ⟨r1,r2,r3,r4⟩:=v4_ l (o2a l a b) (o2a l (o2b l a b) c) (o2s l (o2b l a b) c (o2s l a b s))
 unfold mdF mdS
 refine ⟨?_,by omega,by omega⟩
 omega
def kS_:IR:=
(sq (kr [0,1,2,3] [oD 8 (.mov (cI 0)),
oD 9 (.mov (cI 0))])
(sq (sq (kd [0,1,2,3] [(oM 10 0,[]),
(oM 11 2,[0]),
(oI 12 1 10 11,[]),
(oL 13 12,[]),
(oM 14 0,[0,0,0,0]),
(oM 15 1,[0,0,0,0,0]),
(oI 16 1 14 15,[2,0,0,0]),
(oL 17 16,[3,0,0,0]),
(oC 18 66 [13,17],[])])
(.cond 18
(sq (kr [1,2,3] [oM 19 3,
oD 20 (.nilck 19),
oL 21 20,
oB 22 .add 21 (cI 1),
oD 23 (.nilck 19),
oS 1 23 22])
(sq (.reg [oM 24 2,
oM 25 1,
oM 8 24,
oM 9 25])
.ret))
.skip))
(sq (kr [1,2] [oM 26 1,
oM 27 2,
oM 8 26,
oM 9 27])
.ret)))
def kK_:List RD:=[.tmp 8 true none,.tmp 9 true none]
theorem kM_:zl_ Try.prog Try.f79 kS_ kK_=true:=by kernel_rfl
def Zo_:List AV->List Obj->Option (Prop × AV × List Obj)
 | [.imm (.int .i64) l,.int .i64 a,.int .i64 b,.ptr 0 0],[.box [.int .i64 s]]=>some ((0<=a/\a < l.length/\0<=b/\b < l.length/\0<=s/\s<=1000,.tup [.int .i64 (o2a l a b),.int .i64 (o2b l a b)],[.box [.int .i64 (o2s l a b s)]]))
 | _,_=>none
theorem ks_:zf_ Try.prog 79 (RwF Zo_).sum:=by
 refine kF_ Try.func79 kM_ (zc_ (s:=RoF zR_) zZ_ (ze_ _)) fun args objs p v o e=>?_
 unfold Zo_ at e
 split at e
 ·rename_i l a b s
  cases e
  refine ⟨rfl,fun hw ho hp=>?_⟩
  change List Int at l
  clear hw ho
  change List Int at l
  obtain ⟨g1,g2,g3,g4,g5,g6⟩:=hp
  repeat'(intro t ht;first|(cases t<;>first|(cases ht;done)|(try simp only[zh_]at ht;try(exfalso;first|contradiction|omega)))|((first|refine za_ ht ?_|refine ht ?_ ?_|refine ht.1 ?_ ?_|refine ht ?_)<;>clear ht))
  all_goals first
   | exact True.intro
   | omega
   | (constructor<;>omega)
   | (simp only [zi_];omega)
   | (unfold o2a o2b o2s;rw [if_pos ht,if_pos ht,if_pos ht];exact ⟨rfl,rfl⟩)
   | (unfold o2a o2b o2s;rw [if_neg ht,if_neg ht,if_neg ht];exact ⟨rfl,rfl⟩)
 ·cases e
def kT_:IR:=
(sq (kr [0,1,2,3,4] [oD 10 (.mov (cI 0))])
(sq (kr [0,1,2,3,4] [oM 12 0,
oM 13 1,
oM 14 2,
oM 15 4,
oC 16 79 [12,13,14,15],
oM 11 16,
oX 17 11 0,
oX 18 11 1,
oM 1 17,
oM 2 18])
(sq (kr [0,1,2,3,4] [oM 20 0,
oM 21 2,
oM 22 3,
oM 23 4,
oC 24 79 [20,21,22,23],
oM 19 24,
oX 25 19 0,
oX 26 19 1,
oM 2 25,
oM 3 26])
(sq (kr [0,1,2,4] [oM 28 0,
oM 29 1,
oM 30 2,
oM 31 4,
oC 32 79 [28,29,30,31],
oM 27 32,
oX 33 27 0,
oX 34 27 1,
oM 1 33,
oM 2 34])
(sq (kr [2] [oM 35 2,
oM 10 35])
.ret)))))
def kL_:List RD:=[.tmp 10 true none]
theorem kN_:zl_ Try.prog Try.f77 kT_ kL_=true:=by kernel_rfl
def zQ_:List AV->List Obj->Option (Prop × AV × List Obj)
 | [.imm (.int .i64) l,.int .i64 a,.int .i64 b,.int .i64 c,.ptr 0 0],[.box [.int .i64 s]]=>some ((0<=a/\a < l.length/\0<=b/\b < l.length/\0<=c/\c < l.length/\0<=s/\s<=100,.int .i64 (mdF l a b c),[.box [.int .i64 (mdS l a b c s)]]))
 | _,_=>none
theorem ZG_:zf_ Try.prog 77 (RwF zQ_).sum:=by
 refine kF_ Try.func77 kN_ (zc_ (s:=RwF Zo_) ks_ (ze_ _)) fun args objs p v o e=>?_
 unfold zQ_ at e
 split at e
 ·rename_i l a b c s
  cases e
  refine ⟨rfl,fun hw ho hp=>?_⟩
  change List Int at l
  clear hw ho
  change List Int at l
  obtain ⟨g1,g2,g3,g4,g5,g6,g7,g8⟩:=hp
  obtain ⟨p1,p2,p3,p4⟩:=v4_ l a b s
  obtain ⟨q1,q2,q3,q4⟩:=v4_ l (o2b l a b) c (o2s l a b s)
  repeat'(intro t ht;first|(cases t<;>first|(cases ht;done)|(try simp only[zh_]at ht;try(exfalso;first|contradiction|omega)))|((first|refine za_ ht ?_|refine ht ?_ ?_|refine ht.1 ?_ ?_|refine ht ?_)<;>clear ht))
  all_goals first
   | exact True.intro
   | (refine ⟨?_,?_,?_,?_,?_,?_⟩<;>omega)
   | exact ⟨rfl,rfl⟩
 ·cases e
def qw_:IR:=
(sq (kr [0,1,2] [oD 6 (.mov (cI 0))])
(sq (kr [0,1,2] [oM 7 0,
oM 8 1,
oB 9 .sub 8 (cI 1),
oM 10 1,
oM 11 1,
oB 12 .add 11 (cI 1),
oM 13 2,
oC 14 77 [7,9,10,12,13],
oM 6 14])
.ret))
def qp_:List RD:=[.tmp 6 true none]
theorem qs_:zl_ Try.prog Try.f76 qw_ qp_=true:=by kernel_rfl
def zI_:List AV->List Obj->Option (Prop × AV × List Obj)
 | [.imm (.int .i64) l,.int .i64 a,.ptr 0 0],[.box [.int .i64 s]]=>some ((1<=a/\a+1 < l.length/\l.length<=1000000/\0<=s/\s<=100,.int .i64 (mdF l (a - 1) a (a+1)),[.box [.int .i64 (mdS l (a - 1) a (a+1) s)]]))
 | _,_=>none
theorem qi_:zf_ Try.prog 76 (RwF zI_).sum:=by
 refine kF_ Try.func76 qs_ (zc_ (s:=RwF zQ_) ZG_ (ze_ _)) fun args objs p v o e=>?_
 unfold zI_ at e
 split at e
 ·rename_i l a s
  cases e
  refine ⟨rfl,fun hw ho hp=>?_⟩
  change List Int at l
  clear hw ho
  change List Int at l
  obtain ⟨g1,g2,g3,g4,g5⟩:=hp
  repeat'(intro t ht;first|(cases t<;>first|(cases ht;done)|(try simp only[zh_]at ht;try(exfalso;first|contradiction|omega)))|((first|refine za_ ht ?_|refine ht ?_ ?_|refine ht.1 ?_ ?_|refine ht ?_)<;>clear ht))
  all_goals first
   | exact True.intro
   | (simp only [zi_];omega)
   | (refine ⟨?_,?_,?_,?_,?_,?_,?_,?_⟩<;>omega)
   | exact ⟨rfl,rfl⟩
 ·cases e
def Qg_:IR:=
(sq (kr [0,1,2] [oD 6 (.mov (cI 0)),
oD 7 (.mov (cI 0))])
(sq (.reg [oM 13 2,
oM 14 1,
oB 15 .sub 13 14,
oM 8 15])
(sq (.reg [oD 9 (.box [.int .i64 0])])
(sq (kr [0,1,8,9] [oM 16 1,
oM 17 8,
oB 18 .quo 17 (cI 4),
oB 19 .mul 18 (cI 1),
oB 20 .add 16 19,
oM 10 20])
(sq (kr [0,1,8,9,10] [oM 21 1,
oM 22 8,
oB 23 .quo 22 (cI 4),
oB 24 .mul 23 (cI 2),
oB 25 .add 21 24,
oM 11 25])
(sq (kr [0,1,8,9,10,11] [oM 26 1,
oM 27 8,
oB 28 .quo 27 (cI 4),
oB 29 .mul 28 (cI 3),
oB 30 .add 26 29,
oM 12 30])
(sq (sq (.reg [oM 31 8,
oB 32 .geq 31 (cI 8)])
(.cond 32
(sq (sq (kr [0,8,9,10,11,12] [oM 33 8,
oB 34 .geq 33 (cI 50)])
(.cond 34
(sq (.reg [oM 35 0,
oM 36 10,
oC 37 76 [35,36,9],
oM 10 37])
(sq (kr [0,9,10,11,12] [oM 38 0,
oM 39 11,
oC 40 76 [38,39,9],
oM 11 40])
(.reg [oM 41 0,
oM 42 12,
oC 43 76 [41,42,9],
oM 12 43])))
.skip))
(kr [0,9,10,11,12] [oM 44 0,
oM 45 10,
oM 46 11,
oM 47 12,
oC 48 77 [44,45,46,47,9],
oM 11 48]))
.skip))
(sq (kr [9,11] [oL 49 9])
(.block 0
(sq (.reg [oB 52 .eql 49 (cI 0),
oM 51 52])
(.cond 51
(sq (.reg [oM 53 11,
oM 6 53,
oD 7 (.mov (cI 1))])
.ret)
(sq (.reg [oB 55 .eql 49 (cI 12),
oM 54 55])
(.cond 54
(sq (kr [11] [oM 56 11,
oM 6 56,
oD 7 (.mov (cI 2))])
.ret)
(sq (kr [11] [oM 50 11,
oM 6 50,
oD 7 (.mov (cI 0))])
.ret))))))))))))))
def q6_:List RD:=[.tmp 6 true none,.tmp 7 true none]
theorem Qa_:zl_ Try.prog Try.f63 Qg_ q6_=true:=by kernel_rfl
def zT_:List AV->List Obj->Option NdR
 | [.own 0,.int .i64 a,.int .i64 b],[.row false (.int .i64) l]=>some (⟨0<=a/\a+12 < b/\b<=l.length/\l.length<=1000000,SrP,fun x=>a<=x.j/\(x.j:Int) < b,fun x=>.tup [.int .i64 x.j,.int .i64 x.h],fun _=>[.row false (.int .i64) l]⟩)
 | _,_=>none
theorem qS_:KW_ Try.prog 63 (NdF zT_):=by
 refine WQ_ Try.func63 Qa_ (zc_ (s:=RwF zI_) qi_ (zc_ (s:=RwF zQ_) ZG_ (ze_ _))) fun args objs r e=>?_
 unfold zT_ at e
 split at e
 ·rename_i a b l
  cases e
  refine ⟨rfl,fun hw ho hp=>?_⟩
  change List Int at l
  clear hw ho
  change List Int at l
  obtain ⟨g1,g2,g3,g4⟩:=hp
  have hq:(b - a).tdiv 4=(b - a) / 4:=Int.tdiv_eq_ediv_of_nonneg (by omega)
  have hq1:4*(b - a).tdiv 4<=b - a/\b - a < 4*(b - a).tdiv 4+4:=by rw [hq];omega
  have M1:=Vd_ l (a+(b - a).tdiv 4*1 - 1) (a+(b - a).tdiv 4*1) (a+(b - a).tdiv 4*1+1) 0
  have M2:=Vd_ l (a+(b - a).tdiv 4*2 - 1) (a+(b - a).tdiv 4*2) (a+(b - a).tdiv 4*2+1) (mdS l (a+(b - a).tdiv 4*1 - 1) (a+(b - a).tdiv 4*1) (a+(b - a).tdiv 4*1+1) 0)
  have M3:=Vd_ l (a+(b - a).tdiv 4*3 - 1) (a+(b - a).tdiv 4*3) (a+(b - a).tdiv 4*3+1) (mdS l (a+(b - a).tdiv 4*2 - 1) (a+(b - a).tdiv 4*2) (a+(b - a).tdiv 4*2+1) (mdS l (a+(b - a).tdiv 4*1 - 1) (a+(b - a).tdiv 4*1) (a+(b - a).tdiv 4*1+1) 0))
  have M4:=Vd_ l (a+(b - a).tdiv 4*1) (a+(b - a).tdiv 4*2) (a+(b - a).tdiv 4*3) 0
  have M5:=Vd_ l (mdF l (a+(b - a).tdiv 4*1 - 1) (a+(b - a).tdiv 4*1) (a+(b - a).tdiv 4*1+1)) (mdF l (a+(b - a).tdiv 4*2 - 1) (a+(b - a).tdiv 4*2) (a+(b - a).tdiv 4*2+1)) (mdF l (a+(b - a).tdiv 4*3 - 1) (a+(b - a).tdiv 4*3) (a+(b - a).tdiv 4*3+1)) 0
  clear hq
  repeat'(intro t ht;first|(cases t<;>first|(cases ht;done)|(try simp only[zh_]at ht;try(exfalso;first|contradiction|omega)))|((first|refine za_ ht ?_|refine ht ?_ ?_|refine ht.1 ?_ ?_|refine ht ?_)<;>clear ht))
  all_goals (try generalize (b - a).tdiv 4=q at*)
  all_goals first
   | exact True.intro
   | decide
   | omega
   | (simp only [zi_];omega)
   | exact mkP (by omega) (by omega)
 ·cases e
theorem Ut_ {l u:List Int} {a b i j:Nat} (J:PartJ l u a b i j) (hij:i<=j) (h:u.getD i 0<=u.getD a 0):PartJ l u a b (i+1) j:=
 ⟨J.R,by have:=J.ai;omega,J.jb,by omega,fun k h1 h2=>by
  by_cases e:k=i
  ·rw [e];exact h
  ·exact J.lt k h1 (by omega),J.ge⟩
theorem Uu_ {l u:List Int} {a b i j:Nat} (J:PartJ l u a b i j) (hij:i<=j) (h:u.getD a 0<=u.getD j 0):PartJ l u a b i (j - 1):=
 ⟨J.R,J.ai,by have:=J.jb;omega,by have:=J.ai;omega,J.lt,fun k h1 h2=>by
  by_cases e:k=j
  ·rw [e];exact h
  ·exact J.ge k (by omega) h2⟩
theorem gm_ {l:List Int} {a b p:Nat} (hb:b<=l.length) (ha:a < b) (hp:a<=p/\p < b):PartJ l (swp l a p) a b (a+1) (b - 1):=
 ⟨Rear.swp (by omega) (by omega) hb,by omega,by omega,by omega,fun k h1 h2=>by omega,fun k h1 h2=>by omega⟩
theorem Bk_ {l u:List Int} {a b i j:Nat} {x:Int} (J:EqlJ l u a b i j x) (hij:i<=j) (h:u.getD i 0<=u.getD a 0):EqlJ l u a b (i+1) j x:=
 ⟨J.R,J.pv,by have:=J.ai;omega,J.jb,by omega,fun k h1 h2=>by
  by_cases e:k=i
  ·rw [e];exact h
  ·exact J.le k h1 (by omega),J.gt⟩
theorem Bl_ {l u:List Int} {a b i j:Nat} {x:Int} (J:EqlJ l u a b i j x) (hij:i<=j) (h:u.getD a 0 < u.getD j 0):EqlJ l u a b i (j - 1) x:=
 ⟨J.R,J.pv,J.ai,by have:=J.jb;omega,by have:=J.ai;omega,J.le,fun k h1 h2=>by
  by_cases e:k=j
  ·rw [e];exact h
  ·exact J.gt k (by omega) h2⟩
theorem hG_ {l:List Int} {a b p:Nat} (hb:b<=l.length) (ha:a < b) (hp:a<=p/\p < b):EqlJ l (swp l a p) a b (a+1) (b - 1) (l.getD p 0):=
 ⟨Rear.swp (by omega) (by omega) hb,by
  rw [kJ_ l (by omega) (by omega)]
  by_cases e:a=p
  ·rw [if_pos e,e]
  ·rw [if_neg e,if_pos rfl],by omega,by omega,by omega,fun k h1 h2=>by omega,fun k h1 h2=>by omega⟩
def q0_:IR:=
(sq (kr [0,1,2] [oM 8 1,
oM 6 8])
(sq (.reg [oM 9 2,
oB 10 .sub 9 (cI 1),
oM 7 10])
(.block 0
(.loop
(sq (sq (kr [0,6,7] [oM 11 6,
oM 12 7,
oB 13 .lss 11 12])
(.cond 13
.skip
(.exit 0)))
(.block 1
(sq (kd [0,6,7] [(oM 14 0,[]),
(oM 15 6,[0]),
(oM 16 0,[0,0]),
(oM 17 7,[0,0,0]),
(oM 18 0,[0,0,0,0]),
(oM 19 7,[0,0,0,0,0]),
(oI 20 1 18 19,[2,0,0,0]),
(oL 21 20,[3,0,0,0]),
(oM 22 0,[0,0,0,0,0,0,0,0]),
(oM 23 6,[0,0,0,0,0,0,0,0,0]),
(oI 24 1 22 23,[2,0,0,0,0,0,0,0]),
(oL 25 24,[3,0,0,0,0,0,0,0]),
(oI 26 1 14 15,[8,0]),
(oS 1 26 21,[9,0]),
(oI 27 1 16 17,[]),
(oS 1 27 25,[])])
(sq (kr [0,6,7] [oM 28 6,
oB 29 .add 28 (cI 1),
oM 6 29])
(.reg [oM 30 7,
oB 31 .sub 30 (cI 1),
oM 7 31])))))))))
def qW_:List RD:=[]
theorem qY_:zl_ Try.prog Try.f64 q0_ qW_=true:=by kernel_rfl
def zP_:List AV->List Obj->Option NdR
 | [.own 0,.int .i64 a,.int .i64 b],[.row false (.int .i64) l]=>some (⟨0<=a/\a < b/\b<=l.length/\l.length<=1000000,SrX,fun x=>Rear l a.toNat b.toNat x.r,fun _=>.tup [],fun x=>[.row false (.int .i64) x.r]⟩)
 | _,_=>none
theorem qE_:KW_ Try.prog 64 (NdF zP_):=by
 refine WQ_ Try.func64 qY_ (ze_ _) fun args objs r e=>?_
 unfold zP_ at e
 split at e
 ·rename_i a b l
  cases e
  refine ⟨rfl,fun hw ho hp=>?_⟩
  change List Int at l
  clear hw ho
  change List Int at l
  obtain ⟨g1,g2,g3,g4⟩:=hp
  obtain ⟨a,rfl⟩:=Int.eq_ofNat_of_zero_le g1
  obtain ⟨b,rfl⟩:=Int.eq_ofNat_of_zero_le (show 0<=b by omega)
  have eb:(b:Int) - 1=((b - 1:Nat):Int):=by omega
  repeat'(intro t ht;first|(cases t<;>first|(cases ht;done)|(try simp only[zh_]at ht;try(exfalso;first|contradiction|omega)))|((first|refine za_ ht ?_|refine ht ?_ ?_|refine ht.1 ?_ ?_|refine ht ?_)<;>clear ht))
  all_goals first
   | exact True.intro
   | (simp only [zi_];omega)
   | (intro r h1 h2;clear h1;refine h2 ⟨[0,6,7],Nat × Nat × List Int,(fun s=>a<=s.1/\s.2.1 < b/\Rear l a b s.2.2),fun s=>[.own 0,.int .i64 s.1,.int .i64 s.2.1],fun s=>[.row false (.int .i64) s.2.2],fun s=>s.2.1,⟨(a,b - 1,l),⟨Nat.le_refl _,by dsimp only;omega,Rear.refl _ _ _⟩,(by rw [eb]),rfl⟩,?_⟩;clear h2)
  rintro ⟨i,j,u⟩ ⟨hi,hj,hR⟩
  dsimp only at hi hj hR
  have hl:=hR.len
  repeat'(intro t ht;first|(cases t<;>first|(cases ht;done)|(try simp only[zh_]at ht;try(exfalso;first|contradiction|omega)))|((first|refine za_ ht ?_|refine ht ?_ ?_|refine ht.1 ?_ ?_|refine ht ?_)<;>clear ht))
  all_goals first
   | exact True.intro
   | (dsimp only;omega)
   | (dsimp only;simp only [zi_];omega)
   | (dsimp only;rw [List.length_set];omega)
   | exact ⟨⟨u⟩,hR,rfl,rfl⟩
   | (refine ⟨(i+1,j - 1,swp u i j),⟨?_,?_,hR.trans (Rear.swp (by omega) (by omega) (by omega))⟩,?_,?_,rfl⟩
      ·show a<=i+1;omega
      ·show j - 1 < b;omega
      ·show j - 1 < j;omega
      ·show [AV.own 0,AV.int .i64 ((i:Int)+1),AV.int .i64 ((j:Int) - 1)]=[AV.own 0,AV.int .i64 ((i+1:Nat):Int),AV.int .i64 ((j - 1:Nat):Int)]
       rw [show ((j - 1:Nat):Int)=(j:Int) - 1 by omega];rfl)
 ·cases e
def QP_:IR:=
(sq (kr [0,1,2,3] [oD 8 (.mov (cI 0)),
oD 9 (.mov cF)])
(sq (kd [0,1,2,3] [(oM 12 0,[]),
(oM 13 1,[0]),
(oM 14 0,[0,0]),
(oM 15 3,[0,0,0]),
(oM 16 0,[0,0,0,0]),
(oM 17 3,[0,0,0,0,0]),
(oI 18 1 16 17,[2,0,0,0]),
(oL 19 18,[3,0,0,0]),
(oM 20 0,[0,0,0,0,0,0,0,0]),
(oM 21 1,[0,0,0,0,0,0,0,0,0]),
(oI 22 1 20 21,[2,0,0,0,0,0,0,0]),
(oL 23 22,[3,0,0,0,0,0,0,0]),
(oI 24 1 12 13,[8,0]),
(oS 1 24 19,[9,0]),
(oI 25 1 14 15,[]),
(oS 1 25 23,[])])
(sq (kr [0,1,2] [oM 26 1,
oB 27 .add 26 (cI 1),
oM 28 2,
oB 29 .sub 28 (cI 1),
oM 10 27,
oM 11 29])
(sq (.block 0
(.loop
(sq (sq (kd [0,1,10,11] [(oM 30 10,[]),
(oM 31 11,[0]),
(oB 32 .leq 30 31,[]),
(oM 33 32,[]),
(oT 33 34 (.mov 0),[]),
(oT 33 35 (.mov 10),[0]),
(oT 33 36 (.indexSl 1 34 35),[]),
(oT 33 37 (.load none 36),[]),
(oT 33 38 (.mov 0),[0,0,0,0]),
(oT 33 39 (.mov 1),[0,0,0,0,0]),
(oT 33 40 (.indexSl 1 38 39),[2,0,0,0]),
(oT 33 41 (.load none 40),[3,0,0,0]),
(oT 33 42 (.call false (.f 66) [37,41]),[]),
(oP 43 33 42 cF,[])])
(.cond 43
.skip
(.exit 0)))
(.block 1
(kr [0,1,10,11] [oM 44 10,
oB 45 .add 44 (cI 1),
oM 10 45])))))
(sq (.block 2
(.loop
(sq (sq (kd [0,1,10,11] [(oM 46 10,[]),
(oM 47 11,[0]),
(oB 48 .leq 46 47,[]),
(oM 49 48,[]),
(oT 49 50 (.mov 0),[]),
(oT 49 51 (.mov 11),[0]),
(oT 49 52 (.indexSl 1 50 51),[]),
(oT 49 53 (.load none 52),[]),
(oT 49 54 (.mov 0),[0,0,0,0]),
(oT 49 55 (.mov 1),[0,0,0,0,0]),
(oT 49 56 (.indexSl 1 54 55),[2,0,0,0]),
(oT 49 57 (.load none 56),[3,0,0,0]),
(oT 49 58 (.call false (.f 66) [53,57]),[]),
(oT 49 59 (.un .not 58),[]),
(oP 60 49 59 cF,[])])
(.cond 60
.skip
(.exit 2)))
(.block 3
(kr [0,1,10,11] [oM 61 11,
oB 62 .sub 61 (cI 1),
oM 11 62])))))
(sq (sq (kr [0,1,10,11] [oM 63 10,
oM 64 11,
oB 65 .gtr 63 64])
(.cond 65
(sq (kd [0,1,11] [(oM 66 0,[]),
(oM 67 11,[0]),
(oM 68 0,[0,0]),
(oM 69 1,[0,0,0]),
(oM 70 0,[0,0,0,0]),
(oM 71 1,[0,0,0,0,0]),
(oI 72 1 70 71,[2,0,0,0]),
(oL 73 72,[3,0,0,0]),
(oM 74 0,[0,0,0,0,0,0,0,0]),
(oM 75 11,[0,0,0,0,0,0,0,0,0]),
(oI 76 1 74 75,[2,0,0,0,0,0,0,0]),
(oL 77 76,[3,0,0,0,0,0,0,0]),
(oI 78 1 66 67,[8,0]),
(oS 1 78 73,[9,0]),
(oI 79 1 68 69,[]),
(oS 1 79 77,[])])
(sq (kr [11] [oM 80 11,
oM 8 80,
oD 9 (.mov cT)])
.ret))
.skip))
(sq (kd [0,1,10,11] [(oM 81 0,[]),
(oM 82 10,[0]),
(oM 83 0,[0,0]),
(oM 84 11,[0,0,0]),
(oM 85 0,[0,0,0,0]),
(oM 86 11,[0,0,0,0,0]),
(oI 87 1 85 86,[2,0,0,0]),
(oL 88 87,[3,0,0,0]),
(oM 89 0,[0,0,0,0,0,0,0,0]),
(oM 90 10,[0,0,0,0,0,0,0,0,0]),
(oI 91 1 89 90,[2,0,0,0,0,0,0,0]),
(oL 92 91,[3,0,0,0,0,0,0,0]),
(oI 93 1 81 82,[8,0]),
(oS 1 93 88,[9,0]),
(oI 94 1 83 84,[]),
(oS 1 94 92,[])])
(sq (kr [0,1,10,11] [oM 95 10,
oB 96 .add 95 (cI 1),
oM 10 96])
(sq (.reg [oM 97 11,
oB 98 .sub 97 (cI 1),
oM 11 98])
(sq (.block 4
(.loop
(.block 5
(sq (.block 6
(.loop
(sq (sq (kd [0,1,10,11] [(oM 99 10,[]),
(oM 100 11,[0]),
(oB 101 .leq 99 100,[]),
(oM 102 101,[]),
(oT 102 103 (.mov 0),[]),
(oT 102 104 (.mov 10),[0]),
(oT 102 105 (.indexSl 1 103 104),[]),
(oT 102 106 (.load none 105),[]),
(oT 102 107 (.mov 0),[0,0,0,0]),
(oT 102 108 (.mov 1),[0,0,0,0,0]),
(oT 102 109 (.indexSl 1 107 108),[2,0,0,0]),
(oT 102 110 (.load none 109),[3,0,0,0]),
(oT 102 111 (.call false (.f 66) [106,110]),[]),
(oP 112 102 111 cF,[])])
(.cond 112
.skip
(.exit 6)))
(.block 7
(kr [0,1,10,11] [oM 113 10,
oB 114 .add 113 (cI 1),
oM 10 114])))))
(sq (.block 8
(.loop
(sq (sq (kd [0,1,10,11] [(oM 115 10,[]),
(oM 116 11,[0]),
(oB 117 .leq 115 116,[]),
(oM 118 117,[]),
(oT 118 119 (.mov 0),[]),
(oT 118 120 (.mov 11),[0]),
(oT 118 121 (.indexSl 1 119 120),[]),
(oT 118 122 (.load none 121),[]),
(oT 118 123 (.mov 0),[0,0,0,0]),
(oT 118 124 (.mov 1),[0,0,0,0,0]),
(oT 118 125 (.indexSl 1 123 124),[2,0,0,0]),
(oT 118 126 (.load none 125),[3,0,0,0]),
(oT 118 127 (.call false (.f 66) [122,126]),[]),
(oT 118 128 (.un .not 127),[]),
(oP 129 118 128 cF,[])])
(.cond 129
.skip
(.exit 8)))
(.block 9
(kr [0,1,10,11] [oM 130 11,
oB 131 .sub 130 (cI 1),
oM 11 131])))))
(sq (sq (kr [0,1,10,11] [oM 132 10,
oM 133 11,
oB 134 .gtr 132 133])
(.cond 134
(.exit 4)
.skip))
(sq (kd [0,1,10,11] [(oM 135 0,[]),
(oM 136 10,[0]),
(oM 137 0,[0,0]),
(oM 138 11,[0,0,0]),
(oM 139 0,[0,0,0,0]),
(oM 140 11,[0,0,0,0,0]),
(oI 141 1 139 140,[2,0,0,0]),
(oL 142 141,[3,0,0,0]),
(oM 143 0,[0,0,0,0,0,0,0,0]),
(oM 144 10,[0,0,0,0,0,0,0,0,0]),
(oI 145 1 143 144,[2,0,0,0,0,0,0,0]),
(oL 146 145,[3,0,0,0,0,0,0,0]),
(oI 147 1 135 136,[8,0]),
(oS 1 147 142,[9,0]),
(oI 148 1 137 138,[]),
(oS 1 148 146,[])])
(sq (kr [0,1,10,11] [oM 149 10,
oB 150 .add 149 (cI 1),
oM 10 150])
(.reg [oM 151 11,
oB 152 .sub 151 (cI 1),
oM 11 152])))))))))
(sq (kd [0,1,11] [(oM 153 0,[]),
(oM 154 11,[0]),
(oM 155 0,[0,0]),
(oM 156 1,[0,0,0]),
(oM 157 0,[0,0,0,0]),
(oM 158 1,[0,0,0,0,0]),
(oI 159 1 157 158,[2,0,0,0]),
(oL 160 159,[3,0,0,0]),
(oM 161 0,[0,0,0,0,0,0,0,0]),
(oM 162 11,[0,0,0,0,0,0,0,0,0]),
(oI 163 1 161 162,[2,0,0,0,0,0,0,0]),
(oL 164 163,[3,0,0,0,0,0,0,0]),
(oI 165 1 153 154,[8,0]),
(oS 1 165 160,[9,0]),
(oI 166 1 155 156,[]),
(oS 1 166 164,[])])
(sq (kr [11] [oM 167 11,
oM 8 167,
oD 9 (.mov cF)])
.ret))))))))))))
def QM_:List RD:=[.tmp 8 true none,.tmp 9 true none]
theorem QO_:zl_ Try.prog Try.f68 QP_ QM_=true:=by kernel_rfl
def z8_:List AV->List Obj->Option NdR
 | [.own 0,.int .i64 a,.int .i64 b,.int .i64 p],[.row false (.int .i64) l]=>some (⟨0<=a/\a < b/\b<=l.length/\l.length<=1000000/\a<=p/\p < b,SrF,fun x=>PartR l x.r a.toNat b.toNat x.m,fun x=>.tup [.int .i64 x.m,.bool x.f],fun x=>[.row false (.int .i64) x.r]⟩)
 | _,_=>none
theorem Qt_:KW_ Try.prog 68 (NdF z8_):=by
 refine WQ_ Try.func68 QO_ (zc_ (s:=RoF zR_) zZ_ (ze_ _)) fun args objs r e=>?_
 unfold z8_ at e
 split at e
 ·rename_i a b p l
  cases e
  refine ⟨rfl,fun hw ho hp=>?_⟩
  change List Int at l
  clear hw ho
  change List Int at l
  obtain ⟨g1,g2,g3,g4,g5,g6⟩:=hp
  obtain ⟨a,rfl⟩:=Int.eq_ofNat_of_zero_le g1
  obtain ⟨b,rfl⟩:=Int.eq_ofNat_of_zero_le (show 0<=b by omega)
  obtain ⟨p,rfl⟩:=Int.eq_ofNat_of_zero_le (show 0<=p by omega)
  have hb:b<=l.length:=by omega
  have eb:(b:Int) - 1=((b - 1:Nat):Int):=by omega
  have ea:(a:Int)+1=((a+1:Nat):Int):=by omega
  repeat'(intro t ht;first|(cases t<;>first|(cases ht;done)|(try simp only[zh_]at ht;try(exfalso;first|contradiction|omega)))|((first|refine za_ ht ?_|refine ht ?_ ?_|refine ht.1 ?_ ?_|refine ht ?_)<;>clear ht))
  all_goals first
   | exact True.intro
   | omega
   | (dsimp only;omega)
   | (simp only [zi_];omega)
   | (rw [List.length_set];omega)
   | (intro r h1 h2;clear h1;refine h2 ⟨[0,1,10,11],Nat,(fun s=>PartJ l (swp l a p) a b s (b - 1)),fun s=>[.own 0,.int .i64 a,.int .i64 s,.int .i64 ((b - 1:Nat):Int)],fun _=>[.row false (.int .i64) (swp l a p)],fun s=>b+1 - s,⟨a+1,gm_ hb (by omega) (by omega),(by rw [eb,ea]),rfl⟩,?_⟩;clear h2)
  have hw0:(swp l a p).length=l.length:=YB_ ..
  generalize swp l a p=w at*
  rintro k hK
  have hk1:=hK.ai
  have hk3:=hK.ij
  repeat'(intro t ht;first|(cases t<;>first|(cases ht;done)|(try simp only[zh_]at ht;try(exfalso;first|contradiction|omega)))|((first|refine za_ ht ?_|refine ht ?_ ?_|refine ht.1 ?_ ?_|refine ht ?_)<;>clear ht))
  all_goals (try simp only [Int.toNat_natCast] at*)
  all_goals first
   | exact True.intro
   | omega
   | (simp only [zi_];omega)
   | (refine ⟨k+1,Ut_ hK (by omega) (by omega),?_,?_,by first | rfl | exact True.intro⟩
      ·show b+1 - (k+1) < b+1 - k;omega
      ·first | rfl | exact True.intro)
   | (intro r h1 h2;clear h1;refine h2 ⟨[0,1,10,11],Nat,(fun s=>PartJ l w a b k s/\s<=b - 1/\(k<=s->w.getD a 0<=w.getD k 0)),fun s=>[.own 0,.int .i64 a,.int .i64 k,.int .i64 s],fun _=>[.row false (.int .i64) w],fun s=>s,⟨b - 1,⟨hK,Nat.le_refl _,fun hc=>by first | (exfalso;omega) | omega⟩,rfl,rfl⟩,?_⟩;clear h2)
  all_goals rintro s ⟨hM,hs1,hs2⟩
  all_goals have hm1:=hM.ij
  all_goals have es:(s:Int) - 1=((s - 1:Nat):Int)\/s=0:=by omega
  all_goals repeat'(intro t ht;first|(cases t<;>first|(cases ht;done)|(try simp only[zh_]at ht;try(exfalso;first|contradiction|omega)))|((first|refine za_ ht ?_|refine ht ?_ ?_|refine ht.1 ?_ ?_|refine ht ?_)<;>clear ht))
  all_goals (try simp only [Int.toNat_natCast] at*)
  all_goals first
   | exact True.intro
   | omega
   | (simp only [zi_];omega)
   | (rw [List.length_set];omega)
   | (have hks:¬ k<=s:=by omega
      have hE:=vS_ hb hM hks
      first
       | exact ⟨⟨swp w s a,s,true⟩,hE,rfl,rfl⟩
       | exact ⟨⟨swp w s a,s,true⟩,hE,rfl,True.intro⟩)
   | (refine ⟨s - 1,⟨Uu_ hM (by omega) (by omega),by omega,fun hc=>hs2 (by omega)⟩,?_,?_,by first | rfl | exact True.intro⟩
      ·show s - 1 < s;omega
      ·show [AV.own 0,AV.int .i64 a,AV.int .i64 k,AV.int .i64 ((s:Int) - 1)]=[AV.own 0,AV.int .i64 a,AV.int .i64 k,AV.int .i64 ((s - 1:Nat):Int)]
       rw [es.resolve_right (by omega)])
   | (have hks:=hs2 (by omega)
      have hne:k ≠ s:=fun e=>by subst e;omega
      have hst:=yV_ hb hM (by omega) hks (by omega) (by omega)
      (intro r h1 h2;clear h1;refine h2 ⟨[0,1,10,11],Nat × Nat × List Int,(fun z=>PartJ l z.2.2 a b z.1 z.2.1),fun z=>[.own 0,.int .i64 a,.int .i64 z.1,.int .i64 z.2.1],fun z=>[.row false (.int .i64) z.2.2],fun z=>b+1+z.2.1 - z.1,⟨(k+1,s - 1,swp w k s),hst,(by rw [es.resolve_right (by omega)];rfl),rfl⟩,?_⟩;clear h2))
  all_goals (clear hK hk1 hk3 hM hs1 hs2 hm1 es)
  all_goals rintro ⟨i,j,u⟩ hJ
  all_goals dsimp only at hJ
  all_goals repeat'(intro t ht;first|(cases t<;>first|(cases ht;done)|(try simp only[zh_]at ht;try(exfalso;first|contradiction|omega)))|((first|refine za_ ht ?_|refine ht ?_ ?_|refine ht.1 ?_ ?_|refine ht ?_)<;>clear ht))
  all_goals first
   | exact True.intro
   | (intro r h1 h2;clear h1;refine h2 ⟨[0,1,10,11],Nat,(fun s=>PartJ l u a b s j/\i<=s),fun s=>[.own 0,.int .i64 a,.int .i64 s,.int .i64 j],fun _=>[.row false (.int .i64) u],fun s=>b+1 - s,⟨i,⟨hJ,Nat.le_refl _⟩,rfl,rfl⟩,?_⟩;clear h2)
  all_goals rintro c ⟨hK,hik⟩
  all_goals have hl:=hK.R.len
  all_goals have hk1:=hK.ai
  all_goals have hk2:=hK.jb
  all_goals have hk3:=hK.ij
  all_goals repeat'(intro t ht;first|(cases t<;>first|(cases ht;done)|(try simp only[zh_]at ht;try(exfalso;first|contradiction|omega)))|((first|refine za_ ht ?_|refine ht ?_ ?_|refine ht.1 ?_ ?_|refine ht ?_)<;>clear ht))
  all_goals (try simp only [Int.toNat_natCast] at*)
  all_goals first
   | exact True.intro
   | omega
   | (simp only [zi_];omega)
   | (refine ⟨c+1,⟨Ut_ hK (by omega) (by omega),by omega⟩,?_,?_,by first | rfl | exact True.intro⟩
      ·show b+1 - (c+1) < b+1 - c;omega
      ·first | rfl | exact True.intro)
   | (intro r h1 h2;clear h1;refine h2 ⟨[0,1,10,11],Nat,(fun s=>PartJ l u a b c s/\s<=j/\(c<=s->u.getD a 0<=u.getD c 0)),fun s=>[.own 0,.int .i64 a,.int .i64 c,.int .i64 s],fun _=>[.row false (.int .i64) u],fun s=>s,⟨j,⟨hK,Nat.le_refl _,fun hc=>by first | (exfalso;omega) | omega⟩,rfl,rfl⟩,?_⟩;clear h2)
  all_goals rintro d ⟨hM,hs1,hs2⟩
  all_goals have hm1:=hM.ij
  all_goals have es:(d:Int) - 1=((d - 1:Nat):Int)\/d=0:=by omega
  all_goals repeat'(intro t ht;first|(cases t<;>first|(cases ht;done)|(try simp only[zh_]at ht;try(exfalso;first|contradiction|omega)))|((first|refine za_ ht ?_|refine ht ?_ ?_|refine ht.1 ?_ ?_|refine ht ?_)<;>clear ht))
  all_goals (try simp only [Int.toNat_natCast] at*)
  all_goals first
   | exact True.intro
   | omega
   | (simp only [zi_];omega)
   | (rw [List.length_set];omega)
   | (have hks:¬ c<=d:=by omega
      have hE:=vS_ hb hM hks
      first
       | exact ⟨⟨swp u d a,d,false⟩,hE,rfl,rfl⟩
       | exact ⟨⟨swp u d a,d,false⟩,hE,rfl,True.intro⟩)
   | (refine ⟨d - 1,⟨Uu_ hM (by omega) (by omega),by omega,fun hc=>hs2 (by omega)⟩,?_,?_,by first | rfl | exact True.intro⟩
      ·show d - 1 < d;omega
      ·show [AV.own 0,AV.int .i64 a,AV.int .i64 c,AV.int .i64 ((d:Int) - 1)]=[AV.own 0,AV.int .i64 a,AV.int .i64 c,AV.int .i64 ((d - 1:Nat):Int)]
       rw [es.resolve_right (by omega)])
   | (have hks:=hs2 (by omega)
      have hne:c ≠ d:=fun e=>by subst e;omega
      refine ⟨(c+1,d - 1,swp u c d),yV_ hb hM (by omega) hks (by omega) (by omega),?_,?_,by first | rfl | exact True.intro⟩
      ·show b+1+(d - 1) - (c+1) < b+1+j - i;omega
      ·show [AV.own 0,AV.int .i64 a,AV.int .i64 ((c:Int)+1),AV.int .i64 ((d:Int) - 1)]=[AV.own 0,AV.int .i64 a,AV.int .i64 ((c+1:Nat):Int),AV.int .i64 ((d - 1:Nat):Int)]
       rw [es.resolve_right (by omega)];rfl)
 ·cases e
theorem kA_.swp {u:List Int} {a i p q:Nat} (h:kA_ u a i) (hp:i<=p) (hq:i<=q) (lp:p < u.length) (lq:q < u.length):kA_ (swp u p q) a i:=fun x y h1 h2 h3=>by
 have g:=kJ_ u lp lq
 rw [g x,g y,if_neg (by omega),if_neg (by omega),if_neg (by omega),if_neg (by omega)]
 exact h x y h1 h2 h3
theorem kA_.up {u:List Int} {a i:Nat} (h:kA_ u a i) (ha:a < i) (hlt:¬ u.getD i 0 < u.getD (i - 1) 0):kA_ u a (i+1):=fun x y h1 h2 h3=>by
 by_cases e:y=i
 ·subst e
  by_cases e2:x=y - 1
  ·rw [e2];omega
  ·have:=h x (y - 1) h1 (by omega) (by omega);omega
 ·exact h x y h1 h2 (by omega)
theorem kA_.one (u:List Int) (a:Nat):kA_ u a (a+1):=fun x y h1 h2 h3=>by omega
theorem kr_.at {l r:List Int} {a b k:Nat} (h:kr_ l a b) (hR:Rear l a b r) (hab:a<=b) (hb:b<=l.length) (h0:0 < a) (h1:a<=k) (h2:k < b):¬ r.getD k 0 < r.getD (a - 1) 0:=by
 have:=h.rear hR hab hb h0 k h1 h2;omega
structure PisJ (l u:List Int) (a b i:Nat):Prop where
 R:Rear l a b u
 ai:a < i
 ib:i<=b
 s:kA_ u a i
theorem b5_ {l u:List Int} {a b i:Nat} (J:PisJ l u a b i) (hi:i < b) (hlt:¬ u.getD i 0 < u.getD (i - 1) 0):PisJ l u a b (i+1):=
 ⟨J.R,by have:=J.ai;omega,by omega,J.s.up J.ai hlt⟩
theorem GD_ {l u:List Int} {a b i:Nat} (hb:b<=l.length) (J:PisJ l u a b i) (hi:i < b):Rear l a b (swp u i (i - 1))/\kA_ (swp u i (i - 1)) a (i - 1):=by
 have hl:=J.R.len
 have h1:=J.ai
 exact ⟨J.R.trans (Rear.swp (by omega) (by omega) (by omega)),(J.s.mono (Nat.sub_le i 1)).swp (by omega) (by omega) (by omega) (by omega)⟩
theorem Us_ {l u:List Int} {a b i:Nat} (hR:Rear l a b u) (h1:a < i) (h2:i < 2+a) (hb:i<=b):PisJ l u a b i:=
 ⟨hR,h1,hb,by rw [show i=a+1 by omega];exact kA_.one u a⟩
theorem yU_ {l u:List Int} {a b i j:Nat} (hb:b<=l.length) (J:PisJ l u a b i) (h1:i < j) (h2:j < b):PisJ l (swp u j (j - 1)) a b i:=by
 have hl:=J.R.len
 have h3:=J.ai
 exact ⟨J.R.trans (Rear.swp (by omega) (by omega) (by omega)),h3,J.ib,J.s.swp (by omega) (by omega) (by omega) (by omega)⟩
def ZK_:IR:=
(sq (kr [0,1,2] [oD 6 (.mov cF)])
(sq (.reg [oM 11 1,
oB 12 .add 11 (cI 1),
oM 7 12])
(sq (sq (.reg [oD 8 (.mov (cI 0))])
(.block 0
(.loop
(sq (sq (kr [0,1,2,7,8] [oM 13 8,
oB 14 .lss 13 (cI 5)])
(.cond 14
.skip
(.exit 0)))
(sq (.block 1
(sq (.block 2
(.loop
(sq (sq (kd [0,1,2,7,8] [(oM 17 7,[]),
(oM 18 2,[0]),
(oB 19 .lss 17 18,[]),
(oM 20 19,[]),
(oT 20 21 (.mov 0),[]),
(oT 20 22 (.mov 7),[0]),
(oT 20 23 (.indexSl 1 21 22),[]),
(oT 20 24 (.load none 23),[]),
(oT 20 25 (.mov 0),[0,0,0,0]),
(oT 20 26 (.mov 7),[0,0,0,0,0]),
(oT 20 27 (.bin .sub 26 (cI 1)),[1,0,0,0,0]),
(oT 20 28 (.indexSl 1 25 27),[3,0,0,0]),
(oT 20 29 (.load none 28),[4,0,0,0]),
(oT 20 30 (.call false (.f 66) [24,29]),[]),
(oT 20 31 (.un .not 30),[]),
(oP 32 20 31 cF,[])])
(.cond 32
.skip
(.exit 2)))
(.block 3
(kr [0,1,2,7,8] [oM 33 7,
oB 34 .add 33 (cI 1),
oM 7 34])))))
(sq (sq (kr [0,1,2,7,8] [oM 35 7,
oM 36 2,
oB 37 .eql 35 36])
(.cond 37
(sq (.reg [oD 6 (.mov cT)])
.ret)
.skip))
(sq (sq (.reg [oM 38 2,
oM 39 1,
oB 40 .sub 38 39,
oB 41 .lss 40 (cI 50)])
(.cond 41
(sq (kr [] [oD 6 (.mov cF)])
.ret)
.skip))
(sq (kd [0,1,2,7,8] [(oM 42 0,[]),
(oM 43 7,[0]),
(oM 44 0,[0,0]),
(oM 45 7,[0,0,0]),
(oB 46 .sub 45 (cI 1),[1,0,0]),
(oM 47 0,[0,0,0,0,0]),
(oM 48 7,[0,0,0,0,0,0]),
(oB 49 .sub 48 (cI 1),[1,0,0,0,0,0]),
(oI 50 1 47 49,[3,0,0,0,0]),
(oL 51 50,[4,0,0,0,0]),
(oM 52 0,[0,0,0,0,0,0,0,0,0,0]),
(oM 53 7,[0,0,0,0,0,0,0,0,0,0,0]),
(oI 54 1 52 53,[2,0,0,0,0,0,0,0,0,0]),
(oL 55 54,[3,0,0,0,0,0,0,0,0,0]),
(oI 56 1 42 43,[9,0,0]),
(oS 1 56 51,[10,0,0]),
(oI 57 1 44 46,[]),
(oS 1 57 55,[])])
(sq (sq (kr [0,1,2,7,8] [oM 58 7,
oM 59 1,
oB 60 .sub 58 59,
oB 61 .geq 60 (cI 2)])
(.cond 61
(sq (.reg [oM 62 7,
oB 63 .sub 62 (cI 1),
oM 9 63])
(.block 4
(.loop
(sq (sq (kr [0,1,2,7,8,9] [oM 64 9,
oB 65 .geq 64 (cI 1)])
(.cond 65
.skip
(.exit 4)))
(sq (.block 5
(sq (sq (kd [0,1,2,7,8,9] [(oM 68 0,[]),
(oM 69 9,[0]),
(oI 70 1 68 69,[]),
(oL 71 70,[]),
(oM 72 0,[0,0,0,0]),
(oM 73 9,[0,0,0,0,0]),
(oB 74 .sub 73 (cI 1),[1,0,0,0,0]),
(oI 75 1 72 74,[3,0,0,0]),
(oL 76 75,[4,0,0,0]),
(oC 77 66 [71,76],[]),
(oD 78 (.un .not 77),[])])
(.cond 78
(.exit 4)
.skip))
(kd [0,1,2,7,8,9] [(oM 79 0,[]),
(oM 80 9,[0]),
(oM 81 0,[0,0]),
(oM 82 9,[0,0,0]),
(oB 83 .sub 82 (cI 1),[1,0,0]),
(oM 84 0,[0,0,0,0,0]),
(oM 85 9,[0,0,0,0,0,0]),
(oB 86 .sub 85 (cI 1),[1,0,0,0,0,0]),
(oI 87 1 84 86,[3,0,0,0,0]),
(oL 88 87,[4,0,0,0,0]),
(oM 89 0,[0,0,0,0,0,0,0,0,0,0]),
(oM 90 9,[0,0,0,0,0,0,0,0,0,0,0]),
(oI 91 1 89 90,[2,0,0,0,0,0,0,0,0,0]),
(oL 92 91,[3,0,0,0,0,0,0,0,0,0]),
(oI 93 1 79 80,[9,0,0]),
(oS 1 93 88,[10,0,0]),
(oI 94 1 81 83,[]),
(oS 1 94 92,[])])))
(kr [0,1,2,7,8,9] [oM 66 9,
oB 67 .sub 66 (cI 1),
oM 9 67]))))))
.skip))
(sq (kr [0,1,2,7,8] [oM 95 2,
oM 96 7,
oB 97 .sub 95 96,
oB 98 .geq 97 (cI 2)])
(.cond 98
(sq (.reg [oM 99 7,
oB 100 .add 99 (cI 1),
oM 10 100])
(.block 6
(.loop
(sq (sq (kr [0,1,2,7,8,10] [oM 101 10,
oM 102 2,
oB 103 .lss 101 102])
(.cond 103
.skip
(.exit 6)))
(sq (.block 7
(sq (sq (kd [0,1,2,7,8,10] [(oM 106 0,[]),
(oM 107 10,[0]),
(oI 108 1 106 107,[]),
(oL 109 108,[]),
(oM 110 0,[0,0,0,0]),
(oM 111 10,[0,0,0,0,0]),
(oB 112 .sub 111 (cI 1),[1,0,0,0,0]),
(oI 113 1 110 112,[3,0,0,0]),
(oL 114 113,[4,0,0,0]),
(oC 115 66 [109,114],[]),
(oD 116 (.un .not 115),[])])
(.cond 116
(.exit 6)
.skip))
(kd [0,1,2,7,8,10] [(oM 117 0,[]),
(oM 118 10,[0]),
(oM 119 0,[0,0]),
(oM 120 10,[0,0,0]),
(oB 121 .sub 120 (cI 1),[1,0,0]),
(oM 122 0,[0,0,0,0,0]),
(oM 123 10,[0,0,0,0,0,0]),
(oB 124 .sub 123 (cI 1),[1,0,0,0,0,0]),
(oI 125 1 122 124,[3,0,0,0,0]),
(oL 126 125,[4,0,0,0,0]),
(oM 127 0,[0,0,0,0,0,0,0,0,0,0]),
(oM 128 10,[0,0,0,0,0,0,0,0,0,0,0]),
(oI 129 1 127 128,[2,0,0,0,0,0,0,0,0,0]),
(oL 130 129,[3,0,0,0,0,0,0,0,0,0]),
(oI 131 1 117 118,[9,0,0]),
(oS 1 131 126,[10,0,0]),
(oI 132 1 119 121,[]),
(oS 1 132 130,[])])))
(kr [0,1,2,7,8,10] [oM 104 10,
oB 105 .add 104 (cI 1),
oM 10 105]))))))
.skip))))))))
(kr [0,1,2,7,8] [oM 15 8,
oB 16 .add 15 (cI 1),
oM 8 16]))))))
(sq (kr [] [oD 6 (.mov cF)])
.ret))))
def ZI_:List RD:=[.tmp 6 true none]
theorem ZJ_:zl_ Try.prog Try.f65 ZK_ ZI_=true:=by kernel_rfl
def zs_:List AV->List Obj->Option NdR
 | [.own 0,.int .i64 a,.int .i64 b],[.row false (.int .i64) l]=>some (⟨0<=a/\a < b/\b<=l.length/\l.length<=60000/\kr_ l a.toNat b.toNat,SrF,fun x=>Rear l a.toNat b.toNat x.r/\(x.f=true->kA_ x.r a.toNat b.toNat),fun x=>.bool x.f,fun x=>[.row false (.int .i64) x.r]⟩)
 | _,_=>none
theorem ZB_:KW_ Try.prog 65 (NdF zs_):=by
 refine WQ_ Try.func65 ZJ_ (zc_ (s:=RoF zR_) zZ_ (ze_ _)) fun args objs r e=>?_
 unfold zs_ at e
 split at e
 ·rename_i a b l
  cases e
  refine ⟨rfl,fun hw ho hp=>?_⟩
  change List Int at l
  clear hw ho
  change List Int at l
  obtain ⟨g1,g2,g3,g4,g5⟩:=hp
  obtain ⟨a,rfl⟩:=Int.eq_ofNat_of_zero_le g1
  obtain ⟨b,rfl⟩:=Int.eq_ofNat_of_zero_le (show 0<=b by omega)
  simp only [Int.toNat_natCast] at g5
  have hb:b<=l.length:=by omega
  have hab:a<=b:=by omega
  have ea:(a:Int)+1=((a+1:Nat):Int):=by omega
  repeat'(intro t ht;first|(cases t<;>first|(cases ht;done)|(try simp only[zh_]at ht;try(exfalso;first|contradiction|omega)))|((first|refine za_ ht ?_|refine ht ?_ ?_|refine ht.1 ?_ ?_|refine ht ?_)<;>clear ht))
  all_goals first
   | exact True.intro
   | omega
   | (simp only [zi_];omega)
   | (intro r h1 h2;clear h1;refine h2 ⟨[0,1,2,7,8],Nat × Nat × List Int,(fun s=>PisJ l s.2.2 a b s.1/\s.2.1<=5),fun s=>[.own 0,.int .i64 a,.int .i64 b,.int .i64 s.1,.int .i64 s.2.1],fun s=>[.row false (.int .i64) s.2.2],fun s=>6 - s.2.1,⟨(a+1,0,l),⟨⟨Rear.refl _ _ _,Nat.lt_succ_self a,by (try dsimp only);omega,kA_.one l a⟩,by (try dsimp only);omega⟩,(by rw [ea];try rfl),rfl⟩,?_⟩;clear h2)
  rintro ⟨i0,n,u⟩ ⟨hJ,hn⟩
  dsimp only at hJ hn
  repeat'(intro t ht;first|(cases t<;>first|(cases ht;done)|(try simp only[zh_]at ht;try(exfalso;first|contradiction|omega)))|((first|refine za_ ht ?_|refine ht ?_ ?_|refine ht.1 ?_ ?_|refine ht ?_)<;>clear ht))
  all_goals first
   | exact True.intro
   | exact ⟨⟨u,0,false⟩,⟨hJ.R,fun c=>by cases c⟩,rfl,by first | rfl | exact True.intro⟩
   | (intro r h1 h2;clear h1;refine h2 ⟨[0,1,2,7,8],Nat,(fun s=>PisJ l u a b s),fun s=>[.own 0,.int .i64 a,.int .i64 b,.int .i64 s,.int .i64 n],fun _=>[.row false (.int .i64) u],fun s=>b+1 - s,⟨i0,hJ,rfl,rfl⟩,?_⟩;clear h2)
  rintro i hK
  have hl:=hK.R.len
  have k1:=hK.ai
  have k2:=hK.ib
  have e1:((i:Int) - 1).toNat=i - 1:=by omega
  have ei:(i:Int) - 1=((i - 1:Nat):Int):=by omega
  have hPS:=GD_ hb hK
  repeat'(intro t ht;first|(cases t<;>first|(cases ht;done)|(try simp only[zh_]at ht;try(exfalso;first|contradiction|omega)))|((first|refine za_ ht ?_|refine ht ?_ ?_|refine ht.1 ?_ ?_|refine ht ?_)<;>clear ht))
  all_goals first
   | exact True.intro
   | (intro r h1 h2;clear h1;refine h2 ⟨[0,1,2,7,8,9],Nat × List Int,(fun z=>InsJ l z.2 a b (i - 1) z.1),fun z=>[.own 0,.int .i64 a,.int .i64 b,.int .i64 i,.int .i64 n,.int .i64 z.1],fun z=>[.row false (.int .i64) z.2],fun z=>z.1,⟨(i - 1,swp u i (i - 1)),y1_ (hPS (by omega)).1 (hPS (by omega)).2 (by omega) (by omega),(by rw [ei];try rfl),(by rw [e1];rfl)⟩,?_⟩;clear h2)
   | (intro r h1 h2;clear h1;refine h2 ⟨[0,1,2,7,8,10],Nat × List Int,(fun z=>PisJ l z.2 a b i/\i+1<=z.1),fun z=>[.own 0,.int .i64 a,.int .i64 b,.int .i64 i,.int .i64 n,.int .i64 z.1],fun z=>[.row false (.int .i64) z.2],fun z=>b+1 - z.1,⟨(i+1,swp u i (i - 1)),⟨Us_ (hPS (by omega)).1 k1 (by omega) k2,Nat.le_refl _⟩,rfl,(by rw [e1];rfl)⟩,?_⟩;clear h2)
   | ((try simp only [Int.toNat_natCast,e1] at ht ⊢)
      first
       | omega
       | (constructor<;>omega)
       | (simp only [zi_];omega)
       | (rw [List.length_set];omega)
       | (simp only [List.length_set];constructor<;>omega)
       | exact ⟨⟨u,0,true⟩,⟨hK.R,fun _=>by rw [show b=i by omega];exact hK.s⟩,rfl,by first | rfl | exact True.intro⟩
       | exact ⟨⟨u,0,false⟩,⟨hK.R,fun c=>by cases c⟩,rfl,by first | rfl | exact True.intro⟩
       | (refine ⟨i+1,b5_ hK (by omega) (by assumption),?_,rfl,by first | rfl | exact True.intro⟩
          (try dsimp only);omega)
       | (refine ⟨(i,n+1,swp u i (i - 1)),⟨Us_ (hPS (by omega)).1 k1 (by omega) k2,by (try dsimp only);omega⟩,?_,rfl,by first | rfl | exact True.intro⟩
          (try dsimp only);omega))
  ·rintro ⟨j,q⟩ ⟨hM,hj⟩
   dsimp only at hM hj
   have hq:=hM.R.len
   have f1:((j:Int) - 1).toNat=j - 1:=by omega
   repeat'(intro t ht;first|(cases t<;>first|(cases ht;done)|(try simp only[zh_]at ht;try(exfalso;first|contradiction|omega)))|((first|refine za_ ht ?_|refine ht ?_ ?_|refine ht.1 ?_ ?_|refine ht ?_)<;>clear ht))
   all_goals first
    | exact True.intro
    | ((try simp only [Int.toNat_natCast,f1] at ht ⊢)
       first
        | omega
        | (constructor<;>omega)
        | (simp only [zi_];omega)
        | (rw [List.length_set];omega)
        | (simp only [List.length_set];constructor<;>omega)
        | (refine ⟨(j+1,swp q j (j - 1)),⟨yU_ hb hM (by omega) (by omega),by (try dsimp only);omega⟩,?_,rfl,by first | rfl | exact True.intro⟩
           (try dsimp only);omega)
        | (refine ⟨(i,n+1,q),⟨hM,by (try dsimp only);omega⟩,?_,rfl,by first | rfl | exact True.intro⟩
           (try dsimp only);omega))
  ·rintro ⟨j,q⟩ hM
   dsimp only at hM
   have hq:=hM.R.len
   have m1:=hM.aj
   have m2:=hM.ji
   have f1:((j:Int) - 1).toNat=j - 1:=by omega
   have ei1:i - 1+1=i:=by omega
   repeat'(intro t ht;first|(cases t<;>first|(cases ht;done)|(try simp only[zh_]at ht;try(exfalso;first|contradiction|omega)))|((first|refine za_ ht ?_|refine ht ?_ ?_|refine ht.1 ?_ ?_|refine ht ?_)<;>clear ht))
   all_goals first
    | exact True.intro
    | (have hs:=Xv_ hM (by first | (right;first | assumption | (rw [<- f1];assumption)) | (left;omega))
       rw [ei1] at hs
       (intro r h1 h2;clear h1;refine h2 ⟨[0,1,2,7,8,10],Nat × List Int,(fun z=>PisJ l z.2 a b i/\i+1<=z.1),fun z=>[.own 0,.int .i64 a,.int .i64 b,.int .i64 i,.int .i64 n,.int .i64 z.1],fun z=>[.row false (.int .i64) z.2],fun z=>b+1 - z.1,⟨(i+1,q),⟨⟨hM.R,k1,k2,hs⟩,Nat.le_refl _⟩,rfl,rfl⟩,?_⟩;clear h2))
    | ((try simp only [Int.toNat_natCast,f1] at ht ⊢)
       first
        | omega
        | (constructor<;>omega)
        | (simp only [zi_];omega)
        | (rw [List.length_set];omega)
        | (simp only [List.length_set];constructor<;>omega)
        | (have h9:=ht
           have hja:a < j:=by
            rcases Nat.lt_or_ge a j with h | h
            ·exact h
            ·have e9:j=a:=by omega
             have z9:=g5.at hM.R hab hb (k:=a) (by omega) (Nat.le_refl _) (by omega)
             rw [e9] at h9
             exact absurd h9 z9
           refine ⟨(j - 1,swp q j (j - 1)),Vt_ hb hM hja ht,?_,?_,by first | rfl | exact True.intro⟩
           ·(try dsimp only);omega
           ·show [AV.own 0,AV.int .i64 a,AV.int .i64 b,AV.int .i64 i,AV.int .i64 n,AV.int .i64 ((j:Int) - 1)]=[AV.own 0,AV.int .i64 a,AV.int .i64 b,AV.int .i64 i,AV.int .i64 n,AV.int .i64 ((j - 1:Nat):Int)]
            rw [show ((j - 1:Nat):Int)=(j:Int) - 1 by omega])
        | (have hs:=Xv_ hM (by first | (right;first | assumption | (rw [<- f1];assumption)) | (left;omega))
           rw [ei1] at hs
           refine ⟨(i,n+1,q),⟨⟨hM.R,k1,k2,hs⟩,by (try dsimp only);omega⟩,?_,rfl,by first | rfl | exact True.intro⟩
           (try dsimp only);omega))
   all_goals clear hq m1 m2 f1 hM
   all_goals rintro ⟨j,q⟩ ⟨hM,hj⟩
   all_goals dsimp only at hM hj
   all_goals have hq:=hM.R.len
   all_goals have f1:((j:Int) - 1).toNat=j - 1:=by omega
   all_goals repeat'(intro t ht;first|(cases t<;>first|(cases ht;done)|(try simp only[zh_]at ht;try(exfalso;first|contradiction|omega)))|((first|refine za_ ht ?_|refine ht ?_ ?_|refine ht.1 ?_ ?_|refine ht ?_)<;>clear ht))
   all_goals first
    | exact True.intro
    | ((try simp only [Int.toNat_natCast,f1] at ht ⊢)
       first
        | omega
        | (constructor<;>omega)
        | (simp only [zi_];omega)
        | (rw [List.length_set];omega)
        | (simp only [List.length_set];constructor<;>omega)
        | (refine ⟨(j+1,swp q j (j - 1)),⟨yU_ hb hM (by omega) (by omega),by (try dsimp only);omega⟩,?_,rfl,by first | rfl | exact True.intro⟩
           (try dsimp only);omega)
        | (refine ⟨(i,n+1,q),⟨hM,by (try dsimp only);omega⟩,?_,rfl,by first | rfl | exact True.intro⟩
           (try dsimp only);omega))
 ·cases e
def qv_:IR:=
(sq (kr [0,1,2,3] [oD 8 (.mov (cI 0))])
(sq (kd [0,1,2,3] [(oM 11 0,[]),
(oM 12 1,[0]),
(oM 13 0,[0,0]),
(oM 14 3,[0,0,0]),
(oM 15 0,[0,0,0,0]),
(oM 16 3,[0,0,0,0,0]),
(oI 17 1 15 16,[2,0,0,0]),
(oL 18 17,[3,0,0,0]),
(oM 19 0,[0,0,0,0,0,0,0,0]),
(oM 20 1,[0,0,0,0,0,0,0,0,0]),
(oI 21 1 19 20,[2,0,0,0,0,0,0,0]),
(oL 22 21,[3,0,0,0,0,0,0,0]),
(oI 23 1 11 12,[8,0]),
(oS 1 23 18,[9,0]),
(oI 24 1 13 14,[]),
(oS 1 24 22,[])])
(sq (kr [0,1,2] [oM 25 1,
oB 26 .add 25 (cI 1),
oM 27 2,
oB 28 .sub 27 (cI 1),
oM 9 26,
oM 10 28])
(sq (.block 0
(.loop
(.block 1
(sq (.block 2
(.loop
(sq (sq (kd [0,1,9,10] [(oM 29 9,[]),
(oM 30 10,[0]),
(oB 31 .leq 29 30,[]),
(oM 32 31,[]),
(oT 32 33 (.mov 0),[]),
(oT 32 34 (.mov 1),[0]),
(oT 32 35 (.indexSl 1 33 34),[]),
(oT 32 36 (.load none 35),[]),
(oT 32 37 (.mov 0),[0,0,0,0]),
(oT 32 38 (.mov 9),[0,0,0,0,0]),
(oT 32 39 (.indexSl 1 37 38),[2,0,0,0]),
(oT 32 40 (.load none 39),[3,0,0,0]),
(oT 32 41 (.call false (.f 66) [36,40]),[]),
(oT 32 42 (.un .not 41),[]),
(oP 43 32 42 cF,[])])
(.cond 43
.skip
(.exit 2)))
(.block 3
(kr [0,1,9,10] [oM 44 9,
oB 45 .add 44 (cI 1),
oM 9 45])))))
(sq (.block 4
(.loop
(sq (sq (kd [0,1,9,10] [(oM 46 9,[]),
(oM 47 10,[0]),
(oB 48 .leq 46 47,[]),
(oM 49 48,[]),
(oT 49 50 (.mov 0),[]),
(oT 49 51 (.mov 1),[0]),
(oT 49 52 (.indexSl 1 50 51),[]),
(oT 49 53 (.load none 52),[]),
(oT 49 54 (.mov 0),[0,0,0,0]),
(oT 49 55 (.mov 10),[0,0,0,0,0]),
(oT 49 56 (.indexSl 1 54 55),[2,0,0,0]),
(oT 49 57 (.load none 56),[3,0,0,0]),
(oT 49 58 (.call false (.f 66) [53,57]),[]),
(oP 59 49 58 cF,[])])
(.cond 59
.skip
(.exit 4)))
(.block 5
(kr [0,1,9,10] [oM 60 10,
oB 61 .sub 60 (cI 1),
oM 10 61])))))
(sq (sq (kr [0,1,9,10] [oM 62 9,
oM 63 10,
oB 64 .gtr 62 63])
(.cond 64
(.exit 0)
.skip))
(sq (kd [0,1,9,10] [(oM 65 0,[]),
(oM 66 9,[0]),
(oM 67 0,[0,0]),
(oM 68 10,[0,0,0]),
(oM 69 0,[0,0,0,0]),
(oM 70 10,[0,0,0,0,0]),
(oI 71 1 69 70,[2,0,0,0]),
(oL 72 71,[3,0,0,0]),
(oM 73 0,[0,0,0,0,0,0,0,0]),
(oM 74 9,[0,0,0,0,0,0,0,0,0]),
(oI 75 1 73 74,[2,0,0,0,0,0,0,0]),
(oL 76 75,[3,0,0,0,0,0,0,0]),
(oI 77 1 65 66,[8,0]),
(oS 1 77 72,[9,0]),
(oI 78 1 67 68,[]),
(oS 1 78 76,[])])
(sq (kr [0,1,9,10] [oM 79 9,
oB 80 .add 79 (cI 1),
oM 9 80])
(.reg [oM 81 10,
oB 82 .sub 81 (cI 1),
oM 10 82])))))))))
(sq (kr [9] [oM 83 9,
oM 8 83])
.ret)))))
def qo_:List RD:=[.tmp 8 true none]
theorem qr_:zl_ Try.prog Try.f67 qv_ qo_=true:=by kernel_rfl
def zH_:List AV->List Obj->Option NdR
 | [.own 0,.int .i64 a,.int .i64 b,.int .i64 p],[.row false (.int .i64) l]=>some (⟨0<=a/\a < b/\b<=l.length/\l.length<=1000000/\a<=p/\p < b,SrM,fun x=>EqlR l x.r a.toNat b.toNat x.m (l.getD p.toNat 0),fun x=>.int .i64 x.m,fun x=>[.row false (.int .i64) x.r]⟩)
 | _,_=>none
theorem qh_:KW_ Try.prog 67 (NdF zH_):=by
 refine WQ_ Try.func67 qr_ (zc_ (s:=RoF zR_) zZ_ (ze_ _)) fun args objs r e=>?_
 unfold zH_ at e
 split at e
 ·rename_i a b p l
  cases e
  refine ⟨rfl,fun hw ho hp=>?_⟩
  change List Int at l
  clear hw ho
  change List Int at l
  obtain ⟨g1,g2,g3,g4,g5,g6⟩:=hp
  obtain ⟨a,rfl⟩:=Int.eq_ofNat_of_zero_le g1
  obtain ⟨b,rfl⟩:=Int.eq_ofNat_of_zero_le (show 0<=b by omega)
  obtain ⟨p,rfl⟩:=Int.eq_ofNat_of_zero_le (show 0<=p by omega)
  have hb:b<=l.length:=by omega
  have eb:(b:Int) - 1=((b - 1:Nat):Int):=by omega
  have ea:(a:Int)+1=((a+1:Nat):Int):=by omega
  repeat'(intro t ht;first|(cases t<;>first|(cases ht;done)|(try simp only[zh_]at ht;try(exfalso;first|contradiction|omega)))|((first|refine za_ ht ?_|refine ht ?_ ?_|refine ht.1 ?_ ?_|refine ht ?_)<;>clear ht))
  all_goals first
   | exact True.intro
   | omega
   | (dsimp only;omega)
   | (simp only [zi_];omega)
   | (rw [List.length_set];omega)
   | (intro r h1 h2;clear h1;refine h2 ⟨[0,1,9,10],Nat × Nat × List Int,(fun s=>EqlJ l s.2.2 a b s.1 s.2.1 (l.getD p 0)),fun s=>[.own 0,.int .i64 a,.int .i64 s.1,.int .i64 s.2.1],fun s=>[.row false (.int .i64) s.2.2],fun s=>b+1+s.2.1 - s.1,⟨(a+1,b - 1,swp l a p),hG_ hb (by omega) (by omega),(by rw [eb,ea]),rfl⟩,?_⟩;clear h2)
  rintro ⟨i,j,u⟩ hJ
  dsimp only at hJ
  repeat'(intro t ht;first|(cases t<;>first|(cases ht;done)|(try simp only[zh_]at ht;try(exfalso;first|contradiction|omega)))|((first|refine za_ ht ?_|refine ht ?_ ?_|refine ht.1 ?_ ?_|refine ht ?_)<;>clear ht))
  all_goals first
   | exact True.intro
   | (intro r h1 h2;clear h1;refine h2 ⟨[0,1,9,10],Nat,(fun s=>EqlJ l u a b s j (l.getD p 0)/\i<=s),fun s=>[.own 0,.int .i64 a,.int .i64 s,.int .i64 j],fun _=>[.row false (.int .i64) u],fun s=>b+1 - s,⟨i,⟨hJ,Nat.le_refl _⟩,rfl,rfl⟩,?_⟩;clear h2)
  rintro k ⟨hK,hik⟩
  have hl:=hK.R.len
  have hk1:=hK.ai
  have hk2:=hK.jb
  have hk3:=hK.ij
  repeat'(intro t ht;first|(cases t<;>first|(cases ht;done)|(try simp only[zh_]at ht;try(exfalso;first|contradiction|omega)))|((first|refine za_ ht ?_|refine ht ?_ ?_|refine ht.1 ?_ ?_|refine ht ?_)<;>clear ht))
  all_goals first
   | exact True.intro
   | omega
   | (dsimp only;omega)
   | (simp only [zi_];omega)
   | (dsimp only;simp only [zi_];omega)
   | (refine ⟨k+1,⟨Bk_ hK (by omega) (by omega),by omega⟩,?_,rfl,rfl⟩
      show b+1 - (k+1) < b+1 - k;omega)
   | (intro r h1 h2;clear h1;refine h2 ⟨[0,1,9,10],Nat,(fun s=>EqlJ l u a b k s (l.getD p 0)/\s<=j/\(k<=s->u.getD a 0 < u.getD k 0)),fun s=>[.own 0,.int .i64 a,.int .i64 k,.int .i64 s],fun _=>[.row false (.int .i64) u],fun s=>s,⟨j,⟨hK,Nat.le_refl _,fun hc=>by first | (exfalso;omega) | (simp only [Int.toNat_natCast] at*;omega)⟩,rfl,rfl⟩,?_⟩;clear h2)
  all_goals rintro s ⟨hM,hs1,hs2⟩
  all_goals have es:(s:Int) - 1=((s - 1:Nat):Int)\/s=0:=by omega
  all_goals have hm3:=hM.ij
  all_goals repeat'(intro t ht;first|(cases t<;>first|(cases ht;done)|(try simp only[zh_]at ht;try(exfalso;first|contradiction|omega)))|((first|refine za_ ht ?_|refine ht ?_ ?_|refine ht.1 ?_ ?_|refine ht ?_)<;>clear ht))
  all_goals (try simp only [Int.toNat_natCast] at*)
  all_goals first
   | exact True.intro
   | omega
   | (simp only [zi_];omega)
   | (rw [List.length_set];omega)
   | (have hks:¬ k<=s:=by omega
      have hE:=H6_ hM hks
      first
       | exact ⟨⟨u,k⟩,hE,rfl,rfl⟩
       | exact ⟨⟨u,k⟩,hE,rfl,True.intro⟩)
   | (refine ⟨s - 1,⟨Bl_ hM (by omega) (by assumption),by omega,fun hc=>hs2 (by omega)⟩,?_,?_,by first | rfl | exact True.intro⟩
      ·show s - 1 < s;omega
      ·show [AV.own 0,AV.int .i64 a,AV.int .i64 k,AV.int .i64 ((s:Int) - 1)]=[AV.own 0,AV.int .i64 a,AV.int .i64 k,AV.int .i64 ((s - 1:Nat):Int)]
       rw [es.resolve_right (by omega)])
   | (have hks:=hs2 (by omega)
      have hne:k ≠ s:=fun e=>by subst e;contradiction
      refine ⟨(k+1,s - 1,swp u k s),hE_ hb hM hks (by omega) (by omega),?_,?_,by first | rfl | exact True.intro⟩
      ·show b+1+(s - 1) - (k+1) < b+1+j - i;omega
      ·show [AV.own 0,AV.int .i64 a,AV.int .i64 ((k:Int)+1),AV.int .i64 ((s:Int) - 1)]=[AV.own 0,AV.int .i64 a,AV.int .i64 ((k+1:Nat):Int),AV.int .i64 ((s - 1:Nat):Int)]
       rw [es.resolve_right (by omega)];rfl)
 ·cases e
end Go.Eng
