/- Parts of the proof: J3, J4, J5, A1, A2, M3, M4, SX. No condition. -/
import Derived.Test.YtjajlkddpekdjaaDoorProg
import Derived.Test.YtjajlkddpekdjaaDoorXC10
import Derived.KernelRfl
import Derived.Test.YtjajlkddpekdjaaDoorXC12
import Derived.Test.YtjajlkddpekdjaaDoorXC11
namespace Go.Eng
open Go.Proofs
set_option linter.unusedVariables false
set_option linter.unusedSimpArgs false
set_option maxRecDepth 100000
set_option maxHeartbeats 1000000
def Z2_:IR:=
(sq (kr [0,1,2,3] [oM 10 1,
oB 11 .add 10 (cI 1),
oM 8 11])
(.block 0
(.loop
(sq (sq (kr [0,1,2,3,8] [oM 12 8,
oM 13 2,
oB 14 .lss 12 13])
(.cond 14
.skip
(.exit 0)))
(sq (.block 1
(sq (.reg [oM 17 8,
oM 9 17])
(.block 2
(.loop
(sq (sq (kd [0,1,2,3,8,9] [(oM 18 9,[]),
(oM 19 1,[0]),
(oB 20 .gtr 18 19,[]),
(oM 21 20,[]),
(oT 21 22 (.mov 3),[]),
(oT 21 23 (.mov 0),[0]),
(oT 21 24 (.mov 9),[0,0]),
(oT 21 25 (.indexSl 6 23 24),[2]),
(oT 21 26 (.load (some 6) 25),[3]),
(oT 21 27 (.mov 0),[0,0,0,0,0]),
(oT 21 28 (.mov 9),[0,0,0,0,0,0]),
(oT 21 29 (.bin .sub 28 (cI 1)),[1,0,0,0,0,0]),
(oT 21 30 (.indexSl 6 27 29),[3,0,0,0,0]),
(oT 21 31 (.load (some 6) 30),[4,0,0,0,0]),
(oT 21 32 (.call false 22 [26,31]),[]),
(oT 21 33 (.bin .lss 32 (cI 0)),[]),
(oP 34 21 33 cF,[])])
(.cond 34
.skip
(.exit 2)))
(sq (.block 3
(kd [0,1,2,3,8,9] [(oM 37 0,[]),
(oM 38 9,[0]),
(oM 39 0,[0,0]),
(oM 40 9,[0,0,0]),
(oB 41 .sub 40 (cI 1),[1,0,0]),
(oM 42 0,[0,0,0,0,0]),
(oM 43 9,[0,0,0,0,0,0]),
(oB 44 .sub 43 (cI 1),[1,0,0,0,0,0]),
(oI 45 6 42 44,[3,0,0,0,0]),
(oK 46 6 45,[4,0,0,0,0]),
(oM 47 0,[0,0,0,0,0,0,0,0,0,0]),
(oM 48 9,[0,0,0,0,0,0,0,0,0,0,0]),
(oI 49 6 47 48,[2,0,0,0,0,0,0,0,0,0]),
(oK 50 6 49,[3,0,0,0,0,0,0,0,0,0]),
(oI 51 6 37 38,[9,0,0]),
(oS 6 51 46,[10,0,0]),
(oI 52 6 39 41,[]),
(oS 6 52 50,[])]))
(kr [0,1,2,3,8,9] [oM 35 9,
oB 36 .sub 35 (cI 1),
oM 9 36])))))))
(kr [0,1,2,3,8] [oM 15 8,
oB 16 .add 15 (cI 1),
oM 8 16]))))))
def ZW_:List RD:=[]
theorem ZZ_:zm_ Tryd.prog Tryd.f73 Z2_ ZW_=true:=by kernel_rfl
def zC_:List AV->List Obj->Option (Prop × AV × List Obj)
 | [.own 0,.int .i64 a,.int .i64 b,(.fn 45 [] [])],[.row false (.cons (.int .i64) (.cons (.int .i64) (.cons .bool (.cons (.int .u64) (.cons (.sl (.int .u8)) (.cons (.sl (.int .u8)) .nil)))))) l]=>some ((0<=a/\a<=b/\b<=l.length/\l.length<=100000,.tup [],[.row false Y1 (stS ltO (l:List OV) a.toNat b.toNat)]))
 | _,_=>none
theorem ZR_:zf_ Tryd.prog 73 (RwF zC_).sum:=by
 refine Wp_ Tryd.func73 ZZ_ (zb_ (s:=RoF qA_) Q8_ (ze_ _)) fun args objs p v o e=>?_
 unfold zC_ at e
 split at e
 ·rename_i a b l
  cases e
  refine ⟨rfl,fun hw ho hp=>?_⟩
  clear hw ho
  change List OV at l
  obtain ⟨h1,h2,h3,h4⟩:=hp
  obtain ⟨a,rfl⟩:=Int.eq_ofNat_of_zero_le h1
  obtain ⟨b,rfl⟩:=Int.eq_ofNat_of_zero_le (show 0<=b by omega)
  rw [Int.toNat_natCast,Int.toNat_natCast]
  have hab:a<=b:=by omega
  have hbl:b<=l.length:=by omega
  repeat'(intro t ht;first|(cases t<;>first|(cases ht;done)|(try simp only[zg_]at ht;try(exfalso;first|contradiction|omega)))|((first|refine za_ ht ?_|refine ht ?_ ?_|refine ht.1 ?_ ?_|refine ht ?_)<;>clear ht))
  all_goals first
   | exact True.intro
   | omega
   | ((try dsimp only);simp only [zp_];omega)
   | (intro r h1 h2;clear h1;refine h2 ⟨[0,1,2,3,8],Nat × List OV,(fun s=>a+1<=s.1/\(s.1<=b\/s.1=a+1)/\Stb ltO l a b s.2/\zQ_ ltO (Ty.dflt Y1) s.2 a s.1),fun s=>[.own 0,.int .i64 a,.int .i64 b,(.fn 45 [] []),.int .i64 s.1],fun s=>[.row false Y1 s.2],fun s=>b+1 - s.1,⟨(a+1,l),⟨Nat.le_refl _,.inr rfl,Stb.refl _ _ _,zQ_.none _ (Nat.le_refl _)⟩,rfl,rfl⟩,?_⟩;clear h2)
  rintro ⟨i,u⟩ ⟨hi1,hi2,hR,hS⟩
  dsimp only at hi1 hi2 hR hS
  have hl:=hR.len
  repeat'(intro t ht;first|(cases t<;>first|(cases ht;done)|(try simp only[zg_]at ht;try(exfalso;first|contradiction|omega)))|((first|refine za_ ht ?_|refine ht ?_ ?_|refine ht.1 ?_ ?_|refine ht ?_)<;>clear ht))
  all_goals first
   | exact True.intro
   | omega
   | ((try dsimp only);simp only [zp_];omega)
   | (intro r h1 h2;clear h1;refine h2 ⟨[0,1,2,3,8,9],Nat × List OV,(fun s=>InsG ltO (Ty.dflt Y1) l s.2 a b i s.1),fun s=>[.own 0,.int .i64 a,.int .i64 b,(.fn 45 [] []),.int .i64 i,.int .i64 s.1],fun s=>[.row false Y1 s.2],fun s=>s.1,⟨(i,u),Ug_ hR hS (by omega) (by omega),rfl,rfl⟩,?_⟩;clear h2)
   | (have hge:b<=i:=by omega
      have e:=wv_ zn_ (d:=(Ty.dflt Y1)) hab hbl hR (hS.sub (Nat.le_refl _) hge)
      rw [e];exact ⟨by first | rfl | exact True.intro,rfl⟩)
  rintro ⟨j,q⟩ hJ
  dsimp only at hJ
  have hq:=hJ.R.len
  have hj1:=hJ.aj
  have hj2:=hJ.ji
  have hj3:=hJ.ib
  have e1:((j:Int) - 1).toNat=j - 1:=by omega
  repeat'(intro t ht;first|(cases t<;>first|(cases ht;done)|(try simp only[zg_]at ht;try(exfalso;first|contradiction|omega)))|((first|refine za_ ht ?_|refine ht ?_ ?_|refine ht.1 ?_ ?_|refine ht ?_)<;>clear ht))
  all_goals (try simp only [Int.toNat_natCast,e1] at ht ⊢)
  all_goals first
   | exact True.intro
   | omega
   | ((try dsimp only);simp only [zp_];omega)
   | (constructor<;>omega)
   | (rw [List.length_set];omega)
   | (simp only [List.length_set];constructor<;>omega)
   | (have hs:=Yp_ zn_ hJ (.inr ((vS_ _ _).1 ht))
      refine ⟨(i+1,q),⟨?_,?_,hJ.R,hs⟩,?_,?_,by first | rfl | exact True.intro⟩
      ·(try dsimp only);omega
      ·(try dsimp only);omega
      ·(try dsimp only);omega
      ·rfl)
   | (have hs:=Yp_ zn_ hJ (.inl (by omega))
      refine ⟨(i+1,q),⟨?_,?_,hJ.R,hs⟩,?_,?_,by first | rfl | exact True.intro⟩
      ·(try dsimp only);omega
      ·(try dsimp only);omega
      ·(try dsimp only);omega
      ·rfl)
   | (have hs:=g1_ zn_ hbl hJ (by omega) ((XP_ _ _).1 ht)
      refine ⟨(j - 1,_),hs,?_,?_,by first | rfl | exact True.intro⟩
      ·(try dsimp only);omega
      ·(try dsimp only)
       rw [show ((j - 1:Nat):Int)=(j:Int) - 1 by omega])
 ·cases e
def gz_ (d:OV) (l:List OV) (a b:Nat):Nat->List OV
 | 0=>l
 | n+1=>xt_ d (gz_ d l a b n) (a+n) (b+n)
theorem Vc_ (d:OV) (l:List OV) (a b:Nat):∀ n,(gz_ d l a b n).length=l.length
 | 0=>rfl
 | n+1=>by unfold gz_;rw [JF_,Vc_ d l a b n]
theorem xb_ (d:OV) (l:List OV) (a b:Nat) {N:Nat} (hab:a+N<=b) (hb:b+N<=l.length):∀ n,n<=N->SwR l a b n d (gz_ d l a b n)
 | 0,_=>Bk_ l a b d
 | n+1,h=>Gy_ (xb_ d l a b hab hb n (by omega)) (by omega) hab hb
def qN_:IR:=
(sq (kr [0,1,2,3] [oD 10 (.mov (cI 0))])
(.block 0
(.loop
(sq (sq (kr [0,1,2,3,10] [oM 11 10,
oM 12 3,
oB 13 .lss 11 12])
(.cond 13
.skip
(.exit 0)))
(sq (.block 1
(kd [0,1,2,3,10] [(oM 16 0,[]),
(oM 17 1,[0]),
(oM 18 10,[0,0]),
(oB 19 .add 17 18,[2]),
(oM 20 0,[0,0,0,0]),
(oM 21 2,[0,0,0,0,0]),
(oM 22 10,[0,0,0,0,0,0]),
(oB 23 .add 21 22,[2,0,0,0,0]),
(oM 24 0,[0,0,0,0,0,0,0,0]),
(oM 25 2,[0,0,0,0,0,0,0,0,0]),
(oM 26 10,[0,0,0,0,0,0,0,0,0,0]),
(oB 27 .add 25 26,[2,0,0,0,0,0,0,0,0]),
(oI 28 6 24 27,[4,0,0,0,0,0,0,0]),
(oK 29 6 28,[5,0,0,0,0,0,0,0]),
(oM 30 0,[0,0,0,0,0,0,0,0,0,0,0,0,0,0]),
(oM 31 1,[0,0,0,0,0,0,0,0,0,0,0,0,0,0,0]),
(oM 32 10,[0,0,0,0,0,0,0,0,0,0,0,0,0,0,0,0]),
(oB 33 .add 31 32,[2,0,0,0,0,0,0,0,0,0,0,0,0,0,0]),
(oI 34 6 30 33,[4,0,0,0,0,0,0,0,0,0,0,0,0,0]),
(oK 35 6 34,[5,0,0,0,0,0,0,0,0,0,0,0,0,0]),
(oI 36 6 16 19,[12,0,0,0]),
(oS 6 36 29,[13,0,0,0]),
(oI 37 6 20 23,[]),
(oS 6 37 35,[])]))
(kr [0,1,2,3,10] [oM 14 10,
oB 15 .add 14 (cI 1),
oM 10 15]))))))
def qL_:List RD:=[]
theorem qM_:zm_ Tryd.prog Tryd.f90 qN_ qL_=true:=by kernel_rfl
def zN_:List AV->List Obj->Option (Prop × AV × List Obj)
 | [.own 0,.int .i64 a,.int .i64 b,.int .i64 n,(.fn 45 [] [])],[.row false (.cons (.int .i64) (.cons (.int .i64) (.cons .bool (.cons (.int .u64) (.cons (.sl (.int .u8)) (.cons (.sl (.int .u8)) .nil)))))) l]=>some ((0<=a/\0<=n/\a+n<=b/\b+n<=l.length/\l.length<=100000,.tup [],[.row false Y1 (gz_ (Ty.dflt Y1) (l:List OV) a.toNat b.toNat n.toNat)]))
 | _,_=>none
theorem qs_:zf_ Tryd.prog 90 (RwF zN_).sum:=by
 refine Wp_ Tryd.func90 qM_ (ze_ _) fun args objs p v o e=>?_
 unfold zN_ at e
 split at e
 ·rename_i a b n l
  cases e
  refine ⟨rfl,fun hw ho hp=>?_⟩
  clear hw ho
  change List OV at l
  obtain ⟨h1,h2,h3,h4,h5⟩:=hp
  obtain ⟨a,rfl⟩:=Int.eq_ofNat_of_zero_le h1
  obtain ⟨n,rfl⟩:=Int.eq_ofNat_of_zero_le h2
  obtain ⟨b,rfl⟩:=Int.eq_ofNat_of_zero_le (show 0<=b by omega)
  simp only [Int.toNat_natCast]
  repeat'(intro t ht;first|(cases t<;>first|(cases ht;done)|(try simp only[zg_]at ht;try(exfalso;first|contradiction|omega)))|((first|refine za_ ht ?_|refine ht ?_ ?_|refine ht.1 ?_ ?_|refine ht ?_)<;>clear ht))
  all_goals first
   | exact True.intro
   | (intro r h1 h2;clear h1;refine h2 ⟨[0,1,2,3,10],Nat,(fun i=>i<=n),fun i=>[.own 0,.int .i64 a,.int .i64 b,.int .i64 n,.int .i64 i],fun i=>[.row false Y1 (gz_ (Ty.dflt Y1) l a b i)],fun i=>n - i,⟨0,Nat.zero_le _,rfl,rfl⟩,?_⟩;clear h2)
  rintro i hi
  have hl:=Vc_ (Ty.dflt Y1) l a b i
  have e1:((a:Int)+i).toNat=a+i:=by omega
  have e2:((b:Int)+i).toNat=b+i:=by omega
  repeat'(intro t ht;first|(cases t<;>first|(cases ht;done)|(try simp only[zg_]at ht;try(exfalso;first|contradiction|omega)))|((first|refine za_ ht ?_|refine ht ?_ ?_|refine ht.1 ?_ ?_|refine ht ?_)<;>clear ht))
  all_goals (try simp only [Int.toNat_natCast,e1,e2] at ht ⊢)
  all_goals first
   | exact True.intro
   | omega
   | ((try dsimp only);simp only [zp_];omega)
   | (constructor<;>omega)
   | (rw [List.length_set];omega)
   | (simp only [List.length_set];constructor<;>omega)
   | (have e:n=i:=by omega
      rw [e];exact ⟨by first | rfl | exact True.intro,by first | rfl | exact True.intro⟩)
   | (refine ⟨i+1,?_,?_,rfl,rfl⟩
      ·(try dsimp only);omega
      ·(try dsimp only);omega)
 ·cases e
def GK_ (l:List OV) (a m b:Nat):List OV:=l.take a++((l.take b).drop m++((l.take m).drop a++l.drop b))
def Qu_:IR:=
(sq (kr [0,1,2,3,4] [oM 12 2,
oM 13 1,
oB 14 .sub 12 13,
oM 10 14])
(sq (.reg [oM 15 3,
oM 16 2,
oB 17 .sub 15 16,
oM 11 17])
(sq (.block 0
(.loop
(sq (sq (kr [0,2,4,10,11] [oM 18 10,
oM 19 11,
oB 20 .neq 18 19])
(.cond 20
.skip
(.exit 0)))
(.block 1
(sq (.reg [oM 21 10,
oM 22 11,
oB 23 .gtr 21 22])
(.cond 23
(sq (kr [0,2,4,10,11] [oM 24 0,
oM 25 2,
oM 26 10,
oB 27 .sub 25 26,
oM 28 2,
oM 29 11,
oM 30 4,
oD 31 (.call true (.f 90) [24,27,28,29,30])])
(kr [0,2,4,10,11] [oM 32 10,
oM 33 11,
oB 34 .sub 32 33,
oM 10 34]))
(sq (kr [0,2,4,10,11] [oM 35 0,
oM 36 2,
oM 37 10,
oB 38 .sub 36 37,
oM 39 2,
oM 40 11,
oB 41 .add 39 40,
oM 42 10,
oB 43 .sub 41 42,
oM 44 10,
oM 45 4,
oD 46 (.call true (.f 90) [35,38,43,44,45])])
(kr [0,2,4,10,11] [oM 47 11,
oM 48 10,
oB 49 .sub 47 48,
oM 11 49]))))))))
(kr [0,2,4,10] [oM 50 0,
oM 51 2,
oM 52 10,
oB 53 .sub 51 52,
oM 54 2,
oM 55 10,
oM 56 4,
oD 57 (.call true (.f 90) [50,53,54,55,56])]))))
def Qn_:List RD:=[]
theorem Qq_:zm_ Tryd.prog Tryd.f85 Qu_ Qn_=true:=by kernel_rfl
def zW_:List AV->List Obj->Option (Prop × AV × List Obj)
 | [.own 0,.int .i64 a,.int .i64 m,.int .i64 b,(.fn 45 [] [])],[.row false (.cons (.int .i64) (.cons (.int .i64) (.cons .bool (.cons (.int .u64) (.cons (.sl (.int .u8)) (.cons (.sl (.int .u8)) .nil)))))) l]=>some ((0<=a/\a < m/\m < b/\b<=l.length/\l.length<=100000,.tup [],[.row false Y1 (GK_ (l:List OV) a.toNat m.toNat b.toNat)]))
 | _,_=>none
theorem qY_:zf_ Tryd.prog 85 (RwF zW_).sum:=by
 refine Wp_ Tryd.func85 Qq_ (zb_ (s:=RwF zN_) qs_ (ze_ _)) fun args objs p v o e=>?_
 unfold zW_ at e
 split at e
 ·rename_i a m b l
  cases e
  refine ⟨rfl,fun hw ho hp=>?_⟩
  clear hw ho
  change List OV at l
  obtain ⟨h1,h2,h3,h4,h5⟩:=hp
  obtain ⟨a,rfl⟩:=Int.eq_ofNat_of_zero_le h1
  obtain ⟨m,rfl⟩:=Int.eq_ofNat_of_zero_le (show 0<=m by omega)
  obtain ⟨b,rfl⟩:=Int.eq_ofNat_of_zero_le (show 0<=b by omega)
  simp only [Int.toNat_natCast]
  have hb:b<=l.length:=by omega
  have f1:(m:Int) - a=((m - a:Nat):Int):=by omega
  have f2:(b:Int) - m=((b - m:Nat):Int):=by omega
  repeat'(intro t ht;first|(cases t<;>first|(cases ht;done)|(try simp only[zg_]at ht;try(exfalso;first|contradiction|omega)))|((first|refine za_ ht ?_|refine ht ?_ ?_|refine ht.1 ?_ ?_|refine ht ?_)<;>clear ht))
  all_goals first
   | exact True.intro
   | ((try dsimp only);simp only [zp_];omega)
   | (intro r h1 h2;clear h1;refine h2 ⟨[0,2,4,10,11],Nat × Nat × List OV,(fun s=>RotJ l s.2.2 a m b s.1 s.2.1 (Ty.dflt Y1)),fun s=>[.own 0,.int .i64 m,(.fn 45 [] []),.int .i64 s.1,.int .i64 s.2.1],fun s=>[.row false Y1 s.2.2],fun s=>s.1+s.2.1,⟨(m - a,b - m,l),gI_ (by omega) (by omega),(by dsimp only;rw [f1,f2]),rfl⟩,?_⟩;clear h2)
  rintro ⟨i,j,u⟩ hJ
  dsimp only at hJ
  have hl:=hJ.len
  have j1:=hJ.i0
  have j2:=hJ.j0
  have j3:=hJ.ai
  have j4:=hJ.jb
  have e1:((m:Int) - i).toNat=m - i:=by omega
  have e2:((m:Int)+j - i).toNat=m+j - i:=by omega
  repeat'(intro t ht;first|(cases t<;>first|(cases ht;done)|(try simp only[zg_]at ht;try(exfalso;first|contradiction|omega)))|((first|refine za_ ht ?_|refine ht ?_ ?_|refine ht.1 ?_ ?_|refine ht ?_)<;>clear ht))
  all_goals (try simp only [Int.toNat_natCast,e1,e2] at ht ⊢)
  all_goals first
   | exact True.intro
   | omega
   | ((try dsimp only);simp only [zp_];omega)
   | (constructor<;>omega)
   | (refine ⟨?_,?_,?_,?_,?_⟩<;>omega)
   | (have hsw:=xb_ (Ty.dflt Y1) u (m - i) m (N:=i) (by omega) (by omega) i (Nat.le_refl _)
      have e:i=j:=by omega
      subst e
      have hr:=(Hp_ hb hJ hsw).list (by omega) (by omega) hb
      rw [hr];exact ⟨by first | rfl | exact True.intro,rfl⟩)
   | (have hsw:=xb_ (Ty.dflt Y1) u (m - i) m (N:=j) (by omega) (by omega) j (Nat.le_refl _)
      refine ⟨(i - j,j,_),bG_ hb hJ (by omega) hsw,?_,?_,by first | rfl | exact True.intro⟩
      ·(try dsimp only);omega
      ·(try dsimp only)
       rw [show ((i - j:Nat):Int)=(i:Int) - j by omega])
   | (have hsw:=xb_ (Ty.dflt Y1) u (m - i) (m+j - i) (N:=i) (by omega) (by omega) i (Nat.le_refl _)
      refine ⟨(i,j - i,_),bF_ hb hJ (by omega) hsw,?_,?_,by first | rfl | exact True.intro⟩
      ·(try dsimp only);omega
      ·(try dsimp only)
       rw [show ((j - i:Nat):Int)=(j:Int) - i by omega])
 ·cases e
structure OneJ (l:List OV) (d:OV) (x:Nat) (lo hi i j:Nat) (up:Bool):Prop where
 li:lo<=i
 ij:i<=j
 jh:j<=hi
 f:∀ h,lo<=h->h < i->(if up=true then ltO (l.getD h d) (l.getD x d)=true else ltO (l.getD x d) (l.getD h d)=false)
 t:∀ h,j<=h->h < hi->(if up=true then ltO (l.getD h d) (l.getD x d)=false else ltO (l.getD x d) (l.getD h d)=true)
theorem x8_ (l:List OV) (d:OV) (x:Nat) {lo hi:Nat} (up:Bool) (h:lo<=hi):OneJ l d x lo hi lo hi up:=⟨Nat.le_refl _,h,Nat.le_refl _,fun h h1 h2=>by omega,fun h h1 h2=>by omega⟩
theorem Hy_ {l:List OV} {d:OV} {a b i j h:Nat} (hs:zQ_ ltO d l (a+1) b) (J:OneJ l d a (a+1) b i j true) (h1:i<=h) (h2:h < j) (hlt:ltO (l.getD h d) (l.getD a d)=true):OneJ l d a (a+1) b (h+1) j true:=by
 obtain ⟨j1,j2,j3,j4,j5⟩:=J
 refine ⟨by omega,by omega,j3,fun k k1 k2=>?_,j5⟩
 rw [if_pos rfl]
 have e1:=qE_ zn_ hs (i:=k) (j:=h) k1 (by omega) (by omega)
 exact zn_.le_lt e1 hlt
theorem Hz_ {l:List OV} {d:OV} {a b i j h:Nat} (hs:zQ_ ltO d l (a+1) b) (J:OneJ l d a (a+1) b i j true) (h1:i<=h) (h2:h < j) (hlt:ltO (l.getD h d) (l.getD a d)=false):OneJ l d a (a+1) b i h true:=by
 obtain ⟨j1,j2,j3,j4,j5⟩:=J
 refine ⟨j1,h1,by omega,j4,fun k k1 k2=>?_⟩
 rw [if_pos rfl]
 have e1:=qE_ zn_ hs (i:=h) (j:=k) (by omega) k1 k2
 exact zn_.neg _ _ _ e1 hlt
theorem HA_ {l:List OV} {d:OV} {a m i j h:Nat} (hs:zQ_ ltO d l a m) (J:OneJ l d m a m i j false) (h1:i<=h) (h2:h < j) (hlt:ltO (l.getD m d) (l.getD h d)=false):OneJ l d m a m (h+1) j false:=by
 obtain ⟨j1,j2,j3,j4,j5⟩:=J
 refine ⟨by omega,by omega,j3,fun k k1 k2=>?_,j5⟩
 rw [if_neg (by decide)]
 have e1:=qE_ zn_ hs (i:=k) (j:=h) k1 (by omega) (by omega)
 exact zn_.neg _ _ _ hlt e1
theorem HB_ {l:List OV} {d:OV} {a m i j h:Nat} (hs:zQ_ ltO d l a m) (J:OneJ l d m a m i j false) (h1:i<=h) (h2:h < j) (hlt:ltO (l.getD m d) (l.getD h d)=true):OneJ l d m a m i h false:=by
 obtain ⟨j1,j2,j3,j4,j5⟩:=J
 refine ⟨j1,h1,by omega,j4,fun k k1 k2=>?_⟩
 rw [if_neg (by decide)]
 have e1:=qE_ zn_ hs (i:=h) (j:=k) (by omega) k1 (by omega)
 exact zn_.lt_le hlt e1
theorem bM_ {l u:List OV} {d:OV} {a b i:Nat} (hb:b<=l.length) (hab:a < b) (hs:zQ_ ltO d l (a+1) b) (J:OneJ l d a (a+1) b i i true) (h:Rot l a (a+1) i d u):u=stS ltO l a b:=
 Br_ zn_ hb J.li J.jh hs (fun k k1 k2=>by have:=J.f k k1 k2;rwa [if_pos rfl] at this) (fun k k1 k2=>by have:=J.t k k1 k2;rwa [if_pos rfl] at this) h
theorem bN_ {l u:List OV} {d:OV} {a m i:Nat} (hb:m+1<=l.length) (hs:zQ_ ltO d l a m) (J:OneJ l d m a m i i false) (h:Rot l i m (m+1) d u):u=stS ltO l a (m+1):=
 Bs_ zn_ hb J.li J.jh hs (fun k k1 k2=>by have:=J.f k k1 k2;rwa [if_neg (by decide)] at this) (fun k k1 k2=>by have:=J.t k k1 k2;rwa [if_neg (by decide)] at this) h
theorem HU_ (x:Nat):((x:Int)).fdiv (2 ^ min (Int.toNat 1) IntKind.u64.bits)=((x / 2:Nat):Int):=by
 show ((x:Int)).fdiv (2 ^ 1)=_
 rw [Int.fdiv_eq_ediv_of_nonneg _ (by decide)];omega
theorem wf_ (x y:Nat):((x:Int)+(y:Int)).fdiv (2 ^ min (Int.toNat 1) IntKind.u64.bits)=(((x+y) / 2:Nat):Int):=by
 rw [<- HU_];rfl
theorem GJ_ {l:List OV} (d:OV) {a m b:Nat} (ham:a<=m) (hmb:m<=b) (hb:b<=l.length):Rot l a m b d (GK_ l a m b):=by
 refine ⟨?_,fun k hk=>?_⟩
 ·unfold GK_;simp only [List.length_append,List.length_take,List.length_drop];omega
 ·unfold GK_ zq_
  rw [Zj_,Zj_,Zj_,J3_,J3_,kC_]
  simp only [List.length_take,List.length_drop]
  by_cases c1:k < a
  ·rw [if_pos c1,if_pos (show k < min a l.length by omega),kB_ c1]
  ·rw [if_neg c1,if_neg (show ¬ k < min a l.length by omega)]
   by_cases c2:k < a+(b - m)
   ·rw [if_pos c2,if_pos (show k - min a l.length < min b l.length - m by omega),if_pos (by omega)];congr 1;omega
   ·rw [if_neg c2,if_neg (show ¬ k - min a l.length < min b l.length - m by omega)]
    by_cases c3:k < b
    ·rw [if_pos c3,if_pos (show k - min a l.length - (min b l.length - m) < min m l.length - a by omega),if_pos (by omega)];congr 1;omega
    ·rw [if_neg c3,if_neg (show ¬ k - min a l.length - (min b l.length - m) < min m l.length - a by omega)];congr 1;omega
def qW_:IR:=
(sq (sq (kr [0,1,2,3,4] [oM 25 2,
oM 26 1,
oB 27 .sub 25 26,
oB 28 .eql 27 (cI 1)])
(.cond 28
(sq (.reg [oM 29 2,
oM 10 29])
(sq (kr [0,1,3,4,10] [oM 30 3,
oM 11 30])
(sq (.block 0
(.loop
(sq (sq (kr [0,1,4,10,11] [oM 31 10,
oM 32 11,
oB 33 .lss 31 32])
(.cond 33
.skip
(.exit 0)))
(.block 1
(sq (kr [0,1,4,10,11] [oM 34 10,
oM 35 11,
oB 36 .add 34 35,
oD 37 (.conv .u64 36),
oB 38 .shr 37 (.c (.int .u64 1)),
oD 39 (.conv .i64 38),
oM 12 39])
(sq (kd [0,1,4,10,11,12] [(oM 40 4,[]),
(oM 41 0,[0]),
(oM 42 12,[0,0]),
(oI 43 6 41 42,[2]),
(oK 44 6 43,[3]),
(oM 45 0,[0,0,0,0,0]),
(oM 46 1,[0,0,0,0,0,0]),
(oI 47 6 45 46,[2,0,0,0,0]),
(oK 48 6 47,[3,0,0,0,0]),
(oD 49 (.call false 40 [44,48]),[]),
(oB 50 .lss 49 (cI 0),[])])
(.cond 50
(kr [0,1,4,11,12] [oM 51 12,
oB 52 .add 51 (cI 1),
oM 10 52])
(kr [0,1,4,10,12] [oM 53 12,
oM 11 53]))))))))
(sq (sq (kr [0,1,10] [oM 54 1,
oM 13 54])
(.block 2
(.loop
(sq (sq (kr [0,10,13] [oM 55 13,
oM 56 10,
oB 57 .sub 56 (cI 1),
oB 58 .lss 55 57])
(.cond 58
.skip
(.exit 2)))
(sq (.block 3
(kd [0,10,13] [(oM 61 0,[]),
(oM 62 13,[0]),
(oM 63 0,[0,0]),
(oM 64 13,[0,0,0]),
(oB 65 .add 64 (cI 1),[1,0,0]),
(oM 66 0,[0,0,0,0,0]),
(oM 67 13,[0,0,0,0,0,0]),
(oB 68 .add 67 (cI 1),[1,0,0,0,0,0]),
(oI 69 6 66 68,[3,0,0,0,0]),
(oK 70 6 69,[4,0,0,0,0]),
(oM 71 0,[0,0,0,0,0,0,0,0,0,0]),
(oM 72 13,[0,0,0,0,0,0,0,0,0,0,0]),
(oI 73 6 71 72,[2,0,0,0,0,0,0,0,0,0]),
(oK 74 6 73,[3,0,0,0,0,0,0,0,0,0]),
(oI 75 6 61 62,[9,0,0]),
(oS 6 75 70,[10,0,0]),
(oI 76 6 63 65,[]),
(oS 6 76 74,[])]))
(kr [0,10,13] [oM 59 13,
oB 60 .add 59 (cI 1),
oM 13 60]))))))
.ret))))
.skip))
(sq (sq (kr [0,1,2,3,4] [oM 77 3,
oM 78 2,
oB 79 .sub 77 78,
oB 80 .eql 79 (cI 1)])
(.cond 80
(sq (.reg [oM 81 1,
oM 14 81])
(sq (kr [0,2,4,14] [oM 82 2,
oM 15 82])
(sq (.block 4
(.loop
(sq (sq (kr [0,2,4,14,15] [oM 83 14,
oM 84 15,
oB 85 .lss 83 84])
(.cond 85
.skip
(.exit 4)))
(.block 5
(sq (kr [0,2,4,14,15] [oM 86 14,
oM 87 15,
oB 88 .add 86 87,
oD 89 (.conv .u64 88),
oB 90 .shr 89 (.c (.int .u64 1)),
oD 91 (.conv .i64 90),
oM 16 91])
(sq (kd [0,2,4,14,15,16] [(oM 92 4,[]),
(oM 93 0,[0]),
(oM 94 2,[0,0]),
(oI 95 6 93 94,[2]),
(oK 96 6 95,[3]),
(oM 97 0,[0,0,0,0,0]),
(oM 98 16,[0,0,0,0,0,0]),
(oI 99 6 97 98,[2,0,0,0,0]),
(oK 100 6 99,[3,0,0,0,0]),
(oD 101 (.call false 92 [96,100]),[]),
(oB 102 .lss 101 (cI 0),[]),
(oD 103 (.un .not 102),[])])
(.cond 103
(kr [0,2,4,15,16] [oM 104 16,
oB 105 .add 104 (cI 1),
oM 14 105])
(kr [0,2,4,14,16] [oM 106 16,
oM 15 106]))))))))
(sq (sq (kr [0,2,14] [oM 107 2,
oM 17 107])
(.block 6
(.loop
(sq (sq (kr [0,14,17] [oM 108 17,
oM 109 14,
oB 110 .gtr 108 109])
(.cond 110
.skip
(.exit 6)))
(sq (.block 7
(kd [0,14,17] [(oM 113 0,[]),
(oM 114 17,[0]),
(oM 115 0,[0,0]),
(oM 116 17,[0,0,0]),
(oB 117 .sub 116 (cI 1),[1,0,0]),
(oM 118 0,[0,0,0,0,0]),
(oM 119 17,[0,0,0,0,0,0]),
(oB 120 .sub 119 (cI 1),[1,0,0,0,0,0]),
(oI 121 6 118 120,[3,0,0,0,0]),
(oK 122 6 121,[4,0,0,0,0]),
(oM 123 0,[0,0,0,0,0,0,0,0,0,0]),
(oM 124 17,[0,0,0,0,0,0,0,0,0,0,0]),
(oI 125 6 123 124,[2,0,0,0,0,0,0,0,0,0]),
(oK 126 6 125,[3,0,0,0,0,0,0,0,0,0]),
(oI 127 6 113 114,[9,0,0]),
(oS 6 127 122,[10,0,0]),
(oI 128 6 115 117,[]),
(oS 6 128 126,[])]))
(kr [0,14,17] [oM 111 17,
oB 112 .sub 111 (cI 1),
oM 17 112]))))))
.ret))))
.skip))
(sq (kr [0,1,2,3,4] [oM 129 1,
oM 130 3,
oB 131 .add 129 130,
oD 132 (.conv .u64 131),
oB 133 .shr 132 (.c (.int .u64 1)),
oD 134 (.conv .i64 133),
oM 18 134])
(sq (kr [0,1,2,3,4,18] [oM 135 18,
oM 136 2,
oB 137 .add 135 136,
oM 19 137])
(sq (.reg [oD 20 (.mov (cI 0)),
oD 21 (.mov (cI 0))])
(sq (sq (.reg [oM 138 2,
oM 139 18,
oB 140 .gtr 138 139])
(.cond 140
(sq (kr [0,1,2,3,4,18,19] [oM 141 19,
oM 142 3,
oB 143 .sub 141 142,
oM 20 143])
(.reg [oM 144 18,
oM 21 144]))
(sq (kr [0,1,2,3,4,18,19] [oM 145 1,
oM 20 145])
(.reg [oM 146 2,
oM 21 146]))))
(sq (.reg [oM 147 19,
oB 148 .sub 147 (cI 1),
oM 22 148])
(sq (.block 8
(.loop
(sq (sq (kr [0,1,2,3,4,18,19,20,21,22] [oM 149 20,
oM 150 21,
oB 151 .lss 149 150])
(.cond 151
.skip
(.exit 8)))
(.block 9
(sq (kr [0,1,2,3,4,18,19,20,21,22] [oM 152 20,
oM 153 21,
oB 154 .add 152 153,
oD 155 (.conv .u64 154),
oB 156 .shr 155 (.c (.int .u64 1)),
oD 157 (.conv .i64 156),
oM 23 157])
(sq (kd [0,1,2,3,4,18,19,20,21,22,23] [(oM 158 4,[]),
(oM 159 0,[0]),
(oM 160 22,[0,0]),
(oM 161 23,[0,0,0]),
(oB 162 .sub 160 161,[2,0]),
(oI 163 6 159 162,[4]),
(oK 164 6 163,[5]),
(oM 165 0,[0,0,0,0,0,0,0]),
(oM 166 23,[0,0,0,0,0,0,0,0]),
(oI 167 6 165 166,[2,0,0,0,0,0,0]),
(oK 168 6 167,[3,0,0,0,0,0,0]),
(oD 169 (.call false 158 [164,168]),[]),
(oB 170 .lss 169 (cI 0),[]),
(oD 171 (.un .not 170),[])])
(.cond 171
(kr [0,1,2,3,4,18,19,21,22,23] [oM 172 23,
oB 173 .add 172 (cI 1),
oM 20 173])
(kr [0,1,2,3,4,18,19,20,22,23] [oM 174 23,
oM 21 174]))))))))
(sq (kr [0,1,2,3,4,18,19,20] [oM 175 19,
oM 176 20,
oB 177 .sub 175 176,
oM 24 177])
(sq (sq (kr [0,1,2,3,4,18,20,24] [oM 178 20,
oM 179 2,
oB 180 .lss 178 179,
oM 181 180,
oT 181 182 (.mov 2),
oT 181 183 (.mov 24),
oT 181 184 (.bin .lss 182 183),
oP 185 181 184 cF])
(.cond 185
(kr [0,1,2,3,4,18,20,24] [oM 186 0,
oM 187 20,
oM 188 2,
oM 189 24,
oM 190 4,
oD 191 (.call true (.f 85) [186,187,188,189,190])])
.skip))
(sq (sq (kr [0,1,3,4,18,20,24] [oM 192 1,
oM 193 20,
oB 194 .lss 192 193,
oM 195 194,
oT 195 196 (.mov 20),
oT 195 197 (.mov 18),
oT 195 198 (.bin .lss 196 197),
oP 199 195 198 cF])
(.cond 199
(kr [0,1,3,4,18,20,24] [oM 200 0,
oM 201 1,
oM 202 20,
oM 203 18,
oM 204 4,
oD 205 (.call true (.f 74) [200,201,202,203,204])])
.skip))
(sq (kr [0,3,4,18,24] [oM 206 18,
oM 207 24,
oB 208 .lss 206 207,
oM 209 208,
oT 209 210 (.mov 24),
oT 209 211 (.mov 3),
oT 209 212 (.bin .lss 210 211),
oP 213 209 212 cF])
(.cond 213
(kr [0,3,4,18,24] [oM 214 0,
oM 215 18,
oM 216 24,
oM 217 3,
oM 218 4,
oD 219 (.call true (.f 74) [214,215,216,217,218])])
.skip)))))))))))))
def qU_:List RD:=[]
theorem qV_:zm_ Tryd.prog Tryd.f74 qW_ qU_=true:=by kernel_rfl
def zP_:List AV->List Obj->Option (Prop × AV × List Obj)
 | [.own 0,.int .i64 a,.int .i64 m,.int .i64 b,(.fn 45 [] [])],[.row false (.cons (.int .i64) (.cons (.int .i64) (.cons .bool (.cons (.int .u64) (.cons (.sl (.int .u8)) (.cons (.sl (.int .u8)) .nil)))))) l]=>some ((0<=a/\a < m/\m < b/\b<=l.length/\l.length<=100000/\zQ_ ltO (Ty.dflt Y1) (l:List OV) a.toNat m.toNat/\zQ_ ltO (Ty.dflt Y1) (l:List OV) m.toNat b.toNat,.tup [],[.row false Y1 (stS ltO (l:List OV) a.toNat b.toNat)]))
 | _,_=>none
theorem qI_:zf_ Tryd.prog 74 (RwF zP_).sum:=by
 refine bE_ (fun args=>match args with | [_,.int _ a,_,.int _ b,_]=>(b - a).toNat | _=>0) Tryd.func74 qV_ (zb_ (s:=RoF qA_) Q8_ (zb_ (s:=RwF zW_) qY_ (ze_ _))) fun args objs p v o e=>?_
 unfold zP_ at e
 split at e
 ·rename_i a m b l
  cases e
  refine ⟨rfl,fun hw ho hp=>?_⟩
  clear hw ho
  change List OV at l
  obtain ⟨h1,h2,h3,h4,h5,hs1,hs2⟩:=hp
  obtain ⟨a,rfl⟩:=Int.eq_ofNat_of_zero_le h1
  obtain ⟨m,rfl⟩:=Int.eq_ofNat_of_zero_le (show 0<=m by omega)
  obtain ⟨b,rfl⟩:=Int.eq_ofNat_of_zero_le (show 0<=b by omega)
  simp only [Int.toNat_natCast] at hs1 hs2 ⊢
  have hb:b<=l.length:=by omega
  have ham:a < m:=by omega
  have hmb:m < b:=by omega
  have hmid:=wf_ a b
  generalize hMid:(a+b) / 2=mid at hmid
  have hm2:2*mid<=a+b/\a+b<=2*mid+1:=by omega
  obtain ⟨s0,r0,k1,k2,k3,k4,k5,k6,k7,k8,k9⟩:∃ s0 r0:Nat,a<=s0/\r0<=m/\mid+m<=b+s0/\m+r0<=mid+m/\s0<=r0/\(s0=a\/mid+m - s0=b)/\(r0=m\/mid+m - r0=m)/\r0<=mid/\((mid < m/\s0=mid+m - b/\r0=mid)\/(m<=mid/\s0=a/\r0=m)):=by
   by_cases c:mid < m
   ·exact ⟨mid+m - b,mid,by omega,by omega,by omega,by omega,by omega,by omega,by omega,by omega,by omega⟩
   ·exact ⟨a,m,by omega,by omega,by omega,by omega,by omega,by omega,by omega,by omega,by omega⟩
  by_cases c1:m=a+1
  ·have hs2':zQ_ ltO (Ty.dflt Y1) l (a+1) b:=by rw [<- c1];exact hs2
   repeat'(intro t ht;first|(cases t<;>first|(cases ht;done)|(try simp only[zg_]at ht;try(exfalso;first|contradiction|omega)))|((first|refine za_ ht ?_|refine ht ?_ ?_|refine ht.1 ?_ ?_|refine ht ?_)<;>clear ht))
   all_goals first
    | exact True.intro
    | omega
    | ((try dsimp only);simp only [zp_];omega)
    | (intro r h1 h2;clear h1;refine h2 ⟨[0,1,4,10,11],Nat × Nat,(fun s=>OneJ l (Ty.dflt Y1) a (a+1) b s.1 s.2 true),fun s=>[.own 0,.int .i64 a,(.fn 45 [] []),.int .i64 s.1,.int .i64 s.2],fun _=>[.row false Y1 l],fun s=>s.2 - s.1,⟨(a+1,b),x8_ l (Ty.dflt Y1) a true (by omega),(by dsimp only;rw [show ((a+1:Nat):Int)=m by omega]),rfl⟩,?_⟩;clear h2)
   rintro ⟨i,j⟩ hJ
   dsimp only at hJ
   have q1:=hJ.li
   have q2:=hJ.ij
   have q3:=hJ.jh
   have hh:=wf_ i j
   obtain ⟨h,hh1⟩:∃ h,h=(i+j) / 2:=⟨_,rfl⟩
   rw [<- hh1] at hh
   repeat'(intro t ht;first|(cases t<;>first|(cases ht;done)|(try simp only[zg_]at ht;try(exfalso;first|contradiction|omega)))|((first|refine za_ ht ?_|refine ht ?_ ?_|refine ht.1 ?_ ?_|refine ht ?_)<;>clear ht))
   all_goals (try simp only [hh,Int.toNat_natCast] at ht ⊢)
   all_goals first
    | exact True.intro
    | omega
    | ((try dsimp only);simp only [zp_];omega)
    | (constructor<;>omega)
    | (refine ⟨(h+1,j),Hy_ hs2' hJ (by omega) (by omega) ((XP_ _ _).1 ht),?_,rfl,by first | rfl | exact True.intro⟩
       (try dsimp only);omega)
    | (refine ⟨(i,h),Hz_ hs2' hJ (by omega) (by omega) ((vS_ _ _).1 ht),?_,rfl,by first | rfl | exact True.intro⟩
       (try dsimp only);omega)
    | (intro r h1 h2;clear h1;refine h2 ⟨[0,10,13],Nat × List OV,(fun s=>a<=s.1/\s.1+1<=i/\Rot l a (a+1) (s.1+1) (Ty.dflt Y1) s.2),fun s=>[.own 0,.int .i64 i,.int .i64 s.1],fun s=>[.row false Y1 s.2],fun s=>i - s.1,⟨(a,l),⟨Nat.le_refl _,by (try dsimp only);omega,bH_ l a (Ty.dflt Y1)⟩,rfl,rfl⟩,?_⟩;clear h2)
   rintro ⟨k,u⟩ ⟨p1,p2,p3⟩
   dsimp only at p1 p2 p3
   have hl:=p3.len
   have e1:((k:Int)+1).toNat=k+1:=by omega
   repeat'(intro t ht;first|(cases t<;>first|(cases ht;done)|(try simp only[zg_]at ht;try(exfalso;first|contradiction|omega)))|((first|refine za_ ht ?_|refine ht ?_ ?_|refine ht.1 ?_ ?_|refine ht ?_)<;>clear ht))
   all_goals (try simp only [Int.toNat_natCast,e1] at ht ⊢)
   all_goals first
    | exact True.intro
    | omega
    | ((try dsimp only);simp only [zp_];omega)
    | (constructor<;>omega)
    | (rw [List.length_set];omega)
    | (simp only [List.length_set];constructor<;>omega)
    | (have e2:j=i:=by omega
       have e3:k+1=i:=by omega
       subst e2
       rw [e3] at p3
       have e4:=bM_ hb (by omega) hs2' hJ p3
       rw [e4];exact ⟨by first | exact True.intro | rfl,rfl⟩)
    | (refine ⟨(k+1,_),⟨?_,?_,Ho_ p3 p1 (by omega)⟩,?_,rfl,by first | rfl | exact True.intro⟩
       ·(try dsimp only);omega
       ·(try dsimp only);omega
       ·(try dsimp only);omega)
  ·by_cases c2:b=m+1
   ·subst c2
    repeat'(intro t ht;first|(cases t<;>first|(cases ht;done)|(try simp only[zg_]at ht;try(exfalso;first|contradiction|omega)))|((first|refine za_ ht ?_|refine ht ?_ ?_|refine ht.1 ?_ ?_|refine ht ?_)<;>clear ht))
    all_goals first
     | exact True.intro
     | omega
     | ((try dsimp only);simp only [zp_];omega)
     | (intro r h1 h2;clear h1;refine h2 ⟨[0,2,4,14,15],Nat × Nat,(fun s=>OneJ l (Ty.dflt Y1) m a m s.1 s.2 false),fun s=>[.own 0,.int .i64 m,(.fn 45 [] []),.int .i64 s.1,.int .i64 s.2],fun _=>[.row false Y1 l],fun s=>s.2 - s.1,⟨(a,m),x8_ l (Ty.dflt Y1) m false (by omega),rfl,rfl⟩,?_⟩;clear h2)
    rintro ⟨i,j⟩ hJ
    dsimp only at hJ
    have q1:=hJ.li
    have q2:=hJ.ij
    have q3:=hJ.jh
    have hh:=wf_ i j
    obtain ⟨h,hh1⟩:∃ h,h=(i+j) / 2:=⟨_,rfl⟩
    rw [<- hh1] at hh
    repeat'(intro t ht;first|(cases t<;>first|(cases ht;done)|(try simp only[zg_]at ht;try(exfalso;first|contradiction|omega)))|((first|refine za_ ht ?_|refine ht ?_ ?_|refine ht.1 ?_ ?_|refine ht ?_)<;>clear ht))
    all_goals (try simp only [hh,Int.toNat_natCast] at ht ⊢)
    all_goals first
     | exact True.intro
     | omega
     | ((try dsimp only);simp only [zp_];omega)
     | (constructor<;>omega)
     | (refine ⟨(h+1,j),HA_ hs1 hJ (by omega) (by omega) ((vS_ _ _).1 ht),?_,rfl,by first | rfl | exact True.intro⟩
        (try dsimp only);omega)
     | (refine ⟨(i,h),HB_ hs1 hJ (by omega) (by omega) ((XP_ _ _).1 ht),?_,rfl,by first | rfl | exact True.intro⟩
        (try dsimp only);omega)
     | (intro r h1 h2;clear h1;refine h2 ⟨[0,14,17],Nat × List OV,(fun s=>i<=s.1/\s.1<=m/\Rot l s.1 m (m+1) (Ty.dflt Y1) s.2),fun s=>[.own 0,.int .i64 i,.int .i64 s.1],fun s=>[.row false Y1 s.2],fun s=>s.1,⟨(m,l),⟨by (try dsimp only);omega,Nat.le_refl _,GI_ l m (Ty.dflt Y1)⟩,rfl,rfl⟩,?_⟩;clear h2)
    rintro ⟨k,u⟩ ⟨p1,p2,p3⟩
    dsimp only at p1 p2 p3
    have hl:=p3.len
    have e1:((k:Int) - 1).toNat=k - 1:=by omega
    repeat'(intro t ht;first|(cases t<;>first|(cases ht;done)|(try simp only[zg_]at ht;try(exfalso;first|contradiction|omega)))|((first|refine za_ ht ?_|refine ht ?_ ?_|refine ht.1 ?_ ?_|refine ht ?_)<;>clear ht))
    all_goals (try simp only [Int.toNat_natCast,e1] at ht ⊢)
    all_goals first
     | exact True.intro
     | omega
     | ((try dsimp only);simp only [zp_];omega)
     | (constructor<;>omega)
     | (rw [List.length_set];omega)
     | (simp only [List.length_set];constructor<;>omega)
     | (have e2:j=i:=by omega
        have e3:k=i:=by omega
        subst e2
        subst e3
        have e4:=bN_ hb hs1 hJ p3
        rw [e4];exact ⟨by first | exact True.intro | rfl,rfl⟩)
     | (refine ⟨(k - 1,_),⟨?_,?_,UW_ p3 (by omega) p2 (by omega)⟩,?_,?_,by first | rfl | exact True.intro⟩
        ·(try dsimp only);omega
        ·(try dsimp only);omega
        ·(try dsimp only);omega
        ·(try dsimp only)
         rw [show ((k - 1:Nat):Int)=(k:Int) - 1 by omega])
   ·repeat'(intro t ht;first|(cases t<;>first|(cases ht;done)|(try simp only[zg_]at ht;try(exfalso;first|contradiction|omega)))|((first|refine za_ ht ?_|refine ht ?_ ?_|refine ht.1 ?_ ?_|refine ht ?_)<;>clear ht))
    all_goals (try simp only [hmid] at ht ⊢)
    all_goals first
     | exact True.intro
     | omega
     | ((try dsimp only);simp only [zp_];omega)
     | (intro r h1 h2;clear h1;refine h2 ⟨[0,1,2,3,4,18,19,20,21,22],Nat × Nat,(fun s=>SymJ ltO (Ty.dflt Y1) l m b (mid+m) s0 r0 s.1 s.2),fun s=>[.own 0,.int .i64 a,.int .i64 m,.int .i64 b,(.fn 45 [] []),.int .i64 mid,.int .i64 ((mid:Int)+m),.int .i64 s.1,.int .i64 s.2,.int .i64 ((mid:Int)+m - 1)],fun _=>[.row false Y1 l],fun s=>s.2 - s.1,⟨(s0,r0),uJ_ l k5,(by simp only [hmid];first | (rw [show (s0:Int)=(mid:Int)+m - b by omega,show r0=mid by omega]) | (rw [show s0=a by omega,show r0=m by omega])),rfl⟩,?_⟩;clear h2)
    all_goals rintro ⟨i,j⟩ hJ
    all_goals dsimp only at hJ
    all_goals have q1:=hJ.s0s
    all_goals have q2:=hJ.sr
    all_goals have q3:=hJ.rr0
    all_goals have hh:=wf_ i j
    all_goals obtain ⟨h,hh1⟩:∃ h,h=(i+j) / 2:=⟨_,rfl⟩
    all_goals rw [<- hh1] at hh
    all_goals have e3:((mid:Int)+m - 1 - h).toNat=mid+m - 1 - h:=by omega
    all_goals have e4:((mid:Int)+m - i).toNat=mid+m - i:=by omega
    all_goals by_cases cij:i < j
    all_goals first
     | (have cpos:i < j:=by assumption
        repeat'(intro t ht;first|(cases t<;>first|(cases ht;done)|(try simp only[zg_]at ht;try(exfalso;first|contradiction|omega)))|((first|refine za_ ht ?_|refine ht ?_ ?_|refine ht.1 ?_ ?_|refine ht ?_)<;>clear ht))
        all_goals (try simp only [hh,Int.toNat_natCast,e3] at ht ⊢)
        all_goals first
         | exact True.intro
         | omega
         | ((try dsimp only);simp only [zp_];omega)
         | (constructor<;>omega)
         | (refine ⟨(h+1,j),Hf_ zn_ hs1 hs2 k1 k2 k3 k4 hJ (by omega) (by omega) ((vS_ _ _).1 ht),?_,rfl,by first | rfl | exact True.intro⟩
            (try dsimp only);omega)
         | (refine ⟨(i,h),Hg_ zn_ hs1 hs2 k1 k2 k3 k4 hJ (by omega) (by omega) ((XP_ _ _).1 ht),?_,rfl,by first | rfl | exact True.intro⟩
            (try dsimp only);omega))
     | skip
    all_goals clear hh hh1 e3 h
    all_goals have hJ':SymJ ltO (Ty.dflt Y1) l m b (mid+m) s0 r0 i i:=by (have z:j=i:=by omega);(rw [z] at hJ);exact hJ
    all_goals have K:∀ u,Rot l i m (mid+m - i) (Ty.dflt Y1) u->SymR ltO (Ty.dflt Y1) l u a i mid (mid+m - i) b:=fun u hu=>He_ zn_ hb hs1 hs2 k1 k2 k3 k4 rfl rfl k6 k7 (by omega) (by omega) (by omega) hJ' hu
    all_goals obtain ⟨e,he⟩:∃ e,e=mid+m - i:=⟨_,rfl⟩
    all_goals rw [<- he] at K
    all_goals have e5:(mid:Int)+m - i=(e:Int):=by omega
    all_goals clear hJ hJ' e4
    all_goals by_cases cr:i < m/\m < e
    all_goals first
     | (have cr2:=cr.2
        have hR:=GJ_ (Ty.dflt Y1) (l:=l) (a:=i) (m:=m) (b:=e) (by omega) (by omega) (by omega)
        have K1:=K _ hR
        have hlen:=hR.len
        generalize hU:GK_ l i m e=U at*)
     | (have K1:=K _ (GH_ (Ty.dflt Y1) (by omega) (by omega) (by omega))
        have hlen:l.length=l.length:=rfl)
    all_goals have hst:=Kp_ zn_ _ (a:=a) (b:=mid) (by omega) (by first | (have z:=K1.R.len;rw [z];omega) | omega)
    all_goals repeat'(intro t ht;first|(cases t<;>first|(cases ht;done)|(try simp only[zg_]at ht;try(exfalso;first|contradiction|omega)))|((first|refine za_ ht ?_|refine ht ?_ ?_|refine ht.1 ?_ ?_|refine ht ?_)<;>clear ht))
    all_goals (try simp only [e5,Int.toNat_natCast] at ht ⊢)
    all_goals (try simp only [hU] at ht ⊢)
    all_goals first
     | exact True.intro
     | omega
     | ((try dsimp only);simp only [zp_];omega)
     | (refine ⟨?_,?_,?_,?_,?_⟩<;>omega)
     | (refine ⟨⟨?_,?_,?_,?_,?_,K1.p1,K1.p2⟩,?_⟩<;>(try rw [hlen])<;>omega)
     | (refine ⟨⟨?_,?_,?_,?_,?_,K1.p3,K1.p4⟩,?_⟩<;>(try rw [hlen])<;>omega)
     | (refine ⟨⟨?_,?_,?_,?_,?_,K1.p3.keep hst (.inr (Nat.le_refl _)),K1.p4.keep hst (.inr (by omega))⟩,?_⟩<;>(try rw [hst.len,hlen])<;>omega)
     | (have x1:=JE_ zn_ hb (by omega) (by omega) K1
        rw [x1];exact ⟨by first | exact True.intro | rfl,rfl⟩)
     | (have x1:=JE_ zn_ hb (by omega) (by omega) K1
        have x2:=UR_ zn_ hb (by omega) (by omega) K1 (by omega)
        rw [x2] at x1
        rw [x1];exact ⟨by first | exact True.intro | rfl,rfl⟩)
     | (have x1:=JE_ zn_ hb (by omega) (by omega) K1
        have x2:=US_ zn_ hb (by omega) (by omega) K1 (by omega)
        rw [x2] at x1
        rw [x1];exact ⟨by first | exact True.intro | rfl,rfl⟩)
     | (have x1:=JE_ zn_ hb (by omega) (by omega) K1
        have x2:=US_ zn_ hb (by omega) (by omega) K1 (by omega)
        have x3:=UR_ zn_ hb (by omega) (by omega) K1 (by omega)
        rw [x3,x2] at x1
        rw [<- x1];exact ⟨by first | exact True.intro | rfl,rfl⟩)
 ·cases e
structure OkT (l:List OV) (n:Nat) (u:List OV):Prop where
 h:Stb ltO l 0 n u
 n:n<=l.length
theorem GU_ {l:List OV} {n:Nat} (h:n<=l.length):OkT l n l:=⟨Stb.refl l 0 n,h⟩
theorem OkT.len {l u:List OV} {n:Nat} (h:OkT l n u):u.length=l.length:=h.h.len
theorem OkT.stb {l u:List OV} {n a b:Nat} (h:OkT l n u) (hab:a<=b) (hb:b<=n):Stb ltO u a b (stS ltO u a b):=Kp_ zn_ u hab (by rw [h.len];have:=h.n;omega)
theorem OkT.more {l u:List OV} {n a b:Nat} (h:OkT l n u) (hab:a<=b) (hb:b<=n):OkT l n (stS ltO u a b):=
 ⟨h.h.trans ((h.stb hab hb).wide (Nat.zero_le _) hb),h.n⟩
theorem OkT.srt {l u:List OV} {n a b:Nat} (d:OV) (h:OkT l n u) (hab:a<=b) (hb:b<=n):zQ_ ltO d (stS ltO u a b) a b:=JH_ zn_ d u hab (by rw [h.len];have:=h.n;omega)
theorem OkT.old {l u:List OV} {n a b p q:Nat} {d:OV} (h:OkT l n u) (hab:a<=b) (hb:b<=n) (hs:zQ_ ltO d u p q) (hd:q<=a\/b<=p):zQ_ ltO d (stS ltO u a b) p q:=hs.keep (h.stb hab hb) hd
theorem OkT.fin {l u:List OV} {n:Nat} (h:OkT l n u):stS ltO u 0 n=stS ltO l 0 n:=gC_ zn_ ((Ty.dflt Y1)) (Nat.zero_le _) h.n h.h
theorem OkT.nil {l u:List OV} {n a b:Nat} (h:OkT l n u) (hab:a<=b) (hb:b<=n) (hs:b<=a+1):stS ltO u a b=u:=uM_ zn_ (d:=(Ty.dflt Y1)) hab (by rw [h.len];have:=h.n;omega) (zQ_.none u hs)
theorem OkT.srt2 {l u:List OV} {n a b p q:Nat} {d:OV} (h:OkT l n u) (hab:a<=b) (hb:b<=n) (h1:a<=p) (h2:q<=b):zQ_ ltO d (stS ltO u a b) p q:=(h.srt d hab hb).sub h1 h2
theorem OkT.c1 {l u:List OV} {n:Nat} {a b:Int} (h:OkT l n u) (hl:l.length<=100000) (h1:0<=a) (h2:a<=b) (h3:b<=n):0<=a/\a<=b/\b<=u.length/\u.length<=100000:=by
 have:=h.len;have:=h.n
 exact ⟨h1,h2,by omega,by omega⟩
theorem OkT.c2 {l u:List OV} {n:Nat} {d:OV} {a m b:Int} (h:OkT l n u) (hl:l.length<=100000) (h1:0<=a) (h2:a < m) (h3:m < b) (h4:b<=n) (s1:zQ_ ltO d u a.toNat m.toNat) (s2:zQ_ ltO d u m.toNat b.toNat):0<=a/\a < m/\m < b/\b<=u.length/\u.length<=100000/\zQ_ ltO d u a.toNat m.toNat/\zQ_ ltO d u m.toNat b.toNat:=by
 have:=h.len;have:=h.n
 exact ⟨h1,h2,h3,by omega,by omega,s1,s2⟩
theorem OkT.fin2 {l u:List OV} {n a b:Nat} (h:OkT l n u) (ha:a=0) (hb:b=n):stS ltO u a b=stS ltO l 0 n:=by rw [ha,hb];exact h.fin
theorem OkT.fin3 {l u:List OV} {n a b c e:Nat} (h:OkT l n u) (ha:a=0) (hb:b=n) (hc:c=n) (he:e=n):stS ltO (stS ltO u a b) c e=stS ltO l 0 n:=by
 rw [ha,hb,hc,he,(h.more (Nat.zero_le n) (Nat.le_refl n)).nil (Nat.le_refl n) (Nat.le_refl n) (by omega)];exact h.fin
def Qt_:IR:=
(sq (kr [0,1,2] [oD 6 (.mov (cI 20))])
(sq (.reg [oM 10 6,
oD 7 (.mov (cI 0)),
oM 8 10])
(sq (.block 0
(.loop
(sq (sq (kr [0,1,2,6,7,8] [oM 11 8,
oM 12 1,
oB 13 .leq 11 12])
(.cond 13
.skip
(.exit 0)))
(.block 1
(sq (kr [0,1,2,6,7,8] [oM 14 0,
oM 15 7,
oM 16 8,
oM 17 2,
oD 18 (.call true (.f 73) [14,15,16,17])])
(sq (.reg [oM 19 8,
oM 7 19])
(kr [0,1,2,6,7,8] [oM 20 8,
oM 21 6,
oB 22 .add 20 21,
oM 8 22])))))))
(sq (kr [0,1,2,6,7] [oM 23 0,
oM 24 7,
oM 25 1,
oM 26 2,
oD 27 (.call true (.f 73) [23,24,25,26])])
(.block 2
(.loop
(sq (sq (kr [0,1,2,6] [oM 28 6,
oM 29 1,
oB 30 .lss 28 29])
(.cond 30
.skip
(.exit 2)))
(.block 3
(sq (.reg [oM 31 6,
oB 32 .mul (cI 2) 31,
oD 7 (.mov (cI 0)),
oM 8 32])
(sq (.block 4
(.loop
(sq (sq (kr [0,1,2,6,7,8] [oM 33 8,
oM 34 1,
oB 35 .leq 33 34])
(.cond 35
.skip
(.exit 4)))
(.block 5
(sq (kr [0,1,2,6,7,8] [oM 36 0,
oM 37 7,
oM 38 7,
oM 39 6,
oB 40 .add 38 39,
oM 41 8,
oM 42 2,
oD 43 (.call true (.f 74) [36,37,40,41,42])])
(sq (kr [0,1,2,6,8] [oM 44 8,
oM 7 44])
(kr [0,1,2,6,7,8] [oM 45 8,
oM 46 6,
oB 47 .mul (cI 2) 46,
oB 48 .add 45 47,
oM 8 48])))))))
(sq (sq (kr [0,1,2,6,7] [oM 49 7,
oM 50 6,
oB 51 .add 49 50,
oM 9 51])
(sq (.reg [oM 52 9,
oM 53 1,
oB 54 .lss 52 53])
(.cond 54
(kr [0,1,2,6,7,9] [oM 55 0,
oM 56 7,
oM 57 9,
oM 58 1,
oM 59 2,
oD 60 (.call true (.f 74) [55,56,57,58,59])])
.skip)))
(kr [0,1,2,6] [oM 61 6,
oB 62 .mul 61 (cI 2),
oM 6 62]))))))))))))
def Qm_:List RD:=[]
theorem Qp_:zm_ Tryd.prog Tryd.f60 Qt_ Qm_=true:=by kernel_rfl
def zV_:List AV->List Obj->Option (Prop × AV × List Obj)
 | [.own 0,.int .i64 n,(.fn 45 [] [])],[.row false (.cons (.int .i64) (.cons (.int .i64) (.cons .bool (.cons (.int .u64) (.cons (.sl (.int .u8)) (.cons (.sl (.int .u8)) .nil)))))) l]=>some ((0<=n/\n<=120/\n<=l.length/\l.length<=100000,.tup [],[.row false Y1 (stS ltO (l:List OV) 0 n.toNat)]))
 | _,_=>none
theorem qX_:zf_ Tryd.prog 60 (RwF zV_).sum:=by
 refine Wp_ Tryd.func60 Qp_ (zb_ (s:=RwF zC_) ZR_ (zb_ (s:=RwF zP_) qI_ (ze_ _))) fun args objs p v o e=>?_
 unfold zV_ at e
 split at e
 ·rename_i n l
  cases e
  refine ⟨rfl,fun hw ho hp=>?_⟩
  clear hw ho
  change List OV at l
  obtain ⟨h1,h2,h3,h4⟩:=hp
  obtain ⟨n,rfl⟩:=Int.eq_ofNat_of_zero_le h1
  simp only [Int.toNat_natCast]
  have h0:OkT l n l:=GU_ (by omega)
  repeat'(first|(intro t ht;first|(cases t<;>first|(cases ht;done)|(try simp only[zg_]at ht;try(exfalso;first|contradiction|omega)))|((first|refine za_ ht ?_|refine ht ?_ ?_|refine ht.1 ?_ ?_|refine ht ?_)<;>clear ht))|(intro r h1 h2;refine h1 ⟨8,?_⟩;clear h1 h2))
  all_goals first
   | exact True.intro
   | omega
   | ((try dsimp only);simp only [zp_];omega)
   | (refine OkT.c1 (n:=n) ?_ h4 ?_ ?_ ?_<;>first | omega | ((repeat (first | refine OkT.more ?_ ?_ ?_ | exact h0))<;>omega))
   | (refine OkT.c2 (n:=n) ?_ h4 ?_ ?_ ?_ ?_ ?_ ?_
      ·((repeat (first | refine OkT.more ?_ ?_ ?_ | exact h0))<;>omega)
      ·omega
      ·omega
      ·omega
      ·omega
      ·((repeat (first | (refine OkT.srt2 (n:=n) (l:=l) ?_ ?_ ?_ ?_ ?_<;>first | omega | ((repeat (first | refine OkT.more ?_ ?_ ?_ | exact h0))<;>omega)) | (refine OkT.old (n:=n) (l:=l) ?_ ?_ ?_ ?_ ?_<;>first | omega | ((repeat (first | refine OkT.more ?_ ?_ ?_ | exact h0))<;>omega) | skip)))<;>first | exact zQ_.none _ (by omega) | fail)
      ·((repeat (first | (refine OkT.srt2 (n:=n) (l:=l) ?_ ?_ ?_ ?_ ?_<;>first | omega | ((repeat (first | refine OkT.more ?_ ?_ ?_ | exact h0))<;>omega)) | (refine OkT.old (n:=n) (l:=l) ?_ ?_ ?_ ?_ ?_<;>first | omega | ((repeat (first | refine OkT.more ?_ ?_ ?_ | exact h0))<;>omega) | skip)))<;>first | exact zQ_.none _ (by omega) | fail))
   | (have e:=OkT.fin2 (l:=l) (n:=n) (u:=l) h0 (a:=Int.toNat 0) rfl (b:=(n:Int).toNat) (by omega)
      rw [e];exact ⟨by first | exact True.intro | rfl,rfl⟩)
   | (refine ⟨by first | exact True.intro | rfl,congrArg (fun x=>[Obj.row false _ x]) (OkT.fin2 ?_ ?_ ?_)⟩<;>first | omega | ((repeat (first | refine OkT.more ?_ ?_ ?_ | exact h0))<;>omega))
   | (refine ⟨by first | exact True.intro | rfl,congrArg (fun x=>[Obj.row false _ x]) (OkT.fin3 ?_ ?_ ?_ ?_ ?_)⟩<;>first | omega | ((repeat (first | refine OkT.more ?_ ?_ ?_ | exact h0))<;>omega))
 ·cases e
theorem GD_ {c f:Int} {h:Bool} {x:Int} {v m:List Int} (hv:v.length<=1000000) (hm:m.length<=1000000):0<=xJ_ c f h x v m/\xJ_ c f h x v m<=3000000:=by
 unfold xJ_ Wq_;repeat' split
 all_goals omega
def fwO (o:OV):Bool:=decide (o.2.2.2.2.1.length<=300) && decide (o.2.2.2.2.2.1.length<=300)
theorem BB_ {o:OV} (h:o.2.2.2.2.1.length<=300/\o.2.2.2.2.2.1.length<=300):fwO o=true:=by unfold fwO;simp [h.1,h.2]
theorem BC_ {o:OV} (h:¬ o.2.2.2.2.1.length<=300\/¬ o.2.2.2.2.2.1.length<=300):fwO o=false:=by unfold fwO;rcases h with h | h<;>simp [h]
def KH_ (l:List OV):Bool:=l.all fwO && decide (l.length<=60)
def smO (a b:OV):Bool:=Wo_ a.1 a.2.1 a.2.2.1 a.2.2.2.1 a.2.2.2.2.1 a.2.2.2.2.2.1 b.1 b.2.1 b.2.2.1 b.2.2.2.1 b.2.2.2.2.1 b.2.2.2.2.2.1
theorem Bl_ {a b:OV} (h:smO a b=true):a=b:=by
 obtain ⟨a1,a2,a3,a4,a5,a6,_⟩:=a
 obtain ⟨b1,b2,b3,b4,b5,b6,_⟩:=b
 unfold smO Wo_ at h
 simp only [Bool.and_eq_true,decide_eq_true_eq,beq_iff_eq] at h
 obtain ⟨⟨⟨⟨⟨h1,h2⟩,h3⟩,h4⟩,h5⟩,h6⟩:=h
 rw [h1,h2,h3,h4,h5,h6]
theorem Bm_ {a b:OV} (h:smO a b=false):¬ a=b:=fun e=>by
 rw [e] at h;unfold smO at h;rw [gG_] at h;cases h
structure okM (l:List OV):Prop where
 a:allLen l
 n:l.length<=100000
theorem QG_ {l:List OV} (h:KH_ l=true):okM l/\l.length<=60:=by
 unfold KH_ at h
 simp only [Bool.and_eq_true,decide_eq_true_eq] at h
 refine ⟨⟨⟨fun o ho=>?_⟩,by omega⟩,h.2⟩
 have:=List.all_eq_true.1 h.1 o ho
 unfold fwO at this
 simp only [Bool.and_eq_true,decide_eq_true_eq] at this
 exact ⟨by omega,by omega⟩
def Ue_:IR:=
(sq (kr [0] [oD 2 (.mov cF)])
(sq (sq (.reg [oD 3 (.mov (cI 0))])
(.block 0
(.loop
(sq (sq (kr [0,3] [oM 4 3,
oM 5 0,
oE 6 5,
oB 7 .lss 4 6])
(.cond 7
.skip
(.exit 0)))
(sq (.block 1
(sq (kr [0,3] [oM 10 0,
oM 11 3,
oI 12 6 10 11,
oK 13 6 12,
oC 14 12 [13],
oD 15 (.un .not 14)])
(.cond 15
(sq (kr [] [oD 2 (.mov cF)])
.ret)
.skip)))
(kr [0,3] [oM 8 3,
oB 9 .add 8 (cI 1),
oM 3 9]))))))
(sq (kr [0] [oM 16 0,
oE 17 16,
oB 18 .leq 17 (cI 60),
oM 2 18])
.ret)))
def uU_:List RD:=[.tmp 2 true none]
theorem uX_:zm_ Tryd.prog Tryd.f4 Ue_ uU_=true:=by kernel_rfl
def Wd_:List AV->List Obj->Option (Prop × AV)
 | [.imm (.cons (.int .i64) (.cons (.int .i64) (.cons .bool (.cons (.int .u64) (.cons (.sl (.int .u8)) (.cons (.sl (.int .u8)) .nil)))))) l],[]=>some ((True,.bool (KH_ l)))
 | _,_=>none
theorem Ve_:zf_ Tryd.prog 4 (RoF Wd_).sum:=by
 refine zi_ Tryd.func4 uX_ (zb_ (s:=RoF We_) Vf_ (ze_ _)) fun args objs p v e=>?_
 unfold Wd_ at e
 split at e
 ·rename_i l
  cases e
  refine ⟨rfl,fun hw ho hp=>?_⟩
  change List OV at l
  have hl:l.length<=maxLen:=(hw (.imm Y1 l) (by simp)).2
  unfold maxLen at hl
  clear hw ho
  repeat'(intro t ht;first|(cases t<;>first|(cases ht;done)|(try simp only[zg_]at ht))|((first|refine za_ ht ?_|refine ht ?_ ?_|refine ht.1 ?_ ?_|refine ht ?_)<;>clear ht))
  all_goals first
   | (intro r h1 h2;clear h1;refine h2 ⟨[0,3],Nat,(fun i=>i<=l.length/\(l.take i).all fwO=true),fun i=>[.imm Y1 l,.int .i64 i],fun _=>[],fun i=>l.length - i,⟨0,⟨Nat.zero_le _,rfl⟩,rfl,rfl⟩,?_⟩;clear h2)
  rintro i ⟨hi,he⟩
  repeat'(intro t ht;first|(cases t<;>first|(cases ht;done)|(try simp only[zg_]at ht;try(exfalso;first|contradiction|omega)))|((first|refine za_ ht ?_|refine ht ?_ ?_|refine ht.1 ?_ ?_|refine ht ?_)<;>clear ht))
  all_goals (try generalize (Ty.dflt Y1)=od at*)
  all_goals first
   | ((try simp only [zZ_,z0_,zp_] at*);omega)
   | (have h:=X5_ (by omega) he
      refine ⟨?_,rfl⟩;unfold KH_;rw [h,Bool.true_and];congr 1;exact decide_eq_decide.2 (by omega))
   | exact True.intro
   | (have hf:=BB_ ht
      exact ⟨i+1,⟨by omega,Wa_ (d:=od) (by omega) he hf⟩,by dsimp only;omega,rfl,rfl⟩)
   | (have hf:=BC_ ht
      have h:KH_ l=false:=by unfold KH_;rw [X4_ (d:=od) (show i < l.length by omega) hf,Bool.false_and]
      refine ⟨?_,rfl⟩;rw [h];done)
 ·cases e
def V0_:IR:=
(sq (kr [0,1] [oD 4 (.mov cF)])
(sq (sq (kr [0,1] [oM 6 0,
oE 7 6,
oM 8 1,
oE 9 8,
oB 10 .neq 7 9])
(.cond 10
(sq (.reg [oD 4 (.mov cF)])
.ret)
.skip))
(sq (sq (kr [0,1] [oD 5 (.mov (cI 0))])
(.block 0
(.loop
(sq (sq (kr [0,1,5] [oM 11 5,
oM 12 0,
oE 13 12,
oB 14 .lss 11 13])
(.cond 14
.skip
(.exit 0)))
(sq (.block 1
(sq (kd [0,1,5] [(oM 17 0,[]),
(oM 18 5,[0]),
(oI 19 6 17 18,[]),
(oK 20 6 19,[]),
(oM 21 1,[0,0,0,0]),
(oM 22 5,[0,0,0,0,0]),
(oI 23 6 21 22,[2,0,0,0]),
(oK 24 6 23,[3,0,0,0]),
(oC 25 28 [20,24],[]),
(oD 26 (.un .not 25),[])])
(.cond 26
(sq (kr [] [oD 4 (.mov cF)])
.ret)
.skip)))
(kr [0,1,5] [oM 15 5,
oB 16 .add 15 (cI 1),
oM 5 16]))))))
(sq (kr [] [oD 4 (.mov cT)])
.ret))))
def Vl_:List RD:=[.tmp 4 true none]
theorem Vz_:zm_ Tryd.prog Tryd.f10 V0_ Vl_=true:=by kernel_rfl
def KM_:List AV->List Obj->Option (Prop × AV)
 | [.imm (.cons (.int .i64) (.cons (.int .i64) (.cons .bool (.cons (.int .u64) (.cons (.sl (.int .u8)) (.cons (.sl (.int .u8)) .nil)))))) a,.imm (.cons (.int .i64) (.cons (.int .i64) (.cons .bool (.cons (.int .u64) (.cons (.sl (.int .u8)) (.cons (.sl (.int .u8)) .nil)))))) b],[]=>some ((True,.bool (decide ((a:List OV)=b))))
 | _,_=>none
theorem JJ_:zf_ Tryd.prog 10 (RoF KM_).sum:=by
 refine zi_ Tryd.func10 Vz_ (zb_ (s:=RoF Ju_) Y3_ (ze_ _)) fun args objs p v e=>?_
 unfold KM_ at e
 split at e
 ·rename_i a b
  cases e
  refine ⟨rfl,fun hw ho hp=>?_⟩
  change List OV at a
  change List OV at b
  have hl:a.length<=maxLen:=(hw (.imm Y1 a) (by simp)).2
  unfold maxLen at hl
  clear hw ho
  repeat'(intro t ht;first|(cases t<;>first|(cases ht;done)|(try simp only[zg_]at ht))|((first|refine za_ ht ?_|refine ht ?_ ?_|refine ht.1 ?_ ?_|refine ht ?_)<;>clear ht))
  all_goals first
   | (have hne:a ≠ b:=fun h=>(by assumption:¬ (a.length:Int)=b.length) (by rw [h])
      refine ⟨?_,rfl⟩;rw [decide_eq_false hne];done)
   | (intro r h1 h2;clear h1;refine h2 ⟨[0,1,5],Nat,(fun i=>i<=a.length/\a.take i=b.take i),fun i=>[.imm Y1 a,.imm Y1 b,.int .i64 i],fun _=>[],fun i=>a.length - i,⟨0,⟨Nat.zero_le _,rfl⟩,rfl,rfl⟩,?_⟩;clear h2)
  rintro i ⟨hi,he⟩
  have hl2:a.length=b.length:=by omega
  repeat'(intro t ht;first|(cases t<;>first|(cases ht;done)|(try simp only[zg_]at ht;try(exfalso;first|contradiction|omega)))|((first|refine za_ ht ?_|refine ht ?_ ?_|refine ht.1 ?_ ?_|refine ht ?_)<;>clear ht))
  all_goals (try generalize (Ty.dflt Y1)=od at*)
  all_goals first
   | exact True.intro
   | ((try simp only [zZ_,z0_,zp_] at*);omega)
   | (have e:=bm_ he (by omega) hl2
      refine ⟨?_,rfl⟩;rw [decide_eq_true e];done)
   | (have hs:smO (a.getD i od) (b.getD i od)=false:=by assumption
      have hne:a ≠ b:=Bj_ (d:=od) (i:=i) (Bm_ hs)
      refine ⟨?_,rfl⟩;rw [decide_eq_false hne];done)
   | (have hs:smO (a.getD i od) (b.getD i od)=true:=by assumption
      exact ⟨i+1,⟨by omega,Gw_ he (by omega) hl2 (d:=od) (Bl_ hs)⟩,by (try simp only [zZ_,z0_,zp_] at*);omega,rfl,rfl⟩)
 ·cases e
def lgT (l:List OV) (i:Nat):Int:=4+((l.take i).map szO).sum
def J8_ (l:List OV):Int:=4+(l.map szO).sum
theorem VT_ {l:List OV} {i:Nat} {d:OV} (h:i < l.length):lgT l (i+1)=lgT l i+szO (l.getD i d):=by
 unfold lgT
 rw [List.take_succ_eq_append_getElem h,List.map_append,List.sum_append,List.getD_eq_getElem?_getD,List.getElem?_eq_getElem h]
 simp only [List.map_cons,List.map_nil,List.sum_cons,List.sum_nil,Option.getD_some];omega
theorem HP_ {l:List OV} {i:Nat} (h:l.length<=i):lgT l i=J8_ l:=by unfold lgT J8_;rw [List.take_of_length_le h]
theorem Gx_ {o:OV} (h:bW_ o):0<=szO o/\szO o<=3000000:=by
 unfold szO;exact GD_ (Ua_ h).1 (Ua_ h).2
theorem bV_ {l:List OV} (h:allLen l) (i:Nat) (hi:i<=l.length):4<=lgT l i/\lgT l i<=4+3000000*i:=by
 induction i with
 | zero=>unfold lgT;simp
 | succ i ih=>
   have:=ih (by omega)
   have d:OV:=(0,0,false,0,[],[],())
   have hs:=Gx_ (h.h _ (z1_ (show i < l.length by omega) d))
   rw [VT_ (d:=d) (by omega)];omega
def yW_:IR:=
(sq (kr [0] [oD 2 (.mov (cI 0))])
(sq (.reg [oD 3 (.mov (cI 4))])
(sq (sq (.reg [oM 6 0,
oE 7 6,
oD 8 (.mov (cI 0))])
(.block 0
(.loop
(sq (kr [3,6,7,8] [oB 9 .lss 8 7])
(sq (.cond 9
.skip
(.exit 0))
(sq (.block 1
(sq (.reg [oI 10 6 6 8,
oK 11 6 10,
oD 5 (.box [.int .i64 0,.int .i64 0,.kb false,.int .u64 0,.imm (.int .u8) [],.imm (.int .u8) []]),
oS 6 5 11])
(kr [3,5,6,7,8] [oM 12 3,
oK 13 6 5,
oC 14 36 [13],
oB 15 .add 12 14,
oM 3 15])))
(kr [3,6,7,8] [oB 16 .add 8 (cI 1),
oM 8 16])))))))
(sq (kr [3] [oM 17 3,
oM 2 17])
.ret))))
def yp_:List RD:=[.tmp 2 true none]
theorem yE_:zm_ Tryd.prog Tryd.f17 yW_ yp_=true:=by kernel_rfl
def KP_:List AV->List Obj->Option (Prop × AV)
 | [.imm (.cons (.int .i64) (.cons (.int .i64) (.cons .bool (.cons (.int .u64) (.cons (.sl (.int .u8)) (.cons (.sl (.int .u8)) .nil)))))) l],[]=>some ((okM l,.int .i64 (J8_ l)))
 | _,_=>none
theorem xB_:zf_ Tryd.prog 17 (RoF KP_).sum:=by
 refine zi_ Tryd.func17 yE_ (zb_ (s:=RoF Jx_) Y6_ (ze_ _)) fun args objs p v e=>?_
 unfold KP_ at e
 split at e
 ·rename_i l
  cases e
  refine ⟨rfl,fun hw ho hp=>?_⟩
  change List OV at l
  clear hw ho
  have hn:=hp.n
  repeat'(intro t ht;first|(cases t<;>first|(cases ht;done)|(try simp only[zg_]at ht))|((first|refine za_ ht ?_|refine ht ?_ ?_|refine ht.1 ?_ ?_|refine ht ?_)<;>clear ht))
  all_goals first
   | exact True.intro
   | (intro r h1 h2;clear h1;refine h2 ⟨[3,6,7,8],Nat,(fun i=>i<=l.length),fun i=>[.int .i64 (lgT l i),.imm Y1 l,.int .i64 l.length,.int .i64 i],fun _=>[],fun i=>l.length - i,⟨0,Nat.zero_le _,rfl,rfl⟩,?_⟩;clear h2)
  intro i hi
  repeat'(intro t ht;first|(cases t<;>first|(cases ht;done)|(try simp only[zg_]at ht;try(exfalso;first|contradiction|omega)))|((first|refine za_ ht ?_|refine ht ?_ ?_|refine ht.1 ?_ ?_|refine ht ?_)<;>clear ht))
  all_goals (try generalize (Ty.dflt Y1)=od at*)
  all_goals first
   | exact True.intro
   | ((try simp only [zZ_,z0_,zp_] at*);omega)
   | (rw [HP_ (by omega)];exact ⟨rfl,rfl⟩)
   | (have hs:=hp.a.h _ (z1_ (show i < l.length by omega) od)
      first
       | exact Ua_ hs
       | (have h1:=bV_ hp.a i (by omega)
          have h2:0<=szO (l.getD i od)/\szO (l.getD i od)<=3000000:=Gx_ hs
          unfold szO at h2
          simp only [HM_,HN_,Int.toNat_natCast];omega)
       | (refine ⟨i+1,by omega,by dsimp only;omega,?_,rfl⟩
          dsimp only
          rw [VT_ (d:=od) (by omega)];rfl))
 ·cases e
def rgM (l:List OV):Bool:=l.all rgO && decide ((ckS [] l).2=0) && decide (J8_ l<=65528)
theorem H9_ {l:List OV}:(l.any fun o=>!rgO o)=!l.all rgO:=by
 rw [List.not_all_eq_any_not]
def Xt_:IR:=
(sq (kr [0] [oD 2 (.mov cF)])
(sq (sq (.reg [oM 5 0,
oC 6 13 [5,.f 14]])
(.cond 6
(sq (.reg [oD 2 (.mov cF)])
.ret)
.skip))
(sq (kr [0] [oM 8 0,
oC 9 16 [8],
oM 7 9,
oX 10 7 0,
oX 11 7 1,
oM 3 10,
oM 4 11])
(sq (kr [0,4] [oM 12 4,
oB 13 .eql 12 (cI 0),
oM 14 13,
oT 14 15 (.mov 0),
oT 14 16 (.call false (.f 17) [15]),
oT 14 17 (.bin .leq 16 (cI 65528)),
oP 18 14 17 cF,
oM 2 18])
.ret))))
def xR_:List RD:=[.tmp 2 true none]
theorem Xc_:zm_ Tryd.prog Tryd.f5 Xt_ xR_=true:=by kernel_rfl
def QU_:List AV->List Obj->Option (Prop × AV)
 | [.imm (.cons (.int .i64) (.cons (.int .i64) (.cons .bool (.cons (.int .u64) (.cons (.sl (.int .u8)) (.cons (.sl (.int .u8)) .nil)))))) l],[]=>some ((okM l,.bool (rgM l)))
 | _,_=>none
theorem KY_:zf_ Tryd.prog 5 (RoF QU_).sum:=by
 refine zi_ Tryd.func5 Xc_ (zb_ (s:=RoF zl_) zv_ (zb_ (s:=RoF Zf_) ZQ_ (zb_ (s:=RoF KO_) xA_ (zb_ (s:=RoF KP_) xB_ (ze_ _))))) fun args objs p v e=>?_
 unfold QU_ at e
 split at e
 ·rename_i l
  cases e
  refine ⟨rfl,fun hw ho hp=>?_⟩
  change List OV at l
  clear hw ho
  have hA:=hp.a
  have hN:=H9_ (l:=l)
  repeat'(intro t ht;first|(cases t<;>first|(cases ht;done)|(try simp only[zg_]at ht;try(exfalso;first|contradiction|omega)))|((first|refine za_ ht ?_|refine ht ?_ ?_|refine ht.1 ?_ ?_|refine ht ?_)<;>clear ht))
  all_goals first
   | exact True.intro
   | exact hA
   | exact hp
   | (have ha:l.all rgO=false:=by rw [ht] at hN;cases h:l.all rgO<;>simp_all
      refine ⟨congrArg AV.bool ?_,rfl⟩;unfold rgM;rw [ha];rfl)
   | (refine ⟨congrArg AV.bool ?_,rfl⟩;unfold rgM;simp_all;done)
 ·cases e
theorem tkS {α:Type} {l:List α} {i:Nat} {d:α} (h:i < l.length):l.take (i+1)=l.take i++[l.getD i d]:=by
 rw [List.take_succ_eq_append_getElem h,List.getD_eq_getElem?_getD,List.getElem?_eq_getElem h];rfl
def Bz_ (x:Int):List Int->List Int
 | []=>[x]
 | y :: r=>if x=y then y :: r else if x < y then x :: y :: r else y :: Bz_ x r
def poF (l:List Int):List Int:=l.foldl (fun o x=>Bz_ x o) []
structure kOk (m:List (Int × Int)) (ks:List Int):Prop where
 nd:(m.map Prod.fst).Nodup
 mem:∀ z,z ∈ m.map Prod.fst ↔ z ∈ ks
 r:∀ z,0<=(zM_ m z).getD 0/\(zM_ m z).getD 0<=ks.length
 l:m.length<=ks.length
end Go.Eng
