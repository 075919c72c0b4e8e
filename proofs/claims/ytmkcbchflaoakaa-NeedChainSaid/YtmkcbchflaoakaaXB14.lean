/- Parts of the proof: J3, J4, J5, A1, A2, M3, M4, SX, G1. No condition. -/
import Derived.Test.YtmkcbchflaoakaaProg
import Derived.Test.YtmkcbchflaoakaaXB10
import Derived.KernelRfl
import Derived.Test.YtmkcbchflaoakaaXB13
import Derived.Test.YtmkcbchflaoakaaXB11
import Derived.Test.YtmkcbchflaoakaaXB12
namespace Go.Eng
open Go.Proofs
set_option linter.unusedVariables false
set_option linter.unusedSimpArgs false
set_option maxRecDepth 100000
set_option maxHeartbeats 1000000
def Z7_:IR:=
(sq (kr [0,1,2,3] [oM 10 1,
oB 11 .add 10 (cI 1),
oM 8 11])
(.block 0
(.loop
(sq (sq (kr [0,1,2,3,8] [oM 12 8,
oM 13 2,
oB 14 .lss 12 13])
(.cond 14
.skip
(.exit 0)))
(sq (.block 1
(sq (.reg [oM 17 8,
oM 9 17])
(.block 2
(.loop
(sq (sq (kd [0,1,2,3,8,9] [(oM 18 9,[]),
(oM 19 1,[0]),
(oB 20 .gtr 18 19,[]),
(oM 21 20,[]),
(oT 21 22 (.mov 3),[]),
(oT 21 23 (.mov 0),[0]),
(oT 21 24 (.mov 9),[0,0]),
(oT 21 25 (.indexSl 6 23 24),[2]),
(oT 21 26 (.load (some 6) 25),[3]),
(oT 21 27 (.mov 0),[0,0,0,0,0]),
(oT 21 28 (.mov 9),[0,0,0,0,0,0]),
(oT 21 29 (.bin .sub 28 (cI 1)),[1,0,0,0,0,0]),
(oT 21 30 (.indexSl 6 27 29),[3,0,0,0,0]),
(oT 21 31 (.load (some 6) 30),[4,0,0,0,0]),
(oT 21 32 (.call false 22 [26,31]),[]),
(oT 21 33 (.bin .lss 32 (cI 0)),[]),
(oP 34 21 33 cF,[])])
(.cond 34
.skip
(.exit 2)))
(sq (.block 3
(kd [0,1,2,3,8,9] [(oM 37 0,[]),
(oM 38 9,[0]),
(oM 39 0,[0,0]),
(oM 40 9,[0,0,0]),
(oB 41 .sub 40 (cI 1),[1,0,0]),
(oM 42 0,[0,0,0,0,0]),
(oM 43 9,[0,0,0,0,0,0]),
(oB 44 .sub 43 (cI 1),[1,0,0,0,0,0]),
(oI 45 6 42 44,[3,0,0,0,0]),
(oK 46 6 45,[4,0,0,0,0]),
(oM 47 0,[0,0,0,0,0,0,0,0,0,0]),
(oM 48 9,[0,0,0,0,0,0,0,0,0,0,0]),
(oI 49 6 47 48,[2,0,0,0,0,0,0,0,0,0]),
(oK 50 6 49,[3,0,0,0,0,0,0,0,0,0]),
(oI 51 6 37 38,[9,0,0]),
(oS 6 51 46,[10,0,0]),
(oI 52 6 39 41,[]),
(oS 6 52 50,[])]))
(kr [0,1,2,3,8,9] [oM 35 9,
oB 36 .sub 35 (cI 1),
oM 9 36])))))))
(kr [0,1,2,3,8] [oM 15 8,
oB 16 .add 15 (cI 1),
oM 8 16]))))))
def Z2_:List RD:=[]
theorem Z5_:zl_ Try.prog Try.f71 Z7_ Z2_=true:=by kernel_rfl
def zB_:List AV->List Obj->Option (Prop × AV × List Obj)
 | [.own 0,.int .i64 a,.int .i64 b,(.fn 35 [] [])],[.row false (.cons (.int .i64) (.cons (.int .i64) (.cons .bool (.cons (.int .u64) (.cons (.sl (.int .u8)) (.cons (.sl (.int .u8)) .nil)))))) l]=>some ((0<=a/\a<=b/\b<=l.length/\l.length<=100000,.tup [],[.row false Y1 (stS ltO (l:List OV) a.toNat b.toNat)]))
 | _,_=>none
theorem ZY_:zf_ Try.prog 71 (RwF zB_).sum:=by
 refine kF_ Try.func71 Z5_ (zc_ (s:=RoF qz_) kt_ (ze_ _)) fun args objs p v o e=>?_
 unfold zB_ at e
 split at e
 ·rename_i a b l
  cases e
  refine ⟨rfl,fun hw ho hp=>?_⟩
  clear hw ho
  change List OV at l
  obtain ⟨h1,h2,h3,h4⟩:=hp
  obtain ⟨a,rfl⟩:=Int.eq_ofNat_of_zero_le h1
  obtain ⟨b,rfl⟩:=Int.eq_ofNat_of_zero_le (show 0<=b by omega)
  rw [Int.toNat_natCast,Int.toNat_natCast]
  have hab:a<=b:=by omega
  have hbl:b<=l.length:=by omega
  repeat'(intro t ht;first|(cases t<;>first|(cases ht;done)|(try simp only[zh_]at ht;try(exfalso;first|contradiction|omega)))|((first|refine za_ ht ?_|refine ht ?_ ?_|refine ht.1 ?_ ?_|refine ht ?_)<;>clear ht))
  all_goals first
   | exact True.intro
   | omega
   | ((try dsimp only);simp only [zi_];omega)
   | (intro r h1 h2;clear h1;refine h2 ⟨[0,1,2,3,8],Nat × List OV,(fun s=>a+1<=s.1/\(s.1<=b\/s.1=a+1)/\Stb ltO l a b s.2/\zS_ ltO (Ty.dflt Y1) s.2 a s.1),fun s=>[.own 0,.int .i64 a,.int .i64 b,(.fn 35 [] []),.int .i64 s.1],fun s=>[.row false Y1 s.2],fun s=>b+1 - s.1,⟨(a+1,l),⟨Nat.le_refl _,.inr rfl,Stb.refl _ _ _,zS_.none _ (Nat.le_refl _)⟩,rfl,rfl⟩,?_⟩;clear h2)
  rintro ⟨i,u⟩ ⟨hi1,hi2,hR,hS⟩
  dsimp only at hi1 hi2 hR hS
  have hl:=hR.len
  repeat'(intro t ht;first|(cases t<;>first|(cases ht;done)|(try simp only[zh_]at ht;try(exfalso;first|contradiction|omega)))|((first|refine za_ ht ?_|refine ht ?_ ?_|refine ht.1 ?_ ?_|refine ht ?_)<;>clear ht))
  all_goals first
   | exact True.intro
   | omega
   | ((try dsimp only);simp only [zi_];omega)
   | (intro r h1 h2;clear h1;refine h2 ⟨[0,1,2,3,8,9],Nat × List OV,(fun s=>InsG ltO (Ty.dflt Y1) l s.2 a b i s.1),fun s=>[.own 0,.int .i64 a,.int .i64 b,(.fn 35 [] []),.int .i64 i,.int .i64 s.1],fun s=>[.row false Y1 s.2],fun s=>s.1,⟨(i,u),uH_ hR hS (by omega) (by omega),rfl,rfl⟩,?_⟩;clear h2)
   | (have hge:b<=i:=by omega
      have e:=wW_ zj_ (d:=(Ty.dflt Y1)) hab hbl hR (hS.sub (Nat.le_refl _) hge)
      rw [e];exact ⟨by first | rfl | exact True.intro,rfl⟩)
  rintro ⟨j,q⟩ hJ
  dsimp only at hJ
  have hq:=hJ.R.len
  have hj1:=hJ.aj
  have hj2:=hJ.ji
  have hj3:=hJ.ib
  have e1:((j:Int) - 1).toNat=j - 1:=by omega
  repeat'(intro t ht;first|(cases t<;>first|(cases ht;done)|(try simp only[zh_]at ht;try(exfalso;first|contradiction|omega)))|((first|refine za_ ht ?_|refine ht ?_ ?_|refine ht.1 ?_ ?_|refine ht ?_)<;>clear ht))
  all_goals (try simp only [Int.toNat_natCast,e1] at ht ⊢)
  all_goals first
   | exact True.intro
   | omega
   | ((try dsimp only);simp only [zi_];omega)
   | (constructor<;>omega)
   | (rw [List.length_set];omega)
   | (simp only [List.length_set];constructor<;>omega)
   | (have hs:=y2_ zj_ hJ (.inr ((vo_ _ _).1 ht))
      refine ⟨(i+1,q),⟨?_,?_,hJ.R,hs⟩,?_,?_,by first | rfl | exact True.intro⟩
      ·(try dsimp only);omega
      ·(try dsimp only);omega
      ·(try dsimp only);omega
      ·rfl)
   | (have hs:=y2_ zj_ hJ (.inl (by omega))
      refine ⟨(i+1,q),⟨?_,?_,hJ.R,hs⟩,?_,?_,by first | rfl | exact True.intro⟩
      ·(try dsimp only);omega
      ·(try dsimp only);omega
      ·(try dsimp only);omega
      ·rfl)
   | (have hs:=gE_ zj_ hbl hJ (by omega) ((XK_ _ _).1 ht)
      refine ⟨(j - 1,_),hs,?_,?_,by first | rfl | exact True.intro⟩
      ·(try dsimp only);omega
      ·(try dsimp only)
       rw [show ((j - 1:Nat):Int)=(j:Int) - 1 by omega])
 ·cases e
def U4_ (d:OV) (l:List OV) (a b:Nat):Nat->List OV
 | 0=>l
 | n+1=>xI_ d (U4_ d l a b n) (a+n) (b+n)
theorem vA_ (d:OV) (l:List OV) (a b:Nat):∀ n,(U4_ d l a b n).length=l.length
 | 0=>rfl
 | n+1=>by unfold U4_;rw [J7_,vA_ d l a b n]
theorem xs_ (d:OV) (l:List OV) (a b:Nat) {N:Nat} (hab:a+N<=b) (hb:b+N<=l.length):∀ n,n<=N->SwR l a b n d (U4_ d l a b n)
 | 0,_=>Bt_ l a b d
 | n+1,h=>Gc_ (xs_ d l a b hab hb n (by omega)) (by omega) hab hb
def qL_:IR:=
(sq (kr [0,1,2,3] [oD 10 (.mov (cI 0))])
(.block 0
(.loop
(sq (sq (kr [0,1,2,3,10] [oM 11 10,
oM 12 3,
oB 13 .lss 11 12])
(.cond 13
.skip
(.exit 0)))
(sq (.block 1
(kd [0,1,2,3,10] [(oM 16 0,[]),
(oM 17 1,[0]),
(oM 18 10,[0,0]),
(oB 19 .add 17 18,[2]),
(oM 20 0,[0,0,0,0]),
(oM 21 2,[0,0,0,0,0]),
(oM 22 10,[0,0,0,0,0,0]),
(oB 23 .add 21 22,[2,0,0,0,0]),
(oM 24 0,[0,0,0,0,0,0,0,0]),
(oM 25 2,[0,0,0,0,0,0,0,0,0]),
(oM 26 10,[0,0,0,0,0,0,0,0,0,0]),
(oB 27 .add 25 26,[2,0,0,0,0,0,0,0,0]),
(oI 28 6 24 27,[4,0,0,0,0,0,0,0]),
(oK 29 6 28,[5,0,0,0,0,0,0,0]),
(oM 30 0,[0,0,0,0,0,0,0,0,0,0,0,0,0,0]),
(oM 31 1,[0,0,0,0,0,0,0,0,0,0,0,0,0,0,0]),
(oM 32 10,[0,0,0,0,0,0,0,0,0,0,0,0,0,0,0,0]),
(oB 33 .add 31 32,[2,0,0,0,0,0,0,0,0,0,0,0,0,0,0]),
(oI 34 6 30 33,[4,0,0,0,0,0,0,0,0,0,0,0,0,0]),
(oK 35 6 34,[5,0,0,0,0,0,0,0,0,0,0,0,0,0]),
(oI 36 6 16 19,[12,0,0,0]),
(oS 6 36 29,[13,0,0,0]),
(oI 37 6 20 23,[]),
(oS 6 37 35,[])]))
(kr [0,1,2,3,10] [oM 14 10,
oB 15 .add 14 (cI 1),
oM 10 15]))))))
def qF_:List RD:=[]
theorem qI_:zl_ Try.prog Try.f80 qL_ qF_=true:=by kernel_rfl
def zL_:List AV->List Obj->Option (Prop × AV × List Obj)
 | [.own 0,.int .i64 a,.int .i64 b,.int .i64 n,(.fn 35 [] [])],[.row false (.cons (.int .i64) (.cons (.int .i64) (.cons .bool (.cons (.int .u64) (.cons (.sl (.int .u8)) (.cons (.sl (.int .u8)) .nil)))))) l]=>some ((0<=a/\0<=n/\a+n<=b/\b+n<=l.length/\l.length<=100000,.tup [],[.row false Y1 (U4_ (Ty.dflt Y1) (l:List OV) a.toNat b.toNat n.toNat)]))
 | _,_=>none
theorem qk_:zf_ Try.prog 80 (RwF zL_).sum:=by
 refine kF_ Try.func80 qI_ (ze_ _) fun args objs p v o e=>?_
 unfold zL_ at e
 split at e
 ·rename_i a b n l
  cases e
  refine ⟨rfl,fun hw ho hp=>?_⟩
  clear hw ho
  change List OV at l
  obtain ⟨h1,h2,h3,h4,h5⟩:=hp
  obtain ⟨a,rfl⟩:=Int.eq_ofNat_of_zero_le h1
  obtain ⟨n,rfl⟩:=Int.eq_ofNat_of_zero_le h2
  obtain ⟨b,rfl⟩:=Int.eq_ofNat_of_zero_le (show 0<=b by omega)
  simp only [Int.toNat_natCast]
  repeat'(intro t ht;first|(cases t<;>first|(cases ht;done)|(try simp only[zh_]at ht;try(exfalso;first|contradiction|omega)))|((first|refine za_ ht ?_|refine ht ?_ ?_|refine ht.1 ?_ ?_|refine ht ?_)<;>clear ht))
  all_goals first
   | exact True.intro
   | (intro r h1 h2;clear h1;refine h2 ⟨[0,1,2,3,10],Nat,(fun i=>i<=n),fun i=>[.own 0,.int .i64 a,.int .i64 b,.int .i64 n,.int .i64 i],fun i=>[.row false Y1 (U4_ (Ty.dflt Y1) l a b i)],fun i=>n - i,⟨0,Nat.zero_le _,rfl,rfl⟩,?_⟩;clear h2)
  rintro i hi
  have hl:=vA_ (Ty.dflt Y1) l a b i
  have e1:((a:Int)+i).toNat=a+i:=by omega
  have e2:((b:Int)+i).toNat=b+i:=by omega
  repeat'(intro t ht;first|(cases t<;>first|(cases ht;done)|(try simp only[zh_]at ht;try(exfalso;first|contradiction|omega)))|((first|refine za_ ht ?_|refine ht ?_ ?_|refine ht.1 ?_ ?_|refine ht ?_)<;>clear ht))
  all_goals (try simp only [Int.toNat_natCast,e1,e2] at ht ⊢)
  all_goals first
   | exact True.intro
   | omega
   | ((try dsimp only);simp only [zi_];omega)
   | (constructor<;>omega)
   | (rw [List.length_set];omega)
   | (simp only [List.length_set];constructor<;>omega)
   | (have e:n=i:=by omega
      rw [e];exact ⟨by first | rfl | exact True.intro,by first | rfl | exact True.intro⟩)
   | (refine ⟨i+1,?_,?_,rfl,rfl⟩
      ·(try dsimp only);omega
      ·(try dsimp only);omega)
 ·cases e
def Gp_ (l:List OV) (a m b:Nat):List OV:=l.take a++((l.take b).drop m++((l.take m).drop a++l.drop b))
def QB_:IR:=
(sq (kr [0,1,2,3,4] [oM 12 2,
oM 13 1,
oB 14 .sub 12 13,
oM 10 14])
(sq (.reg [oM 15 3,
oM 16 2,
oB 17 .sub 15 16,
oM 11 17])
(sq (.block 0
(.loop
(sq (sq (kr [0,2,4,10,11] [oM 18 10,
oM 19 11,
oB 20 .neq 18 19])
(.cond 20
.skip
(.exit 0)))
(.block 1
(sq (.reg [oM 21 10,
oM 22 11,
oB 23 .gtr 21 22])
(.cond 23
(sq (kr [0,2,4,10,11] [oM 24 0,
oM 25 2,
oM 26 10,
oB 27 .sub 25 26,
oM 28 2,
oM 29 11,
oM 30 4,
oD 31 (.call true (.f 80) [24,27,28,29,30])])
(kr [0,2,4,10,11] [oM 32 10,
oM 33 11,
oB 34 .sub 32 33,
oM 10 34]))
(sq (kr [0,2,4,10,11] [oM 35 0,
oM 36 2,
oM 37 10,
oB 38 .sub 36 37,
oM 39 2,
oM 40 11,
oB 41 .add 39 40,
oM 42 10,
oB 43 .sub 41 42,
oM 44 10,
oM 45 4,
oD 46 (.call true (.f 80) [35,38,43,44,45])])
(kr [0,2,4,10,11] [oM 47 11,
oM 48 10,
oB 49 .sub 47 48,
oM 11 49]))))))))
(kr [0,2,4,10] [oM 50 0,
oM 51 2,
oM 52 10,
oB 53 .sub 51 52,
oM 54 2,
oM 55 10,
oM 56 4,
oD 57 (.call true (.f 80) [50,53,54,55,56])]))))
def Qv_:List RD:=[]
theorem Qx_:zl_ Try.prog Try.f78 QB_ Qv_=true:=by kernel_rfl
def z4_:List AV->List Obj->Option (Prop × AV × List Obj)
 | [.own 0,.int .i64 a,.int .i64 m,.int .i64 b,(.fn 35 [] [])],[.row false (.cons (.int .i64) (.cons (.int .i64) (.cons .bool (.cons (.int .u64) (.cons (.sl (.int .u8)) (.cons (.sl (.int .u8)) .nil)))))) l]=>some ((0<=a/\a < m/\m < b/\b<=l.length/\l.length<=100000,.tup [],[.row false Y1 (Gp_ (l:List OV) a.toNat m.toNat b.toNat)]))
 | _,_=>none
theorem q4_:zf_ Try.prog 78 (RwF z4_).sum:=by
 refine kF_ Try.func78 Qx_ (zc_ (s:=RwF zL_) qk_ (ze_ _)) fun args objs p v o e=>?_
 unfold z4_ at e
 split at e
 ·rename_i a m b l
  cases e
  refine ⟨rfl,fun hw ho hp=>?_⟩
  clear hw ho
  change List OV at l
  obtain ⟨h1,h2,h3,h4,h5⟩:=hp
  obtain ⟨a,rfl⟩:=Int.eq_ofNat_of_zero_le h1
  obtain ⟨m,rfl⟩:=Int.eq_ofNat_of_zero_le (show 0<=m by omega)
  obtain ⟨b,rfl⟩:=Int.eq_ofNat_of_zero_le (show 0<=b by omega)
  simp only [Int.toNat_natCast]
  have hb:b<=l.length:=by omega
  have f1:(m:Int) - a=((m - a:Nat):Int):=by omega
  have f2:(b:Int) - m=((b - m:Nat):Int):=by omega
  repeat'(intro t ht;first|(cases t<;>first|(cases ht;done)|(try simp only[zh_]at ht;try(exfalso;first|contradiction|omega)))|((first|refine za_ ht ?_|refine ht ?_ ?_|refine ht.1 ?_ ?_|refine ht ?_)<;>clear ht))
  all_goals first
   | exact True.intro
   | ((try dsimp only);simp only [zi_];omega)
   | (intro r h1 h2;clear h1;refine h2 ⟨[0,2,4,10,11],Nat × Nat × List OV,(fun s=>RotJ l s.2.2 a m b s.1 s.2.1 (Ty.dflt Y1)),fun s=>[.own 0,.int .i64 m,(.fn 35 [] []),.int .i64 s.1,.int .i64 s.2.1],fun s=>[.row false Y1 s.2.2],fun s=>s.1+s.2.1,⟨(m - a,b - m,l),ge_ (by omega) (by omega),(by dsimp only;rw [f1,f2]),rfl⟩,?_⟩;clear h2)
  rintro ⟨i,j,u⟩ hJ
  dsimp only at hJ
  have hl:=hJ.len
  have j1:=hJ.i0
  have j2:=hJ.j0
  have j3:=hJ.ai
  have j4:=hJ.jb
  have e1:((m:Int) - i).toNat=m - i:=by omega
  have e2:((m:Int)+j - i).toNat=m+j - i:=by omega
  repeat'(intro t ht;first|(cases t<;>first|(cases ht;done)|(try simp only[zh_]at ht;try(exfalso;first|contradiction|omega)))|((first|refine za_ ht ?_|refine ht ?_ ?_|refine ht.1 ?_ ?_|refine ht ?_)<;>clear ht))
  all_goals (try simp only [Int.toNat_natCast,e1,e2] at ht ⊢)
  all_goals first
   | exact True.intro
   | omega
   | ((try dsimp only);simp only [zi_];omega)
   | (constructor<;>omega)
   | (refine ⟨?_,?_,?_,?_,?_⟩<;>omega)
   | (have hsw:=xs_ (Ty.dflt Y1) u (m - i) m (N:=i) (by omega) (by omega) i (Nat.le_refl _)
      have e:i=j:=by omega
      subst e
      have hr:=(HA_ hb hJ hsw).list (by omega) (by omega) hb
      rw [hr];exact ⟨by first | rfl | exact True.intro,rfl⟩)
   | (have hsw:=xs_ (Ty.dflt Y1) u (m - i) m (N:=j) (by omega) (by omega) j (Nat.le_refl _)
      refine ⟨(i - j,j,_),b0_ hb hJ (by omega) hsw,?_,?_,by first | rfl | exact True.intro⟩
      ·(try dsimp only);omega
      ·(try dsimp only)
       rw [show ((i - j:Nat):Int)=(i:Int) - j by omega])
   | (have hsw:=xs_ (Ty.dflt Y1) u (m - i) (m+j - i) (N:=i) (by omega) (by omega) i (Nat.le_refl _)
      refine ⟨(i,j - i,_),bZ_ hb hJ (by omega) hsw,?_,?_,by first | rfl | exact True.intro⟩
      ·(try dsimp only);omega
      ·(try dsimp only)
       rw [show ((j - i:Nat):Int)=(j:Int) - i by omega])
 ·cases e
structure OneJ (l:List OV) (d:OV) (x:Nat) (lo hi i j:Nat) (up:Bool):Prop where
 li:lo<=i
 ij:i<=j
 jh:j<=hi
 f:∀ h,lo<=h->h < i->(if up=true then ltO (l.getD h d) (l.getD x d)=true else ltO (l.getD x d) (l.getD h d)=false)
 t:∀ h,j<=h->h < hi->(if up=true then ltO (l.getD h d) (l.getD x d)=false else ltO (l.getD x d) (l.getD h d)=true)
theorem x9_ (l:List OV) (d:OV) (x:Nat) {lo hi:Nat} (up:Bool) (h:lo<=hi):OneJ l d x lo hi lo hi up:=⟨Nat.le_refl _,h,Nat.le_refl _,fun h h1 h2=>by omega,fun h h1 h2=>by omega⟩
theorem HN_ {l:List OV} {d:OV} {a b i j h:Nat} (hs:zS_ ltO d l (a+1) b) (J:OneJ l d a (a+1) b i j true) (h1:i<=h) (h2:h < j) (hlt:ltO (l.getD h d) (l.getD a d)=true):OneJ l d a (a+1) b (h+1) j true:=by
 obtain ⟨j1,j2,j3,j4,j5⟩:=J
 refine ⟨by omega,by omega,j3,fun k k1 k2=>?_,j5⟩
 rw [if_pos rfl]
 have e1:=qA_ zj_ hs (i:=k) (j:=h) k1 (by omega) (by omega)
 exact zj_.le_lt e1 hlt
theorem HO_ {l:List OV} {d:OV} {a b i j h:Nat} (hs:zS_ ltO d l (a+1) b) (J:OneJ l d a (a+1) b i j true) (h1:i<=h) (h2:h < j) (hlt:ltO (l.getD h d) (l.getD a d)=false):OneJ l d a (a+1) b i h true:=by
 obtain ⟨j1,j2,j3,j4,j5⟩:=J
 refine ⟨j1,h1,by omega,j4,fun k k1 k2=>?_⟩
 rw [if_pos rfl]
 have e1:=qA_ zj_ hs (i:=h) (j:=k) (by omega) k1 k2
 exact zj_.neg _ _ _ e1 hlt
theorem HP_ {l:List OV} {d:OV} {a m i j h:Nat} (hs:zS_ ltO d l a m) (J:OneJ l d m a m i j false) (h1:i<=h) (h2:h < j) (hlt:ltO (l.getD m d) (l.getD h d)=false):OneJ l d m a m (h+1) j false:=by
 obtain ⟨j1,j2,j3,j4,j5⟩:=J
 refine ⟨by omega,by omega,j3,fun k k1 k2=>?_,j5⟩
 rw [if_neg (by decide)]
 have e1:=qA_ zj_ hs (i:=k) (j:=h) k1 (by omega) (by omega)
 exact zj_.neg _ _ _ hlt e1
theorem HQ_ {l:List OV} {d:OV} {a m i j h:Nat} (hs:zS_ ltO d l a m) (J:OneJ l d m a m i j false) (h1:i<=h) (h2:h < j) (hlt:ltO (l.getD m d) (l.getD h d)=true):OneJ l d m a m i h false:=by
 obtain ⟨j1,j2,j3,j4,j5⟩:=J
 refine ⟨j1,h1,by omega,j4,fun k k1 k2=>?_⟩
 rw [if_neg (by decide)]
 have e1:=qA_ zj_ hs (i:=h) (j:=k) (by omega) k1 (by omega)
 exact zj_.lt_le hlt e1
theorem b8_ {l u:List OV} {d:OV} {a b i:Nat} (hb:b<=l.length) (hab:a < b) (hs:zS_ ltO d l (a+1) b) (J:OneJ l d a (a+1) b i i true) (h:Rot l a (a+1) i d u):u=stS ltO l a b:=
 BB_ zj_ hb J.li J.jh hs (fun k k1 k2=>by have:=J.f k k1 k2;rwa [if_pos rfl] at this) (fun k k1 k2=>by have:=J.t k k1 k2;rwa [if_pos rfl] at this) h
theorem b9_ {l u:List OV} {d:OV} {a m i:Nat} (hb:m+1<=l.length) (hs:zS_ ltO d l a m) (J:OneJ l d m a m i i false) (h:Rot l i m (m+1) d u):u=stS ltO l a (m+1):=
 BC_ zj_ hb J.li J.jh hs (fun k k1 k2=>by have:=J.f k k1 k2;rwa [if_neg (by decide)] at this) (fun k k1 k2=>by have:=J.t k k1 k2;rwa [if_neg (by decide)] at this) h
theorem H4_ (x:Nat):((x:Int)).fdiv (2 ^ min (Int.toNat 1) IntKind.u64.bits)=((x / 2:Nat):Int):=by
 show ((x:Int)).fdiv (2 ^ 1)=_
 rw [Int.fdiv_eq_ediv_of_nonneg _ (by decide)];omega
theorem wE_ (x y:Nat):((x:Int)+(y:Int)).fdiv (2 ^ min (Int.toNat 1) IntKind.u64.bits)=(((x+y) / 2:Nat):Int):=by
 rw [<- H4_];rfl
theorem Go_ {l:List OV} (d:OV) {a m b:Nat} (ham:a<=m) (hmb:m<=b) (hb:b<=l.length):Rot l a m b d (Gp_ l a m b):=by
 refine ⟨?_,fun k hk=>?_⟩
 ·unfold Gp_;simp only [List.length_append,List.length_take,List.length_drop];omega
 ·unfold Gp_ zn_
  rw [Zu_,Zu_,Zu_,wv_,wv_,k8_]
  simp only [List.length_take,List.length_drop]
  by_cases c1:k < a
  ·rw [if_pos c1,if_pos (show k < min a l.length by omega),k7_ c1]
  ·rw [if_neg c1,if_neg (show ¬ k < min a l.length by omega)]
   by_cases c2:k < a+(b - m)
   ·rw [if_pos c2,if_pos (show k - min a l.length < min b l.length - m by omega),if_pos (by omega)];congr 1;omega
   ·rw [if_neg c2,if_neg (show ¬ k - min a l.length < min b l.length - m by omega)]
    by_cases c3:k < b
    ·rw [if_pos c3,if_pos (show k - min a l.length - (min b l.length - m) < min m l.length - a by omega),if_pos (by omega)];congr 1;omega
    ·rw [if_neg c3,if_neg (show ¬ k - min a l.length - (min b l.length - m) < min m l.length - a by omega)];congr 1;omega
def qZ_:IR:=
(sq (sq (kr [0,1,2,3,4] [oM 25 2,
oM 26 1,
oB 27 .sub 25 26,
oB 28 .eql 27 (cI 1)])
(.cond 28
(sq (.reg [oM 29 2,
oM 10 29])
(sq (kr [0,1,3,4,10] [oM 30 3,
oM 11 30])
(sq (.block 0
(.loop
(sq (sq (kr [0,1,4,10,11] [oM 31 10,
oM 32 11,
oB 33 .lss 31 32])
(.cond 33
.skip
(.exit 0)))
(.block 1
(sq (kr [0,1,4,10,11] [oM 34 10,
oM 35 11,
oB 36 .add 34 35,
oD 37 (.conv .u64 36),
oB 38 .shr 37 (.c (.int .u64 1)),
oD 39 (.conv .i64 38),
oM 12 39])
(sq (kd [0,1,4,10,11,12] [(oM 40 4,[]),
(oM 41 0,[0]),
(oM 42 12,[0,0]),
(oI 43 6 41 42,[2]),
(oK 44 6 43,[3]),
(oM 45 0,[0,0,0,0,0]),
(oM 46 1,[0,0,0,0,0,0]),
(oI 47 6 45 46,[2,0,0,0,0]),
(oK 48 6 47,[3,0,0,0,0]),
(oD 49 (.call false 40 [44,48]),[]),
(oB 50 .lss 49 (cI 0),[])])
(.cond 50
(kr [0,1,4,11,12] [oM 51 12,
oB 52 .add 51 (cI 1),
oM 10 52])
(kr [0,1,4,10,12] [oM 53 12,
oM 11 53]))))))))
(sq (sq (kr [0,1,10] [oM 54 1,
oM 13 54])
(.block 2
(.loop
(sq (sq (kr [0,10,13] [oM 55 13,
oM 56 10,
oB 57 .sub 56 (cI 1),
oB 58 .lss 55 57])
(.cond 58
.skip
(.exit 2)))
(sq (.block 3
(kd [0,10,13] [(oM 61 0,[]),
(oM 62 13,[0]),
(oM 63 0,[0,0]),
(oM 64 13,[0,0,0]),
(oB 65 .add 64 (cI 1),[1,0,0]),
(oM 66 0,[0,0,0,0,0]),
(oM 67 13,[0,0,0,0,0,0]),
(oB 68 .add 67 (cI 1),[1,0,0,0,0,0]),
(oI 69 6 66 68,[3,0,0,0,0]),
(oK 70 6 69,[4,0,0,0,0]),
(oM 71 0,[0,0,0,0,0,0,0,0,0,0]),
(oM 72 13,[0,0,0,0,0,0,0,0,0,0,0]),
(oI 73 6 71 72,[2,0,0,0,0,0,0,0,0,0]),
(oK 74 6 73,[3,0,0,0,0,0,0,0,0,0]),
(oI 75 6 61 62,[9,0,0]),
(oS 6 75 70,[10,0,0]),
(oI 76 6 63 65,[]),
(oS 6 76 74,[])]))
(kr [0,10,13] [oM 59 13,
oB 60 .add 59 (cI 1),
oM 13 60]))))))
.ret))))
.skip))
(sq (sq (kr [0,1,2,3,4] [oM 77 3,
oM 78 2,
oB 79 .sub 77 78,
oB 80 .eql 79 (cI 1)])
(.cond 80
(sq (.reg [oM 81 1,
oM 14 81])
(sq (kr [0,2,4,14] [oM 82 2,
oM 15 82])
(sq (.block 4
(.loop
(sq (sq (kr [0,2,4,14,15] [oM 83 14,
oM 84 15,
oB 85 .lss 83 84])
(.cond 85
.skip
(.exit 4)))
(.block 5
(sq (kr [0,2,4,14,15] [oM 86 14,
oM 87 15,
oB 88 .add 86 87,
oD 89 (.conv .u64 88),
oB 90 .shr 89 (.c (.int .u64 1)),
oD 91 (.conv .i64 90),
oM 16 91])
(sq (kd [0,2,4,14,15,16] [(oM 92 4,[]),
(oM 93 0,[0]),
(oM 94 2,[0,0]),
(oI 95 6 93 94,[2]),
(oK 96 6 95,[3]),
(oM 97 0,[0,0,0,0,0]),
(oM 98 16,[0,0,0,0,0,0]),
(oI 99 6 97 98,[2,0,0,0,0]),
(oK 100 6 99,[3,0,0,0,0]),
(oD 101 (.call false 92 [96,100]),[]),
(oB 102 .lss 101 (cI 0),[]),
(oD 103 (.un .not 102),[])])
(.cond 103
(kr [0,2,4,15,16] [oM 104 16,
oB 105 .add 104 (cI 1),
oM 14 105])
(kr [0,2,4,14,16] [oM 106 16,
oM 15 106]))))))))
(sq (sq (kr [0,2,14] [oM 107 2,
oM 17 107])
(.block 6
(.loop
(sq (sq (kr [0,14,17] [oM 108 17,
oM 109 14,
oB 110 .gtr 108 109])
(.cond 110
.skip
(.exit 6)))
(sq (.block 7
(kd [0,14,17] [(oM 113 0,[]),
(oM 114 17,[0]),
(oM 115 0,[0,0]),
(oM 116 17,[0,0,0]),
(oB 117 .sub 116 (cI 1),[1,0,0]),
(oM 118 0,[0,0,0,0,0]),
(oM 119 17,[0,0,0,0,0,0]),
(oB 120 .sub 119 (cI 1),[1,0,0,0,0,0]),
(oI 121 6 118 120,[3,0,0,0,0]),
(oK 122 6 121,[4,0,0,0,0]),
(oM 123 0,[0,0,0,0,0,0,0,0,0,0]),
(oM 124 17,[0,0,0,0,0,0,0,0,0,0,0]),
(oI 125 6 123 124,[2,0,0,0,0,0,0,0,0,0]),
(oK 126 6 125,[3,0,0,0,0,0,0,0,0,0]),
(oI 127 6 113 114,[9,0,0]),
(oS 6 127 122,[10,0,0]),
(oI 128 6 115 117,[]),
(oS 6 128 126,[])]))
(kr [0,14,17] [oM 111 17,
oB 112 .sub 111 (cI 1),
oM 17 112]))))))
.ret))))
.skip))
(sq (kr [0,1,2,3,4] [oM 129 1,
oM 130 3,
oB 131 .add 129 130,
oD 132 (.conv .u64 131),
oB 133 .shr 132 (.c (.int .u64 1)),
oD 134 (.conv .i64 133),
oM 18 134])
(sq (kr [0,1,2,3,4,18] [oM 135 18,
oM 136 2,
oB 137 .add 135 136,
oM 19 137])
(sq (.reg [oD 20 (.mov (cI 0)),
oD 21 (.mov (cI 0))])
(sq (sq (.reg [oM 138 2,
oM 139 18,
oB 140 .gtr 138 139])
(.cond 140
(sq (kr [0,1,2,3,4,18,19] [oM 141 19,
oM 142 3,
oB 143 .sub 141 142,
oM 20 143])
(.reg [oM 144 18,
oM 21 144]))
(sq (kr [0,1,2,3,4,18,19] [oM 145 1,
oM 20 145])
(.reg [oM 146 2,
oM 21 146]))))
(sq (.reg [oM 147 19,
oB 148 .sub 147 (cI 1),
oM 22 148])
(sq (.block 8
(.loop
(sq (sq (kr [0,1,2,3,4,18,19,20,21,22] [oM 149 20,
oM 150 21,
oB 151 .lss 149 150])
(.cond 151
.skip
(.exit 8)))
(.block 9
(sq (kr [0,1,2,3,4,18,19,20,21,22] [oM 152 20,
oM 153 21,
oB 154 .add 152 153,
oD 155 (.conv .u64 154),
oB 156 .shr 155 (.c (.int .u64 1)),
oD 157 (.conv .i64 156),
oM 23 157])
(sq (kd [0,1,2,3,4,18,19,20,21,22,23] [(oM 158 4,[]),
(oM 159 0,[0]),
(oM 160 22,[0,0]),
(oM 161 23,[0,0,0]),
(oB 162 .sub 160 161,[2,0]),
(oI 163 6 159 162,[4]),
(oK 164 6 163,[5]),
(oM 165 0,[0,0,0,0,0,0,0]),
(oM 166 23,[0,0,0,0,0,0,0,0]),
(oI 167 6 165 166,[2,0,0,0,0,0,0]),
(oK 168 6 167,[3,0,0,0,0,0,0]),
(oD 169 (.call false 158 [164,168]),[]),
(oB 170 .lss 169 (cI 0),[]),
(oD 171 (.un .not 170),[])])
(.cond 171
(kr [0,1,2,3,4,18,19,21,22,23] [oM 172 23,
oB 173 .add 172 (cI 1),
oM 20 173])
(kr [0,1,2,3,4,18,19,20,22,23] [oM 174 23,
oM 21 174]))))))))
(sq (kr [0,1,2,3,4,18,19,20] [oM 175 19,
oM 176 20,
oB 177 .sub 175 176,
oM 24 177])
(sq (sq (kr [0,1,2,3,4,18,20,24] [oM 178 20,
oM 179 2,
oB 180 .lss 178 179,
oM 181 180,
oT 181 182 (.mov 2),
oT 181 183 (.mov 24),
oT 181 184 (.bin .lss 182 183),
oP 185 181 184 cF])
(.cond 185
(kr [0,1,2,3,4,18,20,24] [oM 186 0,
oM 187 20,
oM 188 2,
oM 189 24,
oM 190 4,
oD 191 (.call true (.f 78) [186,187,188,189,190])])
.skip))
(sq (sq (kr [0,1,3,4,18,20,24] [oM 192 1,
oM 193 20,
oB 194 .lss 192 193,
oM 195 194,
oT 195 196 (.mov 20),
oT 195 197 (.mov 18),
oT 195 198 (.bin .lss 196 197),
oP 199 195 198 cF])
(.cond 199
(kr [0,1,3,4,18,20,24] [oM 200 0,
oM 201 1,
oM 202 20,
oM 203 18,
oM 204 4,
oD 205 (.call true (.f 72) [200,201,202,203,204])])
.skip))
(sq (kr [0,3,4,18,24] [oM 206 18,
oM 207 24,
oB 208 .lss 206 207,
oM 209 208,
oT 209 210 (.mov 24),
oT 209 211 (.mov 3),
oT 209 212 (.bin .lss 210 211),
oP 213 209 212 cF])
(.cond 213
(kr [0,3,4,18,24] [oM 214 0,
oM 215 18,
oM 216 24,
oM 217 3,
oM 218 4,
oD 219 (.call true (.f 72) [214,215,216,217,218])])
.skip)))))))))))))
def qV_:List RD:=[]
theorem qX_:zl_ Try.prog Try.f72 qZ_ qV_=true:=by kernel_rfl
def zO_:List AV->List Obj->Option (Prop × AV × List Obj)
 | [.own 0,.int .i64 a,.int .i64 m,.int .i64 b,(.fn 35 [] [])],[.row false (.cons (.int .i64) (.cons (.int .i64) (.cons .bool (.cons (.int .u64) (.cons (.sl (.int .u8)) (.cons (.sl (.int .u8)) .nil)))))) l]=>some ((0<=a/\a < m/\m < b/\b<=l.length/\l.length<=100000/\zS_ ltO (Ty.dflt Y1) (l:List OV) a.toNat m.toNat/\zS_ ltO (Ty.dflt Y1) (l:List OV) m.toNat b.toNat,.tup [],[.row false Y1 (stS ltO (l:List OV) a.toNat b.toNat)]))
 | _,_=>none
theorem qD_:zf_ Try.prog 72 (RwF zO_).sum:=by
 refine Gj_ (fun args=>match args with | [_,.int _ a,_,.int _ b,_]=>(b - a).toNat | _=>0) Try.func72 qX_ (zc_ (s:=RoF qz_) kt_ (zc_ (s:=RwF z4_) q4_ (ze_ _))) fun args objs p v o e=>?_
 unfold zO_ at e
 split at e
 ·rename_i a m b l
  cases e
  refine ⟨rfl,fun hw ho hp=>?_⟩
  clear hw ho
  change List OV at l
  obtain ⟨h1,h2,h3,h4,h5,hs1,hs2⟩:=hp
  obtain ⟨a,rfl⟩:=Int.eq_ofNat_of_zero_le h1
  obtain ⟨m,rfl⟩:=Int.eq_ofNat_of_zero_le (show 0<=m by omega)
  obtain ⟨b,rfl⟩:=Int.eq_ofNat_of_zero_le (show 0<=b by omega)
  simp only [Int.toNat_natCast] at hs1 hs2 ⊢
  have hb:b<=l.length:=by omega
  have ham:a < m:=by omega
  have hmb:m < b:=by omega
  have hmid:=wE_ a b
  generalize hMid:(a+b) / 2=mid at hmid
  have hm2:2*mid<=a+b/\a+b<=2*mid+1:=by omega
  obtain ⟨s0,r0,k1,k2,k3,k4,k5,k6,k7,k8,k9⟩:∃ s0 r0:Nat,a<=s0/\r0<=m/\mid+m<=b+s0/\m+r0<=mid+m/\s0<=r0/\(s0=a\/mid+m - s0=b)/\(r0=m\/mid+m - r0=m)/\r0<=mid/\((mid < m/\s0=mid+m - b/\r0=mid)\/(m<=mid/\s0=a/\r0=m)):=by
   by_cases c:mid < m
   ·exact ⟨mid+m - b,mid,by omega,by omega,by omega,by omega,by omega,by omega,by omega,by omega,by omega⟩
   ·exact ⟨a,m,by omega,by omega,by omega,by omega,by omega,by omega,by omega,by omega,by omega⟩
  by_cases c1:m=a+1
  ·have hs2':zS_ ltO (Ty.dflt Y1) l (a+1) b:=by rw [<- c1];exact hs2
   repeat'(intro t ht;first|(cases t<;>first|(cases ht;done)|(try simp only[zh_]at ht;try(exfalso;first|contradiction|omega)))|((first|refine za_ ht ?_|refine ht ?_ ?_|refine ht.1 ?_ ?_|refine ht ?_)<;>clear ht))
   all_goals first
    | exact True.intro
    | omega
    | ((try dsimp only);simp only [zi_];omega)
    | (intro r h1 h2;clear h1;refine h2 ⟨[0,1,4,10,11],Nat × Nat,(fun s=>OneJ l (Ty.dflt Y1) a (a+1) b s.1 s.2 true),fun s=>[.own 0,.int .i64 a,(.fn 35 [] []),.int .i64 s.1,.int .i64 s.2],fun _=>[.row false Y1 l],fun s=>s.2 - s.1,⟨(a+1,b),x9_ l (Ty.dflt Y1) a true (by omega),(by dsimp only;rw [show ((a+1:Nat):Int)=m by omega]),rfl⟩,?_⟩;clear h2)
   rintro ⟨i,j⟩ hJ
   dsimp only at hJ
   have q1:=hJ.li
   have q2:=hJ.ij
   have q3:=hJ.jh
   have hh:=wE_ i j
   obtain ⟨h,hh1⟩:∃ h,h=(i+j) / 2:=⟨_,rfl⟩
   rw [<- hh1] at hh
   repeat'(intro t ht;first|(cases t<;>first|(cases ht;done)|(try simp only[zh_]at ht;try(exfalso;first|contradiction|omega)))|((first|refine za_ ht ?_|refine ht ?_ ?_|refine ht.1 ?_ ?_|refine ht ?_)<;>clear ht))
   all_goals (try simp only [hh,Int.toNat_natCast] at ht ⊢)
   all_goals first
    | exact True.intro
    | omega
    | ((try dsimp only);simp only [zi_];omega)
    | (constructor<;>omega)
    | (refine ⟨(h+1,j),HN_ hs2' hJ (by omega) (by omega) ((XK_ _ _).1 ht),?_,rfl,by first | rfl | exact True.intro⟩
       (try dsimp only);omega)
    | (refine ⟨(i,h),HO_ hs2' hJ (by omega) (by omega) ((vo_ _ _).1 ht),?_,rfl,by first | rfl | exact True.intro⟩
       (try dsimp only);omega)
    | (intro r h1 h2;clear h1;refine h2 ⟨[0,10,13],Nat × List OV,(fun s=>a<=s.1/\s.1+1<=i/\Rot l a (a+1) (s.1+1) (Ty.dflt Y1) s.2),fun s=>[.own 0,.int .i64 i,.int .i64 s.1],fun s=>[.row false Y1 s.2],fun s=>i - s.1,⟨(a,l),⟨Nat.le_refl _,by (try dsimp only);omega,b1_ l a (Ty.dflt Y1)⟩,rfl,rfl⟩,?_⟩;clear h2)
   rintro ⟨k,u⟩ ⟨p1,p2,p3⟩
   dsimp only at p1 p2 p3
   have hl:=p3.len
   have e1:((k:Int)+1).toNat=k+1:=by omega
   repeat'(intro t ht;first|(cases t<;>first|(cases ht;done)|(try simp only[zh_]at ht;try(exfalso;first|contradiction|omega)))|((first|refine za_ ht ?_|refine ht ?_ ?_|refine ht.1 ?_ ?_|refine ht ?_)<;>clear ht))
   all_goals (try simp only [Int.toNat_natCast,e1] at ht ⊢)
   all_goals first
    | exact True.intro
    | omega
    | ((try dsimp only);simp only [zi_];omega)
    | (constructor<;>omega)
    | (rw [List.length_set];omega)
    | (simp only [List.length_set];constructor<;>omega)
    | (have e2:j=i:=by omega
       have e3:k+1=i:=by omega
       subst e2
       rw [e3] at p3
       have e4:=b8_ hb (by omega) hs2' hJ p3
       rw [e4];exact ⟨by first | exact True.intro | rfl,rfl⟩)
    | (refine ⟨(k+1,_),⟨?_,?_,Hz_ p3 p1 (by omega)⟩,?_,rfl,by first | rfl | exact True.intro⟩
       ·(try dsimp only);omega
       ·(try dsimp only);omega
       ·(try dsimp only);omega)
  ·by_cases c2:b=m+1
   ·subst c2
    repeat'(intro t ht;first|(cases t<;>first|(cases ht;done)|(try simp only[zh_]at ht;try(exfalso;first|contradiction|omega)))|((first|refine za_ ht ?_|refine ht ?_ ?_|refine ht.1 ?_ ?_|refine ht ?_)<;>clear ht))
    all_goals first
     | exact True.intro
     | omega
     | ((try dsimp only);simp only [zi_];omega)
     | (intro r h1 h2;clear h1;refine h2 ⟨[0,2,4,14,15],Nat × Nat,(fun s=>OneJ l (Ty.dflt Y1) m a m s.1 s.2 false),fun s=>[.own 0,.int .i64 m,(.fn 35 [] []),.int .i64 s.1,.int .i64 s.2],fun _=>[.row false Y1 l],fun s=>s.2 - s.1,⟨(a,m),x9_ l (Ty.dflt Y1) m false (by omega),rfl,rfl⟩,?_⟩;clear h2)
    rintro ⟨i,j⟩ hJ
    dsimp only at hJ
    have q1:=hJ.li
    have q2:=hJ.ij
    have q3:=hJ.jh
    have hh:=wE_ i j
    obtain ⟨h,hh1⟩:∃ h,h=(i+j) / 2:=⟨_,rfl⟩
    rw [<- hh1] at hh
    repeat'(intro t ht;first|(cases t<;>first|(cases ht;done)|(try simp only[zh_]at ht;try(exfalso;first|contradiction|omega)))|((first|refine za_ ht ?_|refine ht ?_ ?_|refine ht.1 ?_ ?_|refine ht ?_)<;>clear ht))
    all_goals (try simp only [hh,Int.toNat_natCast] at ht ⊢)
    all_goals first
     | exact True.intro
     | omega
     | ((try dsimp only);simp only [zi_];omega)
     | (constructor<;>omega)
     | (refine ⟨(h+1,j),HP_ hs1 hJ (by omega) (by omega) ((vo_ _ _).1 ht),?_,rfl,by first | rfl | exact True.intro⟩
        (try dsimp only);omega)
     | (refine ⟨(i,h),HQ_ hs1 hJ (by omega) (by omega) ((XK_ _ _).1 ht),?_,rfl,by first | rfl | exact True.intro⟩
        (try dsimp only);omega)
     | (intro r h1 h2;clear h1;refine h2 ⟨[0,14,17],Nat × List OV,(fun s=>i<=s.1/\s.1<=m/\Rot l s.1 m (m+1) (Ty.dflt Y1) s.2),fun s=>[.own 0,.int .i64 i,.int .i64 s.1],fun s=>[.row false Y1 s.2],fun s=>s.1,⟨(m,l),⟨by (try dsimp only);omega,Nat.le_refl _,Gn_ l m (Ty.dflt Y1)⟩,rfl,rfl⟩,?_⟩;clear h2)
    rintro ⟨k,u⟩ ⟨p1,p2,p3⟩
    dsimp only at p1 p2 p3
    have hl:=p3.len
    have e1:((k:Int) - 1).toNat=k - 1:=by omega
    repeat'(intro t ht;first|(cases t<;>first|(cases ht;done)|(try simp only[zh_]at ht;try(exfalso;first|contradiction|omega)))|((first|refine za_ ht ?_|refine ht ?_ ?_|refine ht.1 ?_ ?_|refine ht ?_)<;>clear ht))
    all_goals (try simp only [Int.toNat_natCast,e1] at ht ⊢)
    all_goals first
     | exact True.intro
     | omega
     | ((try dsimp only);simp only [zi_];omega)
     | (constructor<;>omega)
     | (rw [List.length_set];omega)
     | (simp only [List.length_set];constructor<;>omega)
     | (have e2:j=i:=by omega
        have e3:k=i:=by omega
        subst e2
        subst e3
        have e4:=b9_ hb hs1 hJ p3
        rw [e4];exact ⟨by first | exact True.intro | rfl,rfl⟩)
     | (refine ⟨(k - 1,_),⟨?_,?_,Um_ p3 (by omega) p2 (by omega)⟩,?_,?_,by first | rfl | exact True.intro⟩
        ·(try dsimp only);omega
        ·(try dsimp only);omega
        ·(try dsimp only);omega
        ·(try dsimp only)
         rw [show ((k - 1:Nat):Int)=(k:Int) - 1 by omega])
   ·repeat'(intro t ht;first|(cases t<;>first|(cases ht;done)|(try simp only[zh_]at ht;try(exfalso;first|contradiction|omega)))|((first|refine za_ ht ?_|refine ht ?_ ?_|refine ht.1 ?_ ?_|refine ht ?_)<;>clear ht))
    all_goals (try simp only [hmid] at ht ⊢)
    all_goals first
     | exact True.intro
     | omega
     | ((try dsimp only);simp only [zi_];omega)
     | (intro r h1 h2;clear h1;refine h2 ⟨[0,1,2,3,4,18,19,20,21,22],Nat × Nat,(fun s=>SymJ ltO (Ty.dflt Y1) l m b (mid+m) s0 r0 s.1 s.2),fun s=>[.own 0,.int .i64 a,.int .i64 m,.int .i64 b,(.fn 35 [] []),.int .i64 mid,.int .i64 ((mid:Int)+m),.int .i64 s.1,.int .i64 s.2,.int .i64 ((mid:Int)+m - 1)],fun _=>[.row false Y1 l],fun s=>s.2 - s.1,⟨(s0,r0),V3_ l k5,(by simp only [hmid];first | (rw [show (s0:Int)=(mid:Int)+m - b by omega,show r0=mid by omega]) | (rw [show s0=a by omega,show r0=m by omega])),rfl⟩,?_⟩;clear h2)
    all_goals rintro ⟨i,j⟩ hJ
    all_goals dsimp only at hJ
    all_goals have q1:=hJ.s0s
    all_goals have q2:=hJ.sr
    all_goals have q3:=hJ.rr0
    all_goals have hh:=wE_ i j
    all_goals obtain ⟨h,hh1⟩:∃ h,h=(i+j) / 2:=⟨_,rfl⟩
    all_goals rw [<- hh1] at hh
    all_goals have e3:((mid:Int)+m - 1 - h).toNat=mid+m - 1 - h:=by omega
    all_goals have e4:((mid:Int)+m - i).toNat=mid+m - i:=by omega
    all_goals by_cases cij:i < j
    all_goals first
     | (have cpos:i < j:=by assumption
        repeat'(intro t ht;first|(cases t<;>first|(cases ht;done)|(try simp only[zh_]at ht;try(exfalso;first|contradiction|omega)))|((first|refine za_ ht ?_|refine ht ?_ ?_|refine ht.1 ?_ ?_|refine ht ?_)<;>clear ht))
        all_goals (try simp only [hh,Int.toNat_natCast,e3] at ht ⊢)
        all_goals first
         | exact True.intro
         | omega
         | ((try dsimp only);simp only [zi_];omega)
         | (constructor<;>omega)
         | (refine ⟨(h+1,j),Hs_ zj_ hs1 hs2 k1 k2 k3 k4 hJ (by omega) (by omega) ((vo_ _ _).1 ht),?_,rfl,by first | rfl | exact True.intro⟩
            (try dsimp only);omega)
         | (refine ⟨(i,h),Ht_ zj_ hs1 hs2 k1 k2 k3 k4 hJ (by omega) (by omega) ((XK_ _ _).1 ht),?_,rfl,by first | rfl | exact True.intro⟩
            (try dsimp only);omega))
     | skip
    all_goals clear hh hh1 e3 h
    all_goals have hJ':SymJ ltO (Ty.dflt Y1) l m b (mid+m) s0 r0 i i:=by (have z:j=i:=by omega);(rw [z] at hJ);exact hJ
    all_goals have K:∀ u,Rot l i m (mid+m - i) (Ty.dflt Y1) u->SymR ltO (Ty.dflt Y1) l u a i mid (mid+m - i) b:=fun u hu=>Hr_ zj_ hb hs1 hs2 k1 k2 k3 k4 rfl rfl k6 k7 (by omega) (by omega) (by omega) hJ' hu
    all_goals obtain ⟨e,he⟩:∃ e,e=mid+m - i:=⟨_,rfl⟩
    all_goals rw [<- he] at K
    all_goals have e5:(mid:Int)+m - i=(e:Int):=by omega
    all_goals clear hJ hJ' e4
    all_goals by_cases cr:i < m/\m < e
    all_goals first
     | (have cr2:=cr.2
        have hR:=Go_ (Ty.dflt Y1) (l:=l) (a:=i) (m:=m) (b:=e) (by omega) (by omega) (by omega)
        have K1:=K _ hR
        have hlen:=hR.len
        generalize hU:Gp_ l i m e=U at*)
     | (have K1:=K _ (Gm_ (Ty.dflt Y1) (by omega) (by omega) (by omega))
        have hlen:l.length=l.length:=rfl)
    all_goals have hst:=K4_ zj_ _ (a:=a) (b:=mid) (by omega) (by first | (have z:=K1.R.len;rw [z];omega) | omega)
    all_goals repeat'(intro t ht;first|(cases t<;>first|(cases ht;done)|(try simp only[zh_]at ht;try(exfalso;first|contradiction|omega)))|((first|refine za_ ht ?_|refine ht ?_ ?_|refine ht.1 ?_ ?_|refine ht ?_)<;>clear ht))
    all_goals (try simp only [e5,Int.toNat_natCast] at ht ⊢)
    all_goals (try simp only [hU] at ht ⊢)
    all_goals first
     | exact True.intro
     | omega
     | ((try dsimp only);simp only [zi_];omega)
     | (refine ⟨?_,?_,?_,?_,?_⟩<;>omega)
     | (refine ⟨⟨?_,?_,?_,?_,?_,K1.p1,K1.p2⟩,?_⟩<;>(try rw [hlen])<;>omega)
     | (refine ⟨⟨?_,?_,?_,?_,?_,K1.p3,K1.p4⟩,?_⟩<;>(try rw [hlen])<;>omega)
     | (refine ⟨⟨?_,?_,?_,?_,?_,K1.p3.keep hst (.inr (Nat.le_refl _)),K1.p4.keep hst (.inr (by omega))⟩,?_⟩<;>(try rw [hst.len,hlen])<;>omega)
     | (have x1:=J6_ zj_ hb (by omega) (by omega) K1
        rw [x1];exact ⟨by first | exact True.intro | rfl,rfl⟩)
     | (have x1:=J6_ zj_ hb (by omega) (by omega) K1
        have x2:=Ug_ zj_ hb (by omega) (by omega) K1 (by omega)
        rw [x2] at x1
        rw [x1];exact ⟨by first | exact True.intro | rfl,rfl⟩)
     | (have x1:=J6_ zj_ hb (by omega) (by omega) K1
        have x2:=Uh_ zj_ hb (by omega) (by omega) K1 (by omega)
        rw [x2] at x1
        rw [x1];exact ⟨by first | exact True.intro | rfl,rfl⟩)
     | (have x1:=J6_ zj_ hb (by omega) (by omega) K1
        have x2:=Uh_ zj_ hb (by omega) (by omega) K1 (by omega)
        have x3:=Ug_ zj_ hb (by omega) (by omega) K1 (by omega)
        rw [x3,x2] at x1
        rw [<- x1];exact ⟨by first | exact True.intro | rfl,rfl⟩)
 ·cases e
structure OkT (l:List OV) (n:Nat) (u:List OV):Prop where
 h:Stb ltO l 0 n u
 n:n<=l.length
theorem GJ_ {l:List OV} {n:Nat} (h:n<=l.length):OkT l n l:=⟨Stb.refl l 0 n,h⟩
theorem OkT.len {l u:List OV} {n:Nat} (h:OkT l n u):u.length=l.length:=h.h.len
theorem OkT.stb {l u:List OV} {n a b:Nat} (h:OkT l n u) (hab:a<=b) (hb:b<=n):Stb ltO u a b (stS ltO u a b):=K4_ zj_ u hab (by rw [h.len];have:=h.n;omega)
theorem OkT.more {l u:List OV} {n a b:Nat} (h:OkT l n u) (hab:a<=b) (hb:b<=n):OkT l n (stS ltO u a b):=
 ⟨h.h.trans ((h.stb hab hb).wide (Nat.zero_le _) hb),h.n⟩
theorem OkT.srt {l u:List OV} {n a b:Nat} (d:OV) (h:OkT l n u) (hab:a<=b) (hb:b<=n):zS_ ltO d (stS ltO u a b) a b:=J9_ zj_ d u hab (by rw [h.len];have:=h.n;omega)
theorem OkT.old {l u:List OV} {n a b p q:Nat} {d:OV} (h:OkT l n u) (hab:a<=b) (hb:b<=n) (hs:zS_ ltO d u p q) (hd:q<=a\/b<=p):zS_ ltO d (stS ltO u a b) p q:=hs.keep (h.stb hab hb) hd
theorem OkT.fin {l u:List OV} {n:Nat} (h:OkT l n u):stS ltO u 0 n=stS ltO l 0 n:=U6_ zj_ ((Ty.dflt Y1)) (Nat.zero_le _) h.n h.h
theorem OkT.nil {l u:List OV} {n a b:Nat} (h:OkT l n u) (hab:a<=b) (hb:b<=n) (hs:b<=a+1):stS ltO u a b=u:=V6_ zj_ (d:=(Ty.dflt Y1)) hab (by rw [h.len];have:=h.n;omega) (zS_.none u hs)
theorem OkT.srt2 {l u:List OV} {n a b p q:Nat} {d:OV} (h:OkT l n u) (hab:a<=b) (hb:b<=n) (h1:a<=p) (h2:q<=b):zS_ ltO d (stS ltO u a b) p q:=(h.srt d hab hb).sub h1 h2
theorem OkT.c1 {l u:List OV} {n:Nat} {a b:Int} (h:OkT l n u) (hl:l.length<=100000) (h1:0<=a) (h2:a<=b) (h3:b<=n):0<=a/\a<=b/\b<=u.length/\u.length<=100000:=by
 have:=h.len;have:=h.n
 exact ⟨h1,h2,by omega,by omega⟩
theorem OkT.c2 {l u:List OV} {n:Nat} {d:OV} {a m b:Int} (h:OkT l n u) (hl:l.length<=100000) (h1:0<=a) (h2:a < m) (h3:m < b) (h4:b<=n) (s1:zS_ ltO d u a.toNat m.toNat) (s2:zS_ ltO d u m.toNat b.toNat):0<=a/\a < m/\m < b/\b<=u.length/\u.length<=100000/\zS_ ltO d u a.toNat m.toNat/\zS_ ltO d u m.toNat b.toNat:=by
 have:=h.len;have:=h.n
 exact ⟨h1,h2,h3,by omega,by omega,s1,s2⟩
theorem OkT.fin2 {l u:List OV} {n a b:Nat} (h:OkT l n u) (ha:a=0) (hb:b=n):stS ltO u a b=stS ltO l 0 n:=by rw [ha,hb];exact h.fin
theorem OkT.fin3 {l u:List OV} {n a b c e:Nat} (h:OkT l n u) (ha:a=0) (hb:b=n) (hc:c=n) (he:e=n):stS ltO (stS ltO u a b) c e=stS ltO l 0 n:=by
 rw [ha,hb,hc,he,(h.more (Nat.zero_le n) (Nat.le_refl n)).nil (Nat.le_refl n) (Nat.le_refl n) (by omega)];exact h.fin
def QA_:IR:=
(sq (kr [0,1,2] [oD 6 (.mov (cI 20))])
(sq (.reg [oM 10 6,
oD 7 (.mov (cI 0)),
oM 8 10])
(sq (.block 0
(.loop
(sq (sq (kr [0,1,2,6,7,8] [oM 11 8,
oM 12 1,
oB 13 .leq 11 12])
(.cond 13
.skip
(.exit 0)))
(.block 1
(sq (kr [0,1,2,6,7,8] [oM 14 0,
oM 15 7,
oM 16 8,
oM 17 2,
oD 18 (.call true (.f 71) [14,15,16,17])])
(sq (.reg [oM 19 8,
oM 7 19])
(kr [0,1,2,6,7,8] [oM 20 8,
oM 21 6,
oB 22 .add 20 21,
oM 8 22])))))))
(sq (kr [0,1,2,6,7] [oM 23 0,
oM 24 7,
oM 25 1,
oM 26 2,
oD 27 (.call true (.f 71) [23,24,25,26])])
(.block 2
(.loop
(sq (sq (kr [0,1,2,6] [oM 28 6,
oM 29 1,
oB 30 .lss 28 29])
(.cond 30
.skip
(.exit 2)))
(.block 3
(sq (.reg [oM 31 6,
oB 32 .mul (cI 2) 31,
oD 7 (.mov (cI 0)),
oM 8 32])
(sq (.block 4
(.loop
(sq (sq (kr [0,1,2,6,7,8] [oM 33 8,
oM 34 1,
oB 35 .leq 33 34])
(.cond 35
.skip
(.exit 4)))
(.block 5
(sq (kr [0,1,2,6,7,8] [oM 36 0,
oM 37 7,
oM 38 7,
oM 39 6,
oB 40 .add 38 39,
oM 41 8,
oM 42 2,
oD 43 (.call true (.f 72) [36,37,40,41,42])])
(sq (kr [0,1,2,6,8] [oM 44 8,
oM 7 44])
(kr [0,1,2,6,7,8] [oM 45 8,
oM 46 6,
oB 47 .mul (cI 2) 46,
oB 48 .add 45 47,
oM 8 48])))))))
(sq (sq (kr [0,1,2,6,7] [oM 49 7,
oM 50 6,
oB 51 .add 49 50,
oM 9 51])
(sq (.reg [oM 52 9,
oM 53 1,
oB 54 .lss 52 53])
(.cond 54
(kr [0,1,2,6,7,9] [oM 55 0,
oM 56 7,
oM 57 9,
oM 58 1,
oM 59 2,
oD 60 (.call true (.f 72) [55,56,57,58,59])])
.skip)))
(kr [0,1,2,6] [oM 61 6,
oB 62 .mul 61 (cI 2),
oM 6 62]))))))))))))
def Qu_:List RD:=[]
theorem Qw_:zl_ Try.prog Try.f54 QA_ Qu_=true:=by kernel_rfl
def z3_:List AV->List Obj->Option (Prop × AV × List Obj)
 | [.own 0,.int .i64 n,(.fn 35 [] [])],[.row false (.cons (.int .i64) (.cons (.int .i64) (.cons .bool (.cons (.int .u64) (.cons (.sl (.int .u8)) (.cons (.sl (.int .u8)) .nil)))))) l]=>some ((0<=n/\n<=120/\n<=l.length/\l.length<=100000,.tup [],[.row false Y1 (stS ltO (l:List OV) 0 n.toNat)]))
 | _,_=>none
theorem q3_:zf_ Try.prog 54 (RwF z3_).sum:=by
 refine kF_ Try.func54 Qw_ (zc_ (s:=RwF zB_) ZY_ (zc_ (s:=RwF zO_) qD_ (ze_ _))) fun args objs p v o e=>?_
 unfold z3_ at e
 split at e
 ·rename_i n l
  cases e
  refine ⟨rfl,fun hw ho hp=>?_⟩
  clear hw ho
  change List OV at l
  obtain ⟨h1,h2,h3,h4⟩:=hp
  obtain ⟨n,rfl⟩:=Int.eq_ofNat_of_zero_le h1
  simp only [Int.toNat_natCast]
  have h0:OkT l n l:=GJ_ (by omega)
  repeat'(first|(intro t ht;first|(cases t<;>first|(cases ht;done)|(try simp only[zh_]at ht;try(exfalso;first|contradiction|omega)))|((first|refine za_ ht ?_|refine ht ?_ ?_|refine ht.1 ?_ ?_|refine ht ?_)<;>clear ht))|(intro r h1 h2;refine h1 ⟨8,?_⟩;clear h1 h2))
  all_goals first
   | exact True.intro
   | omega
   | ((try dsimp only);simp only [zi_];omega)
   | (refine OkT.c1 (n:=n) ?_ h4 ?_ ?_ ?_<;>first | omega | ((repeat (first | refine OkT.more ?_ ?_ ?_ | exact h0))<;>omega))
   | (refine OkT.c2 (n:=n) ?_ h4 ?_ ?_ ?_ ?_ ?_ ?_
      ·((repeat (first | refine OkT.more ?_ ?_ ?_ | exact h0))<;>omega)
      ·omega
      ·omega
      ·omega
      ·omega
      ·((repeat (first | (refine OkT.srt2 (n:=n) (l:=l) ?_ ?_ ?_ ?_ ?_<;>first | omega | ((repeat (first | refine OkT.more ?_ ?_ ?_ | exact h0))<;>omega)) | (refine OkT.old (n:=n) (l:=l) ?_ ?_ ?_ ?_ ?_<;>first | omega | ((repeat (first | refine OkT.more ?_ ?_ ?_ | exact h0))<;>omega) | skip)))<;>first | exact zS_.none _ (by omega) | fail)
      ·((repeat (first | (refine OkT.srt2 (n:=n) (l:=l) ?_ ?_ ?_ ?_ ?_<;>first | omega | ((repeat (first | refine OkT.more ?_ ?_ ?_ | exact h0))<;>omega)) | (refine OkT.old (n:=n) (l:=l) ?_ ?_ ?_ ?_ ?_<;>first | omega | ((repeat (first | refine OkT.more ?_ ?_ ?_ | exact h0))<;>omega) | skip)))<;>first | exact zS_.none _ (by omega) | fail))
   | (have e:=OkT.fin2 (l:=l) (n:=n) (u:=l) h0 (a:=Int.toNat 0) rfl (b:=(n:Int).toNat) (by omega)
      rw [e];exact ⟨by first | exact True.intro | rfl,rfl⟩)
   | (refine ⟨by first | exact True.intro | rfl,congrArg (fun x=>[Obj.row false _ x]) (OkT.fin2 ?_ ?_ ?_)⟩<;>first | omega | ((repeat (first | refine OkT.more ?_ ?_ ?_ | exact h0))<;>omega))
   | (refine ⟨by first | exact True.intro | rfl,congrArg (fun x=>[Obj.row false _ x]) (OkT.fin3 ?_ ?_ ?_ ?_ ?_)⟩<;>first | omega | ((repeat (first | refine OkT.more ?_ ?_ ?_ | exact h0))<;>omega))
 ·cases e
def fwO (o:OV):Bool:=decide (o.2.2.2.2.1.length<=300) && decide (o.2.2.2.2.2.1.length<=300)
theorem BR_ {o:OV} (h:o.2.2.2.2.1.length<=300/\o.2.2.2.2.2.1.length<=300):fwO o=true:=by unfold fwO;simp [h.1,h.2]
theorem BS_ {o:OV} (h:¬ o.2.2.2.2.1.length<=300\/¬ o.2.2.2.2.2.1.length<=300):fwO o=false:=by unfold fwO;rcases h with h | h<;>simp [h]
def VD_ (l:List OV):Bool:=l.all fwO && decide (l.length<=60)
def smO (a b:OV):Bool:=WM_ a.1 a.2.1 a.2.2.1 a.2.2.2.1 a.2.2.2.2.1 a.2.2.2.2.2.1 b.1 b.2.1 b.2.2.1 b.2.2.2.1 b.2.2.2.2.1 b.2.2.2.2.2.1
theorem Bu_ {a b:OV} (h:smO a b=true):a=b:=by
 obtain ⟨a1,a2,a3,a4,a5,a6,_⟩:=a
 obtain ⟨b1,b2,b3,b4,b5,b6,_⟩:=b
 unfold smO WM_ at h
 simp only [Bool.and_eq_true,decide_eq_true_eq,beq_iff_eq] at h
 obtain ⟨⟨⟨⟨⟨h1,h2⟩,h3⟩,h4⟩,h5⟩,h6⟩:=h
 rw [h1,h2,h3,h4,h5,h6]
theorem Bv_ {a b:OV} (h:smO a b=false):¬ a=b:=fun e=>by
 rw [e] at h;unfold smO at h;rw [gc_] at h;cases h
structure okM (l:List OV):Prop where
 a:allLen l
 n:l.length<=100000
theorem hD_ {l:List OV} (h:VD_ l=true):okM l/\l.length<=60:=by
 unfold VD_ at h
 simp only [Bool.and_eq_true,decide_eq_true_eq] at h
 refine ⟨⟨⟨fun o ho=>?_⟩,by omega⟩,h.2⟩
 have:=List.all_eq_true.1 h.1 o ho
 unfold fwO at this
 simp only [Bool.and_eq_true,decide_eq_true_eq] at this
 exact ⟨by omega,by omega⟩
def uD_:IR:=
(sq (kr [0] [oD 2 (.mov cF)])
(sq (sq (.reg [oD 3 (.mov (cI 0))])
(.block 0
(.loop
(sq (sq (kr [0,3] [oM 4 3,
oM 5 0,
oE 6 5,
oB 7 .lss 4 6])
(.cond 7
.skip
(.exit 0)))
(sq (.block 1
(sq (kr [0,3] [oM 10 0,
oM 11 3,
oI 12 6 10 11,
oK 13 6 12,
oC 14 21 [13],
oD 15 (.un .not 14)])
(.cond 15
(sq (kr [] [oD 2 (.mov cF)])
.ret)
.skip)))
(kr [0,3] [oM 8 3,
oB 9 .add 8 (cI 1),
oM 3 9]))))))
(sq (kr [0] [oM 16 0,
oE 17 16,
oB 18 .leq 17 (cI 60),
oM 2 18])
.ret)))
def uf_:List RD:=[.tmp 2 true none]
theorem un_:zl_ Try.prog Try.f6 uD_ uf_=true:=by kernel_rfl
def Jl_:List AV->List Obj->Option (Prop × AV)
 | [.imm (.cons (.int .i64) (.cons (.int .i64) (.cons .bool (.cons (.int .u64) (.cons (.sl (.int .u8)) (.cons (.sl (.int .u8)) .nil)))))) l],[]=>some ((True,.bool (VD_ l)))
 | _,_=>none
theorem WK_:zf_ Try.prog 6 (RoF Jl_).sum:=by
 refine zo_ Try.func6 un_ (zc_ (s:=RoF WC_) vC_ (ze_ _)) fun args objs p v e=>?_
 unfold Jl_ at e
 split at e
 ·rename_i l
  cases e
  refine ⟨rfl,fun hw ho hp=>?_⟩
  change List OV at l
  have hl:l.length<=maxLen:=(hw (.imm Y1 l) (by simp)).2
  unfold maxLen at hl
  clear hw ho
  repeat'(intro t ht;first|(cases t<;>first|(cases ht;done)|(try simp only[zh_]at ht))|((first|refine za_ ht ?_|refine ht ?_ ?_|refine ht.1 ?_ ?_|refine ht ?_)<;>clear ht))
  all_goals first
   | (intro r h1 h2;clear h1;refine h2 ⟨[0,3],Nat,(fun i=>i<=l.length/\(l.take i).all fwO=true),fun i=>[.imm Y1 l,.int .i64 i],fun _=>[],fun i=>l.length - i,⟨0,⟨Nat.zero_le _,rfl⟩,rfl,rfl⟩,?_⟩;clear h2)
  rintro i ⟨hi,he⟩
  repeat'(intro t ht;first|(cases t<;>first|(cases ht;done)|(try simp only[zh_]at ht;try(exfalso;first|contradiction|omega)))|((first|refine za_ ht ?_|refine ht ?_ ?_|refine ht.1 ?_ ?_|refine ht ?_)<;>clear ht))
  all_goals (try generalize (Ty.dflt Y1)=od at*)
  all_goals first
   | ((try simp only [z0_,z1_,zi_] at*);omega)
   | (have h:=Ha_ (by omega) he
      refine ⟨?_,rfl⟩;unfold VD_;rw [h,Bool.true_and];congr 1;exact decide_eq_decide.2 (by omega))
   | exact True.intro
   | (have hf:=BR_ ht
      exact ⟨i+1,⟨by omega,gY_ (d:=od) (by omega) he hf⟩,by dsimp only;omega,rfl,rfl⟩)
   | (have hf:=BS_ ht
      have h:VD_ l=false:=by unfold VD_;rw [h9_ (d:=od) (show i < l.length by omega) hf,Bool.false_and]
      refine ⟨?_,rfl⟩;rw [h];done)
 ·cases e
def Vk_:IR:=
(sq (kr [0,1] [oD 4 (.mov cF)])
(sq (sq (kr [0,1] [oM 6 0,
oE 7 6,
oM 8 1,
oE 9 8,
oB 10 .neq 7 9])
(.cond 10
(sq (.reg [oD 4 (.mov cF)])
.ret)
.skip))
(sq (sq (kr [0,1] [oD 5 (.mov (cI 0))])
(.block 0
(.loop
(sq (sq (kr [0,1,5] [oM 11 5,
oM 12 0,
oE 13 12,
oB 14 .lss 11 13])
(.cond 14
.skip
(.exit 0)))
(sq (.block 1
(sq (kd [0,1,5] [(oM 17 0,[]),
(oM 18 5,[0]),
(oI 19 6 17 18,[]),
(oK 20 6 19,[]),
(oM 21 1,[0,0,0,0]),
(oM 22 5,[0,0,0,0,0]),
(oI 23 6 21 22,[2,0,0,0]),
(oK 24 6 23,[3,0,0,0]),
(oC 25 32 [20,24],[]),
(oD 26 (.un .not 25),[])])
(.cond 26
(sq (kr [] [oD 4 (.mov cF)])
.ret)
.skip)))
(kr [0,1,5] [oM 15 5,
oB 16 .add 15 (cI 1),
oM 5 16]))))))
(sq (kr [] [oD 4 (.mov cT)])
.ret))))
def vJ_:List RD:=[.tmp 4 true none]
theorem vW_:zl_ Try.prog Try.f15 Vk_ vJ_=true:=by kernel_rfl
def Kb_:List AV->List Obj->Option (Prop × AV)
 | [.imm (.cons (.int .i64) (.cons (.int .i64) (.cons .bool (.cons (.int .u64) (.cons (.sl (.int .u8)) (.cons (.sl (.int .u8)) .nil)))))) a,.imm (.cons (.int .i64) (.cons (.int .i64) (.cons .bool (.cons (.int .u64) (.cons (.sl (.int .u8)) (.cons (.sl (.int .u8)) .nil)))))) b],[]=>some ((True,.bool (decide ((a:List OV)=b))))
 | _,_=>none
theorem K5_:zf_ Try.prog 15 (RoF Kb_).sum:=by
 refine zo_ Try.func15 vW_ (zc_ (s:=RoF J0_) YD_ (ze_ _)) fun args objs p v e=>?_
 unfold Kb_ at e
 split at e
 ·rename_i a b
  cases e
  refine ⟨rfl,fun hw ho hp=>?_⟩
  change List OV at a
  change List OV at b
  have hl:a.length<=maxLen:=(hw (.imm Y1 a) (by simp)).2
  unfold maxLen at hl
  clear hw ho
  repeat'(intro t ht;first|(cases t<;>first|(cases ht;done)|(try simp only[zh_]at ht))|((first|refine za_ ht ?_|refine ht ?_ ?_|refine ht.1 ?_ ?_|refine ht ?_)<;>clear ht))
  all_goals first
   | (have hne:a ≠ b:=fun h=>(by assumption:¬ (a.length:Int)=b.length) (by rw [h])
      refine ⟨?_,rfl⟩;rw [decide_eq_false hne];done)
   | (intro r h1 h2;clear h1;refine h2 ⟨[0,1,5],Nat,(fun i=>i<=a.length/\a.take i=b.take i),fun i=>[.imm Y1 a,.imm Y1 b,.int .i64 i],fun _=>[],fun i=>a.length - i,⟨0,⟨Nat.zero_le _,rfl⟩,rfl,rfl⟩,?_⟩;clear h2)
  rintro i ⟨hi,he⟩
  have hl2:a.length=b.length:=by omega
  repeat'(intro t ht;first|(cases t<;>first|(cases ht;done)|(try simp only[zh_]at ht;try(exfalso;first|contradiction|omega)))|((first|refine za_ ht ?_|refine ht ?_ ?_|refine ht.1 ?_ ?_|refine ht ?_)<;>clear ht))
  all_goals (try generalize (Ty.dflt Y1)=od at*)
  all_goals first
   | exact True.intro
   | ((try simp only [z0_,z1_,zi_] at*);omega)
   | (have e:=Gb_ he (by omega) hl2
      refine ⟨?_,rfl⟩;rw [decide_eq_true e];done)
   | (have hs:smO (a.getD i od) (b.getD i od)=false:=by assumption
      have hne:a ≠ b:=bT_ (d:=od) (i:=i) (Bv_ hs)
      refine ⟨?_,rfl⟩;rw [decide_eq_false hne];done)
   | (have hs:smO (a.getD i od) (b.getD i od)=true:=by assumption
      exact ⟨i+1,⟨by omega,V2_ he (by omega) hl2 (d:=od) (Bu_ hs)⟩,by (try simp only [z0_,z1_,zi_] at*);omega,rfl,rfl⟩)
 ·cases e
theorem tkS {α:Type} {l:List α} {i:Nat} {d:α} (h:i < l.length):l.take (i+1)=l.take i++[l.getD i d]:=by
 rw [List.take_succ_eq_append_getElem h,List.getD_eq_getElem?_getD,List.getElem?_eq_getElem h];rfl
def xp_ (x:Int):List Int->List Int
 | []=>[x]
 | y :: r=>if x=y then y :: r else if x < y then x :: y :: r else y :: xp_ x r
def poF (l:List Int):List Int:=l.foldl (fun o x=>xp_ x o) []
theorem Xw_ (x z:Int):∀ o:List Int,z ∈ xp_ x o ↔ z=x\/z ∈ o
 | []=>by simp [xp_]
 | y :: r=>by
   unfold xp_
   split
   ·rename_i h;subst h;simp
   ·split
    ·simp
    ·rw [List.mem_cons,Xw_ x z r,List.mem_cons]
     constructor
     ·rintro (h | h | h)<;>simp [h]
     ·rintro (h | h | h)<;>simp [h]
def Sst (o:List Int):Prop:=o.Pairwise (· < ·)
theorem Vu_ (x:Int):∀ o:List Int,Sst o->Sst (xp_ x o)
 | [],_=>List.pairwise_singleton ..
 | y :: r,h=>by
   have h':=List.pairwise_cons.1 h
   unfold xp_
   split
   ·exact h
   ·rename_i h1
    split
    ·rename_i h2
     refine List.pairwise_cons.2 ⟨fun z hz=>?_,h⟩
     rcases List.mem_cons.1 hz with rfl | hz
     ·exact h2
     ·have:=h'.1 z hz;omega
    ·rename_i h2
     refine List.pairwise_cons.2 ⟨fun z hz=>?_,Vu_ x r h'.2⟩
     rcases (Xw_ x z r).1 hz with rfl | hz
     ·omega
     ·exact h'.1 z hz
theorem YR_:∀ (l o:List Int),Sst o->Sst (l.foldl (fun o x=>xp_ x o) o)/\∀ z,z ∈ l.foldl (fun o x=>xp_ x o) o ↔ z ∈ o\/z ∈ l
 | [],o,h=>⟨h,fun z=>by simp⟩
 | x :: l,o,h=>by
   obtain ⟨i1,i2⟩:=YR_ l (xp_ x o) (Vu_ x o h)
   refine ⟨i1,fun z=>?_⟩
   show z ∈ l.foldl (fun o x=>xp_ x o) (xp_ x o) ↔ _
   rw [i2 z,Xw_,List.mem_cons]
   constructor
   ·rintro ((h | h) | h)<;>simp [h]
   ·rintro (h | h | h)<;>simp [h]
theorem YQ_ (l:List Int):Sst (poF l):=(YR_ l [] List.Pairwise.nil).1
theorem Ur_ (l:List Int) (z:Int):z ∈ poF l ↔ z ∈ l:=by
 have:=(YR_ l [] List.Pairwise.nil).2 z
 unfold poF;rw [this];simp
theorem wX_ {o:List Int} (h:Sst o):o.Nodup:=List.Pairwise.imp (fun h=>by omega) h
theorem bW_ {a b:List Int} (ha:Sst a) (hb:Sst b) (h:∀ z,z ∈ a ↔ z ∈ b):a=b:=by
 have p:a.Perm b:=(List.perm_ext_iff_of_nodup (wX_ ha) (wX_ hb)).2 h
 exact GA_ (List.Pairwise.imp (fun h=>Int.le_of_lt h) ha) (List.Pairwise.imp (fun h=>Int.le_of_lt h) hb) p
theorem bX_ {l k:List Int} (hn:l.Nodup) (h:∀ z,z ∈ l ↔ z ∈ k):srt l 0 l.length=poF k:=by
 have e:srt l 0 l.length=l.mergeSort leI:=by
  unfold srt midR
  rw [List.take_zero,List.nil_append,List.drop_zero,List.take_length,List.drop_length,List.append_nil]
 rw [e]
 have p1:(l.mergeSort leI).Perm l:=List.mergeSort_perm l leI
 have p2:l.Perm (poF k):=(List.perm_ext_iff_of_nodup hn (wX_ (YQ_ k))).2 fun z=>by rw [Ur_,h z]
 exact GA_ (uz_ l) (List.Pairwise.imp (fun h=>Int.le_of_lt h) (YQ_ k)) (p1.trans p2)
theorem bC_:∀ (m:List (Int × Int)) (k v:Int),(Wf_ m k v).map Prod.fst=if k ∈ m.map Prod.fst then m.map Prod.fst else m.map Prod.fst++[k]
 | [],k,v=>rfl
 | (a,b) :: r,k,v=>by
   unfold Wf_
   by_cases c:a=k
   ·subst c
    rw [if_pos rfl,if_pos (by simp)];rfl
   ·rw [if_neg c,List.map_cons,bC_ r k v,List.map_cons]
    by_cases h:k ∈ r.map Prod.fst
    ·rw [if_pos h,if_pos (List.mem_cons_of_mem _ h)]
    ·rw [if_neg h,if_neg (fun d=>(List.mem_cons.1 d).elim (fun e=>c e.symm) h)];rfl
theorem Xi_:∀ (m:List (Int × Int)) (k v z:Int),zE_ (Wf_ m k v) z=if k=z then some v else zE_ m z
 | [],k,v,z=>by unfold Wf_ zE_;rfl
 | (a,b) :: r,k,v,z=>by
   unfold Wf_
   by_cases c:a=k
   ·subst c
    rw [if_pos rfl];unfold zE_
    by_cases h:a=z
    ·rw [if_pos h,if_pos h]
    ·rw [if_neg h,if_neg h,if_neg h]
   ·rw [if_neg c];unfold zE_
    rw [Xi_ r k v z]
    by_cases h:a=z
    ·rw [if_pos h,if_pos h,if_neg (fun d=>c (h.trans d.symm))]
    ·rw [if_neg h,if_neg h]
structure kOk (m:List (Int × Int)) (ks:List Int):Prop where
 nd:(m.map Prod.fst).Nodup
 mem:∀ z,z ∈ m.map Prod.fst ↔ z ∈ ks
 r:∀ z,0<=(zE_ m z).getD 0/\(zE_ m z).getD 0<=ks.length
 l:m.length<=ks.length
def XY_ (o:List Int) (x:Int):Bool:=o.any fun y=>decide (y=x)
theorem h6_ (o:List Int) (x:Int):XY_ o x=true ↔ x ∈ o:=by
 unfold XY_
 rw [List.any_eq_true]
 constructor
 ·rintro ⟨y,h1,h2⟩;rw [<- of_decide_eq_true h2];exact h1
 ·intro h;exact ⟨x,h,decide_eq_true rfl⟩
def ZQ_:IR:=
(kr [0,1] [oM 4 0,
oM 5 0,
oE 6 5,
oM 7 1,
oD 8 (.call true (.f 54) [4,6,7])])
def ZN_:List RD:=[]
theorem ZO_:zl_ Try.prog Try.f34 ZQ_ ZN_=true:=by kernel_rfl
def zt_:List AV->List Obj->Option (Prop × AV × List Obj)
 | [.own 0,(.fn 35 [] [])],[.row false (.cons (.int .i64) (.cons (.int .i64) (.cons .bool (.cons (.int .u64) (.cons (.sl (.int .u8)) (.cons (.sl (.int .u8)) .nil)))))) l]=>some ((l.length<=120,.tup [],[.row false Y1 (isG ltO (l:List OV))]))
 | _,_=>none
theorem ZH_:zf_ Try.prog 34 (RwF zt_).sum:=by
 refine kF_ Try.func34 ZO_ (zc_ (s:=RwF z3_) q3_ (ze_ _)) fun args objs p v o e=>?_
 unfold zt_ at e
 split at e
 ·rename_i l
  cases e
  refine ⟨rfl,fun hw ho hp=>?_⟩
  clear hw ho
  change List OV at l
  have e:=Hw_ (lt:=ltO) l
  repeat'(intro t ht;first|(cases t<;>first|(cases ht;done)|(try simp only[zh_]at ht;try(exfalso;first|contradiction|omega)))|((first|refine za_ ht ?_|refine ht ?_ ?_|refine ht.1 ?_ ?_|refine ht ?_)<;>clear ht))
  all_goals first
   | exact True.intro
   | (refine ⟨?_,?_,?_,?_⟩<;>omega)
   | (simp only [Int.toNat_natCast,e];exact ⟨by first | exact True.intro | rfl,by first | exact True.intro | rfl⟩)
 ·cases e
def vf_:IR:=
(sq (kr [0] [oD 2 (.mov (.c (.imm Y1 [])))])
(sq (.reg [oM 6 0,
oE 7 6,
oD 8 (.mkrow Y1 80 ((0:Int),((0:Int),(false,((0:Int),(([]:List (Ty.den (.int .u8))),(([]:List (Ty.den (.int .u8))),())))))) (cI 0) 7),
oM 3 8])
(sq (sq (.reg [oM 9 0,
oE 10 9,
oD 11 (.mov (cI 0))])
(.block 0
(.loop
(sq (kr [3,9,10,11] [oB 12 .lss 11 10])
(sq (.cond 12
.skip
(.exit 0))
(sq (.block 1
(sq (.reg [oI 13 6 9 11,
oK 14 6 13,
oD 5 (.box [.int .i64 0,.int .i64 0,.kb false,.int .u64 0,.imm (.int .u8) [],.imm (.int .u8) []]),
oS 6 5 14])
(kr [3,5,9,10,11] [oM 15 3,
oK 16 6 5,
oC 17 33 [16],
oD 18 (.sliceAll Y1 1 [(0,6,17)]),
oD 19 (.append Y1 80 15 18),
oM 3 19])))
(kr [3,9,10,11] [oB 20 .add 11 (cI 1),
oM 11 20])))))))
(sq (kr [3] [oM 21 3,
oD 22 (.call true (.f 34) [21,.f 35])])
(sq (.reg [oM 23 3,
oM 2 23])
.ret)))))
def YO_:List RD:=[.tmp 2 true (some Y1)]
theorem YZ_:zl_ Try.prog Try.f16 vf_ YO_=true:=by kernel_rfl
def kp_:List AV->List Obj->Option (Prop × AV)
 | [.imm (.cons (.int .i64) (.cons (.int .i64) (.cons .bool (.cons (.int .u64) (.cons (.sl (.int .u8)) (.cons (.sl (.int .u8)) .nil)))))) l],[]=>some ((l.length<=120/\allLen l,.imm Y1 (isG ltO (l:List OV))))
 | _,_=>none
theorem KA_:zf_ Try.prog 16 (RoF kp_).sum:=by
 refine zo_ Try.func16 YZ_ (zc_ (s:=RwF J1_) YE_ (zc_ (s:=RwF zt_) ZH_ (zc_ (s:=RoF qz_) kt_ (ze_ _)))) fun args objs p v e=>?_
 unfold kp_ at e
 split at e
 ·rename_i l
  cases e
  refine ⟨rfl,fun hw ho hp=>?_⟩
  change List OV at l
  clear hw ho
  obtain ⟨hn,ha⟩:=hp
  repeat'(intro t ht;first|(cases t<;>first|(cases ht;done)|(try simp only[zh_]at ht))|((first|refine za_ ht ?_|refine ht ?_ ?_|refine ht.1 ?_ ?_|refine ht ?_)<;>clear ht))
  all_goals first
   | exact True.intro
   | ((try simp only [z0_,z1_,zi_] at*);omega)
   | (intro r h1 h2;clear h1;refine h2 ⟨[3,9,10,11],Nat,(fun i=>i<=l.length),fun i=>[.own 0,.imm Y1 l,.int .i64 l.length,.int .i64 i],fun i=>[.row false Y1 (l.take i)],fun i=>l.length - i,⟨0,Nat.zero_le _,rfl,rfl⟩,?_⟩;clear h2)
  rintro i hi
  have e1:∀ o:OV,(o.2.2.2.2.1++o.2.2.2.2.2.1).take o.2.2.2.2.1.length=o.2.2.2.2.1:=fun o=>List.take_left
  have e2:∀ o:OV,(o.2.2.2.2.1++o.2.2.2.2.2.1).drop o.2.2.2.2.1.length=o.2.2.2.2.2.1:=fun o=>List.drop_left
  have e3:∀ l:List Int,l.take l.length=l:=fun l=>List.take_length
  have ec:∀ o:OV,((o.1,o.2.1,o.2.2.1,o.2.2.2.1,List.take o.2.2.2.2.1.length (List.drop 0 (o.2.2.2.2.1++o.2.2.2.2.2.1)),List.take o.2.2.2.2.2.1.length (List.drop o.2.2.2.2.1.length (o.2.2.2.2.1++o.2.2.2.2.2.1)),()):OV)=o:=fun o=>by rw [List.drop_zero,List.take_left,List.drop_left,List.take_length]
  repeat'(intro t ht;first|(cases t<;>first|(cases ht;done)|(try simp only[zh_]at ht;try(exfalso;first|contradiction|omega)))|((first|refine za_ ht ?_|refine ht ?_ ?_|refine ht.1 ?_ ?_|refine ht ?_)<;>clear ht))
  all_goals (try simp only [Int.toNat_natCast] at*)
  all_goals (try generalize (Ty.dflt Y1)=od at*)
  all_goals first
   | exact True.intro
   | ((try simp only [z0_,z1_,zi_] at*);omega)
   | (have ht:l.take i=l:=List.take_of_length_le (by omega)
      rw [ht];first | exact (show l.length<=120 by omega) | exact ⟨rfl,by first | rfl | exact True.intro⟩)
   | (have hlt:i < l.length:=by omega
      have hln:=ha.h _ (ZM_ hlt od)
      have htk:(l.take i).length=i:=k4_ hi
      first
       | exact ⟨hln.1,hln.2⟩
       | (simp only [List.length_append,List.length_cons,List.length_nil];constructor<;>omega)
       | (simp only [List.length_append];omega)
       | exact ⟨i+1,by omega,by (try dsimp only);omega,rfl,(congrArg (fun x=>[Obj.row false Y1 (l.take i++[x])]) (ec (l.getD i od))).trans (congrArg (fun x=>[Obj.row false Y1 x]) (tkS (d:=od) hlt).symm)⟩)
 ·cases e
def yu_:IR:=
(sq (kr [0,1] [oD 2 (.boxv 0),
oD 3 (.boxv 1),
oD 4 (.mov cF)])
(sq (sq (kr [2,3] [oA 5 0 2,
oL 6 5,
oA 7 0 3,
oL 8 7,
oB 9 .neq 6 8])
(.cond 9
(sq (kr [2,3] [oA 10 0 2,
oL 11 10,
oA 12 0 3,
oL 13 12,
oB 14 .lss 11 13,
oM 4 14])
.ret)
.skip))
(sq (sq (kr [2,3] [oA 15 1 2,
oL 16 15,
oA 17 1 3,
oL 18 17,
oB 19 .neq 16 18])
(.cond 19
(sq (kr [2,3] [oA 20 1 2,
oL 21 20,
oA 22 1 3,
oL 23 22,
oB 24 .lss 21 23,
oM 4 24])
.ret)
.skip))
(sq (kr [2,3] [oA 25 3 2,
oL 26 25,
oA 27 3 3,
oL 28 27,
oB 29 .lss 26 28,
oM 4 29])
.ret))))
def yb_:List RD:=[.tmp 4 true none]
theorem yk_:zl_ Try.prog Try.f39 yu_ yb_=true:=by kernel_rfl
def jw_:List AV->List Obj->Option (Prop × AV)
 | [.agg [.int .i64 c,.int .i64 f,.bool h,.int .u64 x,.imm (.int .u8) v,.imm (.int .u8) m],.agg [.int .i64 c',.int .i64 f',.bool h',.int .u64 x',.imm (.int .u8) v',.imm (.int .u8) m']],[]=>some ((True,.bool (ltO (c,f,h,x,v,m,()) (c',f',h',x',v',m',()))))
 | _,_=>none
theorem xM_:zf_ Try.prog 39 (RoF jw_).sum:=by
 refine zo_ Try.func39 yk_ (ze_ _) fun args objs p v e=>?_
 unfold jw_ at e
 split at e
 ·rename_i c f h x v m c' f' h' x' v' m'
  cases e
  refine ⟨rfl,fun hw ho hp=>?_⟩
  change List Int at v
  change List Int at m
  change List Int at v'
  change List Int at m'
  clear hw ho
  unfold ltO
  repeat'(intro t ht;first|(cases t<;>first|(cases ht;done)|(try simp only[zh_]at ht;try(exfalso;first|contradiction|omega)))|((first|refine za_ ht ?_|refine ht ?_ ?_|refine ht.1 ?_ ?_|refine ht ?_)<;>clear ht))
  all_goals first
   | exact True.intro
   | (refine ⟨congrArg AV.bool ?_,by first | exact True.intro | rfl⟩;simp only [];simp [*];done)
   | (refine ⟨congrArg AV.bool ?_,by first | exact True.intro | rfl⟩;(rw [Bool.eq_iff_iff];simp only [decide_eq_true_eq,Bool.or_eq_true,Bool.and_eq_true];omega))
 ·cases e
theorem hk_ (l:List OV) (x:OV):isG ltO (l++[x])=ky_ ltO x (isG ltO l):=by unfold isG;rw [List.foldl_append];rfl
theorem UG_ (x d:OV):∀ (o:List OV) (at':Nat),o.Pairwise (fun x y=>ltO y x=false)->at'<=o.length->(∀ k,at'<=k->k < o.length->ltO x (o.getD k d)=true)->(at'=0\/ltO x (o.getD (at' - 1) d)=false)->o.take at'++[x]++o.drop at'=ky_ ltO x o
 | [],at',_,h,_,_=>by
   have:at'=0:=by rw [List.length_nil] at h;omega
   subst this;rfl
 | y :: r,0,_,_,h2,_=>by
   have:=h2 0 (Nat.le_refl _) (by rw [List.length_cons];omega)
   have h:ltO x y=true:=this
   unfold ky_;rw [if_pos h];rfl
 | y :: r,n+1,hp,h1,h2,h3=>by
   have hp':=List.pairwise_cons.1 hp
   rw [List.length_cons] at h1
   have hx:ltO x ((y :: r).getD n d)=false:=by rcases h3 with h | h;omega;exact h
   have hy:ltO x y=false:=by
    cases n with
    | zero=>exact hx
    | succ n=>
      have hm:r.getD n d ∈ r:=ZM_ (by omega) d
      exact zj_.neg _ _ _ hx (hp'.1 _ hm)
   unfold ky_
   rw [if_neg (by rw [hy];decide),<- UG_ x d r n hp'.2 (by omega) (fun k k1 k2=>h2 (k+1) (by omega) (by rw [List.length_cons];omega)) (by
    cases n with
    | zero=>exact .inl rfl
    | succ n=>exact .inr hx)]
   rfl
theorem hn_ {x d:OV} {o:List OV} {a:Nat} (h1:o.Pairwise (fun x y=>ltO y x=false)) (h2:a<=o.length) (h3:∀ k,a<=k->k < o.length->ltO x (o.getD k d)=true) (h4:a=0\/ltO x (o.getD (a - 1) d)=false):[]++List.take a (List.drop (Int.toNat 0) o)++[x]++List.take ((o.length:Int) - (a:Int)).toNat (List.drop a o)=ky_ ltO x o:=by
 rw [<- UG_ x d o a h1 h2 h3 h4,List.take_of_length_le (l:=o.drop a) (by rw [List.length_drop];omega)];rfl
def Vj_:IR:=
(sq (kr [0] [oD 2 (.nilrow Y1)])
(sq (.reg [oD 3 (.nilrow Y1)])
(sq (sq (.reg [oD 4 (.mov (cI 0))])
(.block 0
(.loop
(sq (sq (kr [0,3,4] [oM 7 4,
oM 8 0,
oE 9 8,
oB 10 .lss 7 9])
(.cond 10
.skip
(.exit 0)))
(sq (.block 1
(sq (.reg [oM 13 3,
oE 14 13,
oM 5 14])
(sq (.block 2
(.loop
(sq (sq (kd [0,3,4,5] [(oM 15 5,[]),
(oB 16 .gtr 15 (cI 0),[]),
(oM 17 16,[]),
(oT 17 18 (.mov 0),[]),
(oT 17 19 (.mov 4),[0]),
(oT 17 20 (.indexSl 6 18 19),[]),
(oT 17 21 (.load (some 6) 20),[]),
(oT 17 22 (.mov 3),[0,0,0,0]),
(oT 17 23 (.mov 5),[0,0,0,0,0]),
(oT 17 24 (.bin .sub 23 (cI 1)),[1,0,0,0,0]),
(oT 17 25 (.indexSl 6 22 24),[3,0,0,0]),
(oT 17 26 (.load (some 6) 25),[4,0,0,0]),
(oT 17 27 (.call false (.f 39) [21,26]),[]),
(oP 28 17 27 cF,[])])
(.cond 28
.skip
(.exit 2)))
(.block 3
(kr [0,3,4,5] [oM 29 5,
oB 30 .sub 29 (cI 1),
oM 5 30])))))
(sq (kr [0,3,4,5] [oD 31 (.slice0 Y1),
oM 32 3,
oM 33 5,
oD 34 (.slice 6 32 none (some 33) none),
oD 35 (.append Y1 80 31 34),
oM 6 35])
(sq (kr [0,3,4,5,6] [oM 36 6,
oM 37 0,
oM 38 4,
oI 39 6 37 38,
oK 40 6 39,
oD 41 (.sliceAll Y1 1 [(0,6,40)]),
oD 42 (.append Y1 80 36 41),
oM 6 42])
(kr [0,3,4,5,6] [oM 43 6,
oM 44 3,
oM 45 5,
oD 46 (.slice 6 44 (some 45) none none),
oD 47 (.append Y1 80 43 46),
oM 3 47]))))))
(kr [0,3,4] [oM 11 4,
oB 12 .add 11 (cI 1),
oM 4 12]))))))
(sq (kr [3] [oM 48 3,
oM 2 48])
.ret))))
def vI_:List RD:=[.tmp 2 true (some Y1)]
theorem vV_:zl_ Try.prog Try.f17 Vj_ vI_=true:=by kernel_rfl
def JZ_:List AV->List Obj->Option (Prop × AV)
 | [.imm (.cons (.int .i64) (.cons (.int .i64) (.cons .bool (.cons (.int .u64) (.cons (.sl (.int .u8)) (.cons (.sl (.int .u8)) .nil)))))) l],[]=>some ((l.length<=100000,.imm Y1 (isG ltO (l:List OV))))
 | _,_=>none
theorem YC_:zf_ Try.prog 17 (RoF JZ_).sum:=by
 refine zo_ Try.func17 vV_ (zc_ (s:=RoF jw_) xM_ (ze_ _)) fun args objs p v e=>?_
 unfold JZ_ at e
 split at e
 ·rename_i l
  cases e
  refine ⟨rfl,fun hw ho hp=>?_⟩
  change List OV at l
  clear hw ho
  repeat'(intro t ht;first|(cases t<;>first|(cases ht;done)|(try simp only[zh_]at ht;try(exfalso;first|contradiction|omega)))|((first|refine za_ ht ?_|refine ht ?_ ?_|refine ht.1 ?_ ?_|refine ht ?_)<;>clear ht))
  all_goals first
   | exact True.intro
   | (intro r h1 h2;clear h1;refine h2 ⟨[0,3,4],Nat,(fun i=>i<=l.length),fun i=>[.imm Y1 l,.own 0,.int .i64 i],fun i=>[.row false Y1 (isG ltO (l.take i))],fun i=>l.length - i,⟨0,Nat.zero_le _,rfl,rfl⟩,?_⟩;clear h2)
  rintro i hi
  have hP:=Xq_ zj_ (l.take i)
  have hL:=wB_ zj_ (l.take i)
  have hS:i < l.length->isG ltO (l.take (i+1))=ky_ ltO (l.getD i (Ty.dflt Y1)) (isG ltO (l.take i)):=fun h=>by rw [tkS (d:=(Ty.dflt Y1)) h,hk_]
  have hE:¬ i < l.length->l.take i=l:=fun h=>List.take_of_length_le (by omega)
  rw [List.length_take] at hL
  repeat'(intro t ht;first|(cases t<;>first|(cases ht;done)|(try simp only[zh_]at ht;try(exfalso;first|contradiction|omega)))|((first|refine za_ ht ?_|refine ht ?_ ?_|refine ht.1 ?_ ?_|refine ht ?_)<;>clear ht))
  all_goals first
   | exact True.intro
   | omega
   | ((try dsimp only);simp only [zi_];omega)
   | (rw [hE (by omega)];exact ⟨rfl,rfl⟩)
   | (intro r h1 h2;clear h1;refine h2 ⟨[0,3,4,5],Nat,(fun a=>a<=(isG ltO (l.take i)).length/\∀ k,a<=k->k < (isG ltO (l.take i)).length->ltO (l.getD i (Ty.dflt Y1)) ((isG ltO (l.take i)).getD k (Ty.dflt Y1))=true),fun a=>[.imm Y1 l,.own 0,.int .i64 i,.int .i64 a],fun _=>[.row false Y1 (isG ltO (l.take i))],fun a=>a,⟨(isG ltO (l.take i)).length,⟨Nat.le_refl _,fun k h1 h2=>by omega⟩,rfl,rfl⟩,?_⟩;clear h2)
  rintro a ⟨ha,hk⟩
  have hil:i < l.length:=by omega
  have hS':=hS hil
  clear hS hE
  generalize isG ltO (l.take i)=o at*
  have e1:((a:Int) - 1).toNat=a - 1:=by omega
  have hR:=fun h4=>hn_ (x:=l.getD i (Ty.dflt Y1)) (d:=(Ty.dflt Y1)) hP ha hk h4
  repeat'(intro t ht;first|(cases t<;>first|(cases ht;done)|(try simp only[zh_]at ht;try(exfalso;first|contradiction|omega)))|((first|refine za_ ht ?_|refine ht ?_ ?_|refine ht.1 ?_ ?_|refine ht ?_)<;>clear ht))
  all_goals (try simp only [Int.toNat_natCast,Int.sub_zero,e1] at ht ⊢)
  all_goals first
   | exact True.intro
   | omega
   | ((try dsimp only);simp only [zi_];omega)
   | (constructor<;>omega)
   | (simp only [List.length_append,List.length_take,List.length_drop,List.length_cons,List.length_nil];constructor<;>omega)
   | (have hx:ltO (l.getD i (Ty.dflt Y1)) (o.getD (a - 1) (Ty.dflt Y1))=true:=ht
      refine ⟨a - 1,⟨?_,fun k k1 k2=>?_⟩,?_,?_,by first | rfl | exact True.intro⟩
      ·omega
      ·by_cases e:k=a - 1
       ·rw [e];exact hx
       ·exact hk k (by omega) k2
      ·(try dsimp only);omega
      ·(try dsimp only)
       rw [show ((a - 1:Nat):Int)=(a:Int) - 1 by omega];try rfl)
   | (have hx:ltO (l.getD i (Ty.dflt Y1)) (o.getD (a - 1) (Ty.dflt Y1))=false:=ht
      have e9:=hR (.inr hx)
      refine ⟨i+1,?_,?_,rfl,?_⟩
      ·(try dsimp only);omega
      ·(try dsimp only);omega
      ·(try dsimp only)
       rw [hS',<- e9])
   | (have e9:=hR (.inl (by omega))
      refine ⟨i+1,?_,?_,rfl,?_⟩
      ·(try dsimp only);omega
      ·(try dsimp only);omega
      ·(try dsimp only)
       rw [hS',<- e9])
 ·cases e
end Go.Eng
