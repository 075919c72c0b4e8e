/- Parts of the proof: G1, S5, S6, S7, SB, S4, SC, F6, F7, F8, F9, G2, G3, G4, G5, N2, N3. No condition. -/
import Derived.Test.YtjajlkddpekdjaaDoorProg
import Derived.Test.YtjajlkddpekdjaaDoorXC10
import Derived.KernelRfl
import Derived.Test.YtjajlkddpekdjaaDoorXC13
import Derived.Test.YtjajlkddpekdjaaDoorXC12
namespace Go.Eng
open Go.Proofs
set_option linter.unusedVariables false
set_option linter.unusedSimpArgs false
set_option maxRecDepth 100000
set_option maxHeartbeats 1000000
def ZL_:IR:=
(kr [0,1] [oM 4 0,
oM 5 0,
oE 6 5,
oM 7 1,
oD 8 (.call true (.f 60) [4,6,7])])
def ZF_:List RD:=[]
theorem ZI_:zm_ Tryd.prog Tryd.f44 ZL_ ZF_=true:=by kernel_rfl
def zx_:List AV->List Obj->Option (Prop × AV × List Obj)
 | [.own 0,(.fn 45 [] [])],[.row false (.cons (.int .i64) (.cons (.int .i64) (.cons .bool (.cons (.int .u64) (.cons (.sl (.int .u8)) (.cons (.sl (.int .u8)) .nil)))))) l]=>some ((l.length<=120,.tup [],[.row false Y1 (isG ltO (l:List OV))]))
 | _,_=>none
theorem ZB_:zf_ Tryd.prog 44 (RwF zx_).sum:=by
 refine Wp_ Tryd.func44 ZI_ (zb_ (s:=RwF zV_) qX_ (ze_ _)) fun args objs p v o e=>?_
 unfold zx_ at e
 split at e
 ·rename_i l
  cases e
  refine ⟨rfl,fun hw ho hp=>?_⟩
  clear hw ho
  change List OV at l
  have e:=Hk_ (lt:=ltO) l
  repeat'(intro t ht;first|(cases t<;>first|(cases ht;done)|(try simp only[zg_]at ht;try(exfalso;first|contradiction|omega)))|((first|refine za_ ht ?_|refine ht ?_ ?_|refine ht.1 ?_ ?_|refine ht ?_)<;>clear ht))
  all_goals first
   | exact True.intro
   | (refine ⟨?_,?_,?_,?_⟩<;>omega)
   | (simp only [Int.toNat_natCast,e];exact ⟨by first | exact True.intro | rfl,by first | exact True.intro | rfl⟩)
 ·cases e
def vL_:IR:=
(sq (kr [0] [oD 2 (.mov (.c (.imm Y1 [])))])
(sq (.reg [oM 6 0,
oE 7 6,
oD 8 (.mkrow Y1 80 ((0:Int),((0:Int),(false,((0:Int),(([]:List (Ty.den (.int .u8))),(([]:List (Ty.den (.int .u8))),())))))) (cI 0) 7),
oM 3 8])
(sq (sq (.reg [oM 9 0,
oE 10 9,
oD 11 (.mov (cI 0))])
(.block 0
(.loop
(sq (kr [3,9,10,11] [oB 12 .lss 11 10])
(sq (.cond 12
.skip
(.exit 0))
(sq (.block 1
(sq (.reg [oI 13 6 9 11,
oK 14 6 13,
oD 5 (.box [.int .i64 0,.int .i64 0,.kb false,.int .u64 0,.imm (.int .u8) [],.imm (.int .u8) []]),
oS 6 5 14])
(kr [3,5,9,10,11] [oM 15 3,
oK 16 6 5,
oC 17 26 [16],
oD 18 (.sliceAll Y1 1 [(0,6,17)]),
oD 19 (.append Y1 80 15 18),
oM 3 19])))
(kr [3,9,10,11] [oB 20 .add 11 (cI 1),
oM 11 20])))))))
(sq (kr [3] [oM 21 3,
oD 22 (.call true (.f 44) [21,.f 45])])
(sq (.reg [oM 23 3,
oM 2 23])
.ret)))))
def vk_:List RD:=[.tmp 2 true (some Y1)]
theorem vu_:zm_ Tryd.prog Tryd.f27 vL_ vk_=true:=by kernel_rfl
def jG_:List AV->List Obj->Option (Prop × AV)
 | [.imm (.cons (.int .i64) (.cons (.int .i64) (.cons .bool (.cons (.int .u64) (.cons (.sl (.int .u8)) (.cons (.sl (.int .u8)) .nil)))))) l],[]=>some ((l.length<=120/\allLen l,.imm Y1 (isG ltO (l:List OV))))
 | _,_=>none
theorem yj_:zf_ Tryd.prog 27 (RoF jG_).sum:=by
 refine zi_ Tryd.func27 vu_ (zb_ (s:=RwF kI_) Kq_ (zb_ (s:=RwF zx_) ZB_ (zb_ (s:=RoF qA_) Q8_ (ze_ _)))) fun args objs p v e=>?_
 unfold jG_ at e
 split at e
 ·rename_i l
  cases e
  refine ⟨rfl,fun hw ho hp=>?_⟩
  change List OV at l
  clear hw ho
  obtain ⟨hn,ha⟩:=hp
  repeat'(intro t ht;first|(cases t<;>first|(cases ht;done)|(try simp only[zg_]at ht))|((first|refine za_ ht ?_|refine ht ?_ ?_|refine ht.1 ?_ ?_|refine ht ?_)<;>clear ht))
  all_goals first
   | exact True.intro
   | ((try simp only [zZ_,z0_,zp_] at*);omega)
   | (intro r h1 h2;clear h1;refine h2 ⟨[3,9,10,11],Nat,(fun i=>i<=l.length),fun i=>[.own 0,.imm Y1 l,.int .i64 l.length,.int .i64 i],fun i=>[.row false Y1 (l.take i)],fun i=>l.length - i,⟨0,Nat.zero_le _,rfl,rfl⟩,?_⟩;clear h2)
  rintro i hi
  have e1:∀ o:OV,(o.2.2.2.2.1++o.2.2.2.2.2.1).take o.2.2.2.2.1.length=o.2.2.2.2.1:=fun o=>List.take_left
  have e2:∀ o:OV,(o.2.2.2.2.1++o.2.2.2.2.2.1).drop o.2.2.2.2.1.length=o.2.2.2.2.2.1:=fun o=>List.drop_left
  have e3:∀ l:List Int,l.take l.length=l:=fun l=>List.take_length
  have ec:∀ o:OV,((o.1,o.2.1,o.2.2.1,o.2.2.2.1,List.take o.2.2.2.2.1.length (List.drop 0 (o.2.2.2.2.1++o.2.2.2.2.2.1)),List.take o.2.2.2.2.2.1.length (List.drop o.2.2.2.2.1.length (o.2.2.2.2.1++o.2.2.2.2.2.1)),()):OV)=o:=fun o=>by rw [List.drop_zero,List.take_left,List.drop_left,List.take_length]
  repeat'(intro t ht;first|(cases t<;>first|(cases ht;done)|(try simp only[zg_]at ht;try(exfalso;first|contradiction|omega)))|((first|refine za_ ht ?_|refine ht ?_ ?_|refine ht.1 ?_ ?_|refine ht ?_)<;>clear ht))
  all_goals (try simp only [Int.toNat_natCast] at*)
  all_goals (try generalize (Ty.dflt Y1)=od at*)
  all_goals first
   | exact True.intro
   | ((try simp only [zZ_,z0_,zp_] at*);omega)
   | (have ht:l.take i=l:=List.take_of_length_le (by omega)
      rw [ht];first | exact (show l.length<=120 by omega) | exact ⟨rfl,by first | rfl | exact True.intro⟩)
   | (have hlt:i < l.length:=by omega
      have hln:=ha.h _ (z1_ hlt od)
      have htk:(l.take i).length=i:=xs_ hi
      first
       | exact ⟨hln.1,hln.2⟩
       | (simp only [List.length_append,List.length_cons,List.length_nil];constructor<;>omega)
       | (simp only [List.length_append];omega)
       | exact ⟨i+1,by omega,by (try dsimp only);omega,rfl,(congrArg (fun x=>[Obj.row false Y1 (l.take i++[x])]) (ec (l.getD i od))).trans (congrArg (fun x=>[Obj.row false Y1 x]) (tkS (d:=od) hlt).symm)⟩)
 ·cases e
def yS_:IR:=
(sq (kr [0,1] [oD 2 (.boxv 0),
oD 3 (.boxv 1),
oD 4 (.mov cF)])
(sq (sq (kr [2,3] [oA 5 0 2,
oL 6 5,
oA 7 0 3,
oL 8 7,
oB 9 .neq 6 8])
(.cond 9
(sq (kr [2,3] [oA 10 0 2,
oL 11 10,
oA 12 0 3,
oL 13 12,
oB 14 .lss 11 13,
oM 4 14])
.ret)
.skip))
(sq (sq (kr [2,3] [oA 15 1 2,
oL 16 15,
oA 17 1 3,
oL 18 17,
oB 19 .neq 16 18])
(.cond 19
(sq (kr [2,3] [oA 20 1 2,
oL 21 20,
oA 22 1 3,
oL 23 22,
oB 24 .lss 21 23,
oM 4 24])
.ret)
.skip))
(sq (kr [2,3] [oA 25 3 2,
oL 26 25,
oA 27 3 3,
oL 28 27,
oB 29 .lss 26 28,
oM 4 29])
.ret))))
def yl_:List RD:=[.tmp 4 true none]
theorem yA_:zm_ Tryd.prog Tryd.f29 yS_ yl_=true:=by kernel_rfl
def KL_:List AV->List Obj->Option (Prop × AV)
 | [.agg [.int .i64 c,.int .i64 f,.bool h,.int .u64 x,.imm (.int .u8) v,.imm (.int .u8) m],.agg [.int .i64 c',.int .i64 f',.bool h',.int .u64 x',.imm (.int .u8) v',.imm (.int .u8) m']],[]=>some ((True,.bool (ltO (c,f,h,x,v,m,()) (c',f',h',x',v',m',()))))
 | _,_=>none
theorem xy_:zf_ Tryd.prog 29 (RoF KL_).sum:=by
 refine zi_ Tryd.func29 yA_ (ze_ _) fun args objs p v e=>?_
 unfold KL_ at e
 split at e
 ·rename_i c f h x v m c' f' h' x' v' m'
  cases e
  refine ⟨rfl,fun hw ho hp=>?_⟩
  change List Int at v
  change List Int at m
  change List Int at v'
  change List Int at m'
  clear hw ho
  unfold ltO
  repeat'(intro t ht;first|(cases t<;>first|(cases ht;done)|(try simp only[zg_]at ht;try(exfalso;first|contradiction|omega)))|((first|refine za_ ht ?_|refine ht ?_ ?_|refine ht.1 ?_ ?_|refine ht ?_)<;>clear ht))
  all_goals first
   | exact True.intro
   | (refine ⟨congrArg AV.bool ?_,by first | exact True.intro | rfl⟩;simp only [];simp [*];done)
   | (refine ⟨congrArg AV.bool ?_,by first | exact True.intro | rfl⟩;(rw [Bool.eq_iff_iff];simp only [decide_eq_true_eq,Bool.or_eq_true,Bool.and_eq_true];omega))
 ·cases e
theorem hj_ (l:List OV) (x:OV):isG ltO (l++[x])=kb_ ltO x (isG ltO l):=by unfold isG;rw [List.foldl_append];rfl
theorem gd_ (x d:OV):∀ (o:List OV) (at':Nat),o.Pairwise (fun x y=>ltO y x=false)->at'<=o.length->(∀ k,at'<=k->k < o.length->ltO x (o.getD k d)=true)->(at'=0\/ltO x (o.getD (at' - 1) d)=false)->o.take at'++[x]++o.drop at'=kb_ ltO x o
 | [],at',_,h,_,_=>by
   have:at'=0:=by rw [List.length_nil] at h;omega
   subst this;rfl
 | y :: r,0,_,_,h2,_=>by
   have:=h2 0 (Nat.le_refl _) (by rw [List.length_cons];omega)
   have h:ltO x y=true:=this
   unfold kb_;rw [if_pos h];rfl
 | y :: r,n+1,hp,h1,h2,h3=>by
   have hp':=List.pairwise_cons.1 hp
   rw [List.length_cons] at h1
   have hx:ltO x ((y :: r).getD n d)=false:=by rcases h3 with h | h;omega;exact h
   have hy:ltO x y=false:=by
    cases n with
    | zero=>exact hx
    | succ n=>
      have hm:r.getD n d ∈ r:=z1_ (by omega) d
      exact zn_.neg _ _ _ hx (hp'.1 _ hm)
   unfold kb_
   rw [if_neg (by rw [hy];decide),<- gd_ x d r n hp'.2 (by omega) (fun k k1 k2=>h2 (k+1) (by omega) (by rw [List.length_cons];omega)) (by
    cases n with
    | zero=>exact .inl rfl
    | succ n=>exact .inr hx)]
   rfl
theorem hl_ {x d:OV} {o:List OV} {a:Nat} (h1:o.Pairwise (fun x y=>ltO y x=false)) (h2:a<=o.length) (h3:∀ k,a<=k->k < o.length->ltO x (o.getD k d)=true) (h4:a=0\/ltO x (o.getD (a - 1) d)=false):[]++List.take a (List.drop (Int.toNat 0) o)++[x]++List.take ((o.length:Int) - (a:Int)).toNat (List.drop a o)=kb_ ltO x o:=by
 rw [<- gd_ x d o a h1 h2 h3 h4,List.take_of_length_le (l:=o.drop a) (by rw [List.length_drop];omega)];rfl
def VZ_:IR:=
(sq (kr [0] [oD 2 (.nilrow Y1)])
(sq (.reg [oD 3 (.nilrow Y1)])
(sq (sq (.reg [oD 4 (.mov (cI 0))])
(.block 0
(.loop
(sq (sq (kr [0,3,4] [oM 7 4,
oM 8 0,
oE 9 8,
oB 10 .lss 7 9])
(.cond 10
.skip
(.exit 0)))
(sq (.block 1
(sq (.reg [oM 13 3,
oE 14 13,
oM 5 14])
(sq (.block 2
(.loop
(sq (sq (kd [0,3,4,5] [(oM 15 5,[]),
(oB 16 .gtr 15 (cI 0),[]),
(oM 17 16,[]),
(oT 17 18 (.mov 0),[]),
(oT 17 19 (.mov 4),[0]),
(oT 17 20 (.indexSl 6 18 19),[]),
(oT 17 21 (.load (some 6) 20),[]),
(oT 17 22 (.mov 3),[0,0,0,0]),
(oT 17 23 (.mov 5),[0,0,0,0,0]),
(oT 17 24 (.bin .sub 23 (cI 1)),[1,0,0,0,0]),
(oT 17 25 (.indexSl 6 22 24),[3,0,0,0]),
(oT 17 26 (.load (some 6) 25),[4,0,0,0]),
(oT 17 27 (.call false (.f 29) [21,26]),[]),
(oP 28 17 27 cF,[])])
(.cond 28
.skip
(.exit 2)))
(.block 3
(kr [0,3,4,5] [oM 29 5,
oB 30 .sub 29 (cI 1),
oM 5 30])))))
(sq (kr [0,3,4,5] [oD 31 (.slice0 Y1),
oM 32 3,
oM 33 5,
oD 34 (.slice 6 32 none (some 33) none),
oD 35 (.append Y1 80 31 34),
oM 6 35])
(sq (kr [0,3,4,5,6] [oM 36 6,
oM 37 0,
oM 38 4,
oI 39 6 37 38,
oK 40 6 39,
oD 41 (.sliceAll Y1 1 [(0,6,40)]),
oD 42 (.append Y1 80 36 41),
oM 6 42])
(kr [0,3,4,5,6] [oM 43 6,
oM 44 3,
oM 45 5,
oD 46 (.slice 6 44 (some 45) none none),
oD 47 (.append Y1 80 43 46),
oM 3 47]))))))
(kr [0,3,4] [oM 11 4,
oB 12 .add 11 (cI 1),
oM 4 12]))))))
(sq (kr [3] [oM 48 3,
oM 2 48])
.ret))))
def Vk_:List RD:=[.tmp 2 true (some Y1)]
theorem Vy_:zm_ Tryd.prog Tryd.f11 VZ_ Vk_=true:=by kernel_rfl
def Jt_:List AV->List Obj->Option (Prop × AV)
 | [.imm (.cons (.int .i64) (.cons (.int .i64) (.cons .bool (.cons (.int .u64) (.cons (.sl (.int .u8)) (.cons (.sl (.int .u8)) .nil)))))) l],[]=>some ((l.length<=100000,.imm Y1 (isG ltO (l:List OV))))
 | _,_=>none
theorem Y2_:zf_ Tryd.prog 11 (RoF Jt_).sum:=by
 refine zi_ Tryd.func11 Vy_ (zb_ (s:=RoF KL_) xy_ (ze_ _)) fun args objs p v e=>?_
 unfold Jt_ at e
 split at e
 ·rename_i l
  cases e
  refine ⟨rfl,fun hw ho hp=>?_⟩
  change List OV at l
  clear hw ho
  repeat'(intro t ht;first|(cases t<;>first|(cases ht;done)|(try simp only[zg_]at ht;try(exfalso;first|contradiction|omega)))|((first|refine za_ ht ?_|refine ht ?_ ?_|refine ht.1 ?_ ?_|refine ht ?_)<;>clear ht))
  all_goals first
   | exact True.intro
   | (intro r h1 h2;clear h1;refine h2 ⟨[0,3,4],Nat,(fun i=>i<=l.length),fun i=>[.imm Y1 l,.own 0,.int .i64 i],fun i=>[.row false Y1 (isG ltO (l.take i))],fun i=>l.length - i,⟨0,Nat.zero_le _,rfl,rfl⟩,?_⟩;clear h2)
  rintro i hi
  have hP:=Ub_ zn_ (l.take i)
  have hL:=xh_ zn_ (l.take i)
  have hS:i < l.length->isG ltO (l.take (i+1))=kb_ ltO (l.getD i (Ty.dflt Y1)) (isG ltO (l.take i)):=fun h=>by rw [tkS (d:=(Ty.dflt Y1)) h,hj_]
  have hE:¬ i < l.length->l.take i=l:=fun h=>List.take_of_length_le (by omega)
  rw [List.length_take] at hL
  repeat'(intro t ht;first|(cases t<;>first|(cases ht;done)|(try simp only[zg_]at ht;try(exfalso;first|contradiction|omega)))|((first|refine za_ ht ?_|refine ht ?_ ?_|refine ht.1 ?_ ?_|refine ht ?_)<;>clear ht))
  all_goals first
   | exact True.intro
   | omega
   | ((try dsimp only);simp only [zp_];omega)
   | (rw [hE (by omega)];exact ⟨rfl,rfl⟩)
   | (intro r h1 h2;clear h1;refine h2 ⟨[0,3,4,5],Nat,(fun a=>a<=(isG ltO (l.take i)).length/\∀ k,a<=k->k < (isG ltO (l.take i)).length->ltO (l.getD i (Ty.dflt Y1)) ((isG ltO (l.take i)).getD k (Ty.dflt Y1))=true),fun a=>[.imm Y1 l,.own 0,.int .i64 i,.int .i64 a],fun _=>[.row false Y1 (isG ltO (l.take i))],fun a=>a,⟨(isG ltO (l.take i)).length,⟨Nat.le_refl _,fun k h1 h2=>by omega⟩,rfl,rfl⟩,?_⟩;clear h2)
  rintro a ⟨ha,hk⟩
  have hil:i < l.length:=by omega
  have hS':=hS hil
  clear hS hE
  generalize isG ltO (l.take i)=o at*
  have e1:((a:Int) - 1).toNat=a - 1:=by omega
  have hR:=fun h4=>hl_ (x:=l.getD i (Ty.dflt Y1)) (d:=(Ty.dflt Y1)) hP ha hk h4
  repeat'(intro t ht;first|(cases t<;>first|(cases ht;done)|(try simp only[zg_]at ht;try(exfalso;first|contradiction|omega)))|((first|refine za_ ht ?_|refine ht ?_ ?_|refine ht.1 ?_ ?_|refine ht ?_)<;>clear ht))
  all_goals (try simp only [Int.toNat_natCast,Int.sub_zero,e1] at ht ⊢)
  all_goals first
   | exact True.intro
   | omega
   | ((try dsimp only);simp only [zp_];omega)
   | (constructor<;>omega)
   | (simp only [List.length_append,List.length_take,List.length_drop,List.length_cons,List.length_nil];constructor<;>omega)
   | (have hx:ltO (l.getD i (Ty.dflt Y1)) (o.getD (a - 1) (Ty.dflt Y1))=true:=ht
      refine ⟨a - 1,⟨?_,fun k k1 k2=>?_⟩,?_,?_,by first | rfl | exact True.intro⟩
      ·omega
      ·by_cases e:k=a - 1
       ·rw [e];exact hx
       ·exact hk k (by omega) k2
      ·(try dsimp only);omega
      ·(try dsimp only)
       rw [show ((a - 1:Nat):Int)=(a:Int) - 1 by omega];try rfl)
   | (have hx:ltO (l.getD i (Ty.dflt Y1)) (o.getD (a - 1) (Ty.dflt Y1))=false:=ht
      have e9:=hR (.inr hx)
      refine ⟨i+1,?_,?_,rfl,?_⟩
      ·(try dsimp only);omega
      ·(try dsimp only);omega
      ·(try dsimp only)
       rw [hS',<- e9])
   | (have e9:=hR (.inl (by omega))
      refine ⟨i+1,?_,?_,rfl,?_⟩
      ·(try dsimp only);omega
      ·(try dsimp only);omega
      ·(try dsimp only)
       rw [hS',<- e9])
 ·cases e
theorem X6_.up {u:List Int} {a i:Nat} (h:X6_ u a i) (ha:a < i) (hlt:¬ u.getD i 0 < u.getD (i - 1) 0):X6_ u a (i+1):=fun x y h1 h2 h3=>by
 by_cases e:y=i
 ·subst e
  by_cases e2:x=y - 1
  ·rw [e2];omega
  ·have:=h x (y - 1) h1 (by omega) (by omega);omega
 ·exact h x y h1 h2 (by omega)
theorem X6_.one (u:List Int) (a:Nat):X6_ u a (a+1):=fun x y h1 h2 h3=>by omega
theorem wq_.at {l r:List Int} {a b k:Nat} (h:wq_ l a b) (hR:Rear l a b r) (hab:a<=b) (hb:b<=l.length) (h0:0 < a) (h1:a<=k) (h2:k < b):¬ r.getD k 0 < r.getD (a - 1) 0:=by
 have:=h.rear hR hab hb h0 k h1 h2;omega
structure PisJ (l u:List Int) (a b i:Nat):Prop where
 R:Rear l a b u
 ai:a < i
 ib:i<=b
 s:X6_ u a i
structure PdqJ (l u:List Int) (a b i j:Nat):Prop where
 n:u.length=l.length
 ai:a<=i
 ij:i<=j
 jb:j<=b
 e:srt u i j=srt l a b
 lo:wq_ u i j
def Ui_ (l:List OV) (z:Int):Bool:=l.any fun o=>decide (o.1=32768) && decide (o.2.1=z)
def nfO (o:OV):List Int:=if o.1=32768 then jk_ o.2.1 else []
def ndL (l:List OV):List Int:=l.flatMap nfO
def HK_ (l:List OV):List Int:=(ndL l).filter fun z=>!Ui_ l z
structure HasJ (m:List (Int × Int)) (l:List OV):Prop where
 r:∀ z,0<=(zM_ m z).getD 0/\(zM_ m z).getD 0<=l.length
 z:∀ z,(zM_ m z).getD 0=0 ↔ Ui_ l z=false
 n:m.length<=l.length
structure MisJ (l:List OV) (seen:List Int) (m:List (Int × Int)) (out:List Int):Prop where
 nd:out.Nodup
 mem:∀ z,z ∈ out ↔ z ∈ seen/\Ui_ l z=false
 zer:∀ z,(zM_ m z).getD 0=0 ↔ Ui_ l z=false/\z ∉ out
 r:∀ z,0<=(zM_ m z).getD 0/\(zM_ m z).getD 0<=l.length+1
 n:out.length<=seen.length
theorem ckC (pre:List OV) (o:OV) (r:List OV):ckS pre (o :: r)=if pre.any (fun x=>alO x o)=true then (((pre.length:Nat):Int),1035) else if Kz_ pre o.1 o.2.1=true then ckS (pre++[o]) r else (((pre.length:Nat):Int),1034):=rfl
theorem gj_:∀ (r pre:List OV),(ckS pre r).2=0->(ckS pre r).1=0
 | [],_,_=>rfl
 | o :: r,pre,h=>by
   rw [ckC] at h ⊢
   by_cases h1:pre.any (fun x=>alO x o)=true
   ·simp only [if_pos h1] at h;cases h
   ·simp only [if_neg h1] at h ⊢
    by_cases h2:Kz_ pre o.1 o.2.1=true
    ·simp only [if_pos h2] at h ⊢;exact gj_ r _ h
    ·simp only [if_neg h2] at h;cases h
theorem hG_ (d:OV):∀ (r pre:List OV),(ckS pre r).2=0 ↔ ∀ k,k < r.length->((pre++r.take k).any (fun x=>alO x (r.getD k d))=false/\Kz_ (pre++r.take k) (r.getD k d).1 (r.getD k d).2.1=true)
 | [],_=>⟨fun _ k h=>absurd h (Nat.not_lt_zero _),fun _=>rfl⟩
 | o :: r,pre=>by
   rw [ckC]
   by_cases h1:pre.any (fun x=>alO x o)=true
   ·simp only [if_pos h1]
    constructor
    ·intro h;cases h
    ·intro h
     have:=(h 0 (by rw [List.length_cons];omega)).1
     rw [List.take_zero,List.append_nil] at this
     have h3:pre.any (fun x=>alO x o)=false:=this
     rw [h1] at h3;cases h3
   ·simp only [if_neg h1]
    by_cases h2:Kz_ pre o.1 o.2.1=true
    ·simp only [if_pos h2]
     rw [hG_ d r (pre++[o])]
     constructor
     ·intro h k hk
      cases k with
      | zero=>
        rw [List.take_zero,List.append_nil]
        exact ⟨Bool.eq_false_iff.2 h1,h2⟩
      | succ k=>
        have:=h k (by rw [List.length_cons] at hk;omega)
        rw [List.append_assoc] at this
        exact this
     ·intro h k hk
      have:=h (k+1) (by rw [List.length_cons];omega)
      rw [List.append_assoc]
      exact this
    ·simp only [if_neg h2]
     constructor
     ·intro h;cases h
     ·intro h
      have:=(h 0 (by rw [List.length_cons];omega)).2
      rw [List.take_zero,List.append_nil] at this
      exact absurd this h2
def Chk (d:OV) (l:List OV):Prop:=∀ k,k < l.length->((l.take k).any (fun x=>alO x (l.getD k d))=false/\Kz_ (l.take k) (l.getD k d).1 (l.getD k d).2.1=true)
theorem vT_ (d:OV) (l:List OV):(ckS [] l).2=0 ↔ Chk d l:=by
 have:=hG_ d l []
 simp only [List.nil_append] at this
 exact this
theorem Yq_ (x:OV):∀ o:List OV,(kb_ ltO x o).Perm (x :: o)
 | []=>.refl _
 | y :: r=>by
   unfold kb_
   split
   ·exact .refl _
   ·exact ((Yq_ x r).cons y).trans (.swap x y r)
theorem wa_:∀ (l o:List OV),(l.foldl (fun o x=>kb_ ltO x o) o).Perm (o++l)
 | [],o=>by rw [List.append_nil];exact .refl _
 | x :: l,o=>by
   refine (wa_ l (kb_ ltO x o)).trans ?_
   refine ((Yq_ x o).append_right l).trans ?_
   rw [List.cons_append]
   exact List.perm_middle.symm
theorem wb_ (l:List OV):(isG ltO l).Perm l:=by have:=wa_ l [];rwa [List.nil_append] at this
theorem xg_ {l:List OV} {x:OV}:x ∈ isG ltO l ↔ x ∈ l:=(wb_ l).mem_iff
theorem bX_ {l:List OV} (h:allLen l):allLen (isG ltO l):=⟨fun o ho=>h.h o (xg_.1 ho)⟩
theorem ko_ (x o:OV):alO x o=true ↔ x.1=o.1/\x.2.1=o.2.1/\x.2.2.2.1=o.2.2.2.1:=by
 unfold alO
 rw [Bool.and_eq_true,Bool.and_eq_true,decide_eq_true_eq,decide_eq_true_eq,decide_eq_true_eq,and_assoc]
theorem bp_ {n:Int} {v:List Int} {x:OV} (h:mtO n v x=true):x.1=32768/\x.2.1=n:=by
 unfold mtO VR_ at h
 rw [Bool.and_eq_true,Bool.and_eq_true,decide_eq_true_eq,decide_eq_true_eq] at h
 exact h.1
theorem bQ_:∀ k < 40,jk_ (k:Nat)=(if Qd_ (k:Nat) < 0 then [] else jk_ (Qd_ (k:Nat))++[Qd_ (k:Nat)])/\Qd_ (k:Nat) < (k:Nat):=by decide+kernel
theorem VN_ {n:Int} (h:fIs n=true):jk_ n=(if Qd_ n < 0 then [] else jk_ (Qd_ n)++[Qd_ n])/\Qd_ n < n:=by
 have h1:=kE_.1 h
 have:=bQ_ n.toNat (by omega)
 rwa [Int.toNat_of_nonneg h1.1] at this
theorem G9_ {l:List OV} {c f:Int} (h:Kz_ l c f=true) (hc:c=32768) (hf:fIs f=true) (hn:0<=Qd_ f):∃ x ∈ l,mtO (Qd_ f) (XK_ f) x=true:=by
 unfold Kz_ at h
 have hm:yQ_ c f=false:=by
  unfold yQ_
  rw [hf,decide_eq_false (by omega),decide_eq_false (by omega)];rfl
 rw [if_neg (by rw [hm];decide)] at h
 exact List.any_eq_true.1 h
theorem bT_ {l:List OV} {c f:Int} (h:c=32768->fIs f=true->0<=Qd_ f->∃ x ∈ l,mtO (Qd_ f) (XK_ f) x=true):Kz_ l c f=true:=by
 unfold Kz_
 cases hm:yQ_ c f with
 | true=>rw [if_pos rfl]
 | false=>
   rw [if_neg (by decide)]
   unfold yQ_ at hm
   rw [Bool.or_eq_false_iff,Bool.or_eq_false_iff,decide_eq_false_iff_not,decide_eq_false_iff_not,Bool.not_eq_false'] at hm
   exact List.any_eq_true.2 (h (by omega) hm.1.2 (by omega))
theorem u5_ {l:List OV} {x:OV} (d:OV) (h:x ∈ l):∃ k,k < l.length/\l.getD k d=x:=by
 obtain ⟨k,hk,e⟩:=List.mem_iff_getElem.1 h
 exact ⟨k,hk,by rw [List.getD_eq_getElem?_getD,List.getElem?_eq_getElem hk];exact e⟩
theorem ha_ {l:List OV} {x d:OV} {k:Nat} (h:x ∈ l.take k):∃ j,j < k/\j < l.length/\l.getD j d=x:=by
 obtain ⟨j,hj,e⟩:=List.mem_iff_getElem.1 h
 rw [List.length_take] at hj
 refine ⟨j,by omega,by omega,?_⟩
 rw [List.getElem_take] at e
 rw [List.getD_eq_getElem?_getD,List.getElem?_eq_getElem (by omega)];exact e
theorem Gv_ {l:List OV} {d:OV} {j k:Nat} (h:j < k) (hj:j < l.length):l.getD j d ∈ l.take k:=by
 have:(l.take k)[j]?=some (l.getD j d):=by
  rw [List.getElem?_take,if_pos h,List.getD_eq_getElem?_getD,List.getElem?_eq_getElem hj];rfl
 exact List.mem_of_getElem? this
theorem YE_ {d:OV} {l:List OV} (h:Chk d l):l.Pairwise fun x y=>alO x y=false:=by
 rw [List.pairwise_iff_getElem]
 intro i j hi hj hij
 have h1:=(h j hj).1
 have e:∀ k (hk:k < l.length),l.getD k d=l[k]:=fun k hk=>by rw [List.getD_eq_getElem?_getD,List.getElem?_eq_getElem hk];rfl
 rw [List.any_eq_false] at h1
 have:=h1 _ (Gv_ (d:=d) hij hi)
 rw [e i hi,e j hj] at this
 exact Bool.eq_false_iff.2 this
theorem uz_ {x y:OV} (h:alO x y=false):alO y x=false:=by
 rw [Bool.eq_false_iff,Ne,ko_] at h ⊢
 rintro ⟨a,b,c⟩;exact h ⟨a.symm,b.symm,c.symm⟩
theorem hI_ {d:OV} {l:List OV} (h:Chk d l):Chk d (isG ltO l):=by
 have hp:=Ub_ zn_ l
 have hap:(isG ltO l).Pairwise fun x y=>alO x y=false:=((wb_ l).symm.pairwise_iff (fun hxy=>uz_ hxy)).1 (YE_ h)
 rw [List.pairwise_iff_getElem] at hp hap
 have e:∀ k (hk:k < (isG ltO l).length),(isG ltO l).getD k d=(isG ltO l)[k]:=fun k hk=>by rw [List.getD_eq_getElem?_getD,List.getElem?_eq_getElem hk];rfl
 intro k hk
 refine ⟨?_,bT_ fun hc hf hn=>?_⟩
 ·rw [List.any_eq_false]
  intro x hx
  obtain ⟨j,j1,j2,rfl⟩:=ha_ (d:=d) hx
  rw [e j j2,e k hk,hap j k j2 hk j1];decide
 ·have ho:(isG ltO l).getD k d ∈ l:=xg_.1 (z1_ hk d)
  obtain ⟨q,q1,q2⟩:=u5_ d ho
  have hm:=(h q q1).2
  rw [q2] at hm
  obtain ⟨x,x1,x2⟩:=G9_ hm hc hf hn
  refine ⟨x,?_,x2⟩
  obtain ⟨x3,x4⟩:=bp_ x2
  have hlt:ltO x ((isG ltO l).getD k d)=true:=(xf_ _ _).2 (.inr ⟨by rw [x3,hc],.inl (by rw [x4];exact (VN_ hf).2)⟩)
  obtain ⟨p,p1,p2⟩:=u5_ d (xg_.2 (List.mem_of_mem_take x1))
  have hpk:p < k:=by
   apply Classical.byContradiction;intro c
   by_cases c2:p=k
   ·rw [<- p2,c2,zn_.irr] at hlt;cases hlt
   ·have:=hp k p hk p1 (by omega)
    rw [<- e k hk,<- e p p1,p2] at this
    rw [this] at hlt;cases hlt
  rw [<- p2];exact Gv_ hpk p1
theorem hs_ {l:List OV} {x:OV} {z:Int} (h:x ∈ l) (h1:x.1=32768) (h2:x.2.1=z):Ui_ l z=true:=by
 unfold Ui_
 rw [List.any_eq_true]
 exact ⟨x,h,by rw [decide_eq_true h1,decide_eq_true h2];rfl⟩
theorem gl_ {d:OV} {l:List OV} (h:Chk d l):∀ n k,k < n->k < l.length->(l.getD k d).1=32768->∀ z ∈ jk_ (l.getD k d).2.1,Ui_ l z=true
 | 0,k,hn,_,_,_,_=>absurd hn (Nat.not_lt_zero _)
 | n+1,k,hn,hk,hc,z,hz=>by
   cases hf:fIs (l.getD k d).2.1 with
   | false=>
     unfold jk_ at hz
     rw [if_neg (js_.1 hf)] at hz;cases hz
   | true=>
     have he:=(VN_ hf).1
     by_cases c:Qd_ (l.getD k d).2.1 < 0
     ·rw [if_pos c] at he;rw [he] at hz;cases hz
     ·rw [if_neg c] at he
      obtain ⟨x,x1,x2⟩:=G9_ (h k hk).2 hc hf (by omega)
      obtain ⟨x3,x4⟩:=bp_ x2
      obtain ⟨j,j1,j2,j3⟩:=ha_ (d:=d) x1
      rw [he,List.mem_append,List.mem_singleton] at hz
      rcases hz with hz | hz
      ·have ih:=gl_ h n j (by omega) j2 (by rw [j3];exact x3) z
       rw [j3,x4] at ih
       exact ih hz
      ·rw [hz];exact hs_ (List.mem_of_mem_take x1) x3 x4
theorem gk_ {d:OV} {l:List OV} (h:Chk d l):HK_ l=[]:=by
 unfold HK_
 refine List.filter_eq_nil_iff.2 fun z hz=>?_
 obtain ⟨o,ho,hz⟩:=List.mem_flatMap.1 hz
 obtain ⟨k,k1,k2⟩:=u5_ d ho
 unfold nfO at hz
 split at hz
 ·rename_i hc
  rw [<- k2] at hc hz
  rw [gl_ h (k+1) k (by omega) k1 hc z hz];decide
 ·cases hz
theorem H4_ {l:List OV} (h:(ckS [] l).2=0):(ckS [] l).1=0/\(ckS [] (isG ltO l)).2=0/\poF (HK_ l)=[]/\poF (HK_ (isG ltO l))=[]:=by
 have h1:=(vT_ (Ty.dflt Y1) l).1 h
 have h2:=hI_ h1
 exact ⟨gj_ l [] h,(vT_ _ _).2 h2,by rw [gk_ h1];rfl,by rw [gk_ h2];rfl⟩
def tb (x:Int) (k:Nat):Bool:=x.toNat.testBit k
def isB (x:Int):Prop:=0<=x/\x<=255
theorem jl_ {x:Int} (h:isB x) (k:Nat):(BitVec.ofInt 8 x).getLsbD k=tb x k:=by
 unfold tb BitVec.getLsbD
 rw [BitVec.toNat_ofInt]
 have:(x % ((2 ^ 8:Nat):Int)).toNat=x.toNat:=by have:=h.1;have:=h.2;omega
 rw [this]
theorem WF_ (op:BinOp) (x y:Int) (z:BitVec 8) (h:zo_ op .u8 x y=IntKind.u8.wrap (z.toNat:Int)):isB (zo_ op .u8 x y)/\∀ k,tb (zo_ op .u8 x y) k=z.getLsbD k:=by
 have hz:=z.isLt
 have e:zo_ op .u8 x y=(z.toNat:Int):=by
  rw [h,Ha_];omega
 refine ⟨by rw [e];exact ⟨by omega,by omega⟩,fun k=>?_⟩
 unfold tb BitVec.getLsbD
 rw [e,Int.toNat_natCast]
theorem K9_ {x y:Int} (hx:isB x) (hy:isB y) (k:Nat):tb (zo_ .and .u8 x y) k=(tb x k && tb y k):=by
 rw [(WF_ .and x y (BitVec.ofInt 8 x &&& BitVec.ofInt 8 y) rfl).2 k,BitVec.getLsbD_and,jl_ hx,jl_ hy]
theorem bn_ {x y:Int} (hx:isB x) (hy:isB y) (k:Nat):tb (zo_ .or .u8 x y) k=(tb x k || tb y k):=by
 rw [(WF_ .or x y (BitVec.ofInt 8 x ||| BitVec.ofInt 8 y) rfl).2 k,BitVec.getLsbD_or,jl_ hx,jl_ hy]
theorem YZ_ {x y:Int} (hx:isB x) (hy:isB y) (k:Nat):tb (zo_ .xor .u8 x y) k=(tb x k != tb y k):=by
 rw [(WF_ .xor x y (BitVec.ofInt 8 x ^^^ BitVec.ofInt 8 y) rfl).2 k,BitVec.getLsbD_xor,jl_ hx,jl_ hy]
theorem Y0_ {x:Int} (hx:isB x) {k:Nat} (hk:8<=k):tb x k=false:=by
 unfold tb
 refine Nat.testBit_lt_two_pow ?_
 have:2 ^ 8<=2 ^ k:=Nat.pow_le_pow_right (by decide) hk
 have:=hx.2;have:=hx.1;omega
theorem wu_ {x y:Int} (hx:isB x) (hy:isB y) (k:Nat):tb (zo_ .andNot .u8 x y) k=(tb x k && !tb y k):=by
 rw [(WF_ .andNot x y (BitVec.ofInt 8 x &&& ~~~BitVec.ofInt 8 y) rfl).2 k,BitVec.getLsbD_and,BitVec.getLsbD_not,jl_ hx,jl_ hy]
 by_cases hk:k < 8
 ·rw [decide_eq_true hk,Bool.true_and]
 ·rw [Y0_ hx (by omega),Bool.false_and,Bool.false_and]
theorem Z1_ (op:BinOp) (x y:Int) (h:op=.and\/op=.or\/op=.xor\/op=.andNot):isB (zo_ op .u8 x y):=by
 rcases h with rfl | rfl | rfl | rfl
 ·exact (WF_ .and x y _ rfl).1
 ·exact (WF_ .or x y _ rfl).1
 ·exact (WF_ .xor x y _ rfl).1
 ·exact (WF_ .andNot x y _ rfl).1
theorem xr_ {x y:Int} (hx:isB x) (hy:isB y) (h:∀ k,k < 8->tb x k=tb y k):x=y:=by
 have:x.toNat=y.toNat:=Nat.eq_of_testBit_eq fun k=>by
  by_cases hk:k < 8
  ·exact h k hk
  ·have h1:=Y0_ hx (k:=k) (by omega)
   have h2:=Y0_ hy (k:=k) (by omega)
   unfold tb at h1 h2;rw [h1,h2]
 have:=hx.1;have:=hy.1;omega
theorem UQ_ (k:Nat):tb 0 k=false:=by unfold tb;simp
theorem Y1_ {k:Nat} (h:k < 8):tb 255 k=true:=by
 have:k=0\/k=1\/k=2\/k=3\/k=4\/k=5\/k=6\/k=7:=by omega
 rcases this with rfl | rfl | rfl | rfl | rfl | rfl | rfl | rfl<;>decide
theorem kx_ {x:Int} (hx:isB x):x=0 ↔ ∀ k,k < 8->tb x k=false:=
 ⟨fun h k _=>by rw [h];exact UQ_ k,fun h=>xr_ hx ⟨by decide,by decide⟩ fun k hk=>by rw [h k hk,UQ_]⟩
def vB (o:OV) (i:Nat):Int:=o.2.2.2.2.1.getD i 0
def mB (o:OV) (i:Nat):Int:=if o.2.2.1=true then o.2.2.2.2.2.1.getD i 0 else 255
def lnV (o:OV):Nat:=o.2.2.2.2.1.length
theorem g3_ {l:List Int} (h:∀ z ∈ l,isB z) (i:Nat):isB (l.getD i 0):=by
 by_cases hi:i < l.length
 ·exact h _ (z1_ hi 0)
 ·rw [List.getD_eq_getElem?_getD,List.getElem?_eq_none (by omega)];exact ⟨by decide,by decide⟩
theorem vb {o:OV} (h:Zd_ o) (i:Nat):isB (vB o i):=g3_ h.2.1 i
theorem mb {o:OV} (h:Zd_ o) (i:Nat):isB (mB o i):=by
 unfold mB;split
 ·exact g3_ h.2.2 i
 ·exact ⟨by decide,by decide⟩
def Zr_ (o x:OV):Bool:=alO o x && !x.2.2.1 && decide (lnV o=lnV x) && (List.range (lnV o)).all fun i=>decide (zo_ .and .u8 (zo_ .xor .u8 (vB o i) (vB x i)) (mB o i)=0)
def zE_ (a b:OV):Bool:=alO a b && (!decide (lnV a=lnV b) || !(List.range (lnV a)).all fun i=>decide (zo_ .and .u8 (zo_ .and .u8 (zo_ .xor .u8 (vB a i) (vB b i)) (mB a i)) (mB b i)=0))
def zH_ (a b:OV):Bool:=alO a b && decide (lnV a=lnV b) && (List.range (lnV a)).all fun i=>decide (zo_ .andNot .u8 (mB b i) (mB a i)=0) && decide (zo_ .and .u8 (zo_ .xor .u8 (vB a i) (vB b i)) (mB b i)=0)
theorem Kf_ {a b:OV} (ha:Zd_ a) (hb:Zd_ b):zE_ a b=false ↔ (alO a b=true->lnV a=lnV b/\∀ i k,i < lnV a->k < 8->tb (mB a i) k=true->tb (mB b i) k=true->tb (vB a i) k=tb (vB b i) k):=by
 unfold zE_
 cases hal:alO a b with
 | false=>simp
 | true=>
   rw [Bool.true_and,Bool.or_eq_false_iff,Bool.not_eq_false',decide_eq_true_eq,Bool.not_eq_false',List.all_eq_true]
   refine ⟨fun h _=>⟨h.1,fun i k hi hk h1 h2=>?_⟩,fun h=>⟨(h rfl).1,fun i hi=>?_⟩⟩
   ·have h3:=(kx_ (Z1_ _ _ _ (.inl rfl))).1 (of_decide_eq_true (h.2 i (List.mem_range.2 hi))) k hk
    rw [K9_ (Z1_ _ _ _ (.inl rfl)) (mb hb i),K9_ (Z1_ _ _ _ (.inr (.inr (.inl rfl)))) (mb ha i),YZ_ (vb ha i) (vb hb i),h1,h2,Bool.and_true,Bool.and_true] at h3
    exact bne_eq_false_iff_eq.1 h3
   ·refine decide_eq_true ((kx_ (Z1_ _ _ _ (.inl rfl))).2 fun k hk=>?_)
    rw [K9_ (Z1_ _ _ _ (.inl rfl)) (mb hb i),K9_ (Z1_ _ _ _ (.inr (.inr (.inl rfl)))) (mb ha i),YZ_ (vb ha i) (vb hb i)]
    cases h1:tb (mB a i) k with
    | false=>simp
    | true=>
      cases h2:tb (mB b i) k with
      | false=>simp
      | true=>rw [(h rfl).2 i k (List.mem_range.1 hi) hk h1 h2];simp
theorem Zx_ {a b:OV} (ha:Zd_ a) (hb:Zd_ b):zH_ a b=true ↔ alO a b=true/\lnV a=lnV b/\∀ i k,i < lnV a->k < 8->tb (mB b i) k=true->tb (mB a i) k=true/\tb (vB a i) k=tb (vB b i) k:=by
 unfold zH_
 rw [Bool.and_eq_true,Bool.and_eq_true,decide_eq_true_eq,List.all_eq_true,and_assoc]
 refine and_congr_right fun _=>and_congr_right fun _=>?_
 constructor
 ·intro h i k hi hk hm
  have h0:=h i (List.mem_range.2 hi)
  rw [Bool.and_eq_true,decide_eq_true_eq,decide_eq_true_eq] at h0
  have h1:=(kx_ (Z1_ _ _ _ (.inr (.inr (.inr rfl))))).1 h0.1 k hk
  have h2:=(kx_ (Z1_ _ _ _ (.inl rfl))).1 h0.2 k hk
  rw [wu_ (mb hb i) (mb ha i),hm,Bool.true_and,Bool.not_eq_false'] at h1
  rw [K9_ (Z1_ _ _ _ (.inr (.inr (.inl rfl)))) (mb hb i),YZ_ (vb ha i) (vb hb i),hm,Bool.and_true] at h2
  exact ⟨h1,bne_eq_false_iff_eq.1 h2⟩
 ·intro h i hi
  have hi':=List.mem_range.1 hi
  rw [Bool.and_eq_true,decide_eq_true_eq,decide_eq_true_eq]
  refine ⟨(kx_ (Z1_ _ _ _ (.inr (.inr (.inr rfl))))).2 fun k hk=>?_,(kx_ (Z1_ _ _ _ (.inl rfl))).2 fun k hk=>?_⟩
  ·rw [wu_ (mb hb i) (mb ha i)]
   cases hm:tb (mB b i) k with
   | false=>rfl
   | true=>rw [(h i k hi' hk hm).1];rfl
  ·rw [K9_ (Z1_ _ _ _ (.inr (.inr (.inl rfl)))) (mb hb i),YZ_ (vb ha i) (vb hb i)]
   cases hm:tb (mB b i) k with
   | false=>rw [Bool.and_false]
   | true=>rw [(h i k hi' hk hm).2];simp
theorem bC_ {n k:Nat}:tb (2 ^ n - 1) k=decide (k < n):=by
 unfold tb
 have e:((2:Int) ^ n - 1).toNat=2 ^ n - 1:=by
  have:(1:Int)<=2 ^ n:=by have:=Nat.one_le_two_pow (n:=n);exact_mod_cast this
  have h2:((2:Int) ^ n)=((2 ^ n:Nat):Int):=by rw [Int.natCast_pow];rfl
  rw [h2];omega
 rw [e,Nat.testBit_two_pow_sub_one]
theorem HO_ {x:Int} (hx:isB x) (n:Nat):x < 2 ^ n ↔ ∀ k,k < 8->n<=k->tb x k=false:=by
 have h0:x=(x.toNat:Int):=by have:=hx.1;omega
 have h2:((2:Int) ^ n)=((2 ^ n:Nat):Int):=by rw [Int.natCast_pow];rfl
 constructor
 ·intro h k _ hk
  unfold tb
  refine Nat.testBit_lt_two_pow ?_
  have h3:x.toNat < 2 ^ n:=by rw [h2] at h;omega
  exact Nat.lt_of_lt_of_le h3 (Nat.pow_le_pow_right (by decide) hk)
 ·intro h
  have:x.toNat < 2 ^ n:=Nat.lt_pow_two_of_testBit _ fun k hk=>by
   by_cases h8:k < 8
   ·exact h k h8 hk
   ·exact Y0_ hx (by omega)
  rw [h2];omega
theorem HX_ {x:Int} (hx:isB x) (n:Nat):x.fdiv (2 ^ n)=0 ↔ x < 2 ^ n:=by
 have hp:(0:Int) < 2 ^ n:=Int.pow_pos (by decide)
 rw [Int.fdiv_eq_ediv_of_nonneg _ (Int.le_of_lt hp)]
 constructor
 ·intro h
  have:=Int.lt_ediv_add_one_mul_self x hp
  rw [h] at this;omega
 ·intro h;exact Int.ediv_eq_zero_of_lt hx.1 h
theorem xx_:∀ (v:List Int) (s:Int),0<=s->(∀ z ∈ v,isB z)->(Zo_ s v=true ↔ ∀ (i k:Nat),i < v.length->k < 8->8 - (s - 8*(i:Int))<=(k:Int)->tb (v.getD i 0) k=false)
 | [],_,_,_=>⟨fun _ i k h=>absurd h (Nat.not_lt_zero _),fun _=>rfl⟩
 | b :: r,s,hs,hb=>by
   have hb0:=hb b (List.mem_cons_self ..)
   have ih:=xx_ r (s - (if 8 < s then 8 else s)) (by split<;>omega) fun z hz=>hb z (List.mem_cons_of_mem _ hz)
   have hmin:min (8 - (if 8 < s then 8 else s)).toNat 8=(8 - (if 8 < s then 8 else s)).toNat:=by split<;>omega
   have hc:b.fdiv (2 ^ (min (8 - (if 8 < s then 8 else s)).toNat 8))=0 ↔ ∀ k:Nat,k < 8->8 - s<=(k:Int)->tb b k=false:=by
    rw [hmin,HX_ hb0,HO_ hb0]
    constructor
    ·intro h k hk h2;exact h k hk (by split<;>omega)
    ·intro h k hk h2;exact h k hk (by split at h2<;>omega)
   unfold Zo_
   by_cases c:b.fdiv (2 ^ (min (8 - (if 8 < s then 8 else s)).toNat 8))=0
   ·rw [if_pos c,ih]
    constructor
    ·intro h i k hi hk h2
     cases i with
     | zero=>exact hc.1 c k hk (by omega)
     | succ i=>exact h i k (by rw [List.length_cons] at hi;omega) hk (by split<;>omega)
    ·intro h i k hi hk h2
     exact h (i+1) k (by rw [List.length_cons];omega) hk (by split at h2<;>omega)
   ·rw [if_neg c]
    constructor
    ·intro h;cases h
    ·intro h
     exact absurd (hc.2 fun k hk h2=>h 0 k (by rw [List.length_cons];omega) hk (by omega)) c
theorem x2_ {s:Int} {k:Nat} (hk:k < 8):isB (Vv_ s)/\tb (Vv_ s) k=decide ((k:Int) < 8 - s):=by
 unfold Vv_
 by_cases c:0 < s
 ·rw [if_pos c]
  have hcase:s=1\/s=2\/s=3\/s=4\/s=5\/s=6\/s=7\/8<=s:=by omega
  have hk8:k=0\/k=1\/k=2\/k=3\/k=4\/k=5\/k=6\/k=7:=by omega
  have e8:8<=s->(if 8 < s then (8:Int) else s)=8:=fun h=>by split<;>omega
  rcases hcase with rfl | rfl | rfl | rfl | rfl | rfl | rfl | h
  all_goals first
   | (refine ⟨⟨by decide,by decide⟩,?_⟩
      rcases hk8 with rfl | rfl | rfl | rfl | rfl | rfl | rfl | rfl<;>decide)
   | (rw [e8 h]
      refine ⟨⟨by decide,by decide⟩,?_⟩
      rw [decide_eq_false (by omega)]
      rcases hk8 with rfl | rfl | rfl | rfl | rfl | rfl | rfl | rfl<;>decide)
 ·rw [if_neg c]
  refine ⟨⟨by decide,by decide⟩,?_⟩
  rw [Y1_ hk,decide_eq_true (by omega)]
theorem Ym_:∀ (m:List Int) (s:Int),(∀ z ∈ m,isB z)->(jg_ m s=true ↔ ∀ (i k:Nat),i < m.length->k < 8->tb (m.getD i 0) k=decide ((k:Int) < 8 - (s - 8*(i:Int))))
 | [],_,_=>⟨fun _ i k h=>absurd h (Nat.not_lt_zero _),fun _=>rfl⟩
 | x :: r,s,hb=>by
   have hx:=hb x (List.mem_cons_self ..)
   have ih:=Ym_ r (s - 8) fun z hz=>hb z (List.mem_cons_of_mem _ hz)
   have hc:x=Vv_ s ↔ ∀ k:Nat,k < 8->tb x k=decide ((k:Int) < 8 - s):=by
    constructor
    ·intro h k hk;rw [h];exact (x2_ hk).2
    ·intro h
     exact xr_ hx (x2_ (k:=0) (by decide)).1 fun k hk=>by rw [h k hk,(x2_ hk).2]
   unfold jg_
   by_cases c:x=Vv_ s
   ·rw [if_pos c,ih]
    constructor
    ·intro h i k hi hk
     cases i with
     | zero=>
       have:=hc.1 c k hk
       show tb x k=_
       rw [this];congr 1
       rw [show s - 8*((0:Nat):Int)=s by omega]
     | succ i=>
       have:=h i k (by rw [List.length_cons] at hi;omega) hk
       show tb (r.getD i 0) k=_
       rw [this];congr 1
       rw [show s - 8*((i+1:Nat):Int)=s - 8 - 8*(i:Int) by omega]
    ·intro h i k hi hk
     have:=h (i+1) k (by rw [List.length_cons];omega) hk
     have h9:tb (r.getD i 0) k=decide ((k:Int) < 8 - (s - 8*((i+1:Nat):Int))):=this
     rw [h9];congr 1
     rw [show s - 8*((i+1:Nat):Int)=s - 8 - 8*(i:Int) by omega]
   ·rw [if_neg c]
    constructor
    ·intro h;cases h
    ·intro h
     refine absurd (hc.2 fun k hk=>?_) c
     have:=h 0 k (by rw [List.length_cons];omega) hk
     have h9:tb x k=decide ((k:Int) < 8 - (s - 8*((0:Nat):Int))):=this
     rw [h9,show s - 8*((0:Nat):Int)=s by omega]
def wdO (o:OV):Int:=if o.1=32768 then kF_ o.2.1 else 8*(lnV o:Int)
def wF_ (o:OV) (i k:Nat):Prop:=8*((lnV o:Int) - 1 - i)+k < wdO o
structure RgB (o:OV):Prop where
 nh:o.2.2.1=false->o.2.2.2.2.2.1=[]
 ml:o.2.2.1=true->o.2.2.2.2.2.1.length=lnV o
 ins:o.2.2.1=true->∀ i k:Nat,i < lnV o->k < 8->tb (vB o i) k=true->tb (mB o i) k=true
 nf:o.2.2.1=true->∃ i k:Nat,i < lnV o/\k < 8/\wF_ o i k/\tb (mB o i) k=false
 spv:∀ i k:Nat,i < lnV o->k < 8->¬ wF_ o i k->tb (vB o i) k=false
 spm:o.2.2.1=true->∀ i k:Nat,i < lnV o->k < 8->¬ wF_ o i k->tb (mB o i) k=false
theorem GS_:∀ (v m:List Int),WT_ v m=false->∀ i:Nat,i < v.length->i < m.length->zo_ .andNot .u8 (v.getD i 0) (m.getD i 0)=0
 | [],_,_,i,h,_=>absurd h (Nat.not_lt_zero _)
 | _ :: _,[],_,i,_,h=>absurd h (Nat.not_lt_zero _)
 | x :: r,y :: l,h,i,h1,h2=>by
   unfold WT_ at h
   by_cases c:zo_ .andNot .u8 x y=0
   ·rw [if_pos c] at h
    cases i with
    | zero=>exact c
    | succ i=>exact GS_ r l h i (by rw [List.length_cons] at h1;omega) (by rw [List.length_cons] at h2;omega)
   ·rw [if_neg c] at h;cases h
theorem w1_ {f:Int} {v:List Int} (hv:∀ z ∈ v,isB z) (h:kX_ f v=true):fIs f=true/\(v.length:Int)=kR_ f/\∀ i k:Nat,i < v.length->k < 8->¬ (8*((v.length:Int) - 1 - i)+k < kF_ f)->tb (v.getD i 0) k=false:=by
 unfold kX_ at h
 split at h
 ·rename_i c
  obtain ⟨c1,c2⟩:=c
  have hf:fIs f=true:=kE_.2 c1
  have hs:=va_ f.toNat (by omega)
  rw [Int.toNat_of_nonneg c1.1] at hs
  have hb:kF_ f=Kh_.getD f.toNat 0:=by unfold kF_;rw [hf];rfl
  refine ⟨hf,c2,fun i k hi hk hn=>(xx_ v _ hs.2.2.1 hv).1 h i k hi hk ?_⟩
  rw [hb] at hn;omega
 ·cases h
theorem tOf {b:Bool} (h:b=false->False):b=true:=by cases b with | true=>rfl | false=>exact (h rfl).elim
theorem vB_ {o:OV} (h:o.2.2.1=true) (i:Nat):mB o i=o.2.2.2.2.2.1.getD i 0:=if_pos h
theorem br_ {o:OV} (h:o.2.2.1=false) (i:Nat):mB o i=255:=if_neg (by rw [h];decide)
theorem bK_ {o:OV} (hr:rgO o=true) (hb:Zd_ o):RgB o:=by
 obtain ⟨c,f,h,x,v,m,u⟩:=o
 have hv:∀ z ∈ v,isB z:=hb.2.1
 have hm:∀ z ∈ m,isB z:=hb.2.2
 have hr':qK_ c f h x v m=true:=hr
 unfold qK_ at hr'
 simp only [Bool.and_eq_true,Bool.or_eq_true,decide_eq_true_eq] at hr'
 obtain ⟨⟨⟨⟨⟨⟨a1,a2⟩,a3⟩,a4⟩,a5⟩,a6⟩,a7⟩:=hr'
 have hml:h=true->m.length=v.length:=fun e=>by subst e;exact (by have:=of_decide_eq_true a5;omega)
 have hnh:h=false->m=[]:=fun e=>by subst e;exact List.eq_nil_of_length_eq_zero (of_decide_eq_true a5)
 unfold wt_ at a7
 by_cases b1:Zb_ c=false/\kX_ f v=false
 ·rw [if_pos b1] at a7;omega
 rw [if_neg b1] at a7
 by_cases b2:h=true/\Zb_ c=false/\kX_ f m=false
 ·rw [if_pos b2] at a7;omega
 rw [if_neg b2] at a7
 by_cases b3:h=true/\(Va_ m=true\/x6_ m (if Zb_ c=true then ((m.length:Int)*8) else QE_ c f)=true)
 ·rw [if_pos b3] at a7;omega
 rw [if_neg b3] at a7
 by_cases b4:h=true/\WT_ v m=true
 ·rw [if_pos b4] at a7;omega
 have hW:(Zb_ c=true/\wdO (c,f,h,x,v,m,u)=8*(v.length:Int))\/(Zb_ c=false/\wdO (c,f,h,x,v,m,u)=kF_ f/\kX_ f v=true):=by
  unfold Zb_ wdO
  by_cases e:c=65535
  ·left
   refine ⟨decide_eq_true e,if_neg ?_⟩
   show ¬ c=32768;omega
  ·right
   have e2:c=32768:=by
    unfold VJ_ at a1
    rw [if_neg e,Bool.and_eq_true,decide_eq_true_eq] at a1
    exact a1.2
   refine ⟨decide_eq_false e,if_pos e2,?_⟩
   have:Zb_ c=false:=decide_eq_false e
   exact tOf fun c=>b1 ⟨this,c⟩
 refine ⟨hnh,hml,fun hh i k hi hk ht=>?_,fun hh=>?_,fun i k hi hk hn=>?_,fun hh i k hi hk hn=>?_⟩
 ·have hh':h=true:=hh
  have hno:WT_ v m=false:=Bool.eq_false_iff.2 fun c=>b4 ⟨hh',c⟩
  have h0:=GS_ v m hno i hi (by rw [hml hh'];exact hi)
  have h1:=(kx_ (Z1_ _ _ _ (.inr (.inr (.inr rfl))))).1 h0 k hk
  rw [wu_ (g3_ hv i) (g3_ hm i)] at h1
  rw [vB_ hh]
  have ht':tb (v.getD i 0) k=true:=ht
  rw [ht',Bool.true_and,Bool.not_eq_false'] at h1
  exact h1
 ·have hh':h=true:=hh
  have hlen:=hml hh'
  have hno:¬ x6_ m (if Zb_ c=true then ((m.length:Int)*8) else QE_ c f)=true:=fun e=>b3 ⟨hh',.inr e⟩
  unfold x6_ at hno
  rw [Ym_ m _ hm] at hno
  apply Classical.byContradiction
  intro hex
  refine hno fun i k hi hk=>?_
  have hi':i < lnV (c,f,h,x,v,m,u):=by show i < v.length;omega
  by_cases ho:wF_ (c,f,h,x,v,m,u) i k
  ·have hmt:tb (m.getD i 0) k=true:=by
    refine tOf fun hf=>?_
    exact hex ⟨i,k,hi',hk,ho,by rw [vB_ hh];exact hf⟩
   rw [hmt]
   refine (decide_eq_true ?_).symm
   unfold wF_ at ho
   have hl:(lnV (c,f,h,x,v,m,u):Int)=v.length:=rfl
   rw [hl] at ho
   rcases hW with ⟨w1,w2⟩ | ⟨w1,w2,_⟩
   ·rw [if_pos w1];omega
   ·rw [w2] at ho
    rw [if_neg (by rw [w1];decide)]
    unfold QE_
    rw [if_neg (of_decide_eq_false w1)];omega
  ·rcases hW with ⟨w1,w2⟩ | ⟨w1,w2,_⟩
   ·unfold wF_ at ho
    have hl:(lnV (c,f,h,x,v,m,u):Int)=v.length:=rfl
    rw [hl,w2] at ho
    omega
   ·have hfm:kX_ f m=true:=tOf fun e=>b2 ⟨hh',w1,e⟩
    have h5:=(w1_ hm hfm).2.2 i k hi hk (by
     unfold wF_ at ho
     have hl:(lnV (c,f,h,x,v,m,u):Int)=v.length:=rfl
     rw [hl,w2] at ho;omega)
    rw [h5]
    refine (decide_eq_false ?_).symm
    unfold wF_ at ho
    have hl:(lnV (c,f,h,x,v,m,u):Int)=v.length:=rfl
    rw [hl,w2] at ho
    rw [if_neg (by rw [w1];decide)]
    unfold QE_
    rw [if_neg (of_decide_eq_false w1)];omega
 ·have hl:(lnV (c,f,h,x,v,m,u):Int)=v.length:=rfl
  unfold wF_ at hn
  rw [hl] at hn
  have hi':i < v.length:=hi
  rcases hW with ⟨w1,w2⟩ | ⟨w1,w2,w3⟩
  ·rw [w2] at hn;omega
  ·rw [w2] at hn
   exact (w1_ hv w3).2.2 i k hi' hk hn
 ·have hh':h=true:=hh
  have hl:(lnV (c,f,h,x,v,m,u):Int)=v.length:=rfl
  unfold wF_ at hn
  rw [hl] at hn
  have hi':i < v.length:=hi
  have hlen:=hml hh'
  rw [vB_ hh]
  rcases hW with ⟨w1,w2⟩ | ⟨w1,w2,w3⟩
  ·rw [w2] at hn;omega
  ·rw [w2] at hn
   have hfm:kX_ f m=true:=tOf fun e=>b2 ⟨hh',w1,e⟩
   exact (w1_ hm hfm).2.2 i k (by omega) hk (by omega)
def JS_ (left:Int):Int:=if left < 8 then 2 ^ (if left < 0 then 0 else left).toNat - 1 else 255
theorem Kb_ {s:Int} {k:Nat} (hk:k < 8):isB (JS_ s)/\tb (JS_ s) k=decide ((k:Int) < s):=by
 unfold JS_
 by_cases c:s < 8
 ·rw [if_pos c]
  have hcase:s < 0\/s=0\/s=1\/s=2\/s=3\/s=4\/s=5\/s=6\/s=7:=by omega
  rw [bC_]
  refine ⟨?_,?_⟩
  ·rcases hcase with h | rfl | rfl | rfl | rfl | rfl | rfl | rfl | rfl
   ·rw [if_pos h];exact ⟨by decide,by decide⟩
   all_goals exact ⟨by decide,by decide⟩
  ·by_cases h:s < 0
   ·rw [if_pos h,decide_eq_false (by omega),decide_eq_false (by omega)]
   ·rw [if_neg h]
    by_cases h2:(k:Int) < s
    ·rw [decide_eq_true h2,decide_eq_true (by omega)]
    ·rw [decide_eq_false h2,decide_eq_false (by omega)]
 ·rw [if_neg c,Y1_ hk,decide_eq_true (by omega)]
  exact ⟨⟨by decide,by decide⟩,rfl⟩
def wdM (c f:Int) (n:Nat):Int:=if c=32768/\fIs f=true then kF_ f else 8*(n:Int)
def Wx_ (c f:Int) (ms:List Int):Bool:=(List.range ms.length).all fun i=>decide (zo_ .and .u8 (ms.getD i 0) (JS_ (wdM c f ms.length - 8*((ms.length:Int) - 1 - i)))=JS_ (wdM c f ms.length - 8*((ms.length:Int) - 1 - i)))
theorem hv_ {c f:Int} {ms:List Int} (hm:∀ z ∈ ms,isB z):Wx_ c f ms=true ↔ ∀ i k:Nat,i < ms.length->k < 8->8*((ms.length:Int) - 1 - i)+k < wdM c f ms.length->tb (ms.getD i 0) k=true:=by
 unfold Wx_
 rw [List.all_eq_true]
 constructor
 ·intro h i k hi hk ho
  have h1:=of_decide_eq_true (h i (List.mem_range.2 hi))
  have h2:tb (zo_ .and .u8 (ms.getD i 0) (JS_ (wdM c f ms.length - 8*((ms.length:Int) - 1 - i)))) k=tb (JS_ (wdM c f ms.length - 8*((ms.length:Int) - 1 - i))) k:=by rw [h1]
  rw [K9_ (g3_ hm i) (Kb_ hk).1,(Kb_ hk).2,decide_eq_true (by omega),Bool.and_true] at h2
  exact h2
 ·intro h i hi
  refine decide_eq_true (xr_ (Z1_ _ _ _ (.inl rfl)) (Kb_ (k:=0) (by decide)).1 fun k hk=>?_)
  rw [K9_ (g3_ hm i) (Kb_ (k:=0) (by decide)).1,(Kb_ hk).2]
  by_cases ho:(k:Int) < wdM c f ms.length - 8*((ms.length:Int) - 1 - i)
  ·rw [decide_eq_true ho,h i k (List.mem_range.1 hi) hk (by omega)];rfl
  ·rw [decide_eq_false ho,Bool.and_false]
def orV (a b:OV):List Int:=(List.range (lnV a)).map fun i=>zo_ .or .u8 (vB a i) (vB b i)
def orM (a b:OV):List Int:=(List.range (lnV a)).map fun i=>zo_ .or .u8 (mB a i) (mB b i)
def ue_ (a b:OV):Bool:=a.2.2.1 && b.2.2.1 && !Wx_ a.1 a.2.1 (orM a b)
def kZ_ (a b:OV):OV:=(a.1,a.2.1,ue_ a b,a.2.2.2.1,orV a b,if ue_ a b=true then orM a b else [],())
theorem JM_ {g:Nat->Int} {n i:Nat} (h:i < n):((List.range n).map g).getD i 0=g i:=by
 rw [List.getD_eq_getElem?_getD,List.getElem?_map,List.getElem?_range h];rfl
theorem hQ_ (a b:OV):lnV (kZ_ a b)=lnV a:=by unfold lnV kZ_ orV;rw [List.length_map,List.length_range];rfl
theorem jM_ (a b:OV):(orM a b).length=lnV a:=by unfold orM;rw [List.length_map,List.length_range]
theorem Bq_ (a b:OV):∀ z ∈ orM a b,isB z:=fun z hz=>by
 obtain ⟨i,_,rfl⟩:=List.mem_map.1 hz
 exact Z1_ _ _ _ (.inr (.inl rfl))
structure Pair (a b:OV):Prop where
 ra:RgB a
 rb:RgB b
 ba:Zd_ a
 bb:Zd_ b
 al:alO a b=true
 ln:lnV a=lnV b
 oa:a.1=32768->fIs a.2.1=true
 cl:∀ i k:Nat,i < lnV a->k < 8->tb (mB a i) k=true->tb (mB b i) k=true->tb (vB a i) k=tb (vB b i) k
theorem Pair.wd {a b:OV} (P:Pair a b):wdO a=wdO b:=by
 obtain ⟨h1,h2,_⟩:=(ko_ _ _).1 P.al
 unfold wdO;rw [h1,h2,P.ln]
theorem Pair.own {a b:OV} (P:Pair a b) (i k:Nat):wF_ a i k ↔ wF_ b i k:=by unfold wF_;rw [P.wd,P.ln]
theorem Pair.wm {a b:OV} (P:Pair a b):wdM a.1 a.2.1 (lnV a)=wdO a:=by
 unfold wdM wdO
 by_cases h:a.1=32768
 ·rw [if_pos h,if_pos ⟨h,P.oa h⟩]
 ·rw [if_neg h,if_neg fun c=>h c.1]
theorem Bo_ {o:OV} (R:RgB o) {i k:Nat} (hi:i < lnV o) (hk:k < 8) (h:tb (mB o i) k=false):tb (vB o i) k=false:=by
 cases hh:o.2.2.1 with
 | false=>rw [br_ hh,Y1_ hk] at h;cases h
 | true=>
   cases hv:tb (vB o i) k with
   | false=>rfl
   | true=>rw [R.ins hh i k hi hk hv] at h;cases h
theorem jz_ {a b c:OV} (h1:alO a b=true) (h2:alO b c=true):alO a c=true:=by
 rw [ko_] at*
 exact ⟨h1.1.trans h2.1,h1.2.1.trans h2.2.1,h1.2.2.trans h2.2.2⟩
theorem jA_ {a b:OV} (h:alO a b=true):alO b a=true:=by
 rw [ko_] at*
 exact ⟨h.1.symm,h.2.1.symm,h.2.2.symm⟩
theorem Bb_ (a:OV):alO a a=true:=(ko_ a a).2 ⟨rfl,rfl,rfl⟩
theorem hR_ {a b:OV} (ra:RgB a) (rb:RgB b) (ba:Zd_ a) (bb:Zd_ b) (oa:a.1=32768->fIs a.2.1=true) (h:zH_ a b=true):kZ_ a b=a:=by
 obtain ⟨h1,h2,h3⟩:=(Zx_ ba bb).1 h
 have P:Pair a b:=⟨ra,rb,ba,bb,h1,h2,oa,fun i k hi hk _ hm=>(h3 i k hi hk hm).2⟩
 have ev:orV a b=a.2.2.2.2.1:=by
  refine b2_ 0 (by unfold orV lnV;rw [List.length_map,List.length_range]) fun i hi=>?_
  have hi':i < lnV a:=by unfold orV at hi;rwa [List.length_map,List.length_range] at hi
  unfold orV
  rw [JM_ hi']
  refine xr_ (Z1_ _ _ _ (.inr (.inl rfl))) (vb ba i) fun k hk=>?_
  rw [bn_ (vb ba i) (vb bb i)]
  cases hm:tb (mB b i) k with
  | true=>rw [<- (h3 i k hi' hk hm).2,Bool.or_self];rfl
  | false=>rw [Bo_ rb (by rw [<- h2];exact hi') hk hm,Bool.or_false];rfl
 have em:∀ i:Nat,i < lnV a->zo_ .or .u8 (mB a i) (mB b i)=mB a i:=fun i hi=>by
  refine xr_ (Z1_ _ _ _ (.inr (.inl rfl))) (mb ba i) fun k hk=>?_
  rw [bn_ (mb ba i) (mb bb i)]
  cases hm:tb (mB b i) k with
  | true=>rw [(h3 i k hi hk hm).1];rfl
  | false=>rw [Bool.or_false]
 have eo:a.2.2.1=true->orM a b=a.2.2.2.2.2.1:=fun hh=>by
  refine b2_ 0 (by rw [jM_,ra.ml hh]) fun i hi=>?_
  rw [jM_] at hi
  unfold orM
  rw [JM_ hi,em i hi,vB_ hh]
 have eh:ue_ a b=a.2.2.1:=by
  unfold ue_
  cases hh:a.2.2.1 with
  | false=>rfl
  | true=>
    obtain ⟨i,k,hi,hk,ho,hf⟩:=ra.nf hh
    have hb2:b.2.2.1=true:=by
     cases hb2:b.2.2.1 with
     | true=>rfl
     | false=>
       have:=(h3 i k hi hk (by rw [br_ (o:=b) hb2,Y1_ hk])).1
       rw [this] at hf;cases hf
    rw [hb2,Bool.true_and,Bool.true_and,Bool.not_eq_true',<- Bool.not_eq_true]
    intro hfull
    have:=(hv_ (Bq_ a b)).1 hfull i k (by rw [jM_];exact hi) hk (by rw [jM_,P.wm];exact ho)
    unfold orM at this
    rw [JM_ hi,em i hi] at this
    rw [this] at hf;cases hf
 obtain ⟨c,f,hh,x,v,m,u⟩:=a
 unfold kZ_
 rw [eh,ev]
 cases hh with
 | true=>
   rw [if_pos rfl,eo rfl]
 | false=>
   have:=ra.nh rfl
   have hm:m=[]:=this
   subst hm;rfl
def v2_ (l p:List OV):Bool:=l.all fun o=>p.any fun x=>Zr_ o x
def Zp_ (a b:List OV):Bool:=a.any fun x=>b.any fun y=>zE_ x y
def Zm_ (a b:List OV):Bool:=b.all fun y=>a.any fun x=>zH_ x y
def mgO (b:List OV) (o:OV):OV:=match b.find? (fun y=>alO o y) with | some y=>kZ_ o y | none=>o
def mrg (a b:List OV):List OV:=a.map (mgO b)++b.filter fun y=>!a.any fun x=>alO x y
def Sep (l:List OV):Prop:=l.Pairwise fun x y=>alO x y=false
theorem vb_ {l:List OV} (h:Sep l) {x y:OV} (hx:x ∈ l) (hy:y ∈ l) (e:alO x y=true):x=y:=by
 obtain ⟨i,hi,rfl⟩:=List.mem_iff_getElem.1 hx
 obtain ⟨j,hj,rfl⟩:=List.mem_iff_getElem.1 hy
 have hp:=List.pairwise_iff_getElem.1 h
 by_cases c:i=j
 ·subst c;rfl
 ·by_cases c2:i < j
  ·rw [hp i j hi hj c2] at e;cases e
  ·have:=hp j i hj hi (by omega)
   rw [uz_ this] at e;cases e
structure Mt (l:List OV):Prop where
 rg:∀ o ∈ l,RgB o
 by':∀ o ∈ l,Zd_ o
 ok:∀ o ∈ l,o.1=32768->fIs o.2.1=true
 sp:Sep l
theorem Xk_ {l:List OV} (h:rgM l=true) (hb:∀ o ∈ l,Zd_ o):Mt l:=by
 unfold rgM at h
 rw [Bool.and_eq_true,Bool.and_eq_true,decide_eq_true_eq,List.all_eq_true] at h
 refine ⟨fun o ho=>bK_ (h.1.1 o ho) (hb o ho),hb,fun o ho hc=>?_,YE_ (d:=(0,0,false,0,[],[],())) ((vT_ _ l).1 h.1.2)⟩
 have h1:=h.1.1 o ho
 unfold rgO qK_ at h1
 simp only [Bool.and_eq_true] at h1
 have h2:=h1.1.1.1.1.1.1
 unfold VJ_ at h2
 rw [if_neg (by omega),Bool.and_eq_true] at h2
 exact h2.1
theorem H8_ {a b:List OV} (ha:Mt a) (hb:Mt b) (hap:Zp_ a b=false) {x y:OV} (hx:x ∈ a) (hy:y ∈ b) (hal:alO x y=true):Pair x y:=by
 have h1:zE_ x y=false:=by
  unfold Zp_ at hap
  rw [List.any_eq_false] at hap
  have:=hap x hx
  rw [Bool.not_eq_true,List.any_eq_false] at this
  exact Bool.eq_false_iff.2 (this y hy)
 obtain ⟨h2,h3⟩:=(Kf_ (ha.by' x hx) (hb.by' y hy)).1 h1 hal
 exact ⟨ha.rg x hx,hb.rg y hy,ha.by' x hx,hb.by' y hy,hal,h2,ha.ok x hx,h3⟩
theorem J4_ {b:List OV} {o y:OV} (hb:Sep b) (hy:y ∈ b) (h:alO o y=true):mgO b o=kZ_ o y:=by
 unfold mgO
 cases e:b.find? (fun y=>alO o y) with
 | none=>
   rw [List.find?_eq_none] at e
   exact absurd h (e y hy)
 | some z=>
   have h1:=List.find?_some e
   have h2:=List.mem_of_find?_eq_some e
   have:z=y:=vb_ hb h2 hy (jz_ (jA_ h1) h)
   rw [this]
theorem J5_ {b:List OV} {o:OV} (h:∀ y ∈ b,alO o y=false):mgO b o=o:=by
 unfold mgO
 rw [List.find?_eq_none.2 fun y hy=>by rw [h y hy];decide]
theorem vz_ {a b:List OV} (hb:Sep b) (z:OV):z ∈ mrg a b ↔ (∃ x ∈ a,∃ y ∈ b,alO x y=true/\z=kZ_ x y)\/(z ∈ a/\∀ y ∈ b,alO z y=false)\/(z ∈ b/\∀ x ∈ a,alO x z=false):=by
 unfold mrg
 rw [List.mem_append,List.mem_map,List.mem_filter]
 constructor
 ·rintro (⟨x,hx,rfl⟩ | ⟨h1,h2⟩)
  ·by_cases c:∃ y ∈ b,alO x y=true
   ·obtain ⟨y,hy,h⟩:=c
    exact .inl ⟨x,hx,y,hy,h,J4_ hb hy h⟩
   ·have hn:∀ y ∈ b,alO x y=false:=fun y hy=>Bool.eq_false_iff.2 fun h=>c ⟨y,hy,h⟩
    rw [J5_ hn];exact .inr (.inl ⟨hx,hn⟩)
  ·rw [Bool.not_eq_true',List.any_eq_false] at h2
   exact .inr (.inr ⟨h1,fun x hx=>Bool.eq_false_iff.2 (h2 x hx)⟩)
 ·rintro (⟨x,hx,y,hy,h,rfl⟩ | ⟨h1,h2⟩ | ⟨h1,h2⟩)
  ·exact .inl ⟨x,hx,J4_ hb hy h⟩
  ·exact .inl ⟨z,h1,J5_ h2⟩
  ·exact .inr ⟨h1,by rw [Bool.not_eq_true',List.any_eq_false];exact fun x hx=>by rw [h2 x hx];decide⟩
theorem XQ_ {a b:OV} (ha:Zd_ a) (hb:Zd_ b):zE_ a b=zE_ b a:=by
 have key:∀ {a b:OV},Zd_ a->Zd_ b->zE_ a b=false->zE_ b a=false:=fun {a b} ha hb h=>by
  rw [Kf_ ha hb] at h
  rw [Kf_ hb ha]
  intro hal
  obtain ⟨h1,h2⟩:=h (jA_ hal)
  exact ⟨h1.symm,fun i k hi hk q1 q2=>(h2 i k (by rw [h1];exact hi) hk q2 q1).symm⟩
 cases h:zE_ a b with
 | false=>exact (key ha hb h).symm
 | true=>
   cases h2:zE_ b a with
   | true=>rfl
   | false=>rw [key hb ha h2] at h;cases h
theorem UA_ {a b:List OV} (ha:∀ o ∈ a,Zd_ o) (hb:∀ o ∈ b,Zd_ o):Zp_ a b=Zp_ b a:=by
 rw [Bool.eq_iff_iff]
 unfold Zp_
 simp only [List.any_eq_true]
 constructor
 ·rintro ⟨x,hx,y,hy,h⟩;exact ⟨y,hy,x,hx,by rw [XQ_ (hb y hy) (ha x hx)];exact h⟩
 ·rintro ⟨y,hy,x,hx,h⟩;exact ⟨x,hx,y,hy,by rw [XQ_ (ha x hx) (hb y hy)];exact h⟩
theorem b5_ {a:OV} (ha:Zd_ a):zH_ a a=true:=(Zx_ ha ha).2 ⟨Bb_ a,rfl,fun i k _ _ h=>⟨h,rfl⟩⟩
theorem b4_ {a b c:OV} (ha:Zd_ a) (hb:Zd_ b) (hc:Zd_ c) (h1:zH_ a b=true) (h2:zH_ b c=true):zH_ a c=true:=by
 obtain ⟨p1,p2,p3⟩:=(Zx_ ha hb).1 h1
 obtain ⟨q1,q2,q3⟩:=(Zx_ hb hc).1 h2
 refine (Zx_ ha hc).2 ⟨jz_ p1 q1,p2.trans q2,fun i k hi hk h=>?_⟩
 obtain ⟨r1,r2⟩:=q3 i k (by rw [<- p2];exact hi) hk h
 obtain ⟨r3,r4⟩:=p3 i k hi hk r1
 exact ⟨r3,r4.trans r2⟩
theorem Kl_ {a b:List OV}:Zm_ a b=true ↔ ∀ y ∈ b,∃ x ∈ a,zH_ x y=true:=by
 unfold Zm_
 simp only [List.all_eq_true,List.any_eq_true]
theorem gv_ {a:List OV} (ha:∀ o ∈ a,Zd_ o):Zm_ a a=true:=Kl_.2 fun y hy=>⟨y,hy,b5_ (ha y hy)⟩
theorem gu_ {a b c:List OV} (ha:∀ o ∈ a,Zd_ o) (hb:∀ o ∈ b,Zd_ o) (hc:∀ o ∈ c,Zd_ o) (h1:Zm_ a b=true) (h2:Zm_ b c=true):Zm_ a c=true:=by
 rw [Kl_] at*
 intro z hz
 obtain ⟨y,hy,q⟩:=h2 z hz
 obtain ⟨x,hx,p⟩:=h1 y hy
 exact ⟨x,hx,b4_ (ha x hx) (hb y hy) (hc z hz) p q⟩
theorem UB_ {a:List OV} (ha:Mt a):Zp_ a a=false:=by
 unfold Zp_
 rw [List.any_eq_false]
 intro x hx
 rw [Bool.not_eq_true,List.any_eq_false]
 intro y hy
 rw [Bool.not_eq_true,Kf_ (ha.by' x hx) (ha.by' y hy)]
 intro hal
 have:=vb_ ha.sp hx hy hal
 subst this
 exact ⟨rfl,fun _ _ _ _ _ _=>rfl⟩
theorem YV_ {a b:List OV} (ha:Mt a) (hb:Mt b) (h:Zm_ a b=true):Zp_ a b=false:=by
 rw [Kl_] at h
 unfold Zp_
 rw [List.any_eq_false]
 intro x hx
 rw [Bool.not_eq_true,List.any_eq_false]
 intro y hy
 rw [Bool.not_eq_true,Kf_ (ha.by' x hx) (hb.by' y hy)]
 intro hal
 obtain ⟨x',hx',hc⟩:=h y hy
 obtain ⟨q1,q2,q3⟩:=(Zx_ (ha.by' x' hx') (hb.by' y hy)).1 hc
 have e:x'=x:=vb_ ha.sp hx' hx (jz_ q1 (jA_ hal))
 subst e
 exact ⟨q2,fun i k hi hk _ h2=>(q3 i k hi hk h2).2⟩
theorem uH_ {a b:List OV} (ha:Mt a) (hb:Mt b) (h:Zm_ a b=true):mrg a b=a:=by
 rw [Kl_] at h
 unfold mrg
 have e1:a.map (mgO b)=a:=by
  conv=>rhs;rw [<- List.map_id a]
  refine List.map_congr_left fun o ho=>?_
  by_cases c:∃ y ∈ b,alO o y=true
  ·obtain ⟨y,hy,hal⟩:=c
   obtain ⟨x',hx',hc⟩:=h y hy
   have q1:=((Zx_ (ha.by' x' hx') (hb.by' y hy)).1 hc).1
   have e:x'=o:=vb_ ha.sp hx' ho (jz_ q1 (jA_ hal))
   subst e
   rw [J4_ hb.sp hy hal]
   exact hR_ (ha.rg _ ho) (hb.rg y hy) (ha.by' _ ho) (hb.by' y hy) (ha.ok _ ho) hc
  ·exact J5_ fun y hy=>Bool.eq_false_iff.2 fun h=>c ⟨y,hy,h⟩
 have e2:b.filter (fun y=>!a.any fun x=>alO x y)=[]:=by
  refine List.filter_eq_nil_iff.2 fun y hy=>?_
  obtain ⟨x',hx',hc⟩:=h y hy
  have q1:=((Zx_ (ha.by' x' hx') (hb.by' y hy)).1 hc).1
  rw [List.any_eq_true.2 ⟨x',hx',q1⟩];decide
 rw [e1,e2,List.append_nil]
structure Pkt (p:List OV):Prop where
 rg:∀ o ∈ p,RgB o
 by':∀ o ∈ p,Zd_ o
 sp:Sep p
theorem gA_ {l m:List Int} (h:l.Perm m):l.sum=m.sum:=by
 induction h with
 | nil=>rfl
 | cons x _ ih=>rw [List.sum_cons,List.sum_cons,ih]
 | swap x y l=>simp only [List.sum_cons];omega
 | trans _ _ ih1 ih2=>exact ih1.trans ih2
theorem u8_ {l m:List OV} (h:l.Perm m):J8_ l=J8_ m:=by unfold J8_;rw [gA_ (h.map szO)]
theorem gY_ {l:List OV} (h:rgM l=true):rgM (isG ltO l)=true:=by
 unfold rgM at h ⊢
 rw [Bool.and_eq_true,Bool.and_eq_true,decide_eq_true_eq,decide_eq_true_eq,List.all_eq_true] at h ⊢
 obtain ⟨⟨h1,h2⟩,h3⟩:=h
 refine ⟨⟨fun o ho=>h1 o (xg_.1 ho),(H4_ h2).2.1⟩,?_⟩
 have hp:J8_ (isG ltO l)=J8_ l:=u8_ (wb_ l)
 rw [hp];exact h3
theorem hu_ {l:List Int} {i:Nat} (h:l.length<=i):l.getD i 0=0:=by rw [List.getD_eq_getElem?_getD,List.getElem?_eq_none h];rfl
theorem Wb_ {g:Nat->Bool} {i:Nat} (h:(List.range i).all g=true) (k:g i=true):(List.range (i+1)).all g=true:=by
 rw [List.range_succ,List.all_append,h,List.all_cons,k];rfl
theorem v1_ {g:Nat->Bool} {i n:Nat} (h:i < n) (k:g i=false):(List.range n).all g=false:=by
 rw [List.all_eq_false]
 exact ⟨i,List.mem_range.2 h,by rw [k];decide⟩
def tkA (o x:OV) (i:Nat):Bool:=decide (zo_ .and .u8 (zo_ .xor .u8 (vB o i) (vB x i)) (mB o i)=0)
def clA (a b:OV) (i:Nat):Bool:=decide (zo_ .and .u8 (zo_ .and .u8 (zo_ .xor .u8 (vB a i) (vB b i)) (mB a i)) (mB b i)=0)
def cvA (a b:OV) (i:Nat):Bool:=decide (zo_ .andNot .u8 (mB b i) (mB a i)=0) && decide (zo_ .and .u8 (zo_ .xor .u8 (vB a i) (vB b i)) (mB b i)=0)
def W3_:IR:=
(sq (kr [0,1] [oD 2 (.boxv 0),
oD 4 (.mov (.c (.int .u8 0)))])
(sq (.block 0
(sq (.reg [oA 6 2 2,
oL 7 6,
oD 8 (.un .not 7),
oM 5 8])
(.cond 5
(sq (kr [] [oD 4 (.mov (.c (.int .u8 255)))])
.ret)
(sq (kr [1,2] [oM 10 1,
oA 11 5 2,
oL 12 11,
oE 13 12,
oB 14 .lss 10 13,
oM 9 14])
(.cond 9
(sq (kr [1,2] [oA 15 5 2,
oL 16 15,
oM 17 1,
oI 18 1 16 17,
oL 19 18,
oM 4 19])
.ret)
.skip)))))
(sq (kr [] [oD 4 (.mov (.c (.int .u8 0)))])
.ret)))
def WQ_:List RD:=[.tmp 4 true none]
theorem WX_:zm_ Tryd.prog Tryd.f41 W3_ WQ_=true:=by kernel_rfl
def Zv_:List AV->List Obj->Option (Prop × AV)
 | [.agg [.int .i64 c,.int .i64 f,.bool h,.int .u64 x,.imm (.int .u8) v,.imm (.int .u8) m],.int .i64 i],[]=>some ((0<=i,.int .u8 (mB (c,f,h,x,v,m,()) i.toNat)))
 | _,_=>none
theorem qa_:zf_ Tryd.prog 41 (RoF Zv_).sum:=by
 refine zi_ Tryd.func41 WX_ (ze_ _) fun args objs p v e=>?_
 unfold Zv_ at e
 split at e
 ·rename_i c f h x v m i
  cases e
  refine ⟨rfl,fun hw ho hp=>?_⟩
  change List Int at v
  change List Int at m
  clear hw ho
  obtain ⟨i,rfl⟩:=Int.eq_ofNat_of_zero_le hp
  cases h
  ·have e:mB (c,f,false,x,v,m,()) i=255:=rfl
   simp only [Int.toNat_natCast,e]
   repeat'(intro t ht;first|(cases t<;>first|(cases ht;done)|(try simp only[zg_]at ht;try(exfalso;first|contradiction|omega)))|((first|refine za_ ht ?_|refine ht ?_ ?_|refine ht.1 ?_ ?_|refine ht ?_)<;>clear ht))
   all_goals first
    | exact True.intro
    | exact ⟨rfl,by first | rfl | exact True.intro⟩
  ·have e:mB (c,f,true,x,v,m,()) i=m.getD i 0:=rfl
   have e2:=fun h:m.length<=i=>hu_ h
   simp only [Int.toNat_natCast,e]
   repeat'(intro t ht;first|(cases t<;>first|(cases ht;done)|(try simp only[zg_]at ht;try(exfalso;first|contradiction|omega)))|((first|refine za_ ht ?_|refine ht ?_ ?_|refine ht.1 ?_ ?_|refine ht ?_)<;>clear ht))
   all_goals first
    | exact True.intro
    | omega
    | (constructor<;>omega)
    | exact ⟨rfl,by first | rfl | exact True.intro⟩
    | (rw [e2 (by omega)];exact ⟨rfl,by first | rfl | exact True.intro⟩)
 ·cases e
def wS_:IR:=
(sq (kr [0,1,2] [oD 4 (.mov cF)])
(sq (kd [0,1,2] [(oA 5 4 1,[]),
(oL 6 5,[]),
(oM 7 0,[0,0]),
(oI 8 1 6 7,[]),
(oL 9 8,[]),
(oA 10 4 2,[0,0,0,0,0]),
(oL 11 10,[1,0,0,0,0]),
(oM 12 0,[0,0,0,0,0,0,0]),
(oI 13 1 11 12,[3,0,0,0,0]),
(oL 14 13,[4,0,0,0,0]),
(oB 15 .xor 9 14,[]),
(oK 16 6 1,[0,0,0,0,0,0,0,0,0,0,0]),
(oM 17 0,[0,0,0,0,0,0,0,0,0,0,0,0]),
(oC 18 41 [16,17],[2,0,0,0,0,0,0,0,0,0,0]),
(oB 19 .and 15 18,[]),
(oB 20 .eql 19 (.c (.int .u8 0)),[]),
(oM 4 20,[])])
.ret))
def wA_:List RD:=[.tmp 4 true none]
theorem wJ_:zm_ Tryd.prog Tryd.f59 wS_ wA_=true:=by kernel_rfl
def qF_:List AV->List Obj->Option (Prop × AV)
 | [.int .i64 i,.ptr 0 0,.ptr 1 0],[.box [.int .i64 c,.int .i64 f,.bool h,.int .u64 x,.imm (.int .u8) v,.imm (.int .u8) m],.box [.int .i64 c',.int .i64 f',.bool h',.int .u64 x',.imm (.int .u8) v',.imm (.int .u8) m']]=>some ((0<=i/\i < v.length/\i < v'.length,.bool (tkA (c,f,h,x,v,m,()) (c',f',h',x',v',m',()) i.toNat)))
 | _,_=>none
theorem kO_:zf_ Tryd.prog 59 (RoF qF_).sum:=by
 refine zi_ Tryd.func59 wJ_ (zb_ (s:=RoF Zv_) qa_ (ze_ _)) fun args objs p v e=>?_
 unfold qF_ at e
 split at e
 ·rename_i i c f h x v m c' f' h' x' v' m'
  cases e
  refine ⟨rfl,fun hw ho hp=>?_⟩
  change List Int at v
  change List Int at m
  change List Int at v'
  change List Int at m'
  clear hw ho
  obtain ⟨h1,h2,h3⟩:=hp
  repeat'(intro t ht;first|(cases t<;>first|(cases ht;done)|(try simp only[zg_]at ht;try(exfalso;first|contradiction|omega)))|((first|refine za_ ht ?_|refine ht ?_ ?_|refine ht.1 ?_ ?_|refine ht ?_)<;>clear ht))
  all_goals first
   | exact True.intro
   | omega
   | (constructor<;>omega)
   | exact ⟨rfl,by first | rfl | exact True.intro⟩
 ·cases e
def wT_:IR:=
(sq (kr [0,1,2] [oD 4 (.mov cF)])
(sq (kd [0,1,2] [(oA 5 4 1,[]),
(oL 6 5,[]),
(oM 7 0,[0,0]),
(oI 8 1 6 7,[]),
(oL 9 8,[]),
(oA 10 4 2,[0,0,0,0,0]),
(oL 11 10,[1,0,0,0,0]),
(oM 12 0,[0,0,0,0,0,0,0]),
(oI 13 1 11 12,[3,0,0,0,0]),
(oL 14 13,[4,0,0,0,0]),
(oB 15 .xor 9 14,[]),
(oK 16 6 1,[0,0,0,0,0,0,0,0,0,0,0]),
(oM 17 0,[0,0,0,0,0,0,0,0,0,0,0,0]),
(oC 18 41 [16,17],[2,0,0,0,0,0,0,0,0,0,0]),
(oB 19 .and 15 18,[]),
(oK 20 6 2,[0,0,0,0,0,0,0,0,0,0,0,0,0,0,0]),
(oM 21 0,[0,0,0,0,0,0,0,0,0,0,0,0,0,0,0,0]),
(oC 22 41 [20,21],[2,3,0,0,0,0,0,0,0,0,0,0]),
(oB 23 .and 19 22,[]),
(oB 24 .eql 23 (.c (.int .u8 0)),[]),
(oM 4 24,[])])
.ret))
def wB_:List RD:=[.tmp 4 true none]
theorem wK_:zm_ Tryd.prog Tryd.f42 wT_ wB_=true:=by kernel_rfl
def qG_:List AV->List Obj->Option (Prop × AV)
 | [.int .i64 i,.ptr 0 0,.ptr 1 0],[.box [.int .i64 c,.int .i64 f,.bool h,.int .u64 x,.imm (.int .u8) v,.imm (.int .u8) m],.box [.int .i64 c',.int .i64 f',.bool h',.int .u64 x',.imm (.int .u8) v',.imm (.int .u8) m']]=>some ((0<=i/\i < v.length/\i < v'.length,.bool (clA (c,f,h,x,v,m,()) (c',f',h',x',v',m',()) i.toNat)))
 | _,_=>none
theorem kP_:zf_ Tryd.prog 42 (RoF qG_).sum:=by
 refine zi_ Tryd.func42 wK_ (zb_ (s:=RoF Zv_) qa_ (ze_ _)) fun args objs p v e=>?_
 unfold qG_ at e
 split at e
 ·rename_i i c f h x v m c' f' h' x' v' m'
  cases e
  refine ⟨rfl,fun hw ho hp=>?_⟩
  change List Int at v
  change List Int at m
  change List Int at v'
  change List Int at m'
  clear hw ho
  obtain ⟨h1,h2,h3⟩:=hp
  repeat'(intro t ht;first|(cases t<;>first|(cases ht;done)|(try simp only[zg_]at ht;try(exfalso;first|contradiction|omega)))|((first|refine za_ ht ?_|refine ht ?_ ?_|refine ht.1 ?_ ?_|refine ht ?_)<;>clear ht))
  all_goals first
   | exact True.intro
   | omega
   | (constructor<;>omega)
   | exact ⟨rfl,by first | rfl | exact True.intro⟩
 ·cases e
def wd_:IR:=
(sq (kr [0,1,2] [oD 4 (.mov cF)])
(sq (.reg [oK 6 6 1,
oM 7 0,
oC 8 41 [6,7],
oM 5 8])
(sq (kd [0,1,2,5] [(oM 9 5,[]),
(oK 10 6 2,[0]),
(oM 11 0,[0,0]),
(oC 12 41 [10,11],[2]),
(oB 13 .andNot 9 12,[]),
(oB 14 .eql 13 (.c (.int .u8 0)),[]),
(oM 15 14,[]),
(oT 15 16 (.fieldAddr 4 2),[]),
(oT 15 17 (.load none 16),[]),
(oT 15 18 (.mov 0),[0,0]),
(oT 15 19 (.indexSl 1 17 18),[]),
(oT 15 20 (.load none 19),[]),
(oT 15 21 (.fieldAddr 4 1),[0,0,0,0,0]),
(oT 15 22 (.load none 21),[1,0,0,0,0]),
(oT 15 23 (.mov 0),[0,0,0,0,0,0,0]),
(oT 15 24 (.indexSl 1 22 23),[3,0,0,0,0]),
(oT 15 25 (.load none 24),[4,0,0,0,0]),
(oT 15 26 (.bin .xor 20 25),[]),
(oT 15 27 (.mov 5),[0,0,0,0,0,0,0,0,0,0,0]),
(oT 15 28 (.bin .and 26 27),[]),
(oT 15 29 (.bin .eql 28 (.c (.int .u8 0))),[]),
(oP 30 15 29 cF,[]),
(oM 4 30,[])])
.ret)))
def JP_:List RD:=[.tmp 4 true none]
theorem JW_:zm_ Tryd.prog Tryd.f40 wd_ JP_=true:=by kernel_rfl
def qn_:List AV->List Obj->Option (Prop × AV)
 | [.int .i64 i,.ptr 0 0,.ptr 1 0],[.box [.int .i64 c,.int .i64 f,.bool h,.int .u64 x,.imm (.int .u8) v,.imm (.int .u8) m],.box [.int .i64 c',.int .i64 f',.bool h',.int .u64 x',.imm (.int .u8) v',.imm (.int .u8) m']]=>some ((0<=i/\i < v.length/\i < v'.length,.bool (cvA (c',f',h',x',v',m',()) (c,f,h,x,v,m,()) i.toNat)))
 | _,_=>none
theorem kz_:zf_ Tryd.prog 40 (RoF qn_).sum:=by
 refine zi_ Tryd.func40 JW_ (zb_ (s:=RoF Zv_) qa_ (ze_ _)) fun args objs p v e=>?_
 unfold qn_ at e
 split at e
 ·rename_i i c f h x v m c' f' h' x' v' m'
  cases e
  refine ⟨rfl,fun hw ho hp=>?_⟩
  change List Int at v
  change List Int at m
  change List Int at v'
  change List Int at m'
  clear hw ho
  obtain ⟨h1,h2,h3⟩:=hp
  unfold cvA
  repeat'(intro t ht;first|(cases t<;>first|(cases ht;done)|(try simp only[zg_]at ht;try(exfalso;first|contradiction|omega)))|((first|refine za_ ht ?_|refine ht ?_ ?_|refine ht.1 ?_ ?_|refine ht ?_)<;>clear ht))
  all_goals first
   | exact True.intro
   | omega
   | (constructor<;>omega)
   | (refine ⟨congrArg AV.bool ?_,by first | rfl | exact True.intro⟩
      first
       | (rw [show zo_ .andNot .u8 (mB (c,f,h,x,v,m,()) i.toNat) (mB (c',f',h',x',v',m',()) i.toNat)=0 from ht];rfl)
       | (rw [decide_eq_false ht];rfl)
       | (rw [decide_eq_true ht];rfl))
 ·cases e
end Go.Eng
