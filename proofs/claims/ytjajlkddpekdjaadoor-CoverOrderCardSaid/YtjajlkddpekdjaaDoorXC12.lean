/- Parts of the proof: M2, S1, S2, J1, J2. No condition. -/
import Derived.Test.YtjajlkddpekdjaaDoorProg
import Derived.Test.YtjajlkddpekdjaaDoorXC10
import Derived.KernelRfl
import Derived.Test.YtjajlkddpekdjaaDoorXC11
namespace Go.Eng
open Go.Proofs
set_option linter.unusedVariables false
set_option linter.unusedSimpArgs false
set_option maxRecDepth 100000
set_option maxHeartbeats 1000000
theorem Wa_ {α:Type} {f:α->Bool} {l:List α} {i:Nat} {d:α} (h:i < l.length) (ht:(l.take i).all f=true) (hd:f (l.getD i d)=true):(l.take (i+1)).all f=true:=by
 rw [List.take_succ_eq_append_getElem h,List.all_append,ht,Bool.true_and,List.all_cons,List.all_nil,Bool.and_true]
 rwa [List.getD_eq_getElem?_getD,List.getElem?_eq_getElem h] at hd
theorem X5_ {α:Type} {f:α->Bool} {l:List α} {i:Nat} (h:l.length<=i) (ht:(l.take i).all f=true):l.all f=true:=by
 rwa [List.take_of_length_le h] at ht
theorem X4_ {α:Type} {f:α->Bool} {l:List α} {i:Nat} {d:α} (h:i < l.length) (hd:f (l.getD i d)=false):l.all f=false:=by
 rw [List.all_eq_false]
 exact ⟨l.getD i d,z1_ h d,by rw [hd];decide⟩
def yQ_ (c f:Int):Bool:=decide (c ≠ 32768) || !fIs f || decide (Qd_ f < 0)
def Kz_ (l:List OV) (c f:Int):Bool:=if yQ_ c f=true then true else l.any (mtO (Qd_ f) (XK_ f))
def V6_:IR:=
(sq (kr [0,1] [oD 3 (.boxv 1),
oD 4 (.mov cF)])
(sq (kr [0,3] [oA 8 1 3,
oL 9 8,
oC 10 51 [9],
oM 7 10,
oX 11 7 0,
oX 12 7 1,
oD 5 (.box [.int .i64 0,.int .i64 0,.kb false,.int .i64 0,.imm (.int .u64) []]),
oS 5 5 11,
oM 6 12])
(sq (sq (kr [0,3,5,6] [oA 13 0 3,
oL 14 13,
oB 15 .neq 14 (cI 32768),
oM 16 15,
oF 16 17 (.mov 6),
oF 16 18 (.un .not 17),
oP 19 16 cT 18,
oM 20 19,
oF 20 21 (.fieldAddr 3 5),
oF 20 22 (.load none 21),
oF 20 23 (.bin .lss 22 (cI 0)),
oP 24 20 cT 23])
(.cond 24
(sq (kr [] [oD 4 (.mov cT)])
.ret)
.skip))
(sq (kr [0,5] [oM 25 0,
oD 26 (.mkfn 56 [] [5]),
oC 27 13 [25,26],
oM 4 27])
.ret))))
def Vr_:List RD:=[.tmp 4 true none]
theorem VF_:zm_ Tryd.prog Tryd.f35 V6_ Vr_=true:=by kernel_rfl
def Jy_:List AV->List Obj->Option (Prop × AV)
 | [.imm (.cons (.int .i64) (.cons (.int .i64) (.cons .bool (.cons (.int .u64) (.cons (.sl (.int .u8)) (.cons (.sl (.int .u8)) .nil)))))) l,.agg [.int .i64 c,.int .i64 f,.bool h,.int .u64 x,.imm (.int .u8) v,.imm (.int .u8) m]],[]=>some ((True,.bool (Kz_ l c f)))
 | _,_=>none
theorem Y7_:zf_ Tryd.prog 35 (RoF Jy_).sum:=by
 refine zi_ Tryd.func35 VF_ (zb_ (s:=RoF QM_) kh_ (zb_ (s:=RoF qm_) q0_ (zb_ (s:=RoF zl_) zv_ (ze_ _)))) fun args objs p v e=>?_
 unfold Jy_ at e
 split at e
 ·rename_i l c f h x v m
  cases e
  refine ⟨rfl,fun hw ho hp=>?_⟩
  change List Int at v
  change List Int at m
  change List OV at l
  clear hw ho
  cases hn:yQ_ c f with
  | true=>
    have e:Kz_ l c f=true:=by unfold Kz_;rw [if_pos hn]
    rw [e]
    repeat'(intro t ht;first|(cases t<;>first|(cases ht;done)|(try simp only[zg_]at ht;try(exfalso;first|contradiction|omega)))|((first|refine za_ ht ?_|refine ht ?_ ?_|refine ht.1 ?_ ?_|refine ht ?_)<;>clear ht))
    all_goals first
     | exact True.intro
     | exact ⟨rfl,rfl⟩
     | (exfalso;unfold yQ_ at hn;simp_all;done)
     | (exfalso;unfold yQ_ at hn;simp_all;omega)
  | false=>
    have e:Kz_ l c f=l.any (mtO (Qd_ f) (XK_ f)):=by unfold Kz_;rw [hn];rfl
    rw [e]
    repeat'(intro t ht;first|(cases t<;>first|(cases ht;done)|(try simp only[zg_]at ht;try(exfalso;first|contradiction|omega)))|((first|refine za_ ht ?_|refine ht ?_ ?_|refine ht.1 ?_ ?_|refine ht ?_)<;>clear ht))
    all_goals first
     | exact True.intro
     | exact ⟨rfl,rfl⟩
     | (exfalso;unfold yQ_ at hn;simp_all;done)
     | (exfalso;unfold yQ_ at hn;simp_all;omega)
 ·cases e
def ckS:List OV->List OV->Int × Int
 | _,[]=>(0,0)
 | pre,o :: r=>if pre.any (fun x=>alO x o)=true then (((pre.length:Nat):Int),1035) else if Kz_ pre o.1 o.2.1=true then ckS (pre++[o]) r else (((pre.length:Nat):Int),1034)
theorem H3_ {l:List OV} {i:Nat} (h:l.length<=i):ckS (l.take i) (l.drop i)=(0,0):=by
 rw [List.drop_of_length_le h];unfold ckS;rfl
theorem xs_ {α:Type} {l:List α} {i:Nat} (h:i<=l.length):(l.take i).length=i:=by rw [List.length_take];omega
theorem H2_ {l:List OV} {i:Nat} {d:OV} (h:i < l.length) (hk:(l.take i).any (fun x=>alO x (l.getD i d))=true):ckS (l.take i) (l.drop i)=(((i:Nat):Int),1035):=by
 rw [Zt_ h d];unfold ckS;rw [if_pos hk,xs_ (by omega)]
theorem hH_ {l:List OV} {i:Nat} {d:OV} (h:i < l.length) (hk:(l.take i).any (fun x=>alO x (l.getD i d))=false) (hm:Kz_ (l.take i) (l.getD i d).1 (l.getD i d).2.1=false):ckS (l.take i) (l.drop i)=(((i:Nat):Int),1034):=by
 rw [Zt_ h d];unfold ckS;rw [if_neg (by rw [hk];decide),if_neg (by rw [hm];decide),xs_ (by omega)]
theorem b7_ {l:List OV} {i:Nat} {d:OV} (h:i < l.length) (hk:(l.take i).any (fun x=>alO x (l.getD i d))=false) (hm:Kz_ (l.take i) (l.getD i d).1 (l.getD i d).2.1=true):ckS (l.take i) (l.drop i)=ckS (l.take (i+1)) (l.drop (i+1)):=by
 have e:l.take (i+1)=l.take i++[l.getD i d]:=by
  rw [List.take_succ_eq_append_getElem h,List.getD_eq_getElem?_getD,List.getElem?_eq_getElem h];rfl
 rw [e,Zt_ h d]
 conv=>lhs;unfold ckS
 rw [if_neg (by rw [hk];decide),if_pos hm]
def yV_:IR:=
(sq (kr [0] [oD 2 (.mov (cI 0)),
oD 3 (.mov (cI 0))])
(.scope
(sq (.reg [oD 4 (.mov (cI 0)),
oD 5 (.mov (cI 0))])
(sq .skip
(sq (sq (.reg [oM 8 0,
oE 9 8,
oD 10 (.mov (cI 0))])
(.block 0
(.loop
(sq (kr [0,4,5,8,9,10] [oB 11 .lss 10 9])
(sq (.cond 11
.skip
(.exit 0))
(sq (.block 1
(sq (kr [0,4,5,8,9,10] [oM 12 10,
oI 13 6 8 10,
oK 14 6 13,
oD 7 (.box [.int .i64 0,.int .i64 0,.kb false,.int .u64 0,.imm (.int .u8) [],.imm (.int .u8) []]),
oM 6 12,
oS 6 7 14])
(.block 2
(sq (kr [0,4,5,6,7,8,9,10] [oM 16 0,
oM 17 6,
oD 18 (.slice 6 16 none (some 17) none),
oD 19 (.mkfn 33 [] [7]),
oC 20 13 [18,19],
oM 15 20])
(.cond 15
(sq (kr [6] [oM 21 6,
oM 4 21,
oD 5 (.mov (cI 1035))])
(.exit 0))
(sq (kd [0,4,5,6,7,8,9,10] [(oM 23 0,[]),
(oM 24 6,[0]),
(oD 25 (.slice 6 23 none (some 24) none),[]),
(oK 26 6 7,[0,0,0]),
(oC 27 35 [25,26],[]),
(oD 28 (.un .not 27),[]),
(oM 22 28,[])])
(.cond 22
(sq (kr [6] [oM 29 6,
oM 4 29,
oD 5 (.mov (cI 1034))])
(.exit 0))
.skip)))))))
(kr [0,4,5,8,9,10] [oB 30 .add 10 (cI 1),
oM 10 30])))))))
(sq (kr [4,5] [oM 31 4,
oM 32 5,
oM 2 31,
oM 3 32])
.ret))))))
def yo_:List RD:=[.tmp 2 true none,.tmp 3 true none]
theorem yD_:zm_ Tryd.prog Tryd.f16 yV_ yo_=true:=by kernel_rfl
def KO_:List AV->List Obj->Option (Prop × AV)
 | [.imm (.cons (.int .i64) (.cons (.int .i64) (.cons .bool (.cons (.int .u64) (.cons (.sl (.int .u8)) (.cons (.sl (.int .u8)) .nil)))))) l],[]=>some ((True,.tup [.int .i64 (ckS [] l).1,.int .i64 (ckS [] l).2]))
 | _,_=>none
theorem xA_:zf_ Tryd.prog 16 (RoF KO_).sum:=by
 refine zi_ Tryd.func16 yD_ (zb_ (s:=RoF Zu_) Z9_ (zb_ (s:=RoF zl_) zv_ (zb_ (s:=RoF Jy_) Y7_ (ze_ _)))) fun args objs p v e=>?_
 unfold KO_ at e
 split at e
 ·rename_i l
  cases e
  refine ⟨rfl,fun hw ho hp=>?_⟩
  change List OV at l
  have hl:l.length<=maxLen:=(hw (.imm Y1 l) (by simp)).2
  unfold maxLen at hl
  clear hw ho
  repeat'(intro t ht;first|(cases t<;>first|(cases ht;done)|(try simp only[zg_]at ht))|((first|refine za_ ht ?_|refine ht ?_ ?_|refine ht.1 ?_ ?_|refine ht ?_)<;>clear ht))
  all_goals first
   | (intro r h1 h2;clear h1;refine h2 ⟨[0,4,5,8,9,10],Nat,(fun i=>i<=l.length/\ckS [] l=ckS (l.take i) (l.drop i)),fun i=>[.imm Y1 l,.int .i64 0,.int .i64 0,.imm Y1 l,.int .i64 l.length,.int .i64 i],fun _=>[],fun i=>l.length - i,⟨0,⟨Nat.zero_le _,rfl⟩,rfl,rfl⟩,?_⟩;clear h2)
  rintro i ⟨hi,he⟩
  repeat'(intro t ht;first|(cases t<;>first|(cases ht;done)|(try simp only[zg_]at ht;try(exfalso;first|contradiction|omega)))|((first|refine za_ ht ?_|refine ht ?_ ?_|refine ht.1 ?_ ?_|refine ht ?_)<;>clear ht))
  all_goals (try generalize (Ty.dflt Y1)=od at*)
  all_goals first
   | exact True.intro
   | ((try simp only [zZ_,z0_,zp_] at*);omega)
   | (rw [he,H3_ (by omega)];exact ⟨rfl,rfl⟩)
   | (have hk:(l.take i).any (fun x=>alO x (l.getD i od))=true:=by assumption
      rw [he,H2_ (by omega) hk];exact ⟨rfl,rfl⟩)
   | (have hk:(l.take i).any (fun x=>alO x (l.getD i od))=false:=by assumption
      first
       | (have hm:Kz_ (l.take i) (l.getD i od).1 (l.getD i od).2.1=false:=by assumption
          rw [he,hH_ (by omega) hk hm];exact ⟨rfl,rfl⟩)
       | (have hm:Kz_ (l.take i) (l.getD i od).1 (l.getD i od).2.1=true:=by assumption
          exact ⟨i+1,⟨by omega,he.trans (b7_ (by omega) hk hm)⟩,by dsimp only;omega,rfl,rfl⟩))
 ·cases e
def Zd_ (o:OV):Prop:=0<=o.2.2.2.1/\(∀ x ∈ o.2.2.2.2.1,0<=x/\x<=255)/\(∀ x ∈ o.2.2.2.2.2.1,0<=x/\x<=255)
theorem uW_ {l:List OV} (h:Ty.wf (.sl Y1) l):∀ o ∈ l,Zd_ o:=fun o ho=>by
 obtain ⟨h1,h2,h3,h4,h5,h6,_⟩:=h.1 o ho
 refine ⟨?_,fun x hx=>?_,fun x hx=>?_⟩
 ·unfold Ty.wf inK at h4;rw [HL_] at h4;exact h4.1
 ·have:=h5.1 x hx;unfold Ty.wf inK at this;rw [G6_,hb_] at this;exact this
 ·have:=h6.1 x hx;unfold Ty.wf inK at this;rw [G6_,hb_] at this;exact this
structure Rear (l:List Int) (a b:Nat) (r:List Int):Prop where
 perm:r.Perm l
 lo:r.take a=l.take a
 hi:r.drop b=l.drop b
theorem Rear.refl (l:List Int) (a b:Nat):Rear l a b l:=⟨.refl _,rfl,rfl⟩
theorem Rear.len {l r:List Int} {a b:Nat} (h:Rear l a b r):r.length=l.length:=h.perm.length_eq
theorem Rear.trans {l r s:List Int} {a b:Nat} (h:Rear l a b r) (k:Rear r a b s):Rear l a b s:=⟨k.perm.trans h.perm,k.lo.trans h.lo,k.hi.trans h.hi⟩
theorem Rear.wide {l r:List Int} {a b a' b':Nat} (h:Rear l a b r) (ha:a'<=a) (hb:b<=b'):Rear l a' b' r:=by
 refine ⟨h.perm,?_,?_⟩
 ·have:=congrArg (List.take a') h.lo
  rwa [List.take_take,List.take_take,Nat.min_eq_left ha] at this
 ·have:=congrArg (List.drop (b' - b)) h.hi
  rwa [List.drop_drop,List.drop_drop,show b+(b' - b)=b' by omega] at this
theorem Yr_ {l:List Int} {k a:Nat} (h:k < a):(l.take a).getD k 0=l.getD k 0:=by
 simp only [List.getD_eq_getElem?_getD,List.getElem?_take,if_pos h]
theorem Ys_ (l:List Int) (k b:Nat):(l.drop b).getD k 0=l.getD (b+k) 0:=by
 simp only [List.getD_eq_getElem?_getD,List.getElem?_drop]
theorem Rear.get {l r:List Int} {a b k:Nat} (h:Rear l a b r) (hk:k < a\/b<=k):r.getD k 0=l.getD k 0:=by
 rcases hk with hk | hk
 ·rw [<- Yr_ hk,h.lo,Yr_ hk]
 ·have:=Ys_ r (k - b) b
  rw [h.hi,Ys_,show b+(k - b)=k by omega] at this
  exact this.symm
def midR (l:List Int) (a b:Nat):List Int:=(l.take b).drop a
theorem BK_ (l:List Int) {a b:Nat} (h:a<=b):l=l.take a++midR l a b++l.drop b:=by
 unfold midR
 have h1:l.take a=(l.take b).take a:=by rw [List.take_take,Nat.min_eq_left h]
 rw [h1,List.take_append_drop,List.take_append_drop]
theorem Rear.midR {l r:List Int} {a b:Nat} (h:Rear l a b r) (hab:a<=b):(midR r a b).Perm (midR l a b):=by
 have h1:=h.perm
 rw [BK_ l hab,BK_ r hab,h.lo,h.hi] at h1
 exact (List.perm_append_left_iff _).1 ((List.perm_append_right_iff _).1 h1)
theorem J2_ (l:List Int) {a b k:Nat} (hb:b<=l.length) (hk:a+k < b):(midR l a b)[k]?=some (l.getD (a+k) 0):=by
 unfold midR
 rw [List.getElem?_drop,List.getElem?_take,if_pos hk,List.getElem?_eq_getElem (by omega),List.getD_eq_getElem?_getD,List.getElem?_eq_getElem (by omega)];rfl
theorem J1_ (l:List Int) {a b:Nat} (hb:b<=l.length):(midR l a b).length=b - a:=by
 unfold midR;rw [List.length_drop,List.length_take,Nat.min_eq_left hb]
def X6_ (l:List Int) (a b:Nat):Prop:=∀ i j,a<=i->i < j->j < b->l.getD i 0<=l.getD j 0
theorem X6_.pw {l:List Int} {a b:Nat} (h:X6_ l a b) (hb:b<=l.length):(midR l a b).Pairwise (· <=·):=by
 rw [List.pairwise_iff_getElem]
 intro i j hi hj hij
 rw [J1_ l hb] at hi hj
 have e1:=J2_ l (a:=a) (k:=i) hb (by omega)
 have e2:=J2_ l (a:=a) (k:=j) hb (by omega)
 rw [List.getElem?_eq_getElem (by rw [J1_ l hb];omega)] at e1 e2
 rw [Option.some.inj e1,Option.some.inj e2]
 exact h _ _ (by omega) (by omega) (by omega)
def leI (x y:Int):Bool:=decide (x<=y)
def srt (l:List Int) (a b:Nat):List Int:=l.take a++(midR l a b).mergeSort leI++l.drop b
theorem Rear.at {l r:List Int} {a b i:Nat} (h:Rear l a b r) (hab:a<=b) (hb:b<=l.length) (hi:a<=i/\i < b):∃ j,a<=j/\j < b/\r.getD i 0=l.getD j 0:=by
 have hm:=h.midR hab
 have hbr:b<=r.length:=by rw [h.len];exact hb
 have e1:=J2_ r (a:=a) (k:=i - a) hbr (by omega)
 have hin:r.getD i 0 ∈ Go.Eng.midR r a b:=by
  rw [show a+(i - a)=i by omega] at e1
  exact List.mem_of_getElem? e1
 have:=(hm.mem_iff).1 hin
 obtain ⟨k,hk,e⟩:=List.mem_iff_getElem.1 this
 rw [J1_ l hb] at hk
 have e2:=J2_ l (a:=a) (k:=k) hb (by omega)
 rw [List.getElem?_eq_getElem (by rw [J1_ l hb];exact hk)] at e2
 exact ⟨a+k,by omega,by omega,by rw [<- e];exact Option.some.inj e2⟩
structure InsJ (l r:List Int) (a b i j:Nat):Prop where
 R:Rear l a b r
 aj:a<=j
 ji:j<=i
 ib:i < b
 s:∀ p q,a<=p->p < q->q<=i->q ≠ j->r.getD p 0<=r.getD q 0
def Hp (r:List Int) (f lo hi:Nat):Prop:=∀ i c,lo<=i->(c=2*i+1\/c=2*i+2)->c < hi->r.getD (f+c) 0<=r.getD (f+i) 0
structure SiftJ (l r:List Int) (f lo hi x:Nat):Prop where
 R:Rear l (f+lo) (f+hi) r
 lx:lo<=x
 h:∀ i c,lo<=i->i ≠ x->(c=2*i+1\/c=2*i+2)->c < hi->r.getD (f+c) 0<=r.getD (f+i) 0
 g:∀ p c,lo<=p->(x=2*p+1\/x=2*p+2)->(c=2*x+1\/c=2*x+2)->c < hi->r.getD (f+c) 0<=r.getD (f+p) 0
structure PopJ (l r:List Int) (a b i:Nat):Prop where
 R:Rear l a b r
 h:Hp r a 0 i
 s:∀ p q,i<=q->p < q->a+q < b->r.getD (a+p) 0<=r.getD (a+q) 0
structure PartJ (l r:List Int) (a b i j:Nat):Prop where
 R:Rear l a b r
 ai:a < i
 jb:j < b
 ij:i<=j+1
 lt:∀ k,a < k->k < i->r.getD k 0<=r.getD a 0
 ge:∀ k,j < k->k < b->r.getD a 0<=r.getD k 0
structure PartR (l r:List Int) (a b m:Nat):Prop where
 R:Rear l a b r
 am:a<=m
 mb:m < b
 lo:∀ k,a<=k->k < m->r.getD k 0<=r.getD m 0
 hi:∀ k,m < k->k < b->r.getD m 0<=r.getD k 0
def wq_ (l:List Int) (a b:Nat):Prop:=0 < a->∀ k,a<=k->k < b->l.getD (a - 1) 0<=l.getD k 0
theorem wq_.rear {l r:List Int} {a b:Nat} (h:wq_ l a b) (hR:Rear l a b r) (hab:a<=b) (hb:b<=l.length):wq_ r a b:=fun h0 k h1 h2=>by
 rw [hR.get (.inl (by omega))]
 obtain ⟨j,j1,j2,j3⟩:=hR.at hab hb ⟨h1,h2⟩
 rw [j3];exact h h0 j j1 j2
theorem wq_.sub {l:List Int} {a b m:Nat} (h:wq_ l a b) (hm:m<=b):wq_ l a m:=fun h0 k h1 h2=>h h0 k h1 (by omega)
structure EqlJ (l r:List Int) (a b i j:Nat) (x:Int):Prop where
 R:Rear l a b r
 pv:r.getD a 0=x
 ai:a < i
 jb:j < b
 ij:i<=j+1
 le:∀ k,a < k->k < i->r.getD k 0<=r.getD a 0
 gt:∀ k,j < k->k < b->r.getD a 0 < r.getD k 0
structure EqlR (l r:List Int) (a b m:Nat) (x:Int):Prop where
 R:Rear l a b r
 pv:r.getD a 0=x
 am:a < m
 mb:m<=b
 lo:∀ k,a<=k->k < m->r.getD k 0<=r.getD a 0
 hi:∀ k,m<=k->k < b->r.getD a 0 < r.getD k 0
structure SrX where
 r:List Int
structure SrM where
 r:List Int
 m:Nat
structure SrF where
 r:List Int
 m:Nat
 f:Bool
structure SrI where
 s:Int
structure SrP where
 j:Int
 h:Int
 s:Int
theorem X6_.mono {l:List Int} {a b c:Nat} (h:X6_ l a b) (hc:c<=b):X6_ l a c:=fun i j h1 h2 h3=>h i j h1 h2 (by omega)
def wW_:IR:=
(sq (kr [0] [oD 2 (.mov cF)])
(sq (.reg [oM 3 0,
oM 4 0,
oB 5 .neq 3 4,
oM 2 5])
.ret))
def wE_:List RD:=[.tmp 2 true none]
theorem wN_:zm_ Tryd.prog Tryd.f61 wW_ wE_=true:=by kernel_rfl
def kd_:List AV->List Obj->Option (Prop × AV)
 | [.int .i64 x],[]=>some ((True,.bool false))
 | _,_=>none
theorem JL_:zf_ Tryd.prog 61 (RoF kd_).sum:=by
 refine zi_ Tryd.func61 wN_ (ze_ _) fun args objs p v e=>?_
 unfold kd_ at e
 split at e
 ·rename_i x
  cases e
  refine ⟨rfl,fun hw ho hp=>?_⟩
  repeat'(intro t ht;first|(cases t<;>first|(cases ht;done)|(try simp only[zg_]at ht;try(exfalso;first|contradiction|omega)))|((first|refine za_ ht ?_|refine ht ?_ ?_|refine ht.1 ?_ ?_|refine ht ?_)<;>clear ht))
  all_goals first
   | exact True.intro
   | exact ⟨rfl,rfl⟩
   | (refine ⟨congrArg AV.bool ?_,rfl⟩;simp;done)
 ·cases e
structure Swo {α:Type} (lt:α->α->Bool):Prop where
 irr:∀ a,lt a a=false
 neg:∀ a b c,lt a b=false->lt b c=false->lt a c=false
 asy:∀ a b,lt a b=true->lt b a=false
theorem Swo.lt_le {α:Type} {lt:α->α->Bool} (S:Swo lt) {a b c:α} (h:lt a b=true) (k:lt c b=false):lt a c=true:=by
 cases e:lt a c with
 | true=>rfl
 | false=>rw [S.neg a c b e k] at h;cases h
theorem Swo.le_lt {α:Type} {lt:α->α->Bool} (S:Swo lt) {a b c:α} (h:lt b a=false) (k:lt b c=true):lt a c=true:=by
 cases e:lt a c with
 | true=>rfl
 | false=>rw [S.neg b a c h e] at k;cases k
section
variable {α:Type} (lt:α->α->Bool)
def QH_ (c x:α):Bool:=!lt c x && !lt x c
theorem Qg_ (c x:α):QH_ lt c x=true ↔ lt c x=false/\lt x c=false:=by
 unfold QH_;rw [Bool.and_eq_true,Bool.not_eq_true',Bool.not_eq_true']
structure Stb (l:List α) (a b:Nat) (r:List α):Prop where
 len:r.length=l.length
 lo:r.take a=l.take a
 hi:r.drop b=l.drop b
 f:∀ c,r.filter (QH_ lt c)=l.filter (QH_ lt c)
variable {lt}
theorem Stb.refl (l:List α) (a b:Nat):Stb lt l a b l:=⟨rfl,rfl,rfl,fun _=>rfl⟩
theorem Stb.trans {l r s:List α} {a b:Nat} (h:Stb lt l a b r) (k:Stb lt r a b s):Stb lt l a b s:=⟨k.len.trans h.len,k.lo.trans h.lo,k.hi.trans h.hi,fun c=>(k.f c).trans (h.f c)⟩
theorem Stb.wide {l r:List α} {a b a' b':Nat} (h:Stb lt l a b r) (ha:a'<=a) (hb:b<=b'):Stb lt l a' b' r:=by
 refine ⟨h.len,?_,?_,h.f⟩
 ·have:=congrArg (List.take a') h.lo
  rwa [List.take_take,List.take_take,Nat.min_eq_left ha] at this
 ·have:=congrArg (List.drop (b' - b)) h.hi
  rwa [List.drop_drop,List.drop_drop,show b+(b' - b)=b' by omega] at this
theorem kB_ {l:List α} {k a:Nat} {d:α} (h:k < a):(l.take a).getD k d=l.getD k d:=by
 simp only [List.getD_eq_getElem?_getD,List.getElem?_take,if_pos h]
theorem kC_ (l:List α) (k b:Nat) (d:α):(l.drop b).getD k d=l.getD (b+k) d:=by
 simp only [List.getD_eq_getElem?_getD,List.getElem?_drop]
theorem Stb.get {l r:List α} {a b k:Nat} {d:α} (h:Stb lt l a b r) (hk:k < a\/b<=k):r.getD k d=l.getD k d:=by
 rcases hk with hk | hk
 ·rw [<- kB_ hk,h.lo,kB_ hk]
 ·have:=kC_ r (k - b) b d
  rw [h.hi,kC_,show b+(k - b)=k by omega] at this
  exact this.symm
theorem b2_ {l r:List α} (d:α) (hl:l.length=r.length) (h:∀ k,k < l.length->l.getD k d=r.getD k d):l=r:=by
 refine List.ext_getElem hl fun k h1 h2=>?_
 have:=h k h1
 rwa [List.getD_eq_getElem?_getD,List.getD_eq_getElem?_getD,List.getElem?_eq_getElem h1,List.getElem?_eq_getElem h2] at this
theorem Zj_ (l r:List α) (k:Nat) (d:α):(l++r).getD k d=if k < l.length then l.getD k d else r.getD (k - l.length) d:=by
 simp only [List.getD_eq_getElem?_getD,List.getElem?_append]
 split<;>rfl
theorem J3_ (l:List α) (a b k:Nat) (d:α):((l.take b).drop a).getD k d=if a+k < b then l.getD (a+k) d else d:=by
 rw [kC_]
 split
 ·exact kB_ (by assumption)
 ·rw [List.getD_eq_getElem?_getD,List.getElem?_eq_none (by rw [List.length_take];omega)];rfl
def zq_ (a m b k:Nat):Nat:=if k < a then k else if k < a+(b - m) then k - a+m else if k < b then k - (b - m) else k
structure Rot (l:List α) (a m b:Nat) (d:α) (r:List α):Prop where
 len:r.length=l.length
 g:∀ k,k < l.length->r.getD k d=l.getD (zq_ a m b k) d
theorem Rot.list {l r:List α} {a m b:Nat} {d:α} (h:Rot l a m b d r) (ham:a<=m) (hmb:m<=b) (hb:b<=l.length):r=l.take a++((l.take b).drop m++((l.take m).drop a++l.drop b)):=by
 refine b2_ d ?_ fun k hk=>?_
 ·rw [h.len];simp only [List.length_append,List.length_take,List.length_drop];omega
 ·rw [h.g k (by rw [<- h.len];exact hk)]
  have hkl:k < l.length:=by rw [<- h.len];exact hk
  unfold zq_
  rw [Zj_,Zj_,Zj_,J3_,J3_,kC_]
  simp only [List.length_take,List.length_drop]
  by_cases c1:k < a
  ·rw [if_pos c1,if_pos (show k < min a l.length by omega),kB_ c1]
  ·rw [if_neg c1,if_neg (show ¬ k < min a l.length by omega)]
   by_cases c2:k < a+(b - m)
   ·rw [if_pos c2,if_pos (show k - min a l.length < min b l.length - m by omega),if_pos (by omega)];congr 1;omega
   ·rw [if_neg c2,if_neg (show ¬ k - min a l.length < min b l.length - m by omega)]
    by_cases c3:k < b
    ·rw [if_pos c3,if_pos (show k - min a l.length - (min b l.length - m) < min m l.length - a by omega),if_pos (by omega)];congr 1;omega
    ·rw [if_neg c3,if_neg (show ¬ k - min a l.length - (min b l.length - m) < min m l.length - a by omega)];congr 1;omega
theorem g8_ (l:List α) {a m b:Nat} (ham:a<=m) (hmb:m<=b):l=l.take a++((l.take m).drop a++((l.take b).drop m++l.drop b)):=by
 have h1:(l.take m).drop a++l.drop m=l.drop a:=by
  have:=congrArg (List.drop a) (List.take_append_drop m l)
  by_cases c:a<=(l.take m).length
  ·rwa [List.drop_append_of_le_length c] at this
  ·rw [List.length_take] at c
   rw [List.drop_of_length_le (by rw [List.length_take];omega),List.nil_append,List.drop_of_length_le (by omega),List.drop_of_length_le (by omega)]
 have h2:(l.take b).drop m++l.drop b=l.drop m:=by
  have:=congrArg (List.drop m) (List.take_append_drop b l)
  by_cases c:m<=(l.take b).length
  ·rwa [List.drop_append_of_le_length c] at this
  ·rw [List.length_take] at c
   rw [List.drop_of_length_le (by rw [List.length_take];omega),List.nil_append,List.drop_of_length_le (by omega),List.drop_of_length_le (by omega)]
 rw [h2,h1,List.take_append_drop]
theorem Xm_ {l:List α} {a b:Nat} {x:α} (d:α) (h:x ∈ (l.take b).drop a):∃ k,a<=k/\k < b/\k < l.length/\l.getD k d=x:=by
 obtain ⟨k,hk,e⟩:=List.mem_iff_getElem.1 h
 rw [List.length_drop,List.length_take] at hk
 refine ⟨a+k,by omega,by omega,by omega,?_⟩
 rw [List.getElem_drop,List.getElem_take] at e
 rw [List.getD_eq_getElem?_getD,List.getElem?_eq_getElem (by omega)];exact e
theorem Rot.stb (S:Swo lt) {l r:List α} {a m b:Nat} {d:α} (h:Rot l a m b d r) (ham:a<=m) (hmb:m<=b) (hb:b<=l.length) (hlt:∀ i j,a<=i->i < m->m<=j->j < b->lt (l.getD j d) (l.getD i d)=true):Stb lt l a b r:=by
 have e:=h.list ham hmb hb
 refine ⟨h.len,?_,?_,fun c=>?_⟩
 ·rw [e];exact List.take_left' (by rw [List.length_take];omega)
 ·rw [e,<- List.append_assoc,<- List.append_assoc]
  exact List.drop_left' (by simp only [List.length_append,List.length_take,List.length_drop];omega)
 ·rw [e]
  conv=>rhs;rw [g8_ l ham hmb]
  simp only [List.filter_append]
  congr 1
  rw [<- List.append_assoc,<- List.append_assoc]
  congr 1
  by_cases c1:((l.take m).drop a).filter (QH_ lt c)=[]
  ·rw [c1,List.append_nil,List.nil_append]
  ·have c2:((l.take b).drop m).filter (QH_ lt c)=[]:=by
    obtain ⟨x,hx⟩:=List.exists_mem_of_ne_nil _ c1
    obtain ⟨hx1,hx2⟩:=List.mem_filter.1 hx
    refine List.filter_eq_nil_iff.2 fun y hy hc=>?_
    obtain ⟨i,i1,i2,_,rfl⟩:=Xm_ d hx1
    obtain ⟨j,j1,j2,_,rfl⟩:=Xm_ d hy
    have h1:=hlt i j i1 i2 j1 j2
    obtain ⟨p1,p2⟩:=(Qg_ lt _ _).1 hx2
    obtain ⟨q1,q2⟩:=(Qg_ lt _ _).1 hc
    rw [S.neg _ _ _ q2 p1] at h1;cases h1
   rw [c2,List.append_nil,List.nil_append]
def xt_ (d:α) (l:List α) (i j:Nat):List α:=(l.set i (l.getD j d)).set j (l.getD i d)
theorem JF_ (d:α) (l:List α) (i j:Nat):(xt_ d l i j).length=l.length:=by unfold xt_;simp
theorem JG_ (d:α) (l:List α) {i j:Nat} (hi:i < l.length) (hj:j < l.length) (k:Nat):(xt_ d l i j).getD k d=if k=j then l.getD i d else if k=i then l.getD j d else l.getD k d:=by
 unfold xt_
 simp only [List.getD_eq_getElem?_getD,List.getElem?_set,List.length_set]
 by_cases h1:j=k
 ·subst h1;simp [hj]
 ·by_cases h2:i=k
  ·subst h2;simp [h1,Ne.symm h1,hi]
  ·simp [h1,h2,Ne.symm h1,Ne.symm h2]
def swI (a b n k:Nat):Nat:=if a<=k/\k < a+n then k - a+b else if b<=k/\k < b+n then k - b+a else k
structure SwR (l:List α) (a b n:Nat) (d:α) (r:List α):Prop where
 len:r.length=l.length
 g:∀ k,k < l.length->r.getD k d=l.getD (swI a b n k) d
theorem Bk_ (l:List α) (a b:Nat) (d:α):SwR l a b 0 d l:=⟨rfl,fun k _=>by unfold swI;rw [if_neg (by omega),if_neg (by omega)]⟩
theorem Gy_ {l u:List α} {a b n N:Nat} {d:α} (h:SwR l a b n d u) (hn:n < N) (hab:a+N<=b) (hb:b+N<=l.length):SwR l a b (n+1) d (xt_ d u (a+n) (b+n)):=by
 refine ⟨by rw [JF_,h.len],fun k hk=>?_⟩
 rw [JG_ d u (by rw [h.len];omega) (by rw [h.len];omega)]
 by_cases c1:k=b+n
 ·rw [if_pos c1,h.g _ (by omega)];congr 1;unfold swI;subst c1
  rw [if_neg (by omega),if_neg (by omega),if_neg (by omega),if_pos (by omega)];omega
 ·rw [if_neg c1]
  by_cases c2:k=a+n
  ·rw [if_pos c2,h.g _ (by omega)];congr 1;unfold swI;subst c2
   rw [if_neg (by omega),if_neg (by omega),if_pos (by omega)];omega
  ·rw [if_neg c2,h.g k hk];congr 1;unfold swI
   by_cases c3:a<=k/\k < a+n
   ·rw [if_pos c3,if_pos (by omega)]
   ·rw [if_neg c3,if_neg (show ¬ (a<=k/\k < a+(n+1)) by omega)]
    by_cases c4:b<=k/\k < b+n
    ·rw [if_pos c4,if_pos (by omega)]
    ·rw [if_neg c4,if_neg (by omega)]
structure RotJ (l u:List α) (a m b i j:Nat) (d:α):Prop where
 len:u.length=l.length
 i0:0 < i
 j0:0 < j
 ai:a+i<=m
 jb:m+j<=b
 g:∀ k,k < l.length->u.getD (zq_ (m - i) m (m+j) k) d=l.getD (zq_ a m b k) d
theorem gI_ {l:List α} {a m b:Nat} {d:α} (h1:a < m) (h2:m < b):RotJ l l a m b (m - a) (b - m) d:=
 ⟨rfl,by omega,by omega,by omega,by omega,fun k _=>by rw [show m - (m - a)=a by omega,show m+(b - m)=b by omega]⟩
theorem UX_ {a m b k n:Nat} (ham:a<=m) (hmb:m<=b) (hb:b<=n) (hk:k < n):zq_ a m b k < n:=by unfold zq_;split;omega;split;omega;split<;>omega
theorem bG_ {l u r:List α} {a m b i j:Nat} {d:α} (hb:b<=l.length) (J:RotJ l u a m b i j d) (hij:j < i) (h:SwR u (m - i) m j d r):RotJ l r a m b (i - j) j d:=by
 obtain ⟨h1,h2,h3,h4,h5,h6⟩:=J
 refine ⟨by rw [h.len,h1],by omega,h3,by omega,h5,fun k hk=>?_⟩
 rw [h.g _ (by rw [h1];exact UX_ (by omega) (by omega) (by omega) hk),<- h6 k hk]
 congr 1
 unfold zq_ swI
 (repeat' split)<;>omega
theorem bF_ {l u r:List α} {a m b i j:Nat} {d:α} (hb:b<=l.length) (J:RotJ l u a m b i j d) (hij:i < j) (h:SwR u (m - i) (m+j - i) i d r):RotJ l r a m b i (j - i) d:=by
 obtain ⟨h1,h2,h3,h4,h5,h6⟩:=J
 refine ⟨by rw [h.len,h1],h2,by omega,h4,by omega,fun k hk=>?_⟩
 rw [h.g _ (by rw [h1];exact UX_ (by omega) (by omega) (by omega) hk),<- h6 k hk]
 congr 1
 unfold zq_ swI
 (repeat' split)<;>omega
theorem Hp_ {l u r:List α} {a m b i:Nat} {d:α} (hb:b<=l.length) (J:RotJ l u a m b i i d) (h:SwR u (m - i) m i d r):Rot l a m b d r:=by
 obtain ⟨h1,h2,h3,h4,h5,h6⟩:=J
 refine ⟨by rw [h.len,h1],fun k hk=>?_⟩
 rw [h.g k (by omega),<- h6 k hk]
 congr 1
 unfold zq_ swI
 (repeat' split)<;>omega
theorem bH_ (l:List α) (a:Nat) (d:α):Rot l a (a+1) (a+1) d l:=⟨rfl,fun k hk=>by congr 1;unfold zq_;(repeat' split)<;>omega⟩
theorem Ho_ {l u:List α} {a k:Nat} {d:α} (h:Rot l a (a+1) (k+1) d u) (hak:a<=k) (hk:k+1 < l.length):Rot l a (a+1) (k+2) d (xt_ d u k (k+1)):=by
 refine ⟨by rw [JF_,h.len],fun q hq=>?_⟩
 rw [JG_ d u (by rw [h.len];omega) (by rw [h.len];omega)]
 by_cases c1:q=k+1
 ·rw [if_pos c1,h.g _ (by omega)];congr 1;subst c1;unfold zq_;(repeat' split)<;>omega
 ·rw [if_neg c1]
  by_cases c2:q=k
  ·rw [if_pos c2,h.g _ (by omega)];congr 1;subst c2;unfold zq_;(repeat' split)<;>omega
  ·rw [if_neg c2,h.g q hq];congr 1;unfold zq_;(repeat' split)<;>omega
theorem GI_ (l:List α) (m:Nat) (d:α):Rot l m m (m+1) d l:=⟨rfl,fun k hk=>by congr 1;unfold zq_;(repeat' split)<;>omega⟩
theorem UW_ {l u:List α} {m k:Nat} {d:α} (h:Rot l k m (m+1) d u) (hk0:0 < k) (hk:k<=m) (hm:m < l.length):Rot l (k - 1) m (m+1) d (xt_ d u k (k - 1)):=by
 refine ⟨by rw [JF_,h.len],fun q hq=>?_⟩
 rw [JG_ d u (by rw [h.len];omega) (by rw [h.len];omega)]
 by_cases c1:q=k - 1
 ·rw [if_pos c1,h.g _ (by omega)];congr 1;subst c1;unfold zq_;(repeat' split)<;>omega
 ·rw [if_neg c1]
  by_cases c2:q=k
  ·rw [if_pos c2,h.g _ (by omega)];congr 1;subst c2;unfold zq_;(repeat' split)<;>omega
  ·rw [if_neg c2,h.g q hq];congr 1;unfold zq_;(repeat' split)<;>omega
theorem Stb.mid {l r:List α} {a b:Nat} (h:Stb lt l a b r) (hab:a<=b) (c:α):((r.take b).drop a).filter (QH_ lt c)=((l.take b).drop a).filter (QH_ lt c):=by
 have h1:=h.f c
 rw [g8_ l (Nat.le_refl a) hab,g8_ r (Nat.le_refl a) hab] at h1
 simp only [List.filter_append] at h1
 rw [h.lo,h.hi,List.append_cancel_left_eq] at h1
 rw [List.append_cancel_left_eq,List.append_cancel_right_eq] at h1
 exact h1
theorem Stb.at (S:Swo lt) {l r:List α} {a b i:Nat} (d:α) (h:Stb lt l a b r) (hb:b<=l.length) (h1:a<=i) (h2:i < b):∃ j,a<=j/\j < b/\r.getD i d=l.getD j d:=by
 have hx:r.getD i d ∈ ((r.take b).drop a).filter (QH_ lt (r.getD i d)):=by
  refine List.mem_filter.2 ⟨?_,(Qg_ lt _ _).2 ⟨S.irr _,S.irr _⟩⟩
  have hl:=h.len
  have:((r.take b).drop a)[i - a]?=some (r.getD i d):=by
   rw [List.getElem?_drop,List.getElem?_take,show a+(i - a)=i by omega,if_pos h2,List.getD_eq_getElem?_getD,List.getElem?_eq_getElem (by omega)];rfl
  exact List.mem_of_getElem? this
 rw [h.mid (by omega)] at hx
 obtain ⟨j,j1,j2,_,j3⟩:=Xm_ d (List.mem_filter.1 hx).1
 exact ⟨j,j1,j2,j3.symm⟩
variable (lt) in
def zQ_ (d:α) (l:List α) (a b:Nat):Prop:=∀ i j,a<=i->i < j->j < b->lt (l.getD j d) (l.getD i d)=false
variable (lt) in
def Low (d:α) (l:List α) (a m b:Nat):Prop:=∀ i j,a<=i->i < m->m<=j->j < b->lt (l.getD j d) (l.getD i d)=false
theorem gD_ {d:α} {l:List α} {a m b:Nat} (h1:zQ_ lt d l a m) (h2:zQ_ lt d l m b) (h3:Low lt d l a m b):zQ_ lt d l a b:=fun i j i1 ij j1=>by
 by_cases c1:j < m
 ·exact h1 i j i1 ij c1
 ·by_cases c2:i < m
  ·exact h3 i j i1 c2 (by omega) j1
  ·exact h2 i j (by omega) ij j1
theorem Low.left (S:Swo lt) {d:α} {l r:List α} {a m b:Nat} (h:Low lt d l a m b) (hR:Stb lt l a m r) (hm:m<=l.length):Low lt d r a m b:=fun i j i1 i2 j1 j2=>by
 obtain ⟨k,k1,k2,k3⟩:=hR.at S d hm i1 i2
 rw [k3,hR.get (.inr j1)];exact h k j k1 k2 j1 j2
theorem Low.right (S:Swo lt) {d:α} {l r:List α} {a m b:Nat} (h:Low lt d l a m b) (hR:Stb lt l m b r) (hb:b<=l.length):Low lt d r a m b:=fun i j i1 i2 j1 j2=>by
 obtain ⟨k,k1,k2,k3⟩:=hR.at S d hb j1 j2
 rw [k3,hR.get (.inl i2)];exact h i k i1 i2 k1 k2
theorem zQ_.keep {d:α} {l r:List α} {a b p q:Nat} (h:zQ_ lt d l p q) (hR:Stb lt l a b r) (hd:q<=a\/b<=p):zQ_ lt d r p q:=fun i j i1 ij j1=>by
 rw [hR.get (by omega),hR.get (by omega)];exact h i j i1 ij j1
theorem zQ_.sub {d:α} {l:List α} {a b p q:Nat} (h:zQ_ lt d l a b) (h1:a<=p) (h2:q<=b):zQ_ lt d l p q:=fun i j i1 ij j1=>h i j (by omega) ij (by omega)
theorem zQ_.none {d:α} (l:List α) {a b:Nat} (h:b<=a+1):zQ_ lt d l a b:=fun i j i1 ij j1=>by omega
theorem U0_ (S:Swo lt):∀ (r s:List α),r.Pairwise (fun x y=>lt y x=false)->s.Pairwise (fun x y=>lt y x=false)->(∀ c,r.filter (QH_ lt c)=s.filter (QH_ lt c))->r=s
 | [],s,_,_,h=>by
   cases s with
   | nil=>rfl
   | cons y s=>
     have:=h y
     rw [List.filter_nil,List.filter_cons_of_pos ((Qg_ lt _ _).2 ⟨S.irr _,S.irr _⟩)] at this
     cases this
 | x :: r,s,hr,hs,h=>by
   have hr':=List.pairwise_cons.1 hr
   have hx:=h x
   rw [List.filter_cons_of_pos ((Qg_ lt _ _).2 ⟨S.irr _,S.irr _⟩)] at hx
   cases s with
   | nil=>cases hx
   | cons y s=>
     have hs':=List.pairwise_cons.1 hs
     have hxs:x ∈ y :: s:=(List.mem_filter.1 (show x ∈ (y :: s).filter (QH_ lt x) by rw [<- hx];exact List.mem_cons_self ..)).1
     have h1:lt x y=false:=by
      rcases List.mem_cons.1 hxs with e | e
      ·rw [e];exact S.irr _
      ·exact hs'.1 x e
     have hy:=h y
     rw [List.filter_cons_of_pos (a:=y) ((Qg_ lt _ _).2 ⟨S.irr _,S.irr _⟩)] at hy
     have hyr:y ∈ x :: r:=(List.mem_filter.1 (show y ∈ (x :: r).filter (QH_ lt y) by rw [hy];exact List.mem_cons_self ..)).1
     have h2:lt y x=false:=by
      rcases List.mem_cons.1 hyr with e | e
      ·rw [e];exact S.irr _
      ·exact hr'.1 y e
     rw [List.filter_cons_of_pos ((Qg_ lt _ _).2 ⟨h1,h2⟩)] at hx
     have e:=(List.cons.inj hx).1
     subst e
     rw [U0_ S r s hr'.2 hs'.2 fun c=>?_]
     have hc:=h c
     cases e:QH_ lt c x with
     | true=>
       rw [List.filter_cons_of_pos e,List.filter_cons_of_pos e] at hc
       exact (List.cons.inj hc).2
     | false=>
       rw [List.filter_cons_of_neg (by rw [e];decide),List.filter_cons_of_neg (by rw [e];decide)] at hc
       exact hc
theorem zQ_.pw {d:α} {l:List α} {a b:Nat} (h:zQ_ lt d l a b) (hb:b<=l.length):((l.take b).drop a).Pairwise (fun x y=>lt y x=false):=by
 rw [List.pairwise_iff_getElem]
 intro i j hi hj hij
 rw [List.length_drop,List.length_take] at hi hj
 have e:∀ k (hk:k < ((l.take b).drop a).length),((l.take b).drop a)[k]=l.getD (a+k) d:=fun k hk=>by
  rw [List.length_drop,List.length_take] at hk
  rw [List.getElem_drop,List.getElem_take,List.getD_eq_getElem?_getD,List.getElem?_eq_getElem (by omega)];rfl
 rw [e,e]
 exact h _ _ (by omega) (by omega) (by omega)
theorem Gz_ (S:Swo lt) {d:α} {l r s:List α} {a b:Nat} (hab:a<=b) (hb:b<=l.length) (h1:Stb lt l a b r) (h2:Stb lt l a b s) (k1:zQ_ lt d r a b) (k2:zQ_ lt d s a b):r=s:=by
 have e:=U0_ S _ _ (k1.pw (by rw [h1.len];exact hb)) (k2.pw (by rw [h2.len];exact hb)) fun c=>by rw [h1.mid hab,h2.mid hab]
 rw [g8_ r (Nat.le_refl a) hab,g8_ s (Nat.le_refl a) hab,h1.lo,h1.hi,h2.lo,h2.hi,e]
variable (lt) in
def kb_ (x:α):List α->List α
 | []=>[x]
 | y :: r=>if lt x y=true then x :: y :: r else y :: kb_ x r
variable (lt) in
def isG (l:List α):List α:=l.foldl (fun o x=>kb_ lt x o) []
theorem uc_ (x z:α):∀ o:List α,z ∈ kb_ lt x o ↔ z=x\/z ∈ o
 | []=>by simp [kb_]
 | y :: r=>by
   unfold kb_
   split
   ·simp
   ·rw [List.mem_cons,uc_ x z r,List.mem_cons]
    constructor
    ·rintro (h | h | h)<;>simp [h]
    ·rintro (h | h | h)<;>simp [h]
theorem gc_ (S:Swo lt) (x:α):∀ o:List α,o.Pairwise (fun x y=>lt y x=false)->(kb_ lt x o).Pairwise (fun x y=>lt y x=false)
 | [],_=>List.pairwise_singleton ..
 | y :: r,h=>by
   have h':=List.pairwise_cons.1 h
   unfold kb_
   split
   ·rename_i c
    refine List.pairwise_cons.2 ⟨fun z hz=>?_,h⟩
    rcases List.mem_cons.1 hz with rfl | hz
    ·exact S.asy _ _ c
    ·exact S.neg _ _ _ (h'.1 z hz) (S.asy _ _ c)
   ·rename_i c
    refine List.pairwise_cons.2 ⟨fun z hz=>?_,gc_ S x r h'.2⟩
    rcases (uc_ x z r).1 hz with rfl | hz
    ·exact Bool.eq_false_iff.2 c
    ·exact h'.1 z hz
theorem hm_ (S:Swo lt) (x c:α):∀ o:List α,(kb_ lt x o).filter (QH_ lt c)=o.filter (QH_ lt c)++[x].filter (QH_ lt c)\/¬ o.Pairwise (fun x y=>lt y x=false)
 | []=>.inl rfl
 | y :: r=>by
   by_cases hp:(y :: r).Pairwise (fun x y=>lt y x=false)
   ·left
    have h':=List.pairwise_cons.1 hp
    have ih:=(hm_ S x c r).resolve_right fun h=>h h'.2
    unfold kb_
    split
    ·rename_i k
     cases e:QH_ lt c x with
     | false=>rw [List.filter_cons_of_neg (by rw [e];decide),List.filter_cons_of_neg (a:=x) (by rw [e];decide),List.filter_nil,List.append_nil]
     | true=>
       have he:=(Qg_ lt _ _).1 e
       have hno:∀ z,lt x z=true->QH_ lt c z=false:=fun z hz=>by
        cases q:QH_ lt c z with
        | false=>rfl
        | true=>
          have hq:=(Qg_ lt _ _).1 q
          rw [S.neg _ _ _ he.2 hq.1] at hz;cases hz
       have hn:(y :: r).filter (QH_ lt c)=[]:=by
        refine List.filter_eq_nil_iff.2 fun z hz=>?_
        rw [hno z ?_];decide
        rcases List.mem_cons.1 hz with rfl | hz
        ·exact k
        ·exact S.lt_le k (h'.1 z hz)
       rw [List.filter_cons_of_pos e,hn,List.filter_cons_of_pos (a:=x) e,List.filter_nil,List.nil_append]
    ·cases e:QH_ lt c y with
     | true=>rw [List.filter_cons_of_pos e,List.filter_cons_of_pos e,ih];rfl
     | false=>rw [List.filter_cons_of_neg (by rw [e];decide),List.filter_cons_of_neg (by rw [e];decide),ih]
   ·exact .inr hp
theorem xi_ (S:Swo lt):∀ (l o:List α),o.Pairwise (fun x y=>lt y x=false)->(l.foldl (fun o x=>kb_ lt x o) o).Pairwise (fun x y=>lt y x=false)/\(∀ c,(l.foldl (fun o x=>kb_ lt x o) o).filter (QH_ lt c)=o.filter (QH_ lt c)++l.filter (QH_ lt c))/\(l.foldl (fun o x=>kb_ lt x o) o).length=o.length+l.length
 | [],o,h=>⟨h,fun c=>by rw [List.filter_nil,List.append_nil];rfl,rfl⟩
 | x :: l,o,h=>by
   obtain ⟨h1,h2,h3⟩:=xi_ S l (kb_ lt x o) (gc_ S x o h)
   have hl:∀ o:List α,(kb_ lt x o).length=o.length+1:=by
    intro o
    induction o with
    | nil=>rfl
    | cons y r ih=>
      unfold kb_
      split
      ·rfl
      ·rw [List.length_cons,ih];rfl
   refine ⟨h1,fun c=>?_,?_⟩
   ·have e:=(hm_ S x c o).resolve_right fun k=>k h
    rw [List.foldl_cons,h2 c,e,List.append_assoc,<- List.filter_append];rfl
   ·rw [List.foldl_cons,h3,hl,List.length_cons];omega
theorem Ub_ (S:Swo lt) (l:List α):(isG lt l).Pairwise (fun x y=>lt y x=false):=(xi_ S l [] .nil).1
theorem By_ (S:Swo lt) (l:List α) (c:α):(isG lt l).filter (QH_ lt c)=l.filter (QH_ lt c):=(xi_ S l [] .nil).2.1 c
theorem xh_ (S:Swo lt) (l:List α):(isG lt l).length=l.length:=by have:=(xi_ S l [] .nil).2.2;rwa [List.length_nil,Nat.zero_add] at this
variable (lt) in
def stS (l:List α) (a b:Nat):List α:=l.take a++(isG lt ((l.take b).drop a)++l.drop b)
theorem Kp_ (S:Swo lt) (l:List α) {a b:Nat} (hab:a<=b) (hb:b<=l.length):Stb lt l a b (stS lt l a b):=by
 have h4:=g8_ l (Nat.le_refl a) hab
 have z:(l.take a).drop a=[]:=List.drop_of_length_le (by rw [List.length_take];omega)
 rw [z,List.nil_append] at h4
 refine ⟨?_,?_,?_,fun c=>?_⟩
 ·unfold stS;simp only [List.length_append,xh_ S,List.length_take,List.length_drop];omega
 ·unfold stS;exact List.take_left' (by rw [List.length_take];omega)
 ·unfold stS;rw [<- List.append_assoc]
  exact List.drop_left' (by simp only [List.length_append,xh_ S,List.length_take,List.length_drop];omega)
 ·conv=>rhs;rw [h4]
  unfold stS
  rw [List.filter_append,List.filter_append,By_ S,<- List.filter_append,<- List.filter_append]
theorem JH_ (S:Swo lt) (d:α) (l:List α) {a b:Nat} (hab:a<=b) (hb:b<=l.length):zQ_ lt d (stS lt l a b) a b:=fun i j i1 ij j1=>by
 have hp:=Ub_ S ((l.take b).drop a)
 rw [List.pairwise_iff_getElem] at hp
 have hl:(isG lt ((l.take b).drop a)).length=b - a:=by rw [xh_ S,List.length_drop,List.length_take];omega
 have e:∀ k,a<=k->k < b->∀ h:k - a < (isG lt ((l.take b).drop a)).length,(stS lt l a b).getD k d=(isG lt ((l.take b).drop a))[k - a]:=fun k k1 k2 h=>by
  unfold stS
  rw [Zj_,List.length_take,if_neg (by omega),show min a l.length=a by omega,Zj_,if_pos h,List.getD_eq_getElem?_getD,List.getElem?_eq_getElem h];rfl
 rw [e i i1 (by omega) (by omega),e j (by omega) j1 (by omega)]
 exact hp _ _ _ _ (by omega)
theorem wv_ (S:Swo lt) {d:α} {l r:List α} {a b:Nat} (hab:a<=b) (hb:b<=l.length) (h:Stb lt l a b r) (k:zQ_ lt d r a b):r=stS lt l a b:=
 Gz_ S hab hb h (Kp_ S l hab hb) k (JH_ S d l hab hb)
theorem uM_ (S:Swo lt) {d:α} {l:List α} {a b:Nat} (hab:a<=b) (hb:b<=l.length) (k:zQ_ lt d l a b):stS lt l a b=l:=(wv_ S hab hb (Stb.refl l a b) k).symm
theorem gC_ (S:Swo lt) (d:α) {l u:List α} {a b:Nat} (hab:a<=b) (hb:b<=l.length) (h:Stb lt l a b u):stS lt u a b=stS lt l a b:=
 wv_ S (d:=d) hab hb (h.trans (Kp_ S u hab (by rw [h.len];exact hb))) (JH_ S d u hab (by rw [h.len];exact hb))
theorem Hk_ (l:List α):stS lt l 0 l.length=isG lt l:=by
 unfold stS;rw [List.take_zero,List.nil_append,List.take_length,List.drop_length,List.append_nil,List.drop_zero]
end
section
variable {α:Type} {lt:α->α->Bool}
structure InsG (lt:α->α->Bool) (d:α) (l u:List α) (a b i j:Nat):Prop where
 R:Stb lt l a b u
 aj:a<=j
 ji:j<=i
 ib:i < b
 s:∀ p q,a<=p->p < q->q<=i->q ≠ j->lt (u.getD q d) (u.getD p d)=false
theorem Ug_ {d:α} {l u:List α} {a b i:Nat} (hR:Stb lt l a b u) (hS:zQ_ lt d u a i) (h1:a<=i) (h2:i < b):InsG lt d l u a b i i:=
 ⟨hR,h1,Nat.le_refl _,h2,fun p q k1 k2 k3 k4=>hS p q k1 k2 (by omega)⟩
theorem Hq_ {d:α} {u:List α} {j:Nat} (h0:0 < j) (hj:j < u.length):Rot u (j - 1) j (j+1) d (xt_ d u j (j - 1)):=
 UW_ (GI_ u j d) h0 (Nat.le_refl _) hj
theorem g1_ (S:Swo lt) {d:α} {l u:List α} {a b i j:Nat} (hb:b<=l.length) (J:InsG lt d l u a b i j) (haj:a < j) (hlt:lt (u.getD j d) (u.getD (j - 1) d)=true):InsG lt d l (xt_ d u j (j - 1)) a b i (j - 1):=by
 obtain ⟨hR,h1,h2,h3,hs⟩:=J
 have hl:=hR.len
 have g:=JG_ d u (i:=j) (j:=j - 1) (by omega) (by omega)
 have hadj:Stb lt u (j - 1) (j+1) (xt_ d u j (j - 1)):=(Hq_ (d:=d) (u:=u) (j:=j) (by omega) (by omega)).stb S (by omega) (by omega) (by omega) fun p q p1 p2 q1 q2=>by
  rw [show p=j - 1 by omega,show q=j by omega];exact hlt
 refine ⟨hR.trans (hadj.wide (by omega) (by omega)),by omega,by omega,h3,fun p q hp hpq hq hne=>?_⟩
 rw [g p,g q,if_neg hne]
 by_cases e1:q=j
 ·subst e1
  rw [if_pos rfl]
  by_cases e2:p=q - 1
  ·rw [if_pos e2];exact S.asy _ _ hlt
  ·rw [if_neg e2,if_neg (by omega)];exact hs p (q - 1) hp (by omega) (by omega) (by omega)
 ·rw [if_neg e1]
  by_cases e2:p=j - 1
  ·rw [if_pos e2];exact hs j q (by omega) (by omega) hq e1
  ·rw [if_neg e2]
   by_cases e3:p=j
   ·rw [if_pos e3];exact hs (j - 1) q (by omega) (by omega) hq e1
   ·rw [if_neg e3];exact hs p q hp hpq hq e1
theorem Yp_ (S:Swo lt) {d:α} {l u:List α} {a b i j:Nat} (J:InsG lt d l u a b i j) (hs:j=a\/lt (u.getD j d) (u.getD (j - 1) d)=false):zQ_ lt d u a (i+1):=by
 obtain ⟨hR,h1,h2,h3,hs'⟩:=J
 intro p q hp hpq hq
 by_cases e:q=j
 ·subst e
  rcases hs with hs | hs
  ·omega
  ·by_cases e2:p=q - 1
   ·rw [e2];exact hs
   ·exact S.neg _ _ _ hs (hs' p (q - 1) hp (by omega) (by omega) (by omega))
 ·exact hs' p q hp hpq (by omega) e
theorem qE_ (S:Swo lt) {d:α} {l:List α} {a b i j:Nat} (h:zQ_ lt d l a b) (h1:a<=i) (h2:i<=j) (h3:j < b):lt (l.getD j d) (l.getD i d)=false:=by
 by_cases e:i=j
 ·rw [e];exact S.irr _
 ·exact h i j h1 (by omega) h3
structure SymJ (lt:α->α->Bool) (d:α) (l:List α) (m b n s0 r0 s r:Nat):Prop where
 s0s:s0<=s
 sr:s<=r
 rr0:r<=r0
 f:∀ c,s0<=c->c < s->lt (l.getD (n - 1 - c) d) (l.getD c d)=false
 t:∀ c,r<=c->c < r0->lt (l.getD (n - 1 - c) d) (l.getD c d)=true
theorem uJ_ {d:α} (l:List α) {m b n s0 r0:Nat} (h:s0<=r0):SymJ lt d l m b n s0 r0 s0 r0:=
 ⟨Nat.le_refl _,h,Nat.le_refl _,fun c h1 h2=>by omega,fun c h1 h2=>by omega⟩
theorem Hf_ (S:Swo lt) {d:α} {l:List α} {a m b n s0 r0 s r c:Nat} (hs1:zQ_ lt d l a m) (hs2:zQ_ lt d l m b) (ha:a<=s0) (hr:r0<=m) (h1:n<=b+s0) (h2:m+r0<=n) (J:SymJ lt d l m b n s0 r0 s r) (hc1:s<=c) (hc2:c < r) (h:lt (l.getD (n - 1 - c) d) (l.getD c d)=false):SymJ lt d l m b n s0 r0 (c+1) r:=by
 obtain ⟨j1,j2,j3,j4,j5⟩:=J
 refine ⟨by omega,by omega,j3,fun k k1 k2=>?_,j5⟩
 have e1:=qE_ S hs1 (i:=k) (j:=c) (by omega) (by omega) (by omega)
 have e2:=qE_ S hs2 (i:=n - 1 - c) (j:=n - 1 - k) (by omega) (by omega) (by omega)
 exact S.neg _ _ _ e2 (S.neg _ _ _ h e1)
theorem Hg_ (S:Swo lt) {d:α} {l:List α} {a m b n s0 r0 s r c:Nat} (hs1:zQ_ lt d l a m) (hs2:zQ_ lt d l m b) (ha:a<=s0) (hr:r0<=m) (h1:n<=b+s0) (h2:m+r0<=n) (J:SymJ lt d l m b n s0 r0 s r) (hc1:s<=c) (hc2:c < r) (h:lt (l.getD (n - 1 - c) d) (l.getD c d)=true):SymJ lt d l m b n s0 r0 s c:=by
 obtain ⟨j1,j2,j3,j4,j5⟩:=J
 refine ⟨j1,hc1,by omega,j4,fun k k1 k2=>?_⟩
 have e1:=qE_ S hs1 (i:=c) (j:=k) (by omega) (by omega) (by omega)
 have e2:=qE_ S hs2 (i:=n - 1 - k) (j:=n - 1 - c) (by omega) (by omega) (by omega)
 exact S.lt_le (S.le_lt e2 h) e1
structure SymR (lt:α->α->Bool) (d:α) (l u:List α) (a s mid e b:Nat):Prop where
 R:Stb lt l a b u
 p1:zQ_ lt d u a s
 p2:zQ_ lt d u s mid
 p3:zQ_ lt d u mid e
 p4:zQ_ lt d u e b
 low:Low lt d u a mid b
theorem He_ (S:Swo lt) {d:α} {l u:List α} {a m b n mid s0 r0 s e:Nat} (hb:b<=l.length) (hs1:zQ_ lt d l a m) (hs2:zQ_ lt d l m b) (ha:a<=s0) (hr:r0<=m) (h1:n<=b+s0) (h2:m+r0<=n) (hn:n=mid+m) (he:e=n - s) (hend:s0=a\/n - s0=b) (hend2:r0=m\/n - r0=m) (ham:a<=mid) (hmb:mid<=b) (hsm:s<=mid) (J:SymJ lt d l m b n s0 r0 s s) (h:Rot l s m e d u):SymR lt d l u a s mid e b:=by
 obtain ⟨j1,j2,j3,j4,j5⟩:=J
 have hstr:∀ i j,s<=i->i < m->m<=j->j < e->lt (l.getD j d) (l.getD i d)=true:=fun i j i1 i2 j1' j2'=>by
  have hsr:s < r0:=by omega
  have k1:=j5 s (Nat.le_refl _) hsr
  have e1:=qE_ S hs1 (i:=s) (j:=i) (by omega) i1 i2
  have e2:=qE_ S hs2 (i:=j) (j:=n - 1 - s) j1' (by omega) (by omega)
  exact S.lt_le (S.le_lt e2 k1) e1
 have hR:=h.stb S (by omega) (by omega) (by omega) hstr
 have g:∀ k,k < b->u.getD k d=l.getD (zq_ s m e k) d:=fun k hk=>h.g k (by omega)
 refine ⟨hR.wide (by omega) (by omega),?_,?_,?_,?_,?_⟩
 ·intro i j i1 ij jj
  rw [g i (by omega),g j (by omega),show zq_ s m e i=i by unfold zq_;(repeat' split)<;>omega,show zq_ s m e j=j by unfold zq_;(repeat' split)<;>omega]
  exact hs1 i j i1 ij (by omega)
 ·intro i j i1 ij jj
  rw [g i (by omega),g j (by omega),show zq_ s m e i=i - s+m by unfold zq_;(repeat' split)<;>omega,show zq_ s m e j=j - s+m by unfold zq_;(repeat' split)<;>omega]
  exact hs2 _ _ (by omega) (by omega) (by omega)
 ·intro i j i1 ij jj
  rw [g i (by omega),g j (by omega),show zq_ s m e i=i - (e - m) by unfold zq_;(repeat' split)<;>omega,show zq_ s m e j=j - (e - m) by unfold zq_;(repeat' split)<;>omega]
  exact hs1 _ _ (by omega) (by omega) (by omega)
 ·intro i j i1 ij jj
  rw [g i (by omega),g j (by omega),show zq_ s m e i=i by unfold zq_;(repeat' split)<;>omega,show zq_ s m e j=j by unfold zq_;(repeat' split)<;>omega]
  exact hs2 i j (by omega) ij jj
 ·intro i j i1 i2 k1 k2
  rw [g i (by omega),g j (by omega)]
  by_cases c1:i < s
  ·rw [show zq_ s m e i=i by unfold zq_;(repeat' split)<;>omega]
   by_cases c2:j < e
   ·rw [show zq_ s m e j=j - (e - m) by unfold zq_;(repeat' split)<;>omega]
    exact hs1 _ _ i1 (by omega) (by omega)
   ·rw [show zq_ s m e j=j by unfold zq_;(repeat' split)<;>omega]
    have q:=j4 (s - 1) (by omega) (by omega)
    rw [show n - 1 - (s - 1)=e by omega] at q
    have e1:=qE_ S hs1 (i:=i) (j:=s - 1) i1 (by omega) (by omega)
    have e2:=qE_ S hs2 (i:=e) (j:=j) (by omega) (by omega) k2
    exact S.neg _ _ _ e2 (S.neg _ _ _ q e1)
  ·rw [show zq_ s m e i=i - s+m by unfold zq_;(repeat' split)<;>omega]
   by_cases c2:j < e
   ·rw [show zq_ s m e j=j - (e - m) by unfold zq_;(repeat' split)<;>omega]
    exact S.asy _ _ (hstr _ _ (by omega) (by omega) (by omega) (by omega))
   ·rw [show zq_ s m e j=j by unfold zq_;(repeat' split)<;>omega]
    exact hs2 _ _ (by omega) (by omega) k2
theorem GH_ {l:List α} {s m e:Nat} (d:α) (h:s=m\/m=e) (h1:s<=m) (h2:m<=e):Rot l s m e d l:=⟨rfl,fun k hk=>by congr 1;unfold zq_;(repeat' split)<;>omega⟩
theorem JE_ (S:Swo lt) {d:α} {l u:List α} {a s mid e b:Nat} (hb:b<=l.length) (ham:a<=mid) (hmb:mid<=b) (K:SymR lt d l u a s mid e b):stS lt (stS lt u a mid) mid b=stS lt l a b:=by
 have hl:=K.R.len
 have r1:=Kp_ S u ham (by omega)
 have hl1:=r1.len
 have r2:=Kp_ S (stS lt u a mid) hmb (by omega)
 refine wv_ S (d:=d) (by omega) hb ((K.R.trans (r1.wide (Nat.le_refl _) hmb)).trans (r2.wide ham (Nat.le_refl _))) (gD_ ?_ (JH_ S d _ hmb (by omega)) ((K.low.left S r1 (by omega)).right S r2 (by omega)))
 exact (JH_ S d u ham (by omega)).keep r2 (.inl (Nat.le_refl _))
theorem US_ (S:Swo lt) {d:α} {l u:List α} {a s mid e b:Nat} (hb:b<=l.length) (ham:a<=mid) (hmb:mid<=b) (K:SymR lt d l u a s mid e b) (h:a=s\/s=mid):stS lt u a mid=u:=by
 have hl:=K.R.len
 refine uM_ S (d:=d) ham (by omega) ?_
 rcases h with h | h
 ·rw [h];exact K.p2
 ·rw [<- h];exact K.p1
theorem UR_ (S:Swo lt) {d:α} {l u:List α} {a s mid e b:Nat} (hb:b<=l.length) (ham:a<=mid) (hmb:mid<=b) (K:SymR lt d l u a s mid e b) (h:mid=e\/e=b):stS lt (stS lt u a mid) mid b=stS lt u a mid:=by
 have hl:=K.R.len
 have r1:=Kp_ S u ham (by omega)
 have hl1:=r1.len
 refine uM_ S (d:=d) hmb (by omega) ?_
 rcases h with h | h
 ·rw [h];rw [<- h];exact (show zQ_ lt d u mid b by rw [h];exact K.p4).keep r1 (.inr (Nat.le_refl _))
 ·exact (show zQ_ lt d u mid b by rw [<- h];exact K.p3).keep r1 (.inr (Nat.le_refl _))
theorem Br_ (S:Swo lt) {d:α} {l u:List α} {a i b:Nat} (hb:b<=l.length) (h1:a+1<=i) (h2:i<=b) (hs:zQ_ lt d l (a+1) b) (hf:∀ h,a+1<=h->h < i->lt (l.getD h d) (l.getD a d)=true) (ht:∀ h,i<=h->h < b->lt (l.getD h d) (l.getD a d)=false) (h:Rot l a (a+1) i d u):u=stS lt l a b:=by
 have hR:=h.stb S (by omega) h1 (by omega) fun p q p1 p2 q1 q2=>by rw [show p=a by omega];exact hf q q1 q2
 refine wv_ S (d:=d) (by omega) hb (hR.wide (Nat.le_refl _) h2) fun p q p1 pq q1=>?_
 rw [h.g p (by omega),h.g q (by omega)]
 by_cases c1:q < i - 1
 ·rw [show zq_ a (a+1) i p=p+1 by unfold zq_;(repeat' split)<;>omega,show zq_ a (a+1) i q=q+1 by unfold zq_;(repeat' split)<;>omega]
  exact hs _ _ (by omega) (by omega) (by omega)
 ·by_cases c2:q=i - 1
  ·rw [show zq_ a (a+1) i p=p+1 by unfold zq_;(repeat' split)<;>omega,show zq_ a (a+1) i q=a by unfold zq_;(repeat' split)<;>omega]
   exact S.asy _ _ (hf _ (by omega) (by omega))
  ·rw [show zq_ a (a+1) i q=q by unfold zq_;(repeat' split)<;>omega]
   by_cases c3:p < i - 1
   ·rw [show zq_ a (a+1) i p=p+1 by unfold zq_;(repeat' split)<;>omega]
    exact hs _ _ (by omega) (by omega) q1
   ·by_cases c4:p=i - 1
    ·rw [show zq_ a (a+1) i p=a by unfold zq_;(repeat' split)<;>omega]
     exact ht _ (by omega) q1
    ·rw [show zq_ a (a+1) i p=p by unfold zq_;(repeat' split)<;>omega]
     exact hs _ _ (by omega) pq q1
theorem Bs_ (S:Swo lt) {d:α} {l u:List α} {a i m:Nat} (hb:m+1<=l.length) (h1:a<=i) (h2:i<=m) (hs:zQ_ lt d l a m) (hf:∀ h,a<=h->h < i->lt (l.getD m d) (l.getD h d)=false) (ht:∀ h,i<=h->h < m->lt (l.getD m d) (l.getD h d)=true) (h:Rot l i m (m+1) d u):u=stS lt l a (m+1):=by
 have hR:=h.stb S h2 (by omega) hb fun p q p1 p2 q1 q2=>by rw [show q=m by omega];exact ht p p1 p2
 refine wv_ S (d:=d) (by omega) hb (hR.wide h1 (Nat.le_refl _)) fun p q p1 pq q1=>?_
 rw [h.g p (by omega),h.g q (by omega)]
 by_cases c1:q < i
 ·rw [show zq_ i m (m+1) p=p by unfold zq_;(repeat' split)<;>omega,show zq_ i m (m+1) q=q by unfold zq_;(repeat' split)<;>omega]
  exact hs _ _ p1 pq (by omega)
 ·by_cases c2:q=i
  ·rw [show zq_ i m (m+1) p=p by unfold zq_;(repeat' split)<;>omega,show zq_ i m (m+1) q=m by unfold zq_;(repeat' split)<;>omega]
   exact hf _ p1 (by omega)
  ·rw [show zq_ i m (m+1) q=q - 1 by unfold zq_;(repeat' split)<;>omega]
   by_cases c3:p < i
   ·rw [show zq_ i m (m+1) p=p by unfold zq_;(repeat' split)<;>omega]
    exact hs _ _ p1 (by omega) (by omega)
   ·by_cases c4:p=i
    ·rw [show zq_ i m (m+1) p=m by unfold zq_;(repeat' split)<;>omega]
     exact S.asy _ _ (ht _ (by omega) (by omega))
    ·rw [show zq_ i m (m+1) p=p - 1 by unfold zq_;(repeat' split)<;>omega]
     exact hs _ _ (by omega) (by omega) (by omega)
end
def ltO (a b:OV):Bool:=decide (a.1 < b.1) || (decide (a.1=b.1) && (decide (a.2.1 < b.2.1) || (decide (a.2.1=b.2.1) && decide (a.2.2.2.1 < b.2.2.2.1))))
theorem xf_ (a b:OV):ltO a b=true ↔ a.1 < b.1\/(a.1=b.1/\(a.2.1 < b.2.1\/(a.2.1=b.2.1/\a.2.2.2.1 < b.2.2.2.1))):=by
 unfold ltO
 simp only [Bool.or_eq_true,Bool.and_eq_true,decide_eq_true_eq]
theorem u6_ (a b:OV):ltO a b=false ↔ ¬ (a.1 < b.1\/(a.1=b.1/\(a.2.1 < b.2.1\/(a.2.1=b.2.1/\a.2.2.2.1 < b.2.2.2.1)))):=by
 rw [<- xf_];cases ltO a b<;>simp
theorem zn_:Swo ltO:=by
 refine ⟨fun a=>?_,fun a b c h k=>?_,fun a b h=>?_⟩
 ·rw [u6_];omega
 ·rw [u6_] at*;omega
 ·rw [u6_];rw [xf_] at h;omega
def cmI (x y:Int):Int:=if x < y then -1 else if y < x then 1 else 0
def orF:List Int->Int
 | []=>0
 | x :: r=>if x=0 then orF r else x
def cmO (a b:OV):Int:=orF [cmI a.1 b.1,cmI a.2.1 b.2.1,cmI a.2.2.2.1 b.2.2.2.1]
theorem XP_ (a b:OV):cmO a b < 0 ↔ ltO a b=true:=by
 rw [xf_];unfold cmO orF orF orF orF cmI
 (repeat' split)<;>omega
theorem vS_ (a b:OV):¬ cmO a b < 0 ↔ ltO a b=false:=by
 rw [XP_];cases ltO a b<;>simp
def j2_:IR:=
(sq (kr [0] [oD 2 (.mov cF)])
(sq (.reg [oM 3 0,
oM 4 0,
oB 5 .neq 3 4,
oM 2 5])
.ret))
def jZ_:List RD:=[.tmp 2 true none]
theorem j0_:zm_ Tryd.prog Tryd.f62 j2_ jZ_=true:=by kernel_rfl
def qO_:List AV->List Obj->Option (Prop × AV)
 | [.int .u64 x],[]=>some ((True,.bool false))
 | _,_=>none
theorem jc_:zf_ Tryd.prog 62 (RoF qO_).sum:=by
 refine zi_ Tryd.func62 j0_ (ze_ _) fun args objs p v e=>?_
 unfold qO_ at e
 split at e
 ·rename_i x
  cases e
  refine ⟨rfl,fun hw ho hp=>?_⟩
  repeat'(intro t ht;first|(cases t<;>first|(cases ht;done)|(try simp only[zg_]at ht;try(exfalso;first|contradiction|omega)))|((first|refine za_ ht ?_|refine ht ?_ ?_|refine ht.1 ?_ ?_|refine ht ?_)<;>clear ht))
  all_goals first
   | exact True.intro
   | exact ⟨rfl,rfl⟩
   | (refine ⟨congrArg AV.bool ?_,rfl⟩;simp;done)
 ·cases e
def Jn_:IR:=
(sq (kr [0,1] [oD 4 (.mov (cI 0))])
(sq (.reg [oM 7 0,
oC 8 61 [7],
oM 5 8])
(sq (.reg [oM 9 1,
oC 10 61 [9],
oM 6 10])
(sq (sq (kr [0,1,5,6] [oM 11 5])
(.cond 11
(sq (sq (.reg [oM 12 6])
(.cond 12
(sq (.reg [oD 4 (.mov (cI 0))])
.ret)
.skip))
(sq (.reg [oD 4 (.mov (cI (-1)))])
.ret))
.skip))
(sq (sq (.reg [oM 13 6])
(.cond 13
(sq (kr [] [oD 4 (.mov (cI 1))])
.ret)
.skip))
(sq (sq (kr [0,1] [oM 14 0,
oM 15 1,
oB 16 .lss 14 15])
(.cond 16
(sq (.reg [oD 4 (.mov (cI (-1)))])
.ret)
.skip))
(sq (sq (.reg [oM 17 0,
oM 18 1,
oB 19 .gtr 17 18])
(.cond 19
(sq (kr [] [oD 4 (.mov (cI 1))])
.ret)
.skip))
(sq (kr [] [oD 4 (.mov (cI 0))])
.ret))))))))
def Je_:List RD:=[.tmp 4 true none]
theorem Jh_:zm_ Tryd.prog Tryd.f47 Jn_ Je_=true:=by kernel_rfl
def Qk_:List AV->List Obj->Option (Prop × AV)
 | [.int .i64 x,.int .i64 y],[]=>some ((True,.int .i64 (cmI x y)))
 | _,_=>none
theorem jY_:zf_ Tryd.prog 47 (RoF Qk_).sum:=by
 refine zi_ Tryd.func47 Jh_ (zb_ (s:=RoF kd_) JL_ (ze_ _)) fun args objs p v e=>?_
 unfold Qk_ at e
 split at e
 ·rename_i x y
  cases e
  refine ⟨rfl,fun hw ho hp=>?_⟩
  clear hw ho
  repeat'(intro t ht;first|(cases t<;>first|(cases ht;done)|(try simp only[zg_]at ht;try(exfalso;first|contradiction|omega)))|((first|refine za_ ht ?_|refine ht ?_ ?_|refine ht.1 ?_ ?_|refine ht ?_)<;>clear ht))
  all_goals (try unfold cmI)
  all_goals first
   | exact True.intro
   | (rw [if_pos (by omega)];exact ⟨rfl,by first | rfl | exact True.intro⟩)
   | (rw [if_neg (by omega),if_pos (by omega)];exact ⟨rfl,by first | rfl | exact True.intro⟩)
   | (rw [if_neg (by omega),if_neg (by omega)];exact ⟨rfl,by first | rfl | exact True.intro⟩)
 ·cases e
def K5_:IR:=
(sq (kr [0,1] [oD 4 (.mov (cI 0))])
(sq (.reg [oM 7 0,
oC 8 62 [7],
oM 5 8])
(sq (.reg [oM 9 1,
oC 10 62 [9],
oM 6 10])
(sq (sq (kr [0,1,5,6] [oM 11 5])
(.cond 11
(sq (sq (.reg [oM 12 6])
(.cond 12
(sq (.reg [oD 4 (.mov (cI 0))])
.ret)
.skip))
(sq (.reg [oD 4 (.mov (cI (-1)))])
.ret))
.skip))
(sq (sq (.reg [oM 13 6])
(.cond 13
(sq (kr [] [oD 4 (.mov (cI 1))])
.ret)
.skip))
(sq (sq (kr [0,1] [oM 14 0,
oM 15 1,
oB 16 .lss 14 15])
(.cond 16
(sq (.reg [oD 4 (.mov (cI (-1)))])
.ret)
.skip))
(sq (sq (.reg [oM 17 0,
oM 18 1,
oB 19 .gtr 17 18])
(.cond 19
(sq (kr [] [oD 4 (.mov (cI 1))])
.ret)
.skip))
(sq (kr [] [oD 4 (.mov (cI 0))])
.ret))))))))
def K0_:List RD:=[.tmp 4 true none]
theorem K3_:zm_ Tryd.prog Tryd.f48 K5_ K0_=true:=by kernel_rfl
def Z5_:List AV->List Obj->Option (Prop × AV)
 | [.int .u64 x,.int .u64 y],[]=>some ((True,.int .i64 (cmI x y)))
 | _,_=>none
theorem Kr_:zf_ Tryd.prog 48 (RoF Z5_).sum:=by
 refine zi_ Tryd.func48 K3_ (zb_ (s:=RoF qO_) jc_ (ze_ _)) fun args objs p v e=>?_
 unfold Z5_ at e
 split at e
 ·rename_i x y
  cases e
  refine ⟨rfl,fun hw ho hp=>?_⟩
  clear hw ho
  repeat'(intro t ht;first|(cases t<;>first|(cases ht;done)|(try simp only[zg_]at ht;try(exfalso;first|contradiction|omega)))|((first|refine za_ ht ?_|refine ht ?_ ?_|refine ht.1 ?_ ?_|refine ht ?_)<;>clear ht))
  all_goals (try unfold cmI)
  all_goals first
   | exact True.intro
   | (rw [if_pos (by omega)];exact ⟨rfl,by first | rfl | exact True.intro⟩)
   | (rw [if_neg (by omega),if_pos (by omega)];exact ⟨rfl,by first | rfl | exact True.intro⟩)
   | (rw [if_neg (by omega),if_neg (by omega)];exact ⟨rfl,by first | rfl | exact True.intro⟩)
 ·cases e
theorem Vw_ {l:List Int} {i:Nat} {d:Int} (h:i < l.length):orF (l.drop i)=if l.getD i d=0 then orF (l.drop (i+1)) else l.getD i d:=by
 rw [Zt_ h d];rfl
def y5_:IR:=
(sq (kr [0] [oD 2 (.mov (cI 0))])
(sq (.reg [oD 3 (.mov (cI 0))])
(sq (sq (.reg [oM 6 0,
oE 7 6,
oD 8 (.mov (cI 0))])
(.block 0
(.loop
(sq (kr [3,6,7,8] [oB 9 .lss 8 7])
(sq (.cond 9
.skip
(.exit 0))
(sq (.block 1
(sq (.reg [oI 10 1 6 8,
oL 11 10,
oM 5 11])
(sq (.reg [oM 12 5,
oM 13 3,
oB 14 .neq 12 13])
(.cond 14
(sq (kr [5] [oM 15 5,
oM 2 15])
.ret)
.skip))))
(kr [3,6,7,8] [oB 16 .add 8 (cI 1),
oM 8 16])))))))
(sq (kr [3] [oM 17 3,
oM 2 17])
.ret))))
def yy_:List RD:=[.tmp 2 true none]
theorem yN_:zm_ Tryd.prog Tryd.f46 y5_ yy_=true:=by kernel_rfl
def KW_:List AV->List Obj->Option (Prop × AV)
 | [.imm (.int .i64) l],[]=>some ((l.length<=1000000,.int .i64 (orF l)))
 | _,_=>none
theorem xH_:zf_ Tryd.prog 46 (RoF KW_).sum:=by
 refine zi_ Tryd.func46 yN_ (ze_ _) fun args objs p v e=>?_
 unfold KW_ at e
 split at e
 ·rename_i l
  cases e
  refine ⟨rfl,fun hw ho hp=>?_⟩
  change List Int at l
  clear hw ho
  repeat'(intro t ht;first|(cases t<;>first|(cases ht;done)|(try simp only[zg_]at ht;try(exfalso;first|contradiction|omega)))|((first|refine za_ ht ?_|refine ht ?_ ?_|refine ht.1 ?_ ?_|refine ht ?_)<;>clear ht))
  all_goals first
   | exact True.intro
   | (intro r h1 h2;clear h1;refine h2 ⟨[3,6,7,8],Nat,(fun i=>i<=l.length/\orF l=orF (l.drop i)),fun i=>[.int .i64 0,.imm (.int .i64) l,.int .i64 l.length,.int .i64 i],fun _=>[],fun i=>l.length - i,⟨0,⟨Nat.zero_le _,rfl⟩,rfl,rfl⟩,?_⟩;clear h2)
  rintro i ⟨hi,he⟩
  repeat'(intro t ht;first|(cases t<;>first|(cases ht;done)|(try simp only[zg_]at ht;try(exfalso;first|contradiction|omega)))|((first|refine za_ ht ?_|refine ht ?_ ?_|refine ht.1 ?_ ?_|refine ht ?_)<;>clear ht))
  all_goals first
   | exact True.intro
   | omega
   | ((try dsimp only);simp only [zp_];omega)
   | (rw [he,Vw_ (d:=0) (by omega),if_neg ht];exact ⟨rfl,by first | rfl | exact True.intro⟩)
   | (rw [he,List.drop_of_length_le (by omega)];exact ⟨rfl,by first | rfl | exact True.intro⟩)
   | (refine ⟨i+1,⟨by omega,?_⟩,?_,rfl,rfl⟩
      ·rw [he,Vw_ (d:=0) (by omega),if_pos ht]
      ·(try dsimp only);omega)
 ·cases e
def Xs_:IR:=
(sq (kr [0,1] [oD 2 (.boxv 0),
oD 3 (.boxv 1),
oD 4 (.mov (cI 0))])
(sq (kd [2,3] [(oA 5 0 2,[]),
(oL 6 5,[]),
(oA 7 0 3,[0,0]),
(oL 8 7,[1,0]),
(oC 9 47 [6,8],[]),
(oA 10 1 2,[0,0,0,0,0]),
(oL 11 10,[1,0,0,0,0]),
(oA 12 1 3,[0,0,0,0,0,0,0]),
(oL 13 12,[1,0,0,0,0,0,0]),
(oC 14 47 [11,13],[]),
(oA 15 3 2,[0,0,0,0,0,0,0,0,0,0]),
(oL 16 15,[1,0,0,0,0,0,0,0,0,0]),
(oA 17 3 3,[0,0,0,0,0,0,0,0,0,0,0,0]),
(oL 18 17,[1,0,0,0,0,0,0,0,0,0,0,0]),
(oC 19 48 [16,18],[]),
(oD 20 (.sliceAll (.int .i64) 3 [(0,1,9),(1,1,14),(2,1,19)]),[]),
(oC 21 46 [20],[]),
(oM 4 21,[])])
.ret))
def xQ_:List RD:=[.tmp 4 true none]
theorem Xb_:zm_ Tryd.prog Tryd.f45 Xs_ xQ_=true:=by kernel_rfl
def qA_:List AV->List Obj->Option (Prop × AV)
 | [.agg [.int .i64 c,.int .i64 f,.bool h,.int .u64 x,.imm (.int .u8) v,.imm (.int .u8) m],.agg [.int .i64 c',.int .i64 f',.bool h',.int .u64 x',.imm (.int .u8) v',.imm (.int .u8) m']],[]=>some ((True,.int .i64 (cmO (c,f,h,x,v,m,()) (c',f',h',x',v',m',()))))
 | _,_=>none
theorem Q8_:zf_ Tryd.prog 45 (RoF qA_).sum:=by
 refine zi_ Tryd.func45 Xb_ (zb_ (s:=RoF Qk_) jY_ (zb_ (s:=RoF Z5_) Kr_ (zb_ (s:=RoF KW_) xH_ (ze_ _)))) fun args objs p v e=>?_
 unfold qA_ at e
 split at e
 ·rename_i c f h x v m c' f' h' x' v' m'
  cases e
  refine ⟨rfl,fun hw ho hp=>?_⟩
  change List Int at v
  change List Int at m
  change List Int at v'
  change List Int at m'
  clear hw ho
  repeat'(intro t ht;first|(cases t<;>first|(cases ht;done)|(try simp only[zg_]at ht;try(exfalso;first|contradiction|omega)))|((first|refine za_ ht ?_|refine ht ?_ ?_|refine ht.1 ?_ ?_|refine ht ?_)<;>clear ht))
  all_goals first
   | exact True.intro
   | exact ⟨rfl,rfl⟩
   | exact (by decide:(3:Nat)<=1000000)
   | (simp only [List.length_cons,List.length_nil];omega)
 ·cases e
end Go.Eng
