/- Parts of the proof: S1, R4, T1. No condition. -/
import Derived.Test.YtodnkagabgglfaaGreatDoorProg
import Derived.Test.YtodnkagabgglfaaGreatDoorWB10
import Derived.KernelRfl
namespace Go.Eng
open Go.Proofs
set_option linter.unusedVariables false
set_option linter.unusedSimpArgs false
set_option maxRecDepth 100000
set_option maxHeartbeats 1000000
def swp (l:List Int) (i j:Nat):List Int:=(l.set i (l.getD j 0)).set j (l.getD i 0)
theorem UW_ (l:List Int) (i j:Nat):(swp l i j).length=l.length:=by unfold swp;simp
theorem Kn_ (l:List Int) {i j:Nat} (hi:i < l.length) (hj:j < l.length) (k:Nat):(swp l i j).getD k 0=if k=j then l.getD i 0 else if k=i then l.getD j 0 else l.getD k 0:=by
 unfold swp
 simp only [List.getD_eq_getElem?_getD,List.getElem?_set,List.length_set]
 by_cases h1:j=k
 ·subst h1;simp [hj]
 ·by_cases h2:i=k
  ·subst h2;simp [h1,Ne.symm h1,hi]
  ·simp [h1,h2,Ne.symm h1,Ne.symm h2]
theorem zbm_ (l:List Int) {i j:Nat} (hi:i < l.length) (hj:j < l.length):(swp l i j).Perm l:=by
 unfold swp
 have:=List.set_set_perm hi hj
 rw [List.getD_eq_getElem?_getD,List.getD_eq_getElem?_getD,List.getElem?_eq_getElem hi,List.getElem?_eq_getElem hj]
 exact this
structure Rear (l:List Int) (a b:Nat) (r:List Int):Prop where
 perm:r.Perm l
 lo:r.take a=l.take a
 hi:r.drop b=l.drop b
theorem Rear.refl (l:List Int) (a b:Nat):Rear l a b l:=⟨.refl _,rfl,rfl⟩
theorem Rear.len {l r:List Int} {a b:Nat} (h:Rear l a b r):r.length=l.length:=h.perm.length_eq
theorem Rear.trans {l r s:List Int} {a b:Nat} (h:Rear l a b r) (k:Rear r a b s):Rear l a b s:=⟨k.perm.trans h.perm,k.lo.trans h.lo,k.hi.trans h.hi⟩
theorem Rear.wide {l r:List Int} {a b a' b':Nat} (h:Rear l a b r) (ha:a'<=a) (hb:b<=b'):Rear l a' b' r:=by
 refine ⟨h.perm,?_,?_⟩
 ·have:=congrArg (List.take a') h.lo
  rwa [List.take_take,List.take_take,Nat.min_eq_left ha] at this
 ·have:=congrArg (List.drop (b' - b)) h.hi
  rwa [List.drop_drop,List.drop_drop,show b+(b' - b)=b' by omega] at this
theorem Uo_ {l:List Int} {k a:Nat} (h:k < a):(l.take a).getD k 0=l.getD k 0:=by
 simp only [List.getD_eq_getElem?_getD,List.getElem?_take,if_pos h]
theorem Up_ (l:List Int) (k b:Nat):(l.drop b).getD k 0=l.getD (b+k) 0:=by
 simp only [List.getD_eq_getElem?_getD,List.getElem?_drop]
theorem Rear.get {l r:List Int} {a b k:Nat} (h:Rear l a b r) (hk:k < a\/b<=k):r.getD k 0=l.getD k 0:=by
 rcases hk with hk | hk
 ·rw [<- Uo_ hk,h.lo,Uo_ hk]
 ·have:=Up_ r (k - b) b
  rw [h.hi,Up_,show b+(k - b)=k by omega] at this
  exact this.symm
theorem Rear.swp {l:List Int} {a b i j:Nat} (hi:a<=i/\i < b) (hj:a<=j/\j < b) (hb:b<=l.length):Rear l a b (swp l i j):=by
 refine ⟨zbm_ l (by omega) (by omega),?_,?_⟩
 ·unfold Go.Eng.swp
  rw [List.take_set_of_le (by omega),List.take_set_of_le (by omega)]
 ·unfold Go.Eng.swp
  rw [List.drop_set_of_lt (by omega),List.drop_set_of_lt (by omega)]
def midR (l:List Int) (a b:Nat):List Int:=(l.take b).drop a
theorem cut3 (l:List Int) {a b:Nat} (h:a<=b):l=l.take a++midR l a b++l.drop b:=by
 unfold midR
 have h1:l.take a=(l.take b).take a:=by rw [List.take_take,Nat.min_eq_left h]
 rw [h1,List.take_append_drop,List.take_append_drop]
theorem Rear.midR {l r:List Int} {a b:Nat} (h:Rear l a b r) (hab:a<=b):(midR r a b).Perm (midR l a b):=by
 have h1:=h.perm
 rw [cut3 l hab,cut3 r hab,h.lo,h.hi] at h1
 exact (List.perm_append_left_iff _).1 ((List.perm_append_right_iff _).1 h1)
theorem jG_ (l:List Int) {a b k:Nat} (hb:b<=l.length) (hk:a+k < b):(midR l a b)[k]?=some (l.getD (a+k) 0):=by
 unfold midR
 rw [List.getElem?_drop,List.getElem?_take,if_pos hk,List.getElem?_eq_getElem (by omega),List.getD_eq_getElem?_getD,List.getElem?_eq_getElem (by omega)];rfl
theorem QQ_ (l:List Int) {a b:Nat} (hb:b<=l.length):(midR l a b).length=b - a:=by
 unfold midR;rw [List.length_drop,List.length_take,Nat.min_eq_left hb]
def k9_ (l:List Int) (a b:Nat):Prop:=∀ i j,a<=i->i < j->j < b->l.getD i 0<=l.getD j 0
theorem k9_.pw {l:List Int} {a b:Nat} (h:k9_ l a b) (hb:b<=l.length):(midR l a b).Pairwise (· <=·):=by
 rw [List.pairwise_iff_getElem]
 intro i j hi hj hij
 rw [QQ_ l hb] at hi hj
 have e1:=jG_ l (a:=a) (k:=i) hb (by omega)
 have e2:=jG_ l (a:=a) (k:=j) hb (by omega)
 rw [List.getElem?_eq_getElem (by rw [QQ_ l hb];omega)] at e1 e2
 rw [Option.some.inj e1,Option.some.inj e2]
 exact h _ _ (by omega) (by omega) (by omega)
def leI (x y:Int):Bool:=decide (x<=y)
def srt (l:List Int) (a b:Nat):List Int:=l.take a++(midR l a b).mergeSort leI++l.drop b
theorem bH_ (l:List Int):(l.mergeSort leI).Pairwise (· <=·):=by
 have:=List.pairwise_mergeSort (le:=leI) (fun a b c h1 h2=>by unfold leI at*;simp only [decide_eq_true_eq] at*;omega) (fun a b=>by unfold leI;simp only [Bool.or_eq_true,decide_eq_true_eq];omega) l
 exact this.imp fun h=>by unfold leI at h;simpa using h
theorem zbC_ {l r:List Int} (h:l.Pairwise (· <=·)) (k:r.Pairwise (· <=·)) (p:l.Perm r):l=r:=
 List.Perm.eq_of_pairwise (le:=(· <=·)) (fun a b _ _ h1 h2=>Int.le_antisymm h1 h2) h k p
theorem Bv_ (l:List Int) {a b:Nat} (h:a<=b):(srt l a b).length=l.length:=by
 have:=congrArg List.length (cut3 l h)
 unfold srt
 simp only [List.length_append,List.length_mergeSort] at this ⊢
 exact this.symm
theorem kN_ (l:List Int) {a b:Nat} (h:a<=b) (hb:b<=l.length):Rear l a b (srt l a b):=by
 refine ⟨?_,?_,?_⟩
 ·conv=>rhs;rw [cut3 l h]
  exact ((List.mergeSort_perm _ _).append_left _).append_right _
 ·unfold srt;rw [List.append_assoc]
  exact List.take_left' (by rw [List.length_take];omega)
 ·unfold srt
  exact List.drop_left' (by rw [List.length_append,List.length_mergeSort,QQ_ l hb,List.length_take];omega)
theorem W9_ {l r:List Int} {a b:Nat} (hab:a<=b) (hb:b<=l.length) (h:Rear l a b r) (k:k9_ r a b):r=srt l a b:=by
 have hbr:b<=r.length:=by rw [h.len];exact hb
 rw [cut3 r hab,h.lo,h.hi]
 unfold srt
 rw [zbC_ (k.pw hbr) (bH_ (midR l a b)) ((h.midR hab).trans (List.mergeSort_perm _ _).symm)]
theorem wv_ (l:List Int) {a b:Nat} (hab:a<=b) (hb:b<=l.length):k9_ (srt l a b) a b:=by
 have hR:=kN_ l hab hb
 have hm:midR (srt l a b) a b=(midR l a b).mergeSort leI:=by
  unfold midR srt
  rw [List.take_left' (by rw [List.length_append,List.length_mergeSort,QQ_ l hb,List.length_take];omega)]
  exact List.drop_left' (by rw [List.length_take];omega)
 have hp:=bH_ (midR l a b)
 rw [<- hm,List.pairwise_iff_getElem] at hp
 intro i j hi hij hj
 have hbs:b<=(srt l a b).length:=by rw [hR.len];exact hb
 have:=hp (i - a) (j - a) (by rw [QQ_ _ hbs];omega) (by rw [QQ_ _ hbs];omega) (by omega)
 have e1:=jG_ (srt l a b) (a:=a) (k:=i - a) hbs (by omega)
 have e2:=jG_ (srt l a b) (a:=a) (k:=j - a) hbs (by omega)
 rw [List.getElem?_eq_getElem (by rw [QQ_ _ hbs];omega)] at e1 e2
 rw [Option.some.inj e1,Option.some.inj e2,show a+(i - a)=i by omega,show a+(j - a)=j by omega] at this
 exact this
theorem Wq_ {l r:List Int} {a b:Nat} (hab:a<=b) (hb:b<=l.length) (h:Rear l a b r):srt r a b=srt l a b:=
 W9_ hab hb (h.trans (kN_ r hab (by rw [h.len];exact hb))) (wv_ r hab (by rw [h.len];exact hb))
theorem zbn_ {l:List Int} {a b:Nat} (hab:a<=b) (hb:b<=l.length) (k:k9_ l a b):srt l a b=l:=(W9_ hab hb (Rear.refl l a b) k).symm
theorem zad_ {l:List Int} {a b:Nat} (hab:a<=b) (h1:b<=a+1) (hb:b<=l.length):srt l a b=l:=zbn_ hab hb fun i j _ _ _=>by omega
theorem Rear.at {l r:List Int} {a b i:Nat} (h:Rear l a b r) (hab:a<=b) (hb:b<=l.length) (hi:a<=i/\i < b):∃ j,a<=j/\j < b/\r.getD i 0=l.getD j 0:=by
 have hm:=h.midR hab
 have hbr:b<=r.length:=by rw [h.len];exact hb
 have e1:=jG_ r (a:=a) (k:=i - a) hbr (by omega)
 have hin:r.getD i 0 ∈ Go.Eng.midR r a b:=by
  rw [show a+(i - a)=i by omega] at e1
  exact List.mem_of_getElem? e1
 have:=(hm.mem_iff).1 hin
 obtain ⟨k,hk,e⟩:=List.mem_iff_getElem.1 this
 rw [QQ_ l hb] at hk
 have e2:=jG_ l (a:=a) (k:=k) hb (by omega)
 rw [List.getElem?_eq_getElem (by rw [QQ_ l hb];exact hk)] at e2
 exact ⟨a+k,by omega,by omega,by rw [<- e];exact Option.some.inj e2⟩
theorem XW_ {l:List Int} {a m b:Nat} (h1:a<=m) (h2:m<=b) (hb:b<=l.length) (h:∀ i j,a<=i->i < m->m<=j->j < b->l.getD i 0<=l.getD j 0):srt l a b=srt (srt l a m) m b:=by
 have r1:=kN_ l h1 (show m<=l.length by omega)
 have hb1:b<=(srt l a m).length:=by rw [r1.len];exact hb
 have r2:=kN_ (srt l a m) h2 hb1
 refine (W9_ (by omega) hb ((r1.wide (Nat.le_refl _) h2).trans (r2.wide h1 (Nat.le_refl _))) fun i j hi hij hj=>?_).symm
 by_cases him:i < m
 ·rw [r2.get (.inl him)]
  by_cases hjm:j < m
  ·rw [r2.get (.inl hjm)];exact wv_ l h1 (by omega) i j hi hij hjm
  ·obtain ⟨j',g1,g2,g3⟩:=r2.at h2 hb1 (i:=j) ⟨by omega,hj⟩
   obtain ⟨i',q1,q2,q3⟩:=r1.at h1 (by omega) (i:=i) ⟨hi,him⟩
   rw [g3,q3,r1.get (.inr g1)]
   exact h _ _ q1 q2 g1 g2
 ·exact wv_ _ h2 hb1 i j (by omega) hij hj
theorem u1_ {l:List Int} {a b:Nat} (h1:a < b) (hb:b<=l.length) (h:∀ j,a < j->j < b->l.getD a 0<=l.getD j 0):srt l a b=srt l (a+1) b:=by
 rw [XW_ (m:=a+1) (by omega) (by omega) hb fun i j hi hi' hj hj'=>by rw [show i=a by omega];exact h j (by omega) hj',zad_ (by omega) (Nat.le_refl _) (by omega)]
structure InsJ (l r:List Int) (a b i j:Nat):Prop where
 R:Rear l a b r
 aj:a<=j
 ji:j<=i
 ib:i < b
 s:∀ p q,a<=p->p < q->q<=i->q ≠ j->r.getD p 0<=r.getD q 0
theorem Um_ {l r:List Int} {a b i:Nat} (h:Rear l a b r) (s:k9_ r a i) (ai:a<=i) (ib:i < b):InsJ l r a b i i:=
 ⟨h,ai,Nat.le_refl _,ib,fun p q h1 h2 h3 h4=>s p q h1 h2 (by omega)⟩
theorem Hj_ {l r:List Int} {a b i j:Nat} (hb:b<=l.length) (h:InsJ l r a b i j) (hj:a < j) (hlt:r.getD j 0 < r.getD (j - 1) 0):InsJ l (swp r j (j - 1)) a b i (j - 1):=by
 obtain ⟨hR,h1,h2,h3,hs⟩:=h
 have hl:=hR.len
 have g:=Kn_ r (i:=j) (j:=j - 1) (by omega) (by omega)
 refine ⟨hR.trans (Rear.swp (by omega) (by omega) (by omega)),by omega,by omega,h3,fun p q hp hpq hq hne=>?_⟩
 rw [g p,g q,if_neg hne]
 by_cases e1:q=j
 ·subst e1
  rw [if_pos rfl]
  by_cases e2:p=q - 1
  ·rw [if_pos e2];omega
  ·rw [if_neg e2,if_neg (by omega)];exact hs p (q - 1) hp (by omega) (by omega) (by omega)
 ·rw [if_neg e1]
  by_cases e2:p=j - 1
  ·rw [if_pos e2]
   exact hs j q (by omega) (by omega) hq e1
  ·rw [if_neg e2]
   by_cases e3:p=j
   ·rw [if_pos e3];exact hs (j - 1) q (by omega) (by omega) hq e1
   ·rw [if_neg e3];exact hs p q hp hpq hq e1
theorem v9_ {l r:List Int} {a b i j:Nat} (h:InsJ l r a b i j) (hs:j=a\/¬ r.getD j 0 < r.getD (j - 1) 0):k9_ r a (i+1):=by
 obtain ⟨hR,h1,h2,h3,hs'⟩:=h
 intro p q hp hpq hq
 by_cases e:q=j
 ·subst e
  rcases hs with hs | hs
  ·omega
  ·by_cases e2:p=q - 1
   ·rw [e2];omega
   ·have:=hs' p (q - 1) hp (by omega) (by omega) (by omega)
    omega
 ·exact hs' p q hp hpq (by omega) e
def Hp (r:List Int) (f lo hi:Nat):Prop:=∀ i c,lo<=i->(c=2*i+1\/c=2*i+2)->c < hi->r.getD (f+c) 0<=r.getD (f+i) 0
structure SiftJ (l r:List Int) (f lo hi x:Nat):Prop where
 R:Rear l (f+lo) (f+hi) r
 lx:lo<=x
 h:∀ i c,lo<=i->i ≠ x->(c=2*i+1\/c=2*i+2)->c < hi->r.getD (f+c) 0<=r.getD (f+i) 0
 g:∀ p c,lo<=p->(x=2*p+1\/x=2*p+2)->(c=2*x+1\/c=2*x+2)->c < hi->r.getD (f+c) 0<=r.getD (f+p) 0
theorem H4_ {l:List Int} {f lo hi:Nat} (h:Hp l f (lo+1) hi):SiftJ l l f lo hi lo:=
 ⟨Rear.refl _ _ _,Nat.le_refl _,fun i c h1 h2 h3 h4=>h i c (by omega) h3 h4,fun p c h1 h2 _ _=>by omega⟩
theorem u5_ {l r:List Int} {f lo hi x c0:Nat} (hb:f+hi<=l.length) (J:SiftJ l r f lo hi x) (hc:c0=2*x+1\/c0=2*x+2) (hlt:c0 < hi) (hm:∀ c,(c=2*x+1\/c=2*x+2)->c < hi->r.getD (f+c) 0<=r.getD (f+c0) 0) (hr:r.getD (f+x) 0 < r.getD (f+c0) 0):SiftJ l (swp r (f+x) (f+c0)) f lo hi c0:=by
 obtain ⟨hR,h1,h2,h3⟩:=J
 have hl:=hR.len
 have g:=Kn_ r (i:=f+x) (j:=f+c0) (by omega) (by omega)
 refine ⟨hR.trans (Rear.swp (by omega) (by omega) (by omega)),by omega,fun i c hi hne hc' hlt'=>?_,fun p c hp hx hc' hlt'=>?_⟩
 ·rw [g (f+c),g (f+i),if_neg (show ¬ f+i=f+c0 by omega)]
  by_cases e1:i=x
  ·subst e1
   rw [if_pos (show f+i=f+i by rfl)]
   by_cases e2:c=c0
   ·subst e2;rw [if_pos rfl];omega
   ·rw [if_neg (by omega),if_neg (by omega)];exact hm c hc' hlt'
  ·rw [if_neg (show ¬ f+i=f+x by omega)]
   by_cases e2:c=x
   ·subst e2
    rw [if_neg (by omega),if_pos rfl]
    exact h3 i c0 hi hc' hc hlt
   ·rw [if_neg (by omega),if_neg (by omega)];exact h2 i c hi e1 hc' hlt'
 ·have e1:p=x:=by omega
  subst e1
  rw [g (f+c),g (f+p),if_neg (by omega),if_neg (by omega),if_neg (by omega),if_pos rfl]
  exact h2 c0 c (by omega) (by omega) hc' hlt'
theorem zai_ {l r:List Int} {f lo hi x:Nat} (J:SiftJ l r f lo hi x) (h:hi<=2*x+1):Hp r f lo hi:=fun i c h1 h2 h3=>by
 by_cases e:i=x
 ·subst e;omega
 ·exact J.h i c h1 e h2 h3
theorem u4_ {l r:List Int} {f lo hi x c0:Nat} (J:SiftJ l r f lo hi x) (hm:∀ c,(c=2*x+1\/c=2*x+2)->c < hi->r.getD (f+c) 0<=r.getD (f+c0) 0) (hr:¬ r.getD (f+x) 0 < r.getD (f+c0) 0):Hp r f lo hi:=fun i c h1 h2 h3=>by
 by_cases e:i=x
 ·subst e;have:=hm c h2 h3;omega
 ·exact J.h i c h1 e h2 h3
theorem BT_ {r:List Int} {f hi:Nat} (h:Hp r f 0 hi):∀ n c,c<=n->c < hi->r.getD (f+c) 0<=r.getD f 0
 | 0,c,hn,_=>by rw [show c=0 by omega];exact Int.le_refl _
 | n+1,c,hn,hc=>by
   by_cases h0:c=0
   ·rw [h0];exact Int.le_refl _
   ·have h1:=h ((c - 1) / 2) c (Nat.zero_le _) (by omega) hc
    have h2:=BT_ h n ((c - 1) / 2) (by omega) (by omega)
    omega
structure PopJ (l r:List Int) (a b i:Nat):Prop where
 R:Rear l a b r
 h:Hp r a 0 i
 s:∀ p q,i<=q->p < q->a+q < b->r.getD (a+p) 0<=r.getD (a+q) 0
theorem zbF_ {l r r':List Int} {a b i:Nat} (hb:b<=l.length) (hib:a+i < b) (J:PopJ l r a b (i+1)) (hR:Rear (swp r a (a+i)) a (a+i) r') (hh:Hp r' a 0 i):PopJ l r' a b i:=by
 obtain ⟨h1,h2,h3⟩:=J
 have hl:=h1.len
 have hw:Rear r a b (swp r a (a+i)):=Rear.swp (by omega) (by omega) (by omega)
 have g:=Kn_ r (i:=a) (j:=a+i) (by omega) (by omega)
 refine ⟨(h1.trans hw).trans (hR.wide (Nat.le_refl _) (by omega)),hh,fun p q hq hpq hqb=>?_⟩
 have rq:r'.getD (a+q) 0=(swp r a (a+i)).getD (a+q) 0:=hR.get (.inr (by omega))
 have top:∀ c,c < i+1->r.getD (a+c) 0<=r.getD a 0:=fun c hc=>BT_ h2 c c (Nat.le_refl _) hc
 have gq:0 < q->(swp r a (a+i)).getD (a+q) 0=if q=i then r.getD a 0 else r.getD (a+q) 0:=fun h0=>by
  rw [g (a+q)]
  by_cases e:q=i
  ·rw [if_pos e,if_pos (by omega)]
  ·rw [if_neg e,if_neg (by omega),if_neg (by omega)]
 have gc:∀ c,c < i->(swp r a (a+i)).getD (a+c) 0=if c=0 then r.getD (a+i) 0 else r.getD (a+c) 0:=fun c hc=>by
  rw [g (a+c),if_neg (by omega)]
  by_cases e:c=0
  ·rw [if_pos e,if_pos (by omega)]
  ·rw [if_neg e,if_neg (by omega)]
 have key:∀ k,a<=k->k < a+i->(swp r a (a+i)).getD k 0<=(swp r a (a+i)).getD (a+q) 0:=fun k k1 k2=>by
  obtain ⟨c,rfl⟩:∃ c,k=a+c:=⟨k - a,by omega⟩
  rw [gc c (by omega),gq (by omega)]
  by_cases e:q=i
  ·rw [if_pos e]
   by_cases e2:c=0
   ·rw [if_pos e2];exact top i (by omega)
   ·rw [if_neg e2];exact top c (by omega)
  ·rw [if_neg e]
   by_cases e2:c=0
   ·rw [if_pos e2];exact h3 i q (by omega) (by omega) hqb
   ·rw [if_neg e2];exact h3 c q (by omega) (by omega) hqb
 rw [rq]
 by_cases hp:p < i
 ·obtain ⟨j,j1,j2,j3⟩:=hR.at (i:=a+p) (by omega) (by rw [UW_];omega) ⟨by omega,by omega⟩
  rw [j3];exact key j j1 j2
 ·rw [hR.get (.inr (by omega)),g (a+p),g (a+q),if_neg (show ¬ a+q=a+i by omega),if_neg (show ¬ a+q=a by omega)]
  by_cases e:p=i
  ·rw [if_pos (by omega)]
   have:=h3 0 q (by omega) (by omega) hqb
   rwa [Nat.add_zero] at this
  ·rw [if_neg (by omega),if_neg (by omega)];exact h3 p q (by omega) hpq hqb
theorem zar_ {l r:List Int} {a b:Nat} (hR:Rear l a b r) (h:Hp r a 0 (b - a)) (hab:a<=b):PopJ l r a b (b - a):=⟨hR,h,fun p q h1 _ h3=>by omega⟩
theorem zdt_ {l r:List Int} {a b:Nat} (hab:a<=b) (hb:b<=l.length) (J:PopJ l r a b 0):r=srt l a b:=by
 refine W9_ hab hb J.R fun i j h1 h2 h3=>?_
 have:=J.s (i - a) (j - a) (Nat.zero_le _) (by omega) (by omega)
 rwa [show a+(i - a)=i by omega,show a+(j - a)=j by omega] at this
theorem zco_ {l:List Int} {f hi i:Nat} (h:(hi - 1) / 2+1<=i):Hp l f i hi:=fun j c h1 h2 h3=>by omega
structure PartJ (l r:List Int) (a b i j:Nat):Prop where
 R:Rear l a b r
 ai:a < i
 jb:j < b
 ij:i<=j+1
 lt:∀ k,a < k->k < i->r.getD k 0<=r.getD a 0
 ge:∀ k,j < k->k < b->r.getD a 0<=r.getD k 0
theorem Ug_ {l r:List Int} {a b i j:Nat} (hb:b<=l.length) (J:PartJ l r a b i j) (hij:i<=j) (h1:r.getD a 0<=r.getD i 0) (h2:r.getD j 0<=r.getD a 0) (hne:i < j):PartJ l (swp r i j) a b (i+1) (j - 1):=by
 obtain ⟨hR,g1,g2,g3,g4,g5⟩:=J
 have hl:=hR.len
 have g:=Kn_ r (i:=i) (j:=j) (by omega) (by omega)
 have ga:(swp r i j).getD a 0=r.getD a 0:=by rw [g a,if_neg (by omega),if_neg (by omega)]
 refine ⟨hR.trans (Rear.swp (by omega) (by omega) (by omega)),by omega,by omega,by omega,fun k k1 k2=>?_,fun k k1 k2=>?_⟩
 ·rw [ga,g k,if_neg (by omega)]
  by_cases e:k=i
  ·rw [if_pos e];exact h2
  ·rw [if_neg e];exact g4 k k1 (by omega)
 ·rw [ga,g k]
  by_cases e:k=j
  ·rw [if_pos e];exact h1
  ·rw [if_neg e,if_neg (by omega)];exact g5 k (by omega) k2
structure PartR (l r:List Int) (a b m:Nat):Prop where
 R:Rear l a b r
 am:a<=m
 mb:m < b
 lo:∀ k,a<=k->k < m->r.getD k 0<=r.getD m 0
 hi:∀ k,m < k->k < b->r.getD m 0<=r.getD k 0
theorem hq_ {l r:List Int} {a b i j:Nat} (hb:b<=l.length) (J:PartJ l r a b i j) (hij:¬ i<=j):PartR l (swp r j a) a b j:=by
 obtain ⟨hR,g1,g2,g3,g4,g5⟩:=J
 have hl:=hR.len
 have hj:a<=j:=by omega
 have g:=Kn_ r (i:=j) (j:=a) (by omega) (by omega)
 have gj:(swp r j a).getD j 0=r.getD a 0:=by
  rw [g j]
  by_cases e:j=a
  ·rw [if_pos e,e]
  ·rw [if_neg e,if_pos rfl]
 refine ⟨hR.trans (Rear.swp (by omega) (by omega) (by omega)),hj,g2,fun k k1 k2=>?_,fun k k1 k2=>?_⟩
 ·rw [gj,g k]
  by_cases e:k=a
  ·rw [if_pos e]
   exact g4 j (by omega) (by omega)
  ·rw [if_neg e,if_neg (by omega)];exact g4 k (by omega) (by omega)
 ·rw [gj,g k,if_neg (by omega),if_neg (by omega)];exact g5 k k1 k2
def k0_ (l:List Int) (a b:Nat):Prop:=0 < a->∀ k,a<=k->k < b->l.getD (a - 1) 0<=l.getD k 0
theorem k0_.rear {l r:List Int} {a b:Nat} (h:k0_ l a b) (hR:Rear l a b r) (hab:a<=b) (hb:b<=l.length):k0_ r a b:=fun h0 k h1 h2=>by
 rw [hR.get (.inl (by omega))]
 obtain ⟨j,j1,j2,j3⟩:=hR.at hab hb ⟨h1,h2⟩
 rw [j3];exact h h0 j j1 j2
theorem k0_.sub {l:List Int} {a b m:Nat} (h:k0_ l a b) (hm:m<=b):k0_ l a m:=fun h0 k h1 h2=>h h0 k h1 (by omega)
theorem HZ_ {l:List Int} {a m b:Nat} (h1:a<=m) (h2:m<=b) (hb:b<=l.length) (h:∀ i j,a<=i->i < m->m<=j->j < b->l.getD i 0<=l.getD j 0):srt l a b=srt (srt l m b) a m:=by
 have r1:=kN_ l h2 hb
 have hl1:=r1.len
 have r2:=kN_ (srt l m b) h1 (by omega)
 have hl2:=r2.len
 refine (W9_ (by omega) hb ((r1.wide h1 (Nat.le_refl _)).trans (r2.wide (Nat.le_refl _) h2)) fun i j hi hij hj=>?_).symm
 by_cases hjm:j < m
 ·exact wv_ (srt l m b) h1 (by omega) i j hi hij hjm
 ·rw [r2.get (k:=j) (.inr (by omega))]
  by_cases him:i < m
  ·obtain ⟨i',q1,q2,q3⟩:=r2.at h1 (by omega) (i:=i) ⟨hi,him⟩
   obtain ⟨j',g1,g2,g3⟩:=r1.at h2 hb (i:=j) ⟨by omega,hj⟩
   rw [q3,g3,r1.get (.inl q2)]
   exact h _ _ q1 q2 g1 g2
  ·rw [r2.get (k:=i) (.inr (by omega))]
   exact wv_ l h2 hb i j (by omega) hij hj
theorem zav_ {l r:List Int} {a b m:Nat} (hb:b<=l.length) (P:PartR l r a b m):srt l a b=srt (srt r a m) (m+1) b/\k0_ (srt r a m) (m+1) b:=by
 obtain ⟨hR,h1,h2,h3,h4⟩:=P
 have hl:=hR.len
 have e1:srt l a b=srt r a b:=(Wq_ (by omega) hb hR).symm
 have hs:=kN_ r h1 (by omega)
 have hsl:=hs.len
 have e2:=XW_ (l:=r) h1 (Nat.le_of_lt h2) (by omega) fun i j i1 i2 j1 j2=>by
  have:=h3 i i1 i2
  by_cases e:j=m
  ·rw [e];exact this
  ·have:=h4 j (by omega) j2;omega
 have hm:∀ k,m<=k->(srt r a m).getD k 0=r.getD k 0:=fun k hk=>hs.get (.inr hk)
 have e3:srt (srt r a m) m b=srt (srt r a m) (m+1) b:=u1_ h2 (by omega) fun j j1 j2=>by rw [hm m (Nat.le_refl _),hm j (by omega)];exact h4 j j1 j2
 refine ⟨by rw [e1,e2,e3],fun _ k k1 k2=>?_⟩
 rw [show m+1 - 1=m by omega,hm m (Nat.le_refl _),hm k (by omega)];exact h4 k (by omega) k2
theorem bm_ {l r:List Int} {a b m:Nat} (hb:b<=l.length) (P:PartR l r a b m):srt l a b=srt (srt r (m+1) b) a m:=by
 obtain ⟨hR,h1,h2,h3,h4⟩:=P
 have hl:=hR.len
 have e1:srt l a b=srt r a b:=(Wq_ (by omega) hb hR).symm
 have e2:=HZ_ (l:=r) h1 (Nat.le_of_lt h2) (by omega) fun i j i1 i2 j1 j2=>by
  have:=h3 i i1 i2
  by_cases e:j=m
  ·rw [e];exact this
  ·have:=h4 j (by omega) j2;omega
 have e3:srt r m b=srt r (m+1) b:=u1_ h2 (by omega) fun j j1 j2=>h4 j j1 j2
 rw [e1,e2,e3]
structure EqlJ (l r:List Int) (a b i j:Nat) (x:Int):Prop where
 R:Rear l a b r
 pv:r.getD a 0=x
 ai:a < i
 jb:j < b
 ij:i<=j+1
 le:∀ k,a < k->k < i->r.getD k 0<=r.getD a 0
 gt:∀ k,j < k->k < b->r.getD a 0 < r.getD k 0
theorem zcF_ {l r:List Int} {a b i j:Nat} {x:Int} (hb:b<=l.length) (J:EqlJ l r a b i j x) (h1:r.getD a 0 < r.getD i 0) (h2:r.getD j 0<=r.getD a 0) (hne:i < j):EqlJ l (swp r i j) a b (i+1) (j - 1) x:=by
 obtain ⟨hR,pv,g1,g2,g3,g4,g5⟩:=J
 have hl:=hR.len
 have g:=Kn_ r (i:=i) (j:=j) (by omega) (by omega)
 have ga:(swp r i j).getD a 0=r.getD a 0:=by rw [g a,if_neg (by omega),if_neg (by omega)]
 refine ⟨hR.trans (Rear.swp (by omega) (by omega) (by omega)),by rw [ga];exact pv,by omega,by omega,by omega,fun k k1 k2=>?_,fun k k1 k2=>?_⟩
 ·rw [ga,g k,if_neg (by omega)]
  by_cases e:k=i
  ·rw [if_pos e];exact h2
  ·rw [if_neg e];exact g4 k k1 (by omega)
 ·rw [ga,g k]
  by_cases e:k=j
  ·rw [if_pos e];exact h1
  ·rw [if_neg e,if_neg (by omega)];exact g5 k (by omega) k2
structure EqlR (l r:List Int) (a b m:Nat) (x:Int):Prop where
 R:Rear l a b r
 pv:r.getD a 0=x
 am:a < m
 mb:m<=b
 lo:∀ k,a<=k->k < m->r.getD k 0<=r.getD a 0
 hi:∀ k,m<=k->k < b->r.getD a 0 < r.getD k 0
theorem zdV_ {l r:List Int} {a b i j:Nat} {x:Int} (J:EqlJ l r a b i j x) (hij:¬ i<=j):EqlR l r a b i x:=
 ⟨J.R,J.pv,J.ai,by have:=J.jb;have:=J.ij;omega,fun k k1 k2=>by
  by_cases e:k=a
  ·rw [e];exact Int.le_refl _
  ·exact J.le k (by omega) k2,fun k k1 k2=>J.gt k (by omega) k2⟩
theorem zcG_ {l r:List Int} {a b m:Nat} {x:Int} (hb:b<=l.length) (E:EqlR l r a b m x) (hlow:∀ k,a<=k->k < b->r.getD a 0<=r.getD k 0):srt l a b=srt r m b/\k0_ r m b:=by
 obtain ⟨hR,_,h1,h2,h3,h4⟩:=E
 have hl:=hR.len
 have e1:srt l a b=srt r a b:=(Wq_ (by omega) hb hR).symm
 have heq:∀ k,a<=k->k < m->r.getD k 0=r.getD a 0:=fun k k1 k2=>Int.le_antisymm (h3 k k1 k2) (hlow k k1 (by omega))
 have e2:=XW_ (l:=r) (a:=a) (m:=m) (by omega) h2 (by omega) fun i j i1 i2 j1 j2=>by rw [heq i i1 i2];exact Int.le_of_lt (h4 j j1 j2)
 have e3:srt r a m=r:=zbn_ (by omega) (by omega) fun i j i1 i2 i3=>by rw [heq i i1 (by omega),heq j (by omega) i3];exact Int.le_refl _
 rw [e3] at e2
 refine ⟨by rw [e1,e2],fun _ k k1 k2=>?_⟩
 rw [heq (m - 1) (by omega) (by omega)];exact Int.le_of_lt (h4 k k1 k2)
def qA_:List Int->List Int->List Int->Option (List Int)
 | [],_,b=>some b
 | n :: r,xs,b=>if n < 0 then qA_ r xs (b++zf_ 0 (0 - n)) else match xs with
   | []=>none
   | x :: ys=>if n < 8/\x.fdiv (2 ^ (min (8*n).toNat 64)) ≠ 0 then none else qA_ r ys (b++zf_ x n)
def Kq_ (w xs:List Int):Option (List Int):=if z4_ w=true/\zw_ w=xs.length then qA_ w xs [] else none
def qd_ (w xs:List Int):List Int:=(Kq_ w xs).getD []
def QN_ (w xs:List Int):Bool:=(Kq_ w xs).isSome
theorem u0_ {w:List Int} (i:Nat):∀ k,KF_ ZI_ w i<=KF_ ZI_ w (i+k)
 | 0=>Int.le_refl _
 | k+1=>by
   have ih:=u0_ (w:=w) i k
   by_cases h:i+k < w.length
   ·rw [show i+(k+1)=(i+k)+1 by omega,ZC_ ZI_ h]
    have:0<=ZI_ (w.getD (i+k) 0):=by unfold ZI_;split<;>omega
    omega
   ·rw [KE_ ZI_ (show w.length<=i+(k+1) by omega)]
    rwa [KE_ ZI_ (show w.length<=i+k by omega)] at ih
theorem Bt_ {w:List Int} {i:Nat} (h:i < w.length) (hp:0 < w.getD i 0):KF_ ZI_ w i+1<=(w.map ZI_).sum:=by
 have h1:=u0_ (w:=w) (i+1) w.length
 rw [ZC_ ZI_ h,KE_ ZI_ (show w.length<=i+1+w.length by omega)] at h1
 have:ZI_ (w.getD i 0)=1:=if_pos hp
 omega
theorem ho_ {w xs b:List Int} {i k:Nat} (h:i < w.length) (hn:w.getD i 0 < 0):qA_ (w.drop i) (xs.drop k) b=qA_ (w.drop (i+1)) (xs.drop k) (b++zf_ 0 (0 - w.getD i 0)):=by
 rw [zz_ h 0];exact if_pos hn
theorem Ue_ {w xs b:List Int} {i k:Nat} (h:i < w.length) (hn:¬ w.getD i 0 < 0) (h2:k < xs.length) (h8:w.getD i 0 < 8) (hx:¬ (xs.getD k 0).fdiv (2 ^ (min (8*w.getD i 0).toNat 64))=0):qA_ (w.drop i) (xs.drop k) b=none:=by
 rw [zz_ h 0,zz_ h2 0]
 show (if w.getD i 0 < 0 then _ else _)=_
 rw [if_neg hn]
 exact if_pos ⟨h8,hx⟩
theorem Ud_ {w xs b:List Int} {i k:Nat} (h:i < w.length) (hn:¬ w.getD i 0 < 0) (h2:k < xs.length) (h8:¬ (w.getD i 0 < 8/\(xs.getD k 0).fdiv (2 ^ (min (8*w.getD i 0).toNat 64)) ≠ 0)):qA_ (w.drop i) (xs.drop k) b=qA_ (w.drop (i+1)) (xs.drop (k+1)) (b++zf_ (xs.getD k 0) (w.getD i 0)):=by
 rw [zz_ h 0,zz_ h2 0]
 show (if w.getD i 0 < 0 then _ else _)=_
 rw [if_neg hn]
 exact if_neg h8
theorem KO_ {α:Type} {l:List α} {k:Nat} {d:α}:(l.drop k).getD 0 d=l.getD k d:=by
 rw [List.getD_eq_getElem?_getD,List.getElem?_drop,Nat.add_zero,<- List.getD_eq_getElem?_getD]
def bM_:IR:=
(sq (kr [0,1] [oD 4 (.mov (.c (.imm (.int .u8) []))),
oD 5 (.mov cF)])
(sq (sq (kr [0,1] [oM 10 0,
oC 11 87 [10],
oD 12 (.un .not 11),
oM 13 12,
oF 13 14 (.mov 0),
oF 13 15 (.call false (.f 56) [14]),
oF 13 16 (.mov 1),
oF 13 17 (.len 16),
oF 13 18 (.bin .neq 15 17),
oP 19 13 cT 18])
(.cond 19
(sq (kr [] [oD 4 (.mov (.c (.imm (.int .u8) []))),
oD 5 (.mov cF)])
.ret)
.skip))
(sq (kr [0,1] [oM 20 0,
oC 21 58 [20],
oD 22 (.mkrow (.int .u8) 1 (0:Int) (cI 0) 21),
oM 6 22])
(sq (sq (.reg [oM 23 0,
oE 24 23,
oD 25 (.mov (cI 0))])
(.block 0
(.loop
(sq (kr [1,6,23,24,25] [oB 26 .lss 25 24])
(sq (.cond 26
.skip
(.exit 0))
(sq (.block 1
(sq (.reg [oI 27 1 23 25,
oL 28 27,
oM 8 28])
(sq (sq (.reg [oM 29 8,
oB 30 .lss 29 (cI 0)])
(.cond 30
(sq (kr [1,6,8,23,24,25] [oM 31 6,
oM 32 8,
oD 33 (.un .neg 32),
oD 34 (.call true (.f 114) [31,(.c (.int .u64 0)),33]),
oM 6 34])
(.exit 1))
.skip))
(sq (kr [1,6,8,23,24,25] [oM 35 1,
oD 36 (.indexSl 1 35 (cI 0)),
oL 37 36,
oM 9 37])
(sq (sq (kr [1,6,8,9,23,24,25] [oM 38 8,
oB 39 .lss 38 (cI 8),
oM 40 39,
oT 40 41 (.mov 9),
oT 40 42 (.mov 8),
oT 40 43 (.bin .mul (cI 8) 42),
oT 40 44 (.bin .shr 41 43),
oT 40 45 (.bin .neq 44 (.c (.int .u64 0))),
oP 46 40 45 cF])
(.cond 46
(sq (kr [] [oD 4 (.mov (.c (.imm (.int .u8) []))),
oD 5 (.mov cF)])
.ret)
.skip))
(kd [1,6,8,9,23,24,25] [(oM 47 6,[]),
(oM 48 9,[0]),
(oM 49 8,[0,0]),
(oD 50 (.call true (.f 114) [47,48,49]),[]),
(oM 51 1,[0,0,0,0]),
(oD 52 (.slice 1 51 (some (cI 1)) none none),[1,0,0,0]),
(oM 6 50,[0,0]),
(oM 1 52,[])]))))))
(kr [1,6,23,24,25] [oB 53 .add 25 (cI 1),
oM 25 53])))))))
(sq (kr [6] [oM 54 6,
oM 4 54,
oD 5 (.mov cT)])
.ret)))))
def bc_:List RD:=[.tmp 4 true (some (.int .u8)),.tmp 5 true none]
theorem br_:zl_ Tryz.prog Tryz.f82 bM_ bc_=true:=by kernel_rfl
def WG_:List AV->List Obj->Option (Prop × AV)
 | [.imm (.int .i64) w,.imm (.int .u64) xs],[]=>some ((True,.tup [.imm (.int .u8) (qd_ w xs),.bool (QN_ w xs)]))
 | _,_=>none
theorem yZ_:ze_ Tryz.prog 82 (RoF WG_).sum:=by
 refine zm_ Tryz.func82 br_ (zb_ (s:=RoF Qv_) kF_ (zb_ (s:=RoF kX_) jh_ (zb_ (s:=RoF kA_) Ko_ (zb_ (s:=RwF yK_) GS_ (zd_ _))))) fun args objs p v e=>?_
 unfold WG_ at e
 split at e
 ·rename_i w xs
  cases e
  refine ⟨rfl,fun hw ho hp=>?_⟩
  change List Int at w
  change List Int at xs
  have hx:xs.length<=maxLen:=(hw (.imm (.int .u64) xs) (by simp)).2
  unfold maxLen at hx
  have hz:=vg_ w
  repeat'(intro t ht;first|(cases t<;>first|(cases ht;done)|(try simp only[zh_]at ht))|((first|refine za_ ht ?_|refine ht ?_ ?_|refine ht.1 ?_ ?_|refine ht ?_)<;>clear ht))
  all_goals first
   | exact True.intro
   | (intro r h1 h2;clear h1;refine h2 ⟨[1,6,23,24,25],Nat × Nat × List Int,(fun a=>a.1<=w.length/\(a.2.2.length:Int)=KF_ zr_ w a.1/\KF_ ZI_ w a.1=a.2.1/\qA_ w xs []=qA_ (w.drop a.1) (xs.drop a.2.1) a.2.2),fun a=>[.imm (.int .u64) (xs.drop a.2.1),.own 0,.imm (.int .i64) w,.int .i64 w.length,.int .i64 a.1],fun a=>[.row false (.int .u8) a.2.2],fun a=>w.length - a.1,⟨(0,0,[]),⟨Nat.zero_le _,rfl,rfl,rfl⟩,rfl,rfl⟩,?_⟩;clear h2)
   | ((try simp only [zn_,zo_,zi_] at*);omega)
   | (have hn:¬ (z4_ w=true/\zw_ w=xs.length):=fun h=>by simp_all
      refine ⟨?_,rfl⟩;unfold qd_ QN_ Kq_;rw [if_neg hn];rfl)
  rintro ⟨i,k,b⟩ ⟨hi,hb,hk,he⟩
  dsimp only at hi hb hk he
  have hr:z4_ w=true:=by assumption
  have hc:zw_ w=xs.length:=by assumption
  have hsum:(w.map ZI_).sum=xs.length:=by unfold zw_ at hc;rwa [if_pos hr] at hc
  have hl:=(Zt_.1 hr).1
  have hs:=xZ_ hr i
  have h1:=xY_ hr i
  repeat'(intro t ht;first|(cases t<;>first|(cases ht;done)|(try simp only[zh_]at ht))|((first|refine za_ ht ?_|refine ht ?_ ?_|refine ht.1 ?_ ?_|refine ht ?_)<;>clear ht))
  all_goals first
   | ((try simp only [zn_,zo_,zi_] at*);omega)
   | (have hge:w.length<=i:=by omega
      rw [List.drop_of_length_le hge] at he
      have hf:Kq_ w xs=some b:=by unfold Kq_;rw [if_pos ⟨hr,hc⟩,he];rfl
      refine ⟨?_,rfl⟩;unfold qd_ QN_;rw [hf];rfl)
   | skip
  all_goals have hlt:i < w.length:=by omega
  all_goals have hkk:=(Zt_.1 hr).2 _ (zZ_ (α:=Int) hlt 0)
  all_goals first
   | ((try simp only [zn_,zo_,zi_] at*);rw [List.length_drop];omega)
   | ((try simp only [zn_,zo_,zi_] at*);omega)
   | (have hn:w.getD i 0 < 0:=by assumption
      have ha:=jQ_ hn
      have h0:ZI_ (w.getD i 0)=0:=if_neg (by omega)
      have hbl:=zk_ (n:=0) (w:=0 - w.getD i 0) (by omega)
      refine ⟨(i+1,k,b++zf_ 0 (0 - w.getD i 0)),⟨hlt,?_,?_,?_⟩,by dsimp only;omega,rfl,rfl⟩
      ·rw [ZC_ zr_ hlt,ha];simp only [List.length_append];omega
      ·rw [ZC_ ZI_ hlt,h0];dsimp only;omega
      ·rw [he];exact ho_ hlt hn)
   | (have hn:¬ w.getD i 0 < 0:=by assumption
      have hlt2:=Bt_ (w:=w) (i:=i) hlt (by omega)
      have h2:k < xs.length:=by omega
      first
       | ((try simp only [zn_,zo_,zi_] at*);rw [List.length_drop];omega)
       | (have h8:w.getD i 0 < 8:=by assumption
          have hx:¬ ((xs.drop k).getD 0 0).fdiv (2 ^ (min (8*w.getD i 0).toNat 64))=0:=by assumption
          rw [KO_] at hx
          have hf:Kq_ w xs=none:=by unfold Kq_;rw [if_pos ⟨hr,hc⟩,he];exact Ue_ hlt hn h2 h8 hx
          refine ⟨?_,rfl⟩;unfold qd_ QN_;rw [hf];rfl)
       | (have h8:¬ (w.getD i 0 < 8/\(xs.getD k 0).fdiv (2 ^ (min (8*w.getD i 0).toNat 64)) ≠ 0):=fun h=>by
           first
            | (exact absurd h.1 (by assumption))
            | (have hx:((xs.drop k).getD 0 0).fdiv (2 ^ (min (8*w.getD i 0).toNat 64))=0:=by assumption
               rw [KO_] at hx
               exact h.2 hx)
          have ha:=WF_ hn
          have h0:ZI_ (w.getD i 0)=1:=if_pos (by omega)
          have hbl:=zk_ (n:=xs.getD k 0) (w:=w.getD i 0) (by omega)
          refine ⟨(i+1,k+1,b++zf_ (xs.getD k 0) (w.getD i 0)),⟨hlt,?_,?_,?_⟩,by dsimp only;omega,?_,?_⟩
          ·rw [ZC_ zr_ hlt,ha];simp only [List.length_append];omega
          ·rw [ZC_ ZI_ hlt,h0];dsimp only;omega
          ·rw [he];exact Ud_ hlt hn h2 h8
          ·dsimp only;rw [<- List.drop_drop];rfl
          ·dsimp only;rw [<- KO_ (l:=xs) (k:=k)];rfl))
 ·cases e
def Z7_:List Int->List Int->List Int->List Int × Int
 | [],_,o=>(o,0)
 | n :: r,b,o=>if (b.length:Int) < zr_ n then ([],1) else if 0 < n then Z7_ r (b.drop (zr_ n).toNat) (o++[ZL_ (b.take (zr_ n).toNat)]) else if ZJ_ (b.take (zr_ n).toNat)=true then Z7_ r (b.drop (zr_ n).toNat) o else ([],2)
def QT_ (w b:List Int):List Int × Int:=if z4_ w=true then Z7_ w b [] else ([],2)
def k6_ (w b:List Int):List Int:=(QT_ w b).1
def qZ_ (w b:List Int):Int:=(QT_ w b).2
theorem bV_ {w b o:List Int} {i:Nat} (h:i < w.length) (h1:(b.length:Int) < zr_ (w.getD i 0)):Z7_ (w.drop i) b o=([],1):=by
 rw [zz_ h 0];exact if_pos h1
theorem zcu_ {w b o:List Int} {i:Nat} (h:i < w.length) (h1:¬ (b.length:Int) < zr_ (w.getD i 0)) (h2:0 < w.getD i 0):Z7_ (w.drop i) b o=Z7_ (w.drop (i+1)) (b.drop (zr_ (w.getD i 0)).toNat) (o++[ZL_ (b.take (zr_ (w.getD i 0)).toNat)]):=by
 rw [zz_ h 0]
 show (if (b.length:Int) < zr_ (w.getD i 0) then _ else _)=_
 rw [if_neg h1];exact if_pos h2
theorem zaP_ {w b o:List Int} {i:Nat} (h:i < w.length) (h1:¬ (b.length:Int) < zr_ (w.getD i 0)) (h2:¬ 0 < w.getD i 0) (h3:ZJ_ (b.take (zr_ (w.getD i 0)).toNat)=true):Z7_ (w.drop i) b o=Z7_ (w.drop (i+1)) (b.drop (zr_ (w.getD i 0)).toNat) o:=by
 rw [zz_ h 0]
 show (if (b.length:Int) < zr_ (w.getD i 0) then _ else _)=_
 rw [if_neg h1]
 show (if 0 < w.getD i 0 then _ else _)=_
 rw [if_neg h2];exact if_pos h3
theorem zct_ {w b o:List Int} {i:Nat} (h:i < w.length) (h1:¬ (b.length:Int) < zr_ (w.getD i 0)) (h2:¬ 0 < w.getD i 0) (h3:ZJ_ (b.take (zr_ (w.getD i 0)).toNat)=false):Z7_ (w.drop i) b o=([],2):=by
 rw [zz_ h 0]
 show (if (b.length:Int) < zr_ (w.getD i 0) then _ else _)=_
 rw [if_neg h1]
 show (if 0 < w.getD i 0 then _ else _)=_
 rw [if_neg h2];exact if_neg (by rw [h3];simp)
def bN_:IR:=
(sq (kr [0,1] [oD 4 (.nilrow (.int .u64)),
oD 5 (.mov (cI 0))])
(sq (sq (.reg [oM 10 0,
oC 11 87 [10],
oD 12 (.un .not 11)])
(.cond 12
(sq (.reg [oD 4 (.nilrow (.int .u64)),
oD 5 (.mov (cI 2))])
.ret)
.skip))
(sq (kr [0,1] [oD 6 (.nilrow (.int .u64))])
(sq (sq (.reg [oM 13 0,
oE 14 13,
oD 15 (.mov (cI 0))])
(.block 0
(.loop
(sq (kr [1,6,13,14,15] [oB 16 .lss 15 14])
(sq (.cond 16
.skip
(.exit 0))
(sq (.block 1
(sq (.reg [oI 17 1 13 15,
oL 18 17,
oM 8 18])
(sq (kr [1,6,8,13,14,15] [oM 19 8,
oM 20 8,
oD 21 (.un .neg 20),
oD 22 (.minmax true 19 21),
oM 9 22])
(sq (.block 2
(sq (kr [1,6,8,9,13,14,15] [oM 24 1,
oE 25 24,
oM 26 9,
oB 27 .lss 25 26,
oM 23 27])
(.cond 23
(sq (.reg [oD 4 (.nilrow (.int .u64)),
oD 5 (.mov (cI 1))])
.ret)
(sq (.reg [oM 29 8,
oB 30 .gtr 29 (cI 0),
oM 28 30])
(.cond 28
(kr [1,6,9,13,14,15] [oM 31 6,
oM 32 1,
oM 33 9,
oD 34 (.slice 1 32 none (some 33) none),
oC 35 157 [34],
oD 36 (.sliceAll (.int .u64) 1 [(0,1,35)]),
oD 37 (.append (.int .u64) 8 31 36),
oM 6 37])
(sq (kr [1,6,9,13,14,15] [oM 39 1,
oM 40 9,
oD 41 (.slice 1 39 none (some 40) none),
oC 42 158 [41],
oD 43 (.un .not 42),
oM 38 43])
(.cond 38
(sq (kr [] [oD 4 (.nilrow (.int .u64)),
oD 5 (.mov (cI 2))])
.ret)
.skip)))))))
(kr [1,6,9,13,14,15] [oM 44 1,
oM 45 9,
oD 46 (.slice 1 44 (some 45) none none),
oM 1 46])))))
(kr [1,6,13,14,15] [oB 47 .add 15 (cI 1),
oM 15 47])))))))
(sq (kr [6] [oM 48 6,
oM 4 48,
oD 5 (.mov (cI 0))])
.ret)))))
def bd_:List RD:=[.tmp 4 true (some (.int .u64)),.tmp 5 true none]
theorem bs_:zl_ Tryz.prog Tryz.f143 bN_ bd_=true:=by kernel_rfl
def yL_:List AV->List Obj->Option (Prop × AV)
 | [.imm (.int .i64) w,.imm (.int .u8) b],[]=>some ((True,.tup [.imm (.int .u64) (k6_ w b),.int .i64 (qZ_ w b)]))
 | _,_=>none
theorem GT_:ze_ Tryz.prog 143 (RoF yL_).sum:=by
 refine zm_ Tryz.func143 bs_ (zb_ (s:=RoF Qv_) kF_ (zb_ (s:=RoF Jv_) Y5_ (zb_ (s:=RoF xH_) UX_ (zd_ _)))) fun args objs p v e=>?_
 unfold yL_ at e
 split at e
 ·rename_i w b
  cases e
  refine ⟨rfl,fun hw ho hp=>?_⟩
  change List Int at w
  change List Int at b
  have hb:b.length<=maxLen:=(hw (.imm (.int .u8) b) (by simp)).2
  unfold maxLen at hb
  repeat'(intro t ht;first|(cases t<;>first|(cases ht;done)|(try simp only[zh_]at ht))|((first|refine za_ ht ?_|refine ht ?_ ?_|refine ht.1 ?_ ?_|refine ht ?_)<;>clear ht))
  all_goals first
   | exact True.intro
   | (intro r h1 h2;clear h1;refine h2 ⟨[1,6,13,14,15],Nat × List Int × List Int,(fun a=>a.1<=w.length/\a.2.1.length<=b.length/\a.2.2.length<=a.1/\Z7_ w b []=Z7_ (w.drop a.1) a.2.1 a.2.2),fun a=>[.imm (.int .u8) a.2.1,.own 0,.imm (.int .i64) w,.int .i64 w.length,.int .i64 a.1],fun a=>[.row false (.int .u64) a.2.2],fun a=>w.length - a.1,⟨(0,b,[]),⟨Nat.zero_le _,Nat.le_refl _,Nat.zero_le _,rfl⟩,rfl,rfl⟩,?_⟩;clear h2)
   | (have hr:z4_ w=false:=by assumption
      have hf:QT_ w b=([],2):=by unfold QT_;rw [hr];rfl
      refine ⟨?_,rfl⟩;unfold k6_ qZ_;rw [hf])
  rintro ⟨i,c,o⟩ ⟨hi,hc,ho,he⟩
  dsimp only at hi hc ho he
  have hr:z4_ w=true:=by assumption
  have hl:=(Zt_.1 hr).1
  repeat'(intro t ht;first|(cases t<;>first|(cases ht;done)|(try simp only[zh_]at ht))|((first|refine za_ ht ?_|refine ht ?_ ?_|refine ht.1 ?_ ?_|refine ht ?_)<;>clear ht))
  all_goals first
   | ((try simp only [zn_,zo_,zi_] at*);omega)
   | (have hge:w.length<=i:=by omega
      rw [List.drop_of_length_le hge] at he
      have hf:QT_ w b=(o,0):=by unfold QT_;rw [if_pos hr,he];rfl
      refine ⟨?_,rfl⟩;unfold k6_ qZ_;rw [hf];done)
   | skip
  all_goals have hlt:i < w.length:=by omega
  all_goals have hkk:=(Zt_.1 hr).2 _ (zZ_ (α:=Int) hlt 0)
  all_goals have ha:=XJ_ (n:=w.getD i 0)
  all_goals have hA:(if 0 - w.getD i 0 > w.getD i 0 then 0 - w.getD i 0 else w.getD i 0)=zr_ (w.getD i 0):=rfl
  all_goals first
   | exact True.intro
   | ((try simp only [zn_,zo_,zi_] at*);omega)
   | (have h1:(c.length:Int) < zr_ (w.getD i 0):=by assumption
      have hf:QT_ w b=([],1):=by unfold QT_;rw [if_pos hr,he];exact bV_ hlt h1
      refine ⟨?_,rfl⟩;unfold k6_ qZ_;rw [hf];done)
   | (have h1:¬ (c.length:Int) < zr_ (w.getD i 0):=by assumption
      first
       | (have h2:¬ 0 < w.getD i 0:=by assumption
          first
           | (have h3:ZJ_ (c.take (zr_ (w.getD i 0)).toNat)=true:=by assumption
              refine ⟨(i+1,c.drop (zr_ (w.getD i 0)).toNat,o),⟨hlt,?_,by dsimp only;omega,?_⟩,by dsimp only;omega,rfl,rfl⟩
              ·dsimp only;rw [List.length_drop];omega
              ·rw [he];exact zaP_ hlt h1 h2 h3)
           | (have h3:ZJ_ (c.take (zr_ (w.getD i 0)).toNat)=false:=by assumption
              have hf:QT_ w b=([],2):=by unfold QT_;rw [if_pos hr,he];exact zct_ hlt h1 h2 h3
              refine ⟨?_,rfl⟩;unfold k6_ qZ_;rw [hf];done))
       | (have h2:0 < w.getD i 0:=by assumption
          first
           | (show (c.take (zr_ (w.getD i 0)).toNat).length<=8;rw [List.length_take];omega)
           | (simp only [ZF_,List.length_append,List.length_cons,List.length_nil];omega)
           | (refine ⟨(i+1,c.drop (zr_ (w.getD i 0)).toNat,o++[ZL_ (c.take (zr_ (w.getD i 0)).toNat)]),⟨hlt,?_,?_,?_⟩,by dsimp only;omega,rfl,rfl⟩
              ·dsimp only;rw [List.length_drop];omega
              ·simp only [List.length_append,List.length_cons,List.length_nil];omega
              ·rw [he];exact zcu_ hlt h1 h2)))
 ·cases e
theorem zbi_ {α:Type} {a b:List α} {d:α} {i:Nat} (h:a.take i=b.take i) (hi:i < a.length) (hl:a.length=b.length) (e:a.getD i d=b.getD i d):a.take (i+1)=b.take (i+1):=by
 have hb:i < b.length:=by omega
 rw [List.getD_eq_getElem?_getD,List.getD_eq_getElem?_getD,List.getElem?_eq_getElem hi,List.getElem?_eq_getElem hb] at e
 rw [List.take_succ_eq_append_getElem hi,List.take_succ_eq_append_getElem hb,h,show a[i]=b[i] from e]
theorem zef_ {α:Type} {a b:List α} {i:Nat} (h:a.take i=b.take i) (hi:a.length<=i) (hl:a.length=b.length):a=b:=by
 rwa [List.take_of_length_le hi,List.take_of_length_le (by omega)] at h
theorem tkNe {α:Type} {a b:List α} {d:α} {i:Nat} (e:¬ a.getD i d=b.getD i d):a ≠ b:=fun h=>e (by rw [h])
def Gj_:IR:=
(sq (kr [0,1] [oD 4 (.mov cF)])
(sq (sq (kr [0,1] [oM 6 0,
oE 7 6,
oM 8 1,
oE 9 8,
oB 10 .neq 7 9])
(.cond 10
(sq (.reg [oD 4 (.mov cF)])
.ret)
.skip))
(sq (sq (kr [0,1] [oD 5 (.mov (cI 0))])
(.block 0
(.loop
(sq (sq (kr [0,1,5] [oM 11 5,
oM 12 0,
oE 13 12,
oB 14 .lss 11 13])
(.cond 14
.skip
(.exit 0)))
(sq (.block 1
(sq (kd [0,1,5] [(oM 17 0,[]),
(oM 18 5,[0]),
(oI 19 1 17 18,[]),
(oL 20 19,[]),
(oM 21 1,[0,0,0,0]),
(oM 22 5,[0,0,0,0,0]),
(oI 23 1 21 22,[2,0,0,0]),
(oL 24 23,[3,0,0,0]),
(oB 25 .neq 20 24,[])])
(.cond 25
(sq (kr [] [oD 4 (.mov cF)])
.ret)
.skip)))
(kr [0,1,5] [oM 15 5,
oB 16 .add 15 (cI 1),
oM 5 16]))))))
(sq (kr [] [oD 4 (.mov cT)])
.ret))))
def gs_:List RD:=[.tmp 4 true none]
theorem gQ_:zl_ Tryz.prog Tryz.f17 Gj_ gs_=true:=by kernel_rfl
def jd_:List AV->List Obj->Option (Prop × AV)
 | [.imm (.int .u8) a,.imm (.int .u8) b],[]=>some ((True,.bool (decide (a=b))))
 | _,_=>none
theorem W0_:ze_ Tryz.prog 17 (RoF jd_).sum:=by
 refine zm_ Tryz.func17 gQ_ (zd_ _) fun args objs p v e=>?_
 unfold jd_ at e
 split at e
 ·rename_i a b
  cases e
  refine ⟨rfl,fun hw ho hp=>?_⟩
  change List Int at a
  change List Int at b
  have hl:a.length<=maxLen:=(hw (.imm (.int .u8) a) (by simp)).2
  unfold maxLen at hl
  repeat'(intro t ht;first|(cases t<;>first|(cases ht;done)|(try simp only[zh_]at ht))|((first|refine za_ ht ?_|refine ht ?_ ?_|refine ht.1 ?_ ?_|refine ht ?_)<;>clear ht))
  all_goals first
   | (have hne:a ≠ b:=fun h=>(by assumption:¬ (a.length:Int)=b.length) (by rw [h])
      refine ⟨?_,rfl⟩;rw [decide_eq_false hne];done)
   | (intro r h1 h2;clear h1;refine h2 ⟨[0,1,5],Nat,(fun i=>i<=a.length/\a.take i=b.take i),fun i=>[.imm (.int .u8) a,.imm (.int .u8) b,.int .i64 i],fun _=>[],fun i=>a.length - i,⟨0,⟨Nat.zero_le _,rfl⟩,rfl,rfl⟩,?_⟩;clear h2)
  rintro i ⟨hi,he⟩
  have hl2:a.length=b.length:=by omega
  repeat'(intro t ht;first|(cases t<;>first|(cases ht;done)|(try simp only[zh_]at ht))|((first|refine za_ ht ?_|refine ht ?_ ?_|refine ht.1 ?_ ?_|refine ht ?_)<;>clear ht))
  all_goals first
   | ((try simp only [zn_,zo_,zi_] at*);omega)
   | (have hge:a.length<=i:=by omega
      have e:=zef_ he hge hl2
      refine ⟨?_,rfl⟩;rw [decide_eq_true e];done)
   | (have hne:a ≠ b:=tkNe (d:=0) (i:=i) (by assumption)
      refine ⟨?_,rfl⟩;rw [decide_eq_false hne];done)
   | (have hlt:i < a.length:=by omega
      exact ⟨i+1,⟨hlt,zbi_ he hlt hl2 (d:=0) (by assumption)⟩,by (try simp only [zn_,zo_,zi_] at*);omega,rfl,rfl⟩)
 ·cases e
def gX_ (n w:Int) (i:Nat):List Int:=List.replicate (w.toNat - i) 0++(zf_ n w).drop (w.toNat - i)
theorem zaA_ {n w:Int}:gX_ n w 0=List.replicate w.toNat 0:=by
 unfold gX_ zf_;rw [List.drop_of_length_le (by rw [KR_];omega)];simp
theorem zbR_ {n w:Int} {i:Nat} (h:i<=w.toNat):(gX_ n w i).length=w.toNat:=by
 unfold gX_ zf_;rw [List.length_append,List.length_replicate,List.length_drop,KR_];omega
theorem HD_ {n w:Int} {j:Nat} (h:j < w.toNat):(zf_ n w).getD j 0=kw_ n w j:=by
 unfold zf_ kv_
 rw [List.getD_eq_getElem?_getD,List.getElem?_map,List.getElem?_range h];rfl
theorem zaB_ {n w:Int} {i:Nat} (h:i < w.toNat):(gX_ n w i).set (w.toNat - 1 - i) (kw_ n w (w.toNat - 1 - i:Nat))=gX_ n w (i+1):=by
 have h1:w.toNat - i=(w.toNat - (i+1))+1:=by omega
 have hbl:(zf_ n w).length=w.toNat:=by unfold zf_;rw [KR_]
 unfold gX_
 rw [h1,List.replicate_succ',List.append_assoc,List.set_append_right _ _ (by rw [List.length_replicate];omega),List.length_replicate,show w.toNat - 1 - i - (w.toNat - (i+1))=0 by omega]
 rw [zz_ (l:=zf_ n w) (i:=w.toNat - (i+1)) (by omega) 0,HD_ (by omega),show w.toNat - (i+1)=w.toNat - 1 - i by omega]
 rfl
def bT_:IR:=
(sq (kr [0,1] [oD 4 (.mov (.c (.imm (.int .u8) [])))])
(sq (.reg [oM 7 1,
oD 8 (.mkrow (.int .u8) 1 (0:Int) 7 7),
oM 5 8])
(sq (sq (.reg [oD 6 (.mov (cI 0))])
(.block 0
(.loop
(sq (sq (kr [0,1,5,6] [oM 9 6,
oM 10 1,
oB 11 .lss 9 10])
(.cond 11
.skip
(.exit 0)))
(sq (.block 1
(kr [0,1,5,6] [oM 14 5,
oM 15 1,
oB 16 .sub 15 (cI 1),
oM 17 6,
oB 18 .sub 16 17,
oM 19 0,
oM 20 6,
oB 21 .mul (cI 8) 20,
oB 22 .shr 19 21,
oD 23 (.conv .u8 22),
oI 24 1 14 18,
oS 1 24 23]))
(kr [0,1,5,6] [oM 12 6,
oB 13 .add 12 (cI 1),
oM 6 13]))))))
(sq (kr [5] [oM 25 5,
oM 4 25])
.ret))))
def bj_:List RD:=[.tmp 4 false none]
theorem by_:zl_ Tryz.prog Tryz.f50 bT_ bj_=true:=by kernel_rfl
def jT_:List AV->List Obj->Option (Prop × AV × List Obj)
 | [.int .u64 n,.int .i64 w],[]=>some ((0<=w/\w<=100,.own 0,[.row false (.int .u8) (zf_ n w)]))
 | _,_=>none
theorem ww_:ze_ Tryz.prog 50 (RwF jT_).sum:=by
 refine qn_ Tryz.func50 by_ (zd_ _) fun args objs p v o e=>?_
 unfold jT_ at e
 split at e
 ·rename_i n w
  cases e
  refine ⟨rfl,fun hw ho hp=>?_⟩
  repeat'(intro t ht;first|(cases t<;>first|(cases ht;done)|(try simp only[zh_]at ht))|((first|refine za_ ht ?_|refine ht ?_ ?_|refine ht.1 ?_ ?_|refine ht ?_)<;>clear ht))
  all_goals first
   | ((try simp only [zn_,zo_,zi_] at*);omega)
   | (intro r h1 h2;clear h1;refine h2 ⟨[0,1,5,6],Nat,(fun i=>(i:Int)<=w),fun i=>[.int .u64 n,.int .i64 w,.own 0,.int .i64 i],fun i=>[.row false (.int .u8) (gX_ n w i)],fun i=>w.toNat - i,⟨0,hp.1,rfl,by simp only [zaA_]⟩,?_⟩;clear h2)
  intro i hi
  repeat'(intro t ht;first|(cases t<;>first|(cases ht;done)|(try simp only[zh_]at ht))|((first|refine za_ ht ?_|refine ht ?_ ?_)<;>clear ht)|(refine ht.1 (by simp only[zi_];omega) ?_;clear ht)|(refine ht.2 ?_;clear ht)|(refine ht ?_;clear ht))
  all_goals first
   | omega
   | (simp only [zbR_ (show i<=w.toNat by omega)];omega)
   | (have e:w.toNat - i=0:=by omega
      refine ⟨rfl,?_⟩;unfold gX_;rw [e];rfl)
   | (have hlt:i < w.toNat:=by omega
      refine ⟨i+1,by dsimp only;omega,by dsimp only;omega,rfl,?_⟩
      dsimp only
      rw [<- zaB_ hlt]
      have e1:(w - 1 - (i:Int)).toNat=w.toNat - 1 - i:=by omega
      have e2:kw_ n w ((w.toNat - 1 - i:Nat):Int)=IntKind.u8.wrap (n.fdiv (2 ^ min (8*(i:Int)).toNat IntKind.u64.bits)):=by
       rw [xW_];unfold kw_
       rw [show w - 1 - ((w.toNat - 1 - i:Nat):Int)=i by omega];rfl
      rw [e1,e2])
 ·cases e
def j0_ (b:List Int) (c:Int):Nat->Nat
 | 0=>0
 | k+1=>if b.getD k 0=c then j0_ b c k else k+1
def yW_ (b:List Int) (c:Int):List Int:=b.take (j0_ b c b.length)
def wt_ (b:List Int) (c:Int):List Int:=b.dropWhile fun x=>decide (x=c)
theorem XU_ {b:List Int} {k j:Nat} (h:j < k):(b.take k).getD j 0=b.getD j 0:=by
 rw [List.getD_eq_getElem?_getD,List.getElem?_take,if_pos h,<- List.getD_eq_getElem?_getD]
def Jn_:IR:=
(sq (kr [0,1] [oD 4 (.mov (.c (.imm (.int .u8) [])))])
(sq (.block 0
(.loop
(sq (sq (kr [0,1] [oM 5 0,
oE 6 5,
oB 7 .gtr 6 (cI 0),
oM 8 7,
oT 8 9 (.mov 0),
oT 8 10 (.mov 0),
oT 8 11 (.len 10),
oT 8 12 (.bin .sub 11 (cI 1)),
oT 8 13 (.indexSl 1 9 12),
oT 8 14 (.load none 13),
oT 8 15 (.mov 1),
oT 8 16 (.bin .eql 14 15),
oP 17 8 16 cF])
(.cond 17
.skip
(.exit 0)))
(.block 1
(kr [0,1] [oM 18 0,
oM 19 0,
oE 20 19,
oB 21 .sub 20 (cI 1),
oD 22 (.slice 1 18 none (some 21) none),
oM 0 22])))))
(sq (kr [0] [oM 23 0,
oM 4 23])
.ret)))
def Jc_:List RD:=[.tmp 4 true (some (.int .u8))]
theorem Jh_:zl_ Tryz.prog Tryz.f147 Jn_ Jc_=true:=by kernel_rfl
def qj_:List AV->List Obj->Option (Prop × AV)
 | [.imm (.int .u8) b,.int .u8 c],[]=>some ((b.length<=140737488355328,.imm (.int .u8) (yW_ b c)))
 | _,_=>none
theorem jz_:ze_ Tryz.prog 147 (RoF qj_).sum:=by
 refine zm_ Tryz.func147 Jh_ (zd_ _) fun args objs p v e=>?_
 unfold qj_ at e
 split at e
 ·rename_i b c
  cases e
  refine ⟨rfl,fun hw ho hp=>?_⟩
  change List Int at b
  repeat'(intro t ht;first|(cases t<;>first|(cases ht;done)|(try simp only[zh_]at ht))|((first|refine za_ ht ?_|refine ht ?_ ?_|refine ht.1 ?_ ?_|refine ht ?_)<;>clear ht))
  all_goals first
   | (intro r h1 h2;clear h1;refine h2 ⟨[0,1],Nat,(fun k=>k<=b.length/\j0_ b c b.length=j0_ b c k),fun k=>[.imm (.int .u8) (b.take k),.int .u8 c],fun _=>[],fun k=>k,⟨b.length,⟨Nat.le_refl _,rfl⟩,by simp only [List.take_length],rfl⟩,?_⟩;clear h2)
  rintro k ⟨hk,he⟩
  have hl:(b.take k).length=k:=by rw [List.length_take];omega
  repeat'(intro t ht;first|(cases t<;>first|(cases ht;done)|(try simp only[zh_]at ht))|((first|refine za_ ht ?_|refine ht ?_ ?_|refine ht.1 ?_ ?_|refine ht ?_)<;>clear ht))
  all_goals first
   | ((try simp only [zn_,zo_,zi_] at*);omega)
   | (have h0:k=0:=by omega
      refine ⟨?_,rfl⟩;unfold yW_;rw [he,h0];rfl)
   | (obtain ⟨j,rfl⟩:∃ j,k=j+1:=⟨k - 1,by omega⟩
      have e:(((b.take (j+1)).length:Int) - 1).toNat=j:=by omega
      first
       | (have hx:¬ (b.take (j+1)).getD (((b.take (j+1)).length:Int) - 1).toNat 0=c:=by assumption
          rw [e,XU_ (Nat.lt_succ_self j)] at hx
          have h1:j0_ b c (j+1)=j+1:=if_neg hx
          refine ⟨?_,rfl⟩;unfold yW_;rw [he,h1])
       | (have hx:(b.take (j+1)).getD (((b.take (j+1)).length:Int) - 1).toNat 0=c:=by assumption
          rw [e,XU_ (Nat.lt_succ_self j)] at hx
          have h1:j0_ b c (j+1)=j0_ b c j:=if_pos hx
          refine ⟨j,⟨by omega,by rw [he,h1]⟩,Nat.lt_succ_self j,?_,rfl⟩
          dsimp only;rw [e,List.take_take,Nat.min_eq_left (Nat.le_succ j)]))
 ·cases e
def wl_:IR:=
(sq (kr [0,1] [oD 4 (.mov (.c (.imm (.int .u8) [])))])
(sq (.block 0
(.loop
(sq (sq (kr [0,1] [oM 5 0,
oE 6 5,
oB 7 .gtr 6 (cI 0),
oM 8 7,
oT 8 9 (.mov 0),
oT 8 10 (.indexSl 1 9 (cI 0)),
oT 8 11 (.load none 10),
oT 8 12 (.mov 1),
oT 8 13 (.bin .eql 11 12),
oP 14 8 13 cF])
(.cond 14
.skip
(.exit 0)))
(.block 1
(kr [0,1] [oM 15 0,
oD 16 (.slice 1 15 (some (cI 1)) none none),
oM 0 16])))))
(sq (sq (kr [0] [oM 17 0,
oE 18 17,
oB 19 .eql 18 (cI 0)])
(.cond 19
(sq (.reg [oD 4 (.mov (.c (.imm (.int .u8) [])))])
.ret)
.skip))
(sq (.reg [oM 20 0,
oM 4 20])
.ret))))
def JY_:List RD:=[.tmp 4 true (some (.int .u8))]
theorem wa_:zl_ Tryz.prog Tryz.f146 wl_ JY_=true:=by kernel_rfl
def qK_:List AV->List Obj->Option (Prop × AV)
 | [.imm (.int .u8) b,.int .u8 c],[]=>some ((b.length<=140737488355328,.imm (.int .u8) (wt_ b c)))
 | _,_=>none
theorem j6_:ze_ Tryz.prog 146 (RoF qK_).sum:=by
 refine zm_ Tryz.func146 wa_ (zd_ _) fun args objs p v e=>?_
 unfold qK_ at e
 split at e
 ·rename_i b c
  cases e
  refine ⟨rfl,fun hw ho hp=>?_⟩
  change List Int at b
  repeat'(intro t ht;first|(cases t<;>first|(cases ht;done)|(try simp only[zh_]at ht))|((first|refine za_ ht ?_|refine ht ?_ ?_|refine ht.1 ?_ ?_|refine ht ?_)<;>clear ht))
  all_goals first
   | (intro r h1 h2;clear h1;refine h2 ⟨[0,1],Nat,(fun k=>k<=b.length/\wt_ b c=wt_ (b.drop k) c),fun k=>[.imm (.int .u8) (b.drop k),.int .u8 c],fun _=>[],fun k=>b.length - k,⟨0,⟨Nat.zero_le _,rfl⟩,rfl,rfl⟩,?_⟩;clear h2)
  rintro k ⟨hk,he⟩
  have hl:(b.drop k).length=b.length - k:=List.length_drop
  repeat'(intro t ht;first|(cases t<;>first|(cases ht;done)|(try simp only[zh_]at ht))|((first|refine za_ ht ?_|refine ht ?_ ?_|refine ht.1 ?_ ?_|refine ht ?_)<;>clear ht))
  all_goals first
   | ((try simp only [zn_,zo_,zi_] at*);omega)
   | (exfalso;omega)
   | (have h0:b.drop k=[]:=List.eq_nil_of_length_eq_zero (by omega)
      refine ⟨?_,rfl⟩;rw [he,h0];rfl)
   | (have hlt:k < b.length:=by omega
      first
       | (have hx:¬ (b.drop k).getD 0 0=c:=by assumption
          rw [KO_] at hx
          have h1:wt_ (b.drop k) c=b.drop k:=by
           unfold wt_;rw [zz_ hlt 0,List.dropWhile_cons_of_neg (by simpa using hx)]
          refine ⟨?_,rfl⟩;rw [he,h1])
       | (have hx:(b.drop k).getD 0 0=c:=by assumption
          rw [KO_] at hx
          have h1:wt_ (b.drop k) c=wt_ (b.drop (k+1)) c:=by
           unfold wt_;rw [zz_ hlt 0,List.dropWhile_cons_of_pos (by simpa using hx)]
          refine ⟨k+1,⟨hlt,by rw [he,h1]⟩,by dsimp only;omega,?_,rfl⟩
          dsimp only;rw [<- List.drop_drop];rfl))
 ·cases e
theorem uZ_:∀ (b:List Int),decide ((wt_ (yW_ b 0) 0).length=0)=ZJ_ b:=by
 intro b
 have hR:∀ k ≤ b.length,(b.take (j0_ b 0 k)).all (fun c=>decide (c=0))=(b.take k).all fun c=>decide (c=0):=by
  intro k
  induction k with
  | zero=>intro _;rfl
  | succ k ih=>
    intro hk
    unfold j0_
    split
    ·rename_i h
     rw [ih (by omega),List.take_succ_eq_append_getElem (by omega),List.all_append]
     have:b[k]=0:=by rw [List.getD_eq_getElem?_getD,List.getElem?_eq_getElem (by omega)] at h;exact h
     simp [this]
    ·rfl
 have hL:∀ l:List Int,decide ((l.dropWhile fun x=>decide (x=0)).length=0)=l.all fun c=>decide (c=0):=by
  intro l
  induction l with
  | nil=>rfl
  | cons a l ih=>
    by_cases h:a=0
    ·rw [List.dropWhile_cons_of_pos (by simpa using h),ih];simp [h]
    ·rw [List.dropWhile_cons_of_neg (by simpa using h)];simp [h]
 unfold wt_ yW_ ZJ_
 rw [hL,hR _ (Nat.le_refl _),List.take_length]
def uK_:IR:=
(sq (kr [0,1] [oD 4 (.mov (.c (.imm (.int .u8) [])))])
(sq (sq (.reg [oM 7 0,
oE 8 7,
oB 9 .eql 8 (cI 0)])
(.cond 9
(sq (.reg [oD 4 (.mov (.c (.imm (.int .u8) [])))])
.ret)
.skip))
(sq (sq (.reg [oM 10 1,
oB 11 .eql 10 (.c (.str []))])
(.cond 11
(sq (kr [0] [oM 12 0,
oM 4 12])
.ret)
.skip))
(sq (sq (kr [0,1] [oM 13 1,
oD 14 (.slen 13),
oB 15 .eql 14 (cI 1),
oM 16 15,
oT 16 17 (.mov 1),
oT 16 18 (.sindex 17 (cI 0)),
oT 16 19 (.bin .lss 18 (.c (.int .u8 128))),
oP 20 16 19 cF])
(.cond 20
(sq (kd [0,1] [(oM 21 0,[]),
(oM 22 1,[0]),
(oD 23 (.sindex 22 (cI 0)),[1]),
(oC 24 147 [21,23],[]),
(oM 25 1,[0,0,0,0]),
(oD 26 (.sindex 25 (cI 0)),[1,0,0,0]),
(oC 27 146 [24,26],[]),
(oM 4 27,[])])
.ret)
.skip))
(sq (sq (kr [0,1] [oM 29 1,
oC 30 148 [29],
oM 28 30,
oX 31 28 0,
oX 32 28 1,
oD 5 (.box [.kb false,.kb false,.kb false,.kb false,.kb false,.kb false,.kb false,.kb false,.kb false,.kb false,.kb false,.kb false,.kb false,.kb false,.kb false,.kb false,.kb false,.kb false,.kb false,.kb false,.kb false,.kb false,.kb false,.kb false,.kb false,.kb false,.kb false,.kb false,.kb false,.kb false,.kb false,.kb false,.kb false,.kb false,.kb false,.kb false,.kb false,.kb false,.kb false,.kb false,.kb false,.kb false,.kb false,.kb false,.kb false,.kb false,.kb false,.kb false,.kb false,.kb false,.kb false,.kb false,.kb false,.kb false,.kb false,.kb false,.kb false,.kb false,.kb false,.kb false,.kb false,.kb false,.kb false,.kb false,.kb false,.kb false,.kb false,.kb false,.kb false,.kb false,.kb false,.kb false,.kb false,.kb false,.kb false,.kb false,.kb false,.kb false,.kb false,.kb false,.kb false,.kb false,.kb false,.kb false,.kb false,.kb false,.kb false,.kb false,.kb false,.kb false,.kb false,.kb false,.kb false,.kb false,.kb false,.kb false,.kb false,.kb false,.kb false,.kb false,.kb false,.kb false,.kb false,.kb false,.kb false,.kb false,.kb false,.kb false,.kb false,.kb false,.kb false,.kb false,.kb false,.kb false,.kb false,.kb false,.kb false,.kb false,.kb false,.kb false,.kb false,.kb false,.kb false,.kb false,.kb false,.kb false,.kb false,.kb false,.kb false,.kb false,.kb false,.kb false,.kb false,.kb false,.kb false,.kb false,.kb false,.kb false,.kb false,.kb false,.kb false,.kb false,.kb false,.kb false,.kb false,.kb false,.kb false,.kb false,.kb false,.kb false,.kb false,.kb false,.kb false,.kb false,.kb false,.kb false,.kb false,.kb false,.kb false,.kb false,.kb false,.kb false,.kb false,.kb false,.kb false,.kb false,.kb false,.kb false,.kb false,.kb false,.kb false,.kb false,.kb false,.kb false,.kb false,.kb false,.kb false,.kb false,.kb false,.kb false,.kb false,.kb false,.kb false,.kb false,.kb false,.kb false,.kb false,.kb false,.kb false,.kb false,.kb false,.kb false,.kb false,.kb false,.kb false,.kb false,.kb false,.kb false,.kb false,.kb false,.kb false,.kb false,.kb false,.kb false,.kb false,.kb false,.kb false,.kb false,.kb false,.kb false,.kb false,.kb false,.kb false,.kb false,.kb false,.kb false,.kb false,.kb false,.kb false,.kb false,.kb false,.kb false,.kb false,.kb false,.kb false,.kb false,.kb false,.kb false,.kb false,.kb false,.kb false,.kb false,.kb false,.kb false,.kb false,.kb false,.kb false,.kb false,.kb false,.kb false,.kb false,.kb false,.kb false,.kb false,.kb false,.kb false,.kb false,.kb false,.kb false,.kb false,.kb false,.kb false,.kb false,.kb false,.kb false,.kb false]),
oS 256 5 31,
oM 6 32])
(sq (kr [0,1,5,6] [oM 33 6])
(.cond 33
(sq (.reg [oM 34 0,
oC 35 150 [34,5],
oC 36 149 [35,5],
oM 4 36])
.ret)
.skip)))
(sq (kr [0,1] [oM 37 0,
oM 38 1,
oC 39 152 [37,38],
oM 40 1,
oC 41 151 [39,40],
oM 4 41])
.ret))))))
def ub_:List RD:=[.tmp 4 true (some (.int .u8))]
theorem us_:zl_ Tryz.prog Tryz.f129 uK_ ub_=true:=by kernel_rfl
def Ky_:List AV->List Obj->Option (Prop × AV)
 | [.imm (.int .u8) b,.str [0]],[]=>some ((b.length<=140737488355328,.imm (.int .u8) (wt_ (yW_ b 0) 0)))
 | _,_=>none
theorem wz_:ze_ Tryz.prog 129 (RoF Ky_).sum:=by
 refine zm_ Tryz.func129 us_ (zb_ (s:=RoF qj_) jz_ (zb_ (s:=RoF qK_) j6_ (zd_ _))) fun args objs p v e=>?_
 unfold Ky_ at e
 split at e
 ·rename_i b
  cases e
  refine ⟨rfl,fun hw ho hp=>?_⟩
  change List Int at b
  have hl:(yW_ b 0).length<=b.length:=by unfold yW_;rw [List.length_take];omega
  repeat'(intro t ht;first|(cases t<;>first|(cases ht;done)|(try simp only[zh_]at ht))|((first|refine za_ ht ?_|refine ht ?_ ?_|refine ht.1 ?_ ?_|refine ht ?_)<;>clear ht))
  all_goals first
   | exact hp
   | exact ⟨by decide,by decide⟩
   | exact Nat.le_trans hl hp
   | exact ⟨rfl,rfl⟩
   | (have hb:b=[]:=List.eq_nil_of_length_eq_zero (by omega)
      refine ⟨?_,rfl⟩;rw [hb];rfl)
 ·cases e
end Go.Eng
