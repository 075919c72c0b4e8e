/- Parts of the proof: S1, SX, T2, T3, T4. No condition. -/
import Derived.Test.YtimkdohmkfjfaaaGreatDoorProg
import Derived.Test.YtimkdohmkfjfaaaGreatDoorXK11
import Derived.KernelRfl
import Derived.Test.YtimkdohmkfjfaaaGreatDoorXK13
namespace Go.Eng
open Go.Proofs
set_option linter.unusedVariables false
set_option linter.unusedSimpArgs false
set_option maxRecDepth 100000
set_option maxHeartbeats 1000000
def swp (l:List Int) (i j:Nat):List Int:=(l.set i (l.getD j 0)).set j (l.getD i 0)
theorem u3_ (l:List Int) (i j:Nat):(swp l i j).length=l.length:=by unfold swp;simp
theorem KK_ (l:List Int) {i j:Nat} (hi:i < l.length) (hj:j < l.length) (k:Nat):(swp l i j).getD k 0=if k=j then l.getD i 0 else if k=i then l.getD j 0 else l.getD k 0:=by
 unfold swp
 simp only [List.getD_eq_getElem?_getD,List.getElem?_set,List.length_set]
 by_cases h1:j=k
 ·subst h1;simp [hj]
 ·by_cases h2:i=k
  ·subst h2;simp [h1,Ne.symm h1,hi]
  ·simp [h1,h2,Ne.symm h1,Ne.symm h2]
theorem Bj_ (l:List Int) {i j:Nat} (hi:i < l.length) (hj:j < l.length):(swp l i j).Perm l:=by
 unfold swp
 have:=List.set_set_perm hi hj
 rw [List.getD_eq_getElem?_getD,List.getD_eq_getElem?_getD,List.getElem?_eq_getElem hi,List.getElem?_eq_getElem hj]
 exact this
structure Rear (l:List Int) (a b:Nat) (r:List Int):Prop where
 perm:r.Perm l
 lo:r.take a=l.take a
 hi:r.drop b=l.drop b
theorem Rear.refl (l:List Int) (a b:Nat):Rear l a b l:=⟨.refl _,rfl,rfl⟩
theorem Rear.len {l r:List Int} {a b:Nat} (h:Rear l a b r):r.length=l.length:=h.perm.length_eq
theorem Rear.trans {l r s:List Int} {a b:Nat} (h:Rear l a b r) (k:Rear r a b s):Rear l a b s:=⟨k.perm.trans h.perm,k.lo.trans h.lo,k.hi.trans h.hi⟩
theorem Rear.wide {l r:List Int} {a b a' b':Nat} (h:Rear l a b r) (ha:a'<=a) (hb:b<=b'):Rear l a' b' r:=by
 refine ⟨h.perm,?_,?_⟩
 ·have:=congrArg (List.take a') h.lo
  rwa [List.take_take,List.take_take,Nat.min_eq_left ha] at this
 ·have:=congrArg (List.drop (b' - b)) h.hi
  rwa [List.drop_drop,List.drop_drop,show b+(b' - b)=b' by omega] at this
theorem ux_ {l:List Int} {k a:Nat} (h:k < a):(l.take a).getD k 0=l.getD k 0:=by
 simp only [List.getD_eq_getElem?_getD,List.getElem?_take,if_pos h]
theorem uy_ (l:List Int) (k b:Nat):(l.drop b).getD k 0=l.getD (b+k) 0:=by
 simp only [List.getD_eq_getElem?_getD,List.getElem?_drop]
theorem Rear.get {l r:List Int} {a b k:Nat} (h:Rear l a b r) (hk:k < a\/b<=k):r.getD k 0=l.getD k 0:=by
 rcases hk with hk | hk
 ·rw [<- ux_ hk,h.lo,ux_ hk]
 ·have:=uy_ r (k - b) b
  rw [h.hi,uy_,show b+(k - b)=k by omega] at this
  exact this.symm
theorem Rear.swp {l:List Int} {a b i j:Nat} (hi:a<=i/\i < b) (hj:a<=j/\j < b) (hb:b<=l.length):Rear l a b (swp l i j):=by
 refine ⟨Bj_ l (by omega) (by omega),?_,?_⟩
 ·unfold Go.Eng.swp
  rw [List.take_set_of_le (by omega),List.take_set_of_le (by omega)]
 ·unfold Go.Eng.swp
  rw [List.drop_set_of_lt (by omega),List.drop_set_of_lt (by omega)]
def midR (l:List Int) (a b:Nat):List Int:=(l.take b).drop a
theorem cut3 (l:List Int) {a b:Nat} (h:a<=b):l=l.take a++midR l a b++l.drop b:=by
 unfold midR
 have h1:l.take a=(l.take b).take a:=by rw [List.take_take,Nat.min_eq_left h]
 rw [h1,List.take_append_drop,List.take_append_drop]
theorem Rear.midR {l r:List Int} {a b:Nat} (h:Rear l a b r) (hab:a<=b):(midR r a b).Perm (midR l a b):=by
 have h1:=h.perm
 rw [cut3 l hab,cut3 r hab,h.lo,h.hi] at h1
 exact (List.perm_append_left_iff _).1 ((List.perm_append_right_iff _).1 h1)
theorem j7_ (l:List Int) {a b k:Nat} (hb:b<=l.length) (hk:a+k < b):(midR l a b)[k]?=some (l.getD (a+k) 0):=by
 unfold midR
 rw [List.getElem?_drop,List.getElem?_take,if_pos hk,List.getElem?_eq_getElem (by omega),List.getD_eq_getElem?_getD,List.getElem?_eq_getElem (by omega)];rfl
theorem kb_ (l:List Int) {a b:Nat} (hb:b<=l.length):(midR l a b).length=b - a:=by
 unfold midR;rw [List.length_drop,List.length_take,Nat.min_eq_left hb]
def Kw_ (l:List Int) (a b:Nat):Prop:=∀ i j,a<=i->i < j->j < b->l.getD i 0<=l.getD j 0
theorem Kw_.pw {l:List Int} {a b:Nat} (h:Kw_ l a b) (hb:b<=l.length):(midR l a b).Pairwise (· <=·):=by
 rw [List.pairwise_iff_getElem]
 intro i j hi hj hij
 rw [kb_ l hb] at hi hj
 have e1:=j7_ l (a:=a) (k:=i) hb (by omega)
 have e2:=j7_ l (a:=a) (k:=j) hb (by omega)
 rw [List.getElem?_eq_getElem (by rw [kb_ l hb];omega)] at e1 e2
 rw [Option.some.inj e1,Option.some.inj e2]
 exact h _ _ (by omega) (by omega) (by omega)
def leI (x y:Int):Bool:=decide (x<=y)
def srt (l:List Int) (a b:Nat):List Int:=l.take a++(midR l a b).mergeSort leI++l.drop b
theorem hA_ (l:List Int):(l.mergeSort leI).Pairwise (· <=·):=by
 have:=List.pairwise_mergeSort (le:=leI) (fun a b c h1 h2=>by unfold leI at*;simp only [decide_eq_true_eq] at*;omega) (fun a b=>by unfold leI;simp only [Bool.or_eq_true,decide_eq_true_eq];omega) l
 exact this.imp fun h=>by unfold leI at h;simpa using h
theorem zcD_ {l r:List Int} (h:l.Pairwise (· <=·)) (k:r.Pairwise (· <=·)) (p:l.Perm r):l=r:=
 List.Perm.eq_of_pairwise (le:=(· <=·)) (fun a b _ _ h1 h2=>Int.le_antisymm h1 h2) h k p
theorem Hl_ (l:List Int) {a b:Nat} (h:a<=b):(srt l a b).length=l.length:=by
 have:=congrArg List.length (cut3 l h)
 unfold srt
 simp only [List.length_append,List.length_mergeSort] at this ⊢
 exact this.symm
theorem kZ_ (l:List Int) {a b:Nat} (h:a<=b) (hb:b<=l.length):Rear l a b (srt l a b):=by
 refine ⟨?_,?_,?_⟩
 ·conv=>rhs;rw [cut3 l h]
  exact ((List.mergeSort_perm _ _).append_left _).append_right _
 ·unfold srt;rw [List.append_assoc]
  exact List.take_left' (by rw [List.length_take];omega)
 ·unfold srt
  exact List.drop_left' (by rw [List.length_append,List.length_mergeSort,kb_ l hb,List.length_take];omega)
theorem xq_ {l r:List Int} {a b:Nat} (hab:a<=b) (hb:b<=l.length) (h:Rear l a b r) (k:Kw_ r a b):r=srt l a b:=by
 have hbr:b<=r.length:=by rw [h.len];exact hb
 rw [cut3 r hab,h.lo,h.hi]
 unfold srt
 rw [zcD_ (k.pw hbr) (hA_ (midR l a b)) ((h.midR hab).trans (List.mergeSort_perm _ _).symm)]
theorem wP_ (l:List Int) {a b:Nat} (hab:a<=b) (hb:b<=l.length):Kw_ (srt l a b) a b:=by
 have hR:=kZ_ l hab hb
 have hm:midR (srt l a b) a b=(midR l a b).mergeSort leI:=by
  unfold midR srt
  rw [List.take_left' (by rw [List.length_append,List.length_mergeSort,kb_ l hb,List.length_take];omega)]
  exact List.drop_left' (by rw [List.length_take];omega)
 have hp:=hA_ (midR l a b)
 rw [<- hm,List.pairwise_iff_getElem] at hp
 intro i j hi hij hj
 have hbs:b<=(srt l a b).length:=by rw [hR.len];exact hb
 have:=hp (i - a) (j - a) (by rw [kb_ _ hbs];omega) (by rw [kb_ _ hbs];omega) (by omega)
 have e1:=j7_ (srt l a b) (a:=a) (k:=i - a) hbs (by omega)
 have e2:=j7_ (srt l a b) (a:=a) (k:=j - a) hbs (by omega)
 rw [List.getElem?_eq_getElem (by rw [kb_ _ hbs];omega)] at e1 e2
 rw [Option.some.inj e1,Option.some.inj e2,show a+(i - a)=i by omega,show a+(j - a)=j by omega] at this
 exact this
theorem WM_ {l r:List Int} {a b:Nat} (hab:a<=b) (hb:b<=l.length) (h:Rear l a b r):srt r a b=srt l a b:=
 xq_ hab hb (h.trans (kZ_ r hab (by rw [h.len];exact hb))) (wP_ r hab (by rw [h.len];exact hb))
theorem Bk_ {l:List Int} {a b:Nat} (hab:a<=b) (hb:b<=l.length) (k:Kw_ l a b):srt l a b=l:=(xq_ hab hb (Rear.refl l a b) k).symm
theorem H9_ {l:List Int} {a b:Nat} (hab:a<=b) (h1:b<=a+1) (hb:b<=l.length):srt l a b=l:=Bk_ hab hb fun i j _ _ _=>by omega
theorem Rear.at {l r:List Int} {a b i:Nat} (h:Rear l a b r) (hab:a<=b) (hb:b<=l.length) (hi:a<=i/\i < b):∃ j,a<=j/\j < b/\r.getD i 0=l.getD j 0:=by
 have hm:=h.midR hab
 have hbr:b<=r.length:=by rw [h.len];exact hb
 have e1:=j7_ r (a:=a) (k:=i - a) hbr (by omega)
 have hin:r.getD i 0 ∈ Go.Eng.midR r a b:=by
  rw [show a+(i - a)=i by omega] at e1
  exact List.mem_of_getElem? e1
 have:=(hm.mem_iff).1 hin
 obtain ⟨k,hk,e⟩:=List.mem_iff_getElem.1 this
 rw [kb_ l hb] at hk
 have e2:=j7_ l (a:=a) (k:=k) hb (by omega)
 rw [List.getElem?_eq_getElem (by rw [kb_ l hb];exact hk)] at e2
 exact ⟨a+k,by omega,by omega,by rw [<- e];exact Option.some.inj e2⟩
theorem X3_ {l:List Int} {a m b:Nat} (h1:a<=m) (h2:m<=b) (hb:b<=l.length) (h:∀ i j,a<=i->i < m->m<=j->j < b->l.getD i 0<=l.getD j 0):srt l a b=srt (srt l a m) m b:=by
 have r1:=kZ_ l h1 (show m<=l.length by omega)
 have hb1:b<=(srt l a m).length:=by rw [r1.len];exact hb
 have r2:=kZ_ (srt l a m) h2 hb1
 refine (xq_ (by omega) hb ((r1.wide (Nat.le_refl _) h2).trans (r2.wide h1 (Nat.le_refl _))) fun i j hi hij hj=>?_).symm
 by_cases him:i < m
 ·rw [r2.get (.inl him)]
  by_cases hjm:j < m
  ·rw [r2.get (.inl hjm)];exact wP_ l h1 (by omega) i j hi hij hjm
  ·obtain ⟨j',g1,g2,g3⟩:=r2.at h2 hb1 (i:=j) ⟨by omega,hj⟩
   obtain ⟨i',q1,q2,q3⟩:=r1.at h1 (by omega) (i:=i) ⟨hi,him⟩
   rw [g3,q3,r1.get (.inr g1)]
   exact h _ _ q1 q2 g1 g2
 ·exact wP_ _ h2 hb1 i j (by omega) hij hj
theorem uf_ {l:List Int} {a b:Nat} (h1:a < b) (hb:b<=l.length) (h:∀ j,a < j->j < b->l.getD a 0<=l.getD j 0):srt l a b=srt l (a+1) b:=by
 rw [X3_ (m:=a+1) (by omega) (by omega) hb fun i j hi hi' hj hj'=>by rw [show i=a by omega];exact h j (by omega) hj',H9_ (by omega) (Nat.le_refl _) (by omega)]
structure InsJ (l r:List Int) (a b i j:Nat):Prop where
 R:Rear l a b r
 aj:a<=j
 ji:j<=i
 ib:i < b
 s:∀ p q,a<=p->p < q->q<=i->q ≠ j->r.getD p 0<=r.getD q 0
theorem uw_ {l r:List Int} {a b i:Nat} (h:Rear l a b r) (s:Kw_ r a i) (ai:a<=i) (ib:i < b):InsJ l r a b i i:=
 ⟨h,ai,Nat.le_refl _,ib,fun p q h1 h2 h3 h4=>s p q h1 h2 (by omega)⟩
theorem Gf_ {l r:List Int} {a b i j:Nat} (hb:b<=l.length) (h:InsJ l r a b i j) (hj:a < j) (hlt:r.getD j 0 < r.getD (j - 1) 0):InsJ l (swp r j (j - 1)) a b i (j - 1):=by
 obtain ⟨hR,h1,h2,h3,hs⟩:=h
 have hl:=hR.len
 have g:=KK_ r (i:=j) (j:=j - 1) (by omega) (by omega)
 refine ⟨hR.trans (Rear.swp (by omega) (by omega) (by omega)),by omega,by omega,h3,fun p q hp hpq hq hne=>?_⟩
 rw [g p,g q,if_neg hne]
 by_cases e1:q=j
 ·subst e1
  rw [if_pos rfl]
  by_cases e2:p=q - 1
  ·rw [if_pos e2];omega
  ·rw [if_neg e2,if_neg (by omega)];exact hs p (q - 1) hp (by omega) (by omega) (by omega)
 ·rw [if_neg e1]
  by_cases e2:p=j - 1
  ·rw [if_pos e2]
   exact hs j q (by omega) (by omega) hq e1
  ·rw [if_neg e2]
   by_cases e3:p=j
   ·rw [if_pos e3];exact hs (j - 1) q (by omega) (by omega) hq e1
   ·rw [if_neg e3];exact hs p q hp hpq hq e1
theorem v0_ {l r:List Int} {a b i j:Nat} (h:InsJ l r a b i j) (hs:j=a\/¬ r.getD j 0 < r.getD (j - 1) 0):Kw_ r a (i+1):=by
 obtain ⟨hR,h1,h2,h3,hs'⟩:=h
 intro p q hp hpq hq
 by_cases e:q=j
 ·subst e
  rcases hs with hs | hs
  ·omega
  ·by_cases e2:p=q - 1
   ·rw [e2];omega
   ·have:=hs' p (q - 1) hp (by omega) (by omega) (by omega)
    omega
 ·exact hs' p q hp hpq (by omega) e
def Hp (r:List Int) (f lo hi:Nat):Prop:=∀ i c,lo<=i->(c=2*i+1\/c=2*i+2)->c < hi->r.getD (f+c) 0<=r.getD (f+i) 0
structure SiftJ (l r:List Int) (f lo hi x:Nat):Prop where
 R:Rear l (f+lo) (f+hi) r
 lx:lo<=x
 h:∀ i c,lo<=i->i ≠ x->(c=2*i+1\/c=2*i+2)->c < hi->r.getD (f+c) 0<=r.getD (f+i) 0
 g:∀ p c,lo<=p->(x=2*p+1\/x=2*p+2)->(c=2*x+1\/c=2*x+2)->c < hi->r.getD (f+c) 0<=r.getD (f+p) 0
theorem G5_ {l:List Int} {f lo hi:Nat} (h:Hp l f (lo+1) hi):SiftJ l l f lo hi lo:=
 ⟨Rear.refl _ _ _,Nat.le_refl _,fun i c h1 h2 h3 h4=>h i c (by omega) h3 h4,fun p c h1 h2 _ _=>by omega⟩
theorem uh_ {l r:List Int} {f lo hi x c0:Nat} (hb:f+hi<=l.length) (J:SiftJ l r f lo hi x) (hc:c0=2*x+1\/c0=2*x+2) (hlt:c0 < hi) (hm:∀ c,(c=2*x+1\/c=2*x+2)->c < hi->r.getD (f+c) 0<=r.getD (f+c0) 0) (hr:r.getD (f+x) 0 < r.getD (f+c0) 0):SiftJ l (swp r (f+x) (f+c0)) f lo hi c0:=by
 obtain ⟨hR,h1,h2,h3⟩:=J
 have hl:=hR.len
 have g:=KK_ r (i:=f+x) (j:=f+c0) (by omega) (by omega)
 refine ⟨hR.trans (Rear.swp (by omega) (by omega) (by omega)),by omega,fun i c hi hne hc' hlt'=>?_,fun p c hp hx hc' hlt'=>?_⟩
 ·rw [g (f+c),g (f+i),if_neg (show ¬ f+i=f+c0 by omega)]
  by_cases e1:i=x
  ·subst e1
   rw [if_pos (show f+i=f+i by rfl)]
   by_cases e2:c=c0
   ·subst e2;rw [if_pos rfl];omega
   ·rw [if_neg (by omega),if_neg (by omega)];exact hm c hc' hlt'
  ·rw [if_neg (show ¬ f+i=f+x by omega)]
   by_cases e2:c=x
   ·subst e2
    rw [if_neg (by omega),if_pos rfl]
    exact h3 i c0 hi hc' hc hlt
   ·rw [if_neg (by omega),if_neg (by omega)];exact h2 i c hi e1 hc' hlt'
 ·have e1:p=x:=by omega
  subst e1
  rw [g (f+c),g (f+p),if_neg (by omega),if_neg (by omega),if_neg (by omega),if_pos rfl]
  exact h2 c0 c (by omega) (by omega) hc' hlt'
theorem bd_ {l r:List Int} {f lo hi x:Nat} (J:SiftJ l r f lo hi x) (h:hi<=2*x+1):Hp r f lo hi:=fun i c h1 h2 h3=>by
 by_cases e:i=x
 ·subst e;omega
 ·exact J.h i c h1 e h2 h3
theorem ug_ {l r:List Int} {f lo hi x c0:Nat} (J:SiftJ l r f lo hi x) (hm:∀ c,(c=2*x+1\/c=2*x+2)->c < hi->r.getD (f+c) 0<=r.getD (f+c0) 0) (hr:¬ r.getD (f+x) 0 < r.getD (f+c0) 0):Hp r f lo hi:=fun i c h1 h2 h3=>by
 by_cases e:i=x
 ·subst e;have:=hm c h2 h3;omega
 ·exact J.h i c h1 e h2 h3
theorem HM_ {r:List Int} {f hi:Nat} (h:Hp r f 0 hi):∀ n c,c<=n->c < hi->r.getD (f+c) 0<=r.getD f 0
 | 0,c,hn,_=>by rw [show c=0 by omega];exact Int.le_refl _
 | n+1,c,hn,hc=>by
   by_cases h0:c=0
   ·rw [h0];exact Int.le_refl _
   ·have h1:=h ((c - 1) / 2) c (Nat.zero_le _) (by omega) hc
    have h2:=HM_ h n ((c - 1) / 2) (by omega) (by omega)
    omega
structure PopJ (l r:List Int) (a b i:Nat):Prop where
 R:Rear l a b r
 h:Hp r a 0 i
 s:∀ p q,i<=q->p < q->a+q < b->r.getD (a+p) 0<=r.getD (a+q) 0
theorem BF_ {l r r':List Int} {a b i:Nat} (hb:b<=l.length) (hib:a+i < b) (J:PopJ l r a b (i+1)) (hR:Rear (swp r a (a+i)) a (a+i) r') (hh:Hp r' a 0 i):PopJ l r' a b i:=by
 obtain ⟨h1,h2,h3⟩:=J
 have hl:=h1.len
 have hw:Rear r a b (swp r a (a+i)):=Rear.swp (by omega) (by omega) (by omega)
 have g:=KK_ r (i:=a) (j:=a+i) (by omega) (by omega)
 refine ⟨(h1.trans hw).trans (hR.wide (Nat.le_refl _) (by omega)),hh,fun p q hq hpq hqb=>?_⟩
 have rq:r'.getD (a+q) 0=(swp r a (a+i)).getD (a+q) 0:=hR.get (.inr (by omega))
 have top:∀ c,c < i+1->r.getD (a+c) 0<=r.getD a 0:=fun c hc=>HM_ h2 c c (Nat.le_refl _) hc
 have gq:0 < q->(swp r a (a+i)).getD (a+q) 0=if q=i then r.getD a 0 else r.getD (a+q) 0:=fun h0=>by
  rw [g (a+q)]
  by_cases e:q=i
  ·rw [if_pos e,if_pos (by omega)]
  ·rw [if_neg e,if_neg (by omega),if_neg (by omega)]
 have gc:∀ c,c < i->(swp r a (a+i)).getD (a+c) 0=if c=0 then r.getD (a+i) 0 else r.getD (a+c) 0:=fun c hc=>by
  rw [g (a+c),if_neg (by omega)]
  by_cases e:c=0
  ·rw [if_pos e,if_pos (by omega)]
  ·rw [if_neg e,if_neg (by omega)]
 have key:∀ k,a<=k->k < a+i->(swp r a (a+i)).getD k 0<=(swp r a (a+i)).getD (a+q) 0:=fun k k1 k2=>by
  obtain ⟨c,rfl⟩:∃ c,k=a+c:=⟨k - a,by omega⟩
  rw [gc c (by omega),gq (by omega)]
  by_cases e:q=i
  ·rw [if_pos e]
   by_cases e2:c=0
   ·rw [if_pos e2];exact top i (by omega)
   ·rw [if_neg e2];exact top c (by omega)
  ·rw [if_neg e]
   by_cases e2:c=0
   ·rw [if_pos e2];exact h3 i q (by omega) (by omega) hqb
   ·rw [if_neg e2];exact h3 c q (by omega) (by omega) hqb
 rw [rq]
 by_cases hp:p < i
 ·obtain ⟨j,j1,j2,j3⟩:=hR.at (i:=a+p) (by omega) (by rw [u3_];omega) ⟨by omega,by omega⟩
  rw [j3];exact key j j1 j2
 ·rw [hR.get (.inr (by omega)),g (a+p),g (a+q),if_neg (show ¬ a+q=a+i by omega),if_neg (show ¬ a+q=a by omega)]
  by_cases e:p=i
  ·rw [if_pos (by omega)]
   have:=h3 0 q (by omega) (by omega) hqb
   rwa [Nat.add_zero] at this
  ·rw [if_neg (by omega),if_neg (by omega)];exact h3 p q (by omega) hpq hqb
theorem bk_ {l r:List Int} {a b:Nat} (hR:Rear l a b r) (h:Hp r a 0 (b - a)) (hab:a<=b):PopJ l r a b (b - a):=⟨hR,h,fun p q h1 _ h3=>by omega⟩
theorem zbG_ {l r:List Int} {a b:Nat} (hab:a<=b) (hb:b<=l.length) (J:PopJ l r a b 0):r=srt l a b:=by
 refine xq_ hab hb J.R fun i j h1 h2 h3=>?_
 have:=J.s (i - a) (j - a) (Nat.zero_le _) (by omega) (by omega)
 rwa [show a+(i - a)=i by omega,show a+(j - a)=j by omega] at this
theorem zat_ {l:List Int} {f hi i:Nat} (h:(hi - 1) / 2+1<=i):Hp l f i hi:=fun j c h1 h2 h3=>by omega
structure PartJ (l r:List Int) (a b i j:Nat):Prop where
 R:Rear l a b r
 ai:a < i
 jb:j < b
 ij:i<=j+1
 lt:∀ k,a < k->k < i->r.getD k 0<=r.getD a 0
 ge:∀ k,j < k->k < b->r.getD a 0<=r.getD k 0
theorem uo_ {l r:List Int} {a b i j:Nat} (hb:b<=l.length) (J:PartJ l r a b i j) (hij:i<=j) (h1:r.getD a 0<=r.getD i 0) (h2:r.getD j 0<=r.getD a 0) (hne:i < j):PartJ l (swp r i j) a b (i+1) (j - 1):=by
 obtain ⟨hR,g1,g2,g3,g4,g5⟩:=J
 have hl:=hR.len
 have g:=KK_ r (i:=i) (j:=j) (by omega) (by omega)
 have ga:(swp r i j).getD a 0=r.getD a 0:=by rw [g a,if_neg (by omega),if_neg (by omega)]
 refine ⟨hR.trans (Rear.swp (by omega) (by omega) (by omega)),by omega,by omega,by omega,fun k k1 k2=>?_,fun k k1 k2=>?_⟩
 ·rw [ga,g k,if_neg (by omega)]
  by_cases e:k=i
  ·rw [if_pos e];exact h2
  ·rw [if_neg e];exact g4 k k1 (by omega)
 ·rw [ga,g k]
  by_cases e:k=j
  ·rw [if_pos e];exact h1
  ·rw [if_neg e,if_neg (by omega)];exact g5 k (by omega) k2
structure PartR (l r:List Int) (a b m:Nat):Prop where
 R:Rear l a b r
 am:a<=m
 mb:m < b
 lo:∀ k,a<=k->k < m->r.getD k 0<=r.getD m 0
 hi:∀ k,m < k->k < b->r.getD m 0<=r.getD k 0
theorem gG_ {l r:List Int} {a b i j:Nat} (hb:b<=l.length) (J:PartJ l r a b i j) (hij:¬ i<=j):PartR l (swp r j a) a b j:=by
 obtain ⟨hR,g1,g2,g3,g4,g5⟩:=J
 have hl:=hR.len
 have hj:a<=j:=by omega
 have g:=KK_ r (i:=j) (j:=a) (by omega) (by omega)
 have gj:(swp r j a).getD j 0=r.getD a 0:=by
  rw [g j]
  by_cases e:j=a
  ·rw [if_pos e,e]
  ·rw [if_neg e,if_pos rfl]
 refine ⟨hR.trans (Rear.swp (by omega) (by omega) (by omega)),hj,g2,fun k k1 k2=>?_,fun k k1 k2=>?_⟩
 ·rw [gj,g k]
  by_cases e:k=a
  ·rw [if_pos e]
   exact g4 j (by omega) (by omega)
  ·rw [if_neg e,if_neg (by omega)];exact g4 k (by omega) (by omega)
 ·rw [gj,g k,if_neg (by omega),if_neg (by omega)];exact g5 k k1 k2
def Km_ (l:List Int) (a b:Nat):Prop:=0 < a->∀ k,a<=k->k < b->l.getD (a - 1) 0<=l.getD k 0
theorem Km_.rear {l r:List Int} {a b:Nat} (h:Km_ l a b) (hR:Rear l a b r) (hab:a<=b) (hb:b<=l.length):Km_ r a b:=fun h0 k h1 h2=>by
 rw [hR.get (.inl (by omega))]
 obtain ⟨j,j1,j2,j3⟩:=hR.at hab hb ⟨h1,h2⟩
 rw [j3];exact h h0 j j1 j2
theorem Km_.sub {l:List Int} {a b m:Nat} (h:Km_ l a b) (hm:m<=b):Km_ l a m:=fun h0 k h1 h2=>h h0 k h1 (by omega)
theorem G2_ {l:List Int} {a m b:Nat} (h1:a<=m) (h2:m<=b) (hb:b<=l.length) (h:∀ i j,a<=i->i < m->m<=j->j < b->l.getD i 0<=l.getD j 0):srt l a b=srt (srt l m b) a m:=by
 have r1:=kZ_ l h2 hb
 have hl1:=r1.len
 have r2:=kZ_ (srt l m b) h1 (by omega)
 have hl2:=r2.len
 refine (xq_ (by omega) hb ((r1.wide h1 (Nat.le_refl _)).trans (r2.wide (Nat.le_refl _) h2)) fun i j hi hij hj=>?_).symm
 by_cases hjm:j < m
 ·exact wP_ (srt l m b) h1 (by omega) i j hi hij hjm
 ·rw [r2.get (k:=j) (.inr (by omega))]
  by_cases him:i < m
  ·obtain ⟨i',q1,q2,q3⟩:=r2.at h1 (by omega) (i:=i) ⟨hi,him⟩
   obtain ⟨j',g1,g2,g3⟩:=r1.at h2 hb (i:=j) ⟨by omega,hj⟩
   rw [q3,g3,r1.get (.inl q2)]
   exact h _ _ q1 q2 g1 g2
  ·rw [r2.get (k:=i) (.inr (by omega))]
   exact wP_ l h2 hb i j (by omega) hij hj
theorem bn_ {l r:List Int} {a b m:Nat} (hb:b<=l.length) (P:PartR l r a b m):srt l a b=srt (srt r a m) (m+1) b/\Km_ (srt r a m) (m+1) b:=by
 obtain ⟨hR,h1,h2,h3,h4⟩:=P
 have hl:=hR.len
 have e1:srt l a b=srt r a b:=(WM_ (by omega) hb hR).symm
 have hs:=kZ_ r h1 (by omega)
 have hsl:=hs.len
 have e2:=X3_ (l:=r) h1 (Nat.le_of_lt h2) (by omega) fun i j i1 i2 j1 j2=>by
  have:=h3 i i1 i2
  by_cases e:j=m
  ·rw [e];exact this
  ·have:=h4 j (by omega) j2;omega
 have hm:∀ k,m<=k->(srt r a m).getD k 0=r.getD k 0:=fun k hk=>hs.get (.inr hk)
 have e3:srt (srt r a m) m b=srt (srt r a m) (m+1) b:=uf_ h2 (by omega) fun j j1 j2=>by rw [hm m (Nat.le_refl _),hm j (by omega)];exact h4 j j1 j2
 refine ⟨by rw [e1,e2,e3],fun _ k k1 k2=>?_⟩
 rw [show m+1 - 1=m by omega,hm m (Nat.le_refl _),hm k (by omega)];exact h4 k (by omega) k2
theorem he_ {l r:List Int} {a b m:Nat} (hb:b<=l.length) (P:PartR l r a b m):srt l a b=srt (srt r (m+1) b) a m:=by
 obtain ⟨hR,h1,h2,h3,h4⟩:=P
 have hl:=hR.len
 have e1:srt l a b=srt r a b:=(WM_ (by omega) hb hR).symm
 have e2:=G2_ (l:=r) h1 (Nat.le_of_lt h2) (by omega) fun i j i1 i2 j1 j2=>by
  have:=h3 i i1 i2
  by_cases e:j=m
  ·rw [e];exact this
  ·have:=h4 j (by omega) j2;omega
 have e3:srt r m b=srt r (m+1) b:=uf_ h2 (by omega) fun j j1 j2=>h4 j j1 j2
 rw [e1,e2,e3]
structure EqlJ (l r:List Int) (a b i j:Nat) (x:Int):Prop where
 R:Rear l a b r
 pv:r.getD a 0=x
 ai:a < i
 jb:j < b
 ij:i<=j+1
 le:∀ k,a < k->k < i->r.getD k 0<=r.getD a 0
 gt:∀ k,j < k->k < b->r.getD a 0 < r.getD k 0
theorem zaN_ {l r:List Int} {a b i j:Nat} {x:Int} (hb:b<=l.length) (J:EqlJ l r a b i j x) (h1:r.getD a 0 < r.getD i 0) (h2:r.getD j 0<=r.getD a 0) (hne:i < j):EqlJ l (swp r i j) a b (i+1) (j - 1) x:=by
 obtain ⟨hR,pv,g1,g2,g3,g4,g5⟩:=J
 have hl:=hR.len
 have g:=KK_ r (i:=i) (j:=j) (by omega) (by omega)
 have ga:(swp r i j).getD a 0=r.getD a 0:=by rw [g a,if_neg (by omega),if_neg (by omega)]
 refine ⟨hR.trans (Rear.swp (by omega) (by omega) (by omega)),by rw [ga];exact pv,by omega,by omega,by omega,fun k k1 k2=>?_,fun k k1 k2=>?_⟩
 ·rw [ga,g k,if_neg (by omega)]
  by_cases e:k=i
  ·rw [if_pos e];exact h2
  ·rw [if_neg e];exact g4 k k1 (by omega)
 ·rw [ga,g k]
  by_cases e:k=j
  ·rw [if_pos e];exact h1
  ·rw [if_neg e,if_neg (by omega)];exact g5 k (by omega) k2
structure EqlR (l r:List Int) (a b m:Nat) (x:Int):Prop where
 R:Rear l a b r
 pv:r.getD a 0=x
 am:a < m
 mb:m<=b
 lo:∀ k,a<=k->k < m->r.getD k 0<=r.getD a 0
 hi:∀ k,m<=k->k < b->r.getD a 0 < r.getD k 0
theorem zcc_ {l r:List Int} {a b i j:Nat} {x:Int} (J:EqlJ l r a b i j x) (hij:¬ i<=j):EqlR l r a b i x:=
 ⟨J.R,J.pv,J.ai,by have:=J.jb;have:=J.ij;omega,fun k k1 k2=>by
  by_cases e:k=a
  ·rw [e];exact Int.le_refl _
  ·exact J.le k (by omega) k2,fun k k1 k2=>J.gt k (by omega) k2⟩
theorem zaO_ {l r:List Int} {a b m:Nat} {x:Int} (hb:b<=l.length) (E:EqlR l r a b m x) (hlow:∀ k,a<=k->k < b->r.getD a 0<=r.getD k 0):srt l a b=srt r m b/\Km_ r m b:=by
 obtain ⟨hR,_,h1,h2,h3,h4⟩:=E
 have hl:=hR.len
 have e1:srt l a b=srt r a b:=(WM_ (by omega) hb hR).symm
 have heq:∀ k,a<=k->k < m->r.getD k 0=r.getD a 0:=fun k k1 k2=>Int.le_antisymm (h3 k k1 k2) (hlow k k1 (by omega))
 have e2:=X3_ (l:=r) (a:=a) (m:=m) (by omega) h2 (by omega) fun i j i1 i2 j1 j2=>by rw [heq i i1 i2];exact Int.le_of_lt (h4 j j1 j2)
 have e3:srt r a m=r:=Bk_ (by omega) (by omega) fun i j i1 i2 i3=>by rw [heq i i1 (by omega),heq j (by omega) i3];exact Int.le_refl _
 rw [e3] at e2
 refine ⟨by rw [e1,e2],fun _ k k1 k2=>?_⟩
 rw [heq (m - 1) (by omega) (by omega)];exact Int.le_of_lt (h4 k k1 k2)
def YU_ (x:Int):List Int->List Int
 | []=>[x]
 | y :: r=>if x=y then y :: r else if x < y then x :: y :: r else y :: YU_ x r
def poF (l:List Int):List Int:=l.foldl (fun o x=>YU_ x o) []
theorem v1_ (x z:Int):∀ o:List Int,z ∈ YU_ x o ↔ z=x\/z ∈ o
 | []=>by simp [YU_]
 | y :: r=>by
   unfold YU_
   split
   ·rename_i h;subst h;simp
   ·split
    ·simp
    ·rw [List.mem_cons,v1_ x z r,List.mem_cons]
     constructor
     ·rintro (h | h | h)<;>simp [h]
     ·rintro (h | h | h)<;>simp [h]
def Sst (o:List Int):Prop:=o.Pairwise (· < ·)
theorem Gg_ (x:Int):∀ o:List Int,Sst o->Sst (YU_ x o)
 | [],_=>List.pairwise_singleton ..
 | y :: r,h=>by
   have h':=List.pairwise_cons.1 h
   unfold YU_
   split
   ·exact h
   ·rename_i h1
    split
    ·rename_i h2
     refine List.pairwise_cons.2 ⟨fun z hz=>?_,h⟩
     rcases List.mem_cons.1 hz with rfl | hz
     ·exact h2
     ·have:=h'.1 z hz;omega
    ·rename_i h2
     refine List.pairwise_cons.2 ⟨fun z hz=>?_,Gg_ x r h'.2⟩
     rcases (v1_ x z r).1 hz with rfl | hz
     ·omega
     ·exact h'.1 z hz
theorem Up_:∀ (l o:List Int),Sst o->Sst (l.foldl (fun o x=>YU_ x o) o)/\∀ z,z ∈ l.foldl (fun o x=>YU_ x o) o ↔ z ∈ o\/z ∈ l
 | [],o,h=>⟨h,fun z=>by simp⟩
 | x :: l,o,h=>by
   obtain ⟨i1,i2⟩:=Up_ l (YU_ x o) (Gg_ x o h)
   refine ⟨i1,fun z=>?_⟩
   show z ∈ l.foldl (fun o x=>YU_ x o) (YU_ x o) ↔ _
   rw [i2 z,v1_,List.mem_cons]
   constructor
   ·rintro ((h | h) | h)<;>simp [h]
   ·rintro (h | h | h)<;>simp [h]
theorem Hr_ (l:List Int):Sst (poF l):=(Up_ l [] List.Pairwise.nil).1
theorem zbH_ (l:List Int) (z:Int):z ∈ poF l ↔ z ∈ l:=by
 have:=(Up_ l [] List.Pairwise.nil).2 z
 unfold poF;rw [this];simp
theorem H8_ {o:List Int} (h:Sst o):o.Nodup:=List.Pairwise.imp (fun h=>by omega) h
theorem zc3_ {l k:List Int} (hn:l.Nodup) (h:∀ z,z ∈ l ↔ z ∈ k):srt l 0 l.length=poF k:=by
 have e:srt l 0 l.length=l.mergeSort leI:=by
  unfold srt midR
  rw [List.take_zero,List.nil_append,List.drop_zero,List.take_length,List.drop_length,List.append_nil]
 rw [e]
 have p1:(l.mergeSort leI).Perm l:=List.mergeSort_perm l leI
 have p2:l.Perm (poF k):=(List.perm_ext_iff_of_nodup hn (H8_ (Hr_ k))).2 fun z=>by rw [zbH_,h z]
 exact zcD_ (hA_ l) (List.Pairwise.imp (fun h=>Int.le_of_lt h) (Hr_ k)) (p1.trans p2)
structure kOk (m:List (Int × Int)) (ks:List Int):Prop where
 nd:(m.map Prod.fst).Nodup
 mem:∀ z,z ∈ m.map Prod.fst ↔ z ∈ ks
 r:∀ z,0<=(zx_ m z).getD 0/\(zx_ m z).getD 0<=ks.length
 l:m.length<=ks.length
theorem ht_:∀ (n:Nat) (s:List Nat),s.Nodup->(∀ d ∈ s,d < n)->s.length<=n
 | 0,s,_,hl=>by
   cases s with
   | nil=>exact Nat.le_refl _
   | cons a r=>exact absurd (hl a (List.mem_cons_self ..)) (Nat.not_lt_zero _)
 | n+1,s,hn,hl=>by
   by_cases h:n ∈ s
   ·have ih:=ht_ n (s.erase n) (hn.erase n) fun d hd=>by
     have:=(hn.mem_erase_iff).1 hd
     have h2:=hl d this.2
     have h3:=this.1
     omega
    rw [List.length_erase_of_mem h] at ih
    omega
   ·have:=ht_ n s hn fun d hd=>by
     have h2:=hl d hd
     have h3:d ≠ n:=fun e=>h (e ▸ hd)
     omega
    omega
theorem uE_ {e x:Int} (h:e ≠ 0):zl_ e x ≠ 0:=by unfold zl_;rw [if_neg h];exact h
theorem zci_ {x l:List Int} {room e:Int} (h:e ≠ 0):Wy_ x l room e ≠ 0:=by unfold Wy_;rw [if_neg h];exact h
theorem za5_ {x l:List Int} {room:Int} (h:¬ (x.length:Int)<=room - l.length):Wy_ x l room 0 ≠ 0:=by
 unfold Wy_;rw [if_pos rfl,if_neg h];decide
theorem zcB_ {a n:Int} (ha:0<=a/\a<=65535) (hn:0<=n/\n<=65535):Qb_ [2,2] [a,n]=zi_ a 2++zi_ n 2/\Kr_ [2,2] [a,n]=true:=by
 have e1:a.fdiv (2 ^ 16)=0:=by rw [Int.fdiv_eq_ediv_of_nonneg _ (by decide)];omega
 have e2:n.fdiv (2 ^ 16)=0:=by rw [Int.fdiv_eq_ediv_of_nonneg _ (by decide)];omega
 have h:jG_ [2,2] [a,n]=some (zi_ a 2++zi_ n 2):=by
  unfold jG_
  rw [if_pos ⟨by decide,(by decide:ki_ [2,2]=2)⟩]
  have m:min (8*(2:Int)).toNat 64=16:=by decide
  simp only [qE_,m]
  rw [if_neg (by decide),if_neg (by rintro ⟨_,h⟩;exact h e1),if_neg (by decide),if_neg (by rintro ⟨_,h⟩;exact h e2)]
  rfl
 unfold Qb_ Kr_;rw [h];exact ⟨rfl,rfl⟩
theorem Wz_ {x l:List Int} {room e:Int} (h:l.length<=1000000) (hr:room<=1000000):(xd_ x l room e).length<=1000000:=by
 unfold xd_ Wx_;split
 ·rename_i hb;simp only [Bool.and_eq_true,decide_eq_true_eq] at hb;rw [List.length_append];omega
 ·exact h
theorem K7_ {w xs l:List Int} {room e:Int} (h:l.length<=1000000) (hr:room<=1000000):(j0_ w xs l room e).length<=1000000:=by
 unfold j0_;split
 ·exact Wz_ h hr
 ·exact h
theorem zbo_ {a s:Int} (ha:0<=a) (hs:1<=s):0<=a.tmod s/\a.tmod s < s:=by
 rw [Int.tmod_eq_emod_of_nonneg ha];exact ⟨Int.emod_nonneg _ (by omega),Int.emod_lt_of_pos _ (by omega)⟩
def tT (b:List Int):Int:=zs_ (b.take 2)
def tN (b:List Int):Int:=zs_ ((b.drop 2).take 2)
theorem Uy_ {b:List Int} {a:Nat} (hb:∀ x ∈ b,0<=x/\x<=255):0<=zs_ ((b.drop a).take 2)/\zs_ ((b.drop a).take 2)<=65535:=by
 have h:=Y6_ ((b.drop a).take 2) fun x hx=>hb x (List.mem_of_mem_drop (List.mem_of_mem_take hx))
 have hl:((b.drop a).take 2).length<=2:=by rw [List.length_take];omega
 have hp:∀ k ≤ 2,(256:Int) ^ k<=65536:=by decide
 have:=hp _ hl
 omega
def bd (b:List Int):List Int:=(b.take (tN b).toNat).drop 4
theorem zej_ (b:List Int):qY_ [2,2] b=if b.length < 4 then ([],1) else ([zs_ (b.take 2),zs_ ((b.drop 2).take 2)],0):=by
 have hr:Zr_ [2,2]=true:=by decide
 unfold qY_
 rw [if_pos hr]
 have a2:zp_ 2=2:=by decide
 have t2:Int.toNat 2=2:=rfl
 have p2:(0:Int) < 2:=by decide
 simp only [qg_,a2,t2,if_pos p2,List.length_drop]
 by_cases h:b.length < 4
 ·rw [if_pos h]
  by_cases h2:(b.length:Int) < 2
  ·rw [if_pos h2]
  ·rw [if_neg h2,if_pos (by omega)]
 ·rw [if_neg h,if_neg (by omega),if_neg (by omega)];rfl
theorem zeq_ {b:List Int} {sh od:Int}:wK_ [2,2] b 0 0=(if b.length < 4 then [] else [tT b,tN b])/\ZV_ [2,2] b 0 0=(if b.length < 4 then 0 else 4)/\ZH_ [2,2] b 0 sh od 0=(if b.length < 4 then sh else 0):=by
 have e:qY_ [2,2] (b.drop (0:Int).toNat)=if b.length < 4 then ([],1) else ([tT b,tN b],0):=by
  rw [show (0:Int).toNat=0 from rfl,List.drop_zero,zej_];rfl
 have es:ZT_ [2,2]=4:=by decide
 unfold wK_ ZV_ ZH_ KV_ Q3_
 rw [e,es]
 by_cases h:b.length < 4
 ·simp only [if_pos h];exact ⟨rfl,rfl,rfl⟩
 ·simp only [if_neg h];exact ⟨rfl,rfl,rfl⟩
theorem ve_ {x l:List Int} {room:Int} (h:(x.length:Int)<=room - l.length):xd_ x l room 0=l++x/\Wy_ x l room 0=0:=by
 unfold xd_ Wy_ Wx_;rw [decide_eq_true h];simp;omega
structure WrOk (room:Int) (f:List Int->Int->List Int × Int) (v:Option (List Int)):Prop where
 ok:∀ y,v=some y->∀ l:List Int,(l.length:Int)+y.length<=room->f l 0=(l++y,0)
 full:∀ y,v=some y->∀ l:List Int,(l.length:Int)<=room->¬ (l.length:Int)+y.length<=room->(f l 0).2 ≠ 0
 bad:v=none->∀ l:List Int,(f l 0).2 ≠ 0
 ne:∀ (l:List Int) (e:Int),e ≠ 0->(f l e).2 ≠ 0
def wM_ (a b:Option (List Int)):Option (List Int):=match a,b with | some x,some y=>some (x++y) | _,_=>none
theorem WrOk.seq {room:Int} {f g:List Int->Int->List Int × Int} {v w:Option (List Int)} (hf:WrOk room f v) (hg:WrOk room g w):WrOk room (fun l e=>g (f l e).1 (f l e).2) (wM_ v w):=by
 cases v with
 | none=>exact ⟨fun y h=>(by cases h),fun y h=>(by cases h),fun _ l=>hg.ne _ _ (hf.bad rfl l),fun l e h=>hg.ne _ _ (hf.ne l e h)⟩
 | some x=>
   cases w with
   | none=>
     refine ⟨fun y h=>(by cases h),fun y h=>(by cases h),fun _ l=>?_,fun l e h=>hg.ne _ _ (hf.ne l e h)⟩
     show (g (f l 0).1 (f l 0).2).2 ≠ 0
     by_cases h0:(f l 0).2=0
     ·rw [h0];exact hg.bad rfl _
     ·exact hg.ne _ _ h0
   | some z=>
     refine ⟨fun y h l hl=>?_,fun y h l h0 hl=>?_,fun h=>(by cases h),fun l e h=>hg.ne _ _ (hf.ne l e h)⟩
     ·cases h
      rw [List.length_append] at hl
      show g (f l 0).1 (f l 0).2=_
      rw [hf.ok x rfl l (by omega)]
      show g (l++x) 0=_
      rw [hg.ok z rfl _ (by rw [List.length_append];omega),List.append_assoc]
     ·cases h
      rw [List.length_append] at hl
      show (g (f l 0).1 (f l 0).2).2 ≠ 0
      by_cases c:(l.length:Int)+x.length<=room
      ·rw [hf.ok x rfl l c]
       exact hg.full z rfl _ (by rw [List.length_append];omega) (by rw [List.length_append];omega)
      ·exact hg.ne _ _ (hf.full x rfl l h0 c)
theorem WrOk.fin {room:Int} {f:List Int->Int->List Int × Int} {v:Option (List Int)} (h:WrOk room f v) (h0:0<=room):(∀ y,v=some y->(y.length:Int)<=room->f [] 0=(y,0))/\((∀ y,v=some y->room < (y.length:Int))->(f [] 0).2 ≠ 0):=by
 refine ⟨fun y e hl=>h.ok y e [] (by simpa using hl),fun hy=>?_⟩
 cases v with
 | none=>exact h.bad rfl []
 | some y=>have:=hy y rfl;exact h.full y rfl [] (by simpa using h0) (by simp;omega)
theorem x0_ (room:Int) (x:List Int):WrOk room (fun l e=>(xd_ x l room e,Wy_ x l room e)) (some x):=
 ⟨fun y h l hl=>by cases h;obtain ⟨a,b⟩:=ve_ (x:=x) (l:=l) (room:=room) (by omega);rw [a,b],fun y h l _ hl=>by cases h;exact za5_ (by omega),fun h=>(by cases h),fun l e h=>zci_ h⟩
def wU_ (w xs:List Int):Option (List Int):=if Kr_ w xs=true then some (Qb_ w xs) else none
theorem uY_ (room:Int) (w xs:List Int):WrOk room (fun l e=>(j0_ w xs l room e,wV_ w xs l room e)) (wU_ w xs):=by
 unfold wU_
 by_cases hk:Kr_ w xs=true
 ·have h:=x0_ room (Qb_ w xs)
  rw [if_pos hk]
  unfold j0_ wV_
  simp only [if_pos hk]
  exact h
 ·rw [if_neg hk]
  unfold j0_ wV_
  simp only [if_neg hk]
  exact ⟨fun y h=>(by cases h),fun y h=>(by cases h),fun _ l=>by show (10001:Int) ≠ 0;decide,fun l e h=>uE_ h⟩
theorem zcv_ (room:Int) (B:List Int->Int->List Int):WrOk room (fun l e=>(B l e,zl_ e 10001)) none:=
 ⟨fun y h=>(by cases h),fun y h=>(by cases h),fun _ l=>(by decide:(10001:Int) ≠ 0),fun l e h=>uE_ h⟩
theorem jZ_ {w n y:List Int} (h:wU_ w n=some y):Kr_ w n=true/\Qb_ w n=y:=by
 unfold wU_ at h;split at h
 ·cases h;exact ⟨by assumption,rfl⟩
 ·cases h
theorem ZQ_ {a b:Option (List Int)} {y:List Int} (h:wM_ a b=some y):∃ p q,a=some p/\b=some q/\y=p++q:=by
 cases a with
 | none=>cases h
 | some p=>cases b with
   | none=>cases h
   | some q=>cases h;exact ⟨p,q,rfl,rfl,rfl⟩
def wlS {α:Type} (f:α->List Int->Int->List Int × Int):List α->List Int × Int->List Int × Int
 | [],s=>s
 | x :: r,s=>wlS f r (f x s.1 s.2)
def jb_ {α:Type} (o:α->Option (List Int)):List α->Option (List Int)
 | []=>some []
 | x :: r=>wM_ (o x) (jb_ o r)
theorem uZ_ {α:Type} {room:Int} {f:α->List Int->Int->List Int × Int} {o:α->Option (List Int)} (h:∀ x,WrOk room (f x) (o x)):∀ l,WrOk room (fun b e=>wlS f l (b,e)) (jb_ o l)
 | []=>⟨fun y e b _=>by cases e;show (b,(0:Int))=_;rw [List.append_nil],fun y e b hb hn=>by
    cases e
    exfalso;apply hn;simpa using hb,fun e=>(by cases e),fun b e he=>he⟩
 | x :: r=>(h x).seq (uZ_ h r)
theorem gh_ {α:Type} {f:α->List Int->Int->List Int × Int} {l:List α} {i:Nat} {s:List Int × Int} (h:i < l.length) (d:α):wlS f (l.drop i) s=wlS f (l.drop (i+1)) (f (l.getD i d) s.1 s.2):=by
 rw [zJ_ h d];rfl
def fnG (lim:Int) (v:Option (List Int)):List Int × Int:=match v with | some y=>if lim < y.length then ([],10001) else (y,0) | none=>([],10001)
theorem zaG_ {lim:Int} (h0:0<=lim) {f:List Int->Int->List Int × Int} {v:Option (List Int)} (h:WrOk lim f v):((f [] 0).2=0->fnG lim v=((f [] 0).1,0))/\(¬ (f [] 0).2=0->fnG lim v=([],10001)):=by
 obtain ⟨f1,f2⟩:=h.fin h0
 cases v with
 | none=>exact ⟨fun k=>absurd k (f2 fun y e=>by cases e),fun _=>rfl⟩
 | some y=>
   unfold fnG;dsimp only
   by_cases hl:lim < y.length
   ·exact ⟨fun k=>absurd k (f2 fun y' e=>by cases e;exact hl),fun _=>if_pos hl⟩
   ·rw [f1 y rfl (by omega),if_neg hl];exact ⟨fun _=>rfl,fun k=>absurd rfl k⟩
theorem zaH_ {lim:Int} {v:Option (List Int)} (h0:0<=lim):((fnG lim v).1.length:Int)<=lim:=by
 unfold fnG;split
 ·split
  ·simpa using h0
  ·dsimp only;omega
 ·simpa using h0
def gG {α:Type} (E N P:List Int->Int) (V:List Int->α) (y:List Int):List α × Int × Int:=
 if y.length=0 then ([],0,0) else if E y=0 then (V y :: (gG E N P V (y.drop (max 1 (N y).toNat))).1,(gG E N P V (y.drop (max 1 (N y).toNat))).2.1,N y+(gG E N P V (y.drop (max 1 (N y).toNat))).2.2) else ([],E y,P y)
termination_by y.length
decreasing_by all_goals (rw [List.length_drop];omega)
def enH (t:Int) (y:List Int):List Int:=zi_ t 2++zi_ (4+y.length) 2++y
theorem WW_ (t:Int) (y:List Int):(enH t y).length=4+y.length:=by
 have l2:(zi_ t 2).length=2:=by have:=z1_ (n:=t) (w:=2) (by decide);omega
 have l3:(zi_ (4+y.length) 2).length=2:=by have:=z1_ (n:=4+(y.length:Int)) (w:=2) (by decide);omega
 unfold enH;simp only [List.length_append];omega
theorem hw_ {k v:Int}:∀ (m:List (Int × Int)) (k':Int),zx_ (QJ_ m k v) k'=if k=k' then some v else zx_ m k'
 | [],k'=>by unfold QJ_;rfl
 | (a,b) :: r,k'=>by
   have ih:=hw_ (k:=k) (v:=v) r k'
   by_cases h:a=k
   ·subst h
    have e:QJ_ ((a,b) :: r) a v=(a,v) :: r:=if_pos rfl
    rw [e]
    show (if a=k' then some v else zx_ r k')=if a=k' then some v else if a=k' then some b else zx_ r k'
    split<;>rfl
   ·have e:QJ_ ((a,b) :: r) k v=(a,b) :: QJ_ r k v:=if_neg h
    rw [e]
    show (if a=k' then some b else zx_ (QJ_ r k v) k')=if k=k' then some v else if a=k' then some b else zx_ r k'
    rw [ih]
    by_cases h2:a=k'
    ·rw [if_pos h2,if_pos h2,if_neg (fun c=>h (h2.trans c.symm))]
    ·rw [if_neg h2,if_neg h2]
theorem B1_ {k v w:Int}:∀ (m:List (Int × Int)),QJ_ (QJ_ m k v) k w=QJ_ m k w/\ZB_ (QJ_ m k v) k=ZB_ m k/\ZB_ m k < (QJ_ m k v).length/\(QJ_ m k v).length<=m.length+1
 | []=>⟨if_pos rfl,if_pos rfl,Nat.zero_lt_one,Nat.le_refl _⟩
 | (a,b) :: r=>by
   obtain ⟨i1,i2,i3,i4⟩:=B1_ (k:=k) (v:=v) (w:=w) r
   by_cases h:a=k
   ·subst h
    have e:∀ v,QJ_ ((a,b) :: r) a v=(a,v) :: r:=fun v=>if_pos rfl
    have x:∀ b,ZB_ ((a,b) :: r) a=0:=fun b=>if_pos rfl
    rw [e,e,x,x]
    refine ⟨if_pos rfl,rfl,Nat.zero_lt_succ _,?_⟩
    simp only [List.length_cons];omega
   ·have e:∀ v,QJ_ ((a,b) :: r) k v=(a,b) :: QJ_ r k v:=fun v=>if_neg h
    have x:∀ r:List (Int × Int),ZB_ ((a,b) :: r) k=ZB_ r k+1:=fun r=>if_neg h
    rw [e,e,x,x,i2]
    refine ⟨by rw [show QJ_ ((a,b) :: QJ_ r k v) k w=(a,b) :: QJ_ (QJ_ r k v) k w from if_neg h,i1],rfl,?_,?_⟩
    ·simp only [List.length_cons];omega
    ·simp only [List.length_cons];omega
theorem KZ_ {α:Type} {l:List α} {i:Nat} {d:α} (h:i < l.length):l.take i++[l.getD i d]=l.take (i+1):=by
 rw [List.take_succ_eq_append_getElem h,List.getD_eq_getElem?_getD,List.getElem?_eq_getElem h];rfl
theorem jL_ {α β:Type} {l:List α} {i:Nat} (h:i < l.length) (d:α) (f:α->β):(l.take (i+1)).map f=(l.take i).map f++[f (l.getD i d)]:=by
 rw [<- KZ_ (d:=d) h,List.map_append];rfl
theorem Gt_ (e:Int):Ye_ [] e=e:=by unfold Ye_;split<;>simp_all
theorem zaS_ {l:List Int}:Vm_ l [] 0=l:=rfl
theorem zcg_ {l:List Int} {e:Int} (h:¬ e=0):Vm_ l [] e=[]:=by unfold Vm_ xh_;rw [decide_eq_false h];rfl
section
variable {α:Type} {E N P:List Int->Int} {V:List Int->α}
theorem US_ {y:List Int} (h:y.length=0):gG E N P V y=([],0,0):=by rw [gG,if_pos h]
theorem zaA_ {y:List Int} (h:¬ y.length=0) (h1:E y=0) (h2:1<=N y):gG E N P V y=(V y :: (gG E N P V (y.drop (N y).toNat)).1,(gG E N P V (y.drop (N y).toNat)).2.1,N y+(gG E N P V (y.drop (N y).toNat)).2.2):=by
 rw [gG,if_neg h,if_pos h1,show max 1 (N y).toNat=(N y).toNat by omega]
theorem zaB_ {y:List Int} (h:¬ y.length=0) (h1:¬ E y=0):gG E N P V y=([],E y,P y):=by rw [gG,if_neg h,if_neg h1]
end
abbrev FV:Type:=Int × List Int × List Int × Unit
abbrev TV:Type:=Int × List Int × Int × Int × Int × Int × List FV × Unit
abbrev EV:Type:=Int × List Int × Unit
structure cntM (m:List (Int × Int)) (acc:List Int):Prop where
 s:∀ k,(0 < (zx_ m k).getD 0 ↔ k ∈ acc)
 r:∀ k,0<=(zx_ m k).getD 0/\(zx_ m k).getD 0<=acc.length
 l:m.length<=acc.length
theorem XK_:cntM [] []:=⟨fun k=>⟨fun h=>absurd h (by show ¬ (0:Int) < 0;decide),fun h=>by cases h⟩,fun k=>⟨by show (0:Int)<=0;decide,by show (0:Int)<=0;decide⟩,Nat.le_refl _⟩
theorem vd_ {m:List (Int × Int)} {acc:List Int} {i:Int} (h:cntM m acc):cntM (QJ_ m i ((zx_ m i).getD 0+1)) (acc++[i]):=by
 have hr:=h.r i
 refine ⟨fun k=>?_,fun k=>?_,?_⟩
 ·rw [hw_,List.mem_append,List.mem_singleton]
  by_cases c:i=k
  ·rw [if_pos c]
   exact ⟨fun _=>.inr c.symm,fun _=>by show 0 < (zx_ m i).getD 0+1;omega⟩
  ·rw [if_neg c]
   exact (h.s k).trans ⟨.inl,fun x=>x.elim id fun y=>absurd y.symm c⟩
 ·have hk:=h.r k
  rw [hw_,List.length_append,List.length_singleton]
  by_cases c:i=k
  ·rw [if_pos c];show 0<=(zx_ m i).getD 0+1/\(zx_ m i).getD 0+1<=_;omega
  ·rw [if_neg c];omega
 ·have:=(B1_ (k:=i) (v:=(zx_ m i).getD 0+1) (w:=0) m).2.2.2
  have:=h.l
  rw [List.length_append,List.length_singleton];omega
theorem UZ_ {m:List (Int × Int)} {acc:List Int} (h:cntM m acc) (t:Int):decide (0 < (zx_ m t).getD 0)=acc.contains t:=by
 rw [Bool.eq_iff_iff,decide_eq_true_eq,List.contains_iff_mem];exact h.s t
def tyT (t:Int):Bool:=decide (t=0) || (decide (t=1) || (decide (4<=t) && decide (t<=7)))
def szT (t:Int):Int:=if t=2\/t=3 then 1 else if (0<=t/\t<=8)\/t=10\/(12<=t/\t<=15) then 4 else if t=65534\/t=65535 then 8 else 0
def otT (t:Int):Bool:=decide (t=65534) || decide (t=65535)
theorem Bd_ {t:Int}:tyT t=true ↔ t=0\/t=1\/(4<=t/\t<=7):=by unfold tyT;simp
theorem hf_ {t:Int}:otT t=true ↔ t=65534\/t=65535:=by unfold otT;simp
theorem zcx_ {t:Int}:tyT t=false ↔ ¬ (t=0\/t=1\/(4<=t/\t<=7)):=by rw [<- Bd_];simp
theorem zcF_ {t:Int}:otT t=false ↔ ¬ (t=65534\/t=65535):=by rw [<- hf_];simp
theorem Qh_ (t:Int):(szT t=0/\tyT t=false/\otT t=false)\/(szT t=1/\tyT t=false/\otT t=false/\(t=2\/t=3))\/(szT t=4/\otT t=false/\0<=t/\t<=15)\/(szT t=8/\tyT t=false/\otT t=true/\(t=65534\/t=65535)):=by
 unfold szT
 rw [zcx_,zcF_,hf_]
 repeat' split
 ·right;left;exact ⟨rfl,by omega,by omega,by assumption⟩
 ·right;right;left;exact ⟨rfl,by omega,by omega,by omega⟩
 ·right;right;right;exact ⟨rfl,by omega,by assumption,by assumption⟩
 ·left;exact ⟨rfl,by omega,by omega⟩
def V1_:IR:=
(sq (kr [0] [oD 2 (.box [.int .i64 0,.kb false,.kb false])])
(sq (sq (.reg [oM 3 0])
(.block 0
(sq (.block 4
(sq (.block 3
(sq (.block 2
(sq (.block 1
(sq (sq (sq (sq (.reg [oB 5 .eql 3 (cI 0),
oM 4 5])
(.cond 4
.skip
(sq (.reg [oB 6 .eql 3 (cI 1),
oM 4 6])
(.cond 4
.skip
(sq (kr [2,3] [oB 7 .eql 3 (cI 4),
oM 4 7])
(.cond 4
.skip
(sq (.reg [oB 8 .eql 3 (cI 5),
oM 4 8])
(.cond 4
.skip
(sq (.reg [oB 9 .eql 3 (cI 6),
oM 4 9])
(.cond 4
.skip
(kr [2,3] [oB 10 .eql 3 (cI 7),
oM 4 10])))))))))))
(.cond 4
(.exit 1)
.skip))
(sq (sq (sq (kr [2,3] [oB 12 .eql 3 (cI 8),
oM 11 12])
(.cond 11
.skip
(sq (.reg [oB 13 .eql 3 (cI 10),
oM 11 13])
(.cond 11
.skip
(sq (.reg [oB 14 .eql 3 (cI 12),
oM 11 14])
(.cond 11
.skip
(sq (kr [2,3] [oB 15 .eql 3 (cI 13),
oM 11 15])
(.cond 11
.skip
(sq (.reg [oB 16 .eql 3 (cI 14),
oM 11 16])
(.cond 11
.skip
(.reg [oB 17 .eql 3 (cI 15),
oM 11 17])))))))))))
(.cond 11
(.exit 2)
.skip))
(sq (sq (sq (kr [2,3] [oB 19 .eql 3 (cI 2),
oM 18 19])
(.cond 18
.skip
(.reg [oB 20 .eql 3 (cI 3),
oM 18 20])))
(.cond 18
(.exit 3)
.skip))
(sq (sq (.reg [oB 22 .eql 3 (cI 65534),
oM 21 22])
(.cond 21
.skip
(kr [2,3] [oB 23 .eql 3 (cI 65535),
oM 21 23])))
(.cond 21
(.exit 4)
.skip)))))
(.exit 0)))
(kr [2] [oA 24 1 2,
oN (.store 1 24 cT)])))
(sq (kr [2] [oA 25 0 2,
oN (.store 1 25 (cI 4))])
(.exit 0))))
(sq (kr [2] [oA 26 0 2,
oN (.store 1 26 (cI 1))])
(.exit 0))))
(sq (sq (kr [2] [oA 27 2 2,
oN (.store 1 27 cT)])
(.reg [oA 28 0 2,
oN (.store 1 28 (cI 8))]))
(.exit 0)))))
(sq (kr [2] [oK 29 3 2,
oS 3 2 29])
.ret)))
def VQ_:List RD:=[.cell 2 (some 3) true []]
theorem VV_:zo_ Tryz.prog Tryz.f127 V1_ VQ_=true:=by kernel_rfl
def qo_:List AV->List Obj->Option (Prop × AV)
 | [.int .i64 tt],[]=>some ((True,.agg [.int .i64 (szT tt),.bool (tyT tt),.bool (otT tt)]))
 | _,_=>none
theorem qH_:ze_ Tryz.prog 127 (RoF qo_).sum:=by
 refine zz_ Tryz.func127 VV_ (zf_ _) fun args objs p v e=>?_
 unfold qo_ at e
 split at e
 ·rename_i tt
  cases e
  refine ⟨rfl,fun hw ho hp=>?_⟩
  clear hw ho
  have k1:=@Bd_ tt
  have k2:=@hf_ tt
  have k3:=@zcx_ tt
  have k4:=@zcF_ tt
  repeat'(intro t ht;first|(cases t<;>first|(cases ht;done)|(try simp only[zh_]at ht;try(exfalso;first|contradiction|omega)))|((first|refine za_ ht ?_|refine ht ?_ ?_|refine ht.1 ?_ ?_|refine ht ?_)<;>clear ht))
  all_goals first
   | exact True.intro
   | (have e1:tyT tt=true:=k1.2 (by omega)
      have e2:otT tt=false:=k4.2 (by omega)
      have e3:szT tt=4:=by unfold szT;rw [if_neg (by omega),if_pos (by omega)]
      rw [e1,e2,e3];exact ⟨rfl,rfl⟩)
   | (have e1:tyT tt=false:=k3.2 (by omega)
      have e2:otT tt=false:=k4.2 (by omega)
      have e3:szT tt=4:=by unfold szT;rw [if_neg (by omega),if_pos (by omega)]
      rw [e1,e2,e3];exact ⟨rfl,rfl⟩)
   | (have e1:tyT tt=false:=k3.2 (by omega)
      have e2:otT tt=false:=k4.2 (by omega)
      have e3:szT tt=1:=by unfold szT;rw [if_pos (by omega)]
      rw [e1,e2,e3];exact ⟨rfl,rfl⟩)
   | (have e1:tyT tt=false:=k3.2 (by omega)
      have e2:otT tt=true:=k2.2 (by omega)
      have e3:szT tt=8:=by unfold szT;rw [if_neg (by omega),if_neg (by omega),if_pos (by omega)]
      rw [e1,e2,e3];exact ⟨rfl,rfl⟩)
   | (have e1:tyT tt=false:=k3.2 (by omega)
      have e2:otT tt=false:=k4.2 (by omega)
      have e3:szT tt=0:=by unfold szT;rw [if_neg (by omega),if_neg (by omega),if_neg (by omega)]
      rw [e1,e2,e3];exact ⟨rfl,rfl⟩)
 ·cases e
def YQ_:IR:=
(sq (kr [0] [oD 2 (.mov (cI 0))])
(sq (.reg [oM 3 0,
oC 4 127 [3],
oD 5 (.field none 0 4),
oM 2 5])
.ret))
def Yy_:List RD:=[.tmp 2 true none]
theorem YI_:zo_ Tryz.prog Tryz.f74 YQ_ Yy_=true:=by kernel_rfl
def jj_:List AV->List Obj->Option (Prop × AV)
 | [.int .i64 tt],[]=>some ((True,.int .i64 (szT tt)))
 | _,_=>none
theorem X9_:ze_ Tryz.prog 74 (RoF jj_).sum:=by
 refine zz_ Tryz.func74 YI_ (zb_ (s:=RoF qo_) qH_ (zf_ _)) fun args objs p v e=>?_
 unfold jj_ at e
 split at e
 ·rename_i tt
  cases e
  refine ⟨rfl,fun hw ho hp=>?_⟩
  repeat'(intro t ht;first|(cases t<;>first|(cases ht;done)|(try simp only[zh_]at ht;try(exfalso;first|contradiction|omega)))|((first|refine za_ ht ?_|refine ht ?_ ?_|refine ht.1 ?_ ?_|refine ht ?_)<;>clear ht))
  all_goals first
   | exact True.intro
   | exact ⟨rfl,rfl⟩
 ·cases e
def q7_ (s:List Int):Bool:=decide (s.length < 32) && s.all (okc 33)
theorem UA_ {s:List Int}:q7_ s=true ↔ s.length < 32/\∀ c ∈ s,okc 33 c=true:=by unfold q7_;simp only [Bool.and_eq_true,decide_eq_true_eq,List.all_eq_true]
def yD_:IR:=
(sq (kr [0] [oD 2 (.mov cF)])
(sq (.reg [oD 3 (.mov (.f 156))])
(sq (kr [0,3] [oM 4 0,
oD 5 (.slen 4),
oB 6 .lss 5 (cI 32),
oM 7 6,
oT 7 8 (.mov 0),
oT 7 9 (.mov 3),
oT 7 10 (.call false (.f 157) [8,9]),
oT 7 11 (.un .not 10),
oP 12 7 11 cF,
oM 2 12])
.ret)))
def yg_:List RD:=[.tmp 2 true none]
theorem yr_:zo_ Tryz.prog Tryz.f131 yD_ yg_=true:=by kernel_rfl
def QC_:List AV->List Obj->Option (Prop × AV)
 | [.str s],[]=>some ((True,.bool (q7_ s)))
 | _,_=>none
theorem ju_:ze_ Tryz.prog 131 (RoF QC_).sum:=by
 refine zz_ Tryz.func131 yr_ (zb_ (s:=RoF qD_) KE_ (zb_ (s:=RoF qm_) jC_ (zf_ _))) fun args objs p v e=>?_
 unfold QC_ at e
 split at e
 ·rename_i s
  cases e
  refine ⟨rfl,fun hw ho hp=>?_⟩
  repeat'(intro t ht;first|(cases t<;>first|(cases ht;done)|(try simp only[zh_]at ht;try(exfalso;first|contradiction|omega)))|((first|refine za_ ht ?_|refine ht ?_ ?_|refine ht.1 ?_ ?_|refine ht ?_)<;>clear ht))
  all_goals first
   | exact True.intro
   | (refine ⟨?_,rfl⟩;unfold q7_;rw [decide_eq_true (by omega)];simp;done)
   | (refine ⟨?_,rfl⟩;unfold q7_;rw [decide_eq_false (by omega)];rfl)
 ·cases e
def wdT (t:Int):Int:=if szT t=1 then 1 else 4
def nbO (t n:Int):Option (List Int):=if tyT t=true then wU_ [2,2] [n,4] else if szT t=1/\254 < n then none else wU_ [wdT t] [n]
def nbS (t n:Int) (l:List Int) (e:Int):List Int × Int:=if tyT t=true then (j0_ [2,2] [n,4] l 65524 e,wV_ [2,2] [n,4] l 65524 e) else if szT t=1/\254 < n then (l,zl_ e 10001) else (j0_ [wdT t] [n] l 65524 e,wV_ [wdT t] [n] l 65524 e)
theorem zdS_ (t n:Int):WrOk 65524 (nbS t n) (nbO t n):=by
 unfold nbO nbS
 by_cases h:tyT t=true
 ·simp only [if_pos h];exact uY_ 65524 [2,2] [n,4]
 ·simp only [if_neg h]
  by_cases h2:szT t=1/\254 < n
  ·simp only [if_pos h2];exact zcv_ 65524 fun l _=>l
  ·simp only [if_neg h2];exact uY_ 65524 [wdT t] [n]
theorem zdk_ {t n:Int} {l:List Int} {e:Int} (h:tyT t=true):nbS t n l e=(j0_ [2,2] [n,4] l 65524 e,wV_ [2,2] [n,4] l 65524 e):=if_pos h
theorem zdl_ {t n:Int} {l:List Int} {e:Int} (h:tyT t=false) (h1:szT t=1) (h2:254 < n):nbS t n l e=(l,zl_ e 10001):=by
 unfold nbS;rw [if_neg (by rw [h];decide),if_pos ⟨h1,h2⟩]
theorem zdm_ {t n w:Int} {l:List Int} {e:Int} (h:tyT t=false) (h1:¬ (szT t=1/\254 < n)) (hw:w=wdT t):nbS t n l e=(nmB w n l 65524 e,nmE w n l 65524 e):=by
 have hb:jp_ w=true:=by
  rw [hw];unfold wdT jp_
  split<;>decide
 unfold nbS nmB nmE;rw [if_neg (by rw [h];decide),if_neg h1,if_pos hb,if_pos hb,hw]
theorem zbV_ {t n:Int} {l:List Int} {e:Int} (h:l.length<=1000000):(nbS t n l e).1.length<=1000000:=by
 unfold nbS;split
 ·exact K7_ h (by decide)
 ·split
  ·exact h
  ·exact K7_ h (by decide)
def kdF (f:FV):Bool:=!decide (szT f.1=0) && !(otT f.1 && !decide (f.2.1.length=2)) && !(!otT f.1 && !decide (f.2.2.1.length=0))
def fbW (f:FV):Option (List Int):=if kdF f=true then wM_ (jb_ (nbO f.1) f.2.1) (some f.2.2.1) else none
def fbY (f:FV):List Int:=(fnG 65524 (fbW f)).1
def fbK (f:FV):Bool:=decide ((fnG 65524 (fbW f)).2=0)
theorem UF_ {f:FV} (h:kdF f=true):¬ szT f.1=0/\((otT f.1=true/\f.2.1.length=2)\/(otT f.1=false/\f.2.2.1.length=0)):=by
 unfold kdF at h
 cases ho:otT f.1<;>rw [ho] at h<;>simp at h<;>simp [h]
theorem zed_ {f:FV} (h:kdF f=false):szT f.1=0\/(¬ szT f.1=0/\otT f.1=true/\¬ f.2.1.length=2)\/(¬ szT f.1=0/\otT f.1=false/\¬ f.2.2.1.length=0):=by
 unfold kdF at h
 by_cases h1:szT f.1=0
 ·exact .inl h1
 ·right
  rw [decide_eq_false h1] at h
  cases ho:otT f.1<;>rw [ho] at h<;>simp at h
  ·exact .inr ⟨h1,rfl,fun c=>h (List.eq_nil_of_length_eq_zero c)⟩
  ·exact .inl ⟨h1,rfl,h⟩
def fbS (f:FV) (l:List Int) (e:Int):List Int × Int:=(xd_ f.2.2.1 (wlS (nbS f.1) f.2.1 (l,e)).1 65524 (wlS (nbS f.1) f.2.1 (l,e)).2,Wy_ f.2.2.1 (wlS (nbS f.1) f.2.1 (l,e)).1 65524 (wlS (nbS f.1) f.2.1 (l,e)).2)
theorem zdT_ {f:FV} (h:kdF f=true):WrOk 65524 (fbS f) (fbW f):=by
 unfold fbW;rw [if_pos h]
 exact (uZ_ (fun n=>zdS_ f.1 n) f.2.1).seq (x0_ 65524 f.2.2.1)
theorem zcQ_ {f:FV} (h:kdF f=false):fbY f=[]/\fbK f=false:=by
 unfold fbY fbK fbW;rw [h];exact ⟨rfl,rfl⟩
theorem zb9_ {f:FV} (h:kdF f=true):Vm_ (fbS f [] 0).1 [] (fbS f [] 0).2=fbY f/\decide (Ye_ [] (fbS f [] 0).2=0)=fbK f:=by
 obtain ⟨c1,c2⟩:=zaG_ (by decide) (zdT_ h)
 rw [Gt_]
 by_cases h0:(fbS f [] 0).2=0
 ·unfold fbY fbK;rw [c1 h0,h0];exact ⟨rfl,rfl⟩
 ·unfold fbY fbK;rw [c2 h0,zcg_ h0,decide_eq_false h0];exact ⟨rfl,rfl⟩
def YN_:IR:=
(sq (kr [0] [oD 1 (.boxv 0),
oD 2 (.box [.int .i64 0,.imm (.int .u8) []]),
oD 3 (.mov cF)])
(sq (.reg [oA 10 0 1,
oL 11 10,
oC 12 127 [11],
oD 4 (.box [.int .i64 0,.kb false,.kb false]),
oS 3 4 12])
(sq (sq (kr [1,2,4] [oA 13 0 4,
oL 14 13,
oB 15 .eql 14 (cI 0),
oM 16 15,
oF 16 17 (.fieldAddr 2 4),
oF 16 18 (.load none 17),
oF 16 19 (.mov 18),
oT 19 20 (.fieldAddr 1 1),
oT 19 21 (.load none 20),
oT 19 22 (.len 21),
oT 19 23 (.bin .neq 22 (cI 2)),
oF 16 24 (.pick 19 23 cF),
oP 25 16 cT 24,
oM 26 25,
oF 26 27 (.fieldAddr 2 4),
oF 26 28 (.load none 27),
oF 26 29 (.un .not 28),
oF 26 30 (.mov 29),
oT 30 31 (.fieldAddr 2 1),
oT 30 32 (.load none 31),
oT 30 33 (.len 32),
oT 30 34 (.bin .gtr 33 (cI 0)),
oF 26 35 (.pick 30 34 cF),
oP 36 26 cT 35])
(.cond 36
(sq (kr [2] [oD 37 (.build [.int .i64 0,.imm (.int .u8) []] []),
oS 2 2 37,
oD 3 (.mov cF)])
.ret)
.skip))
(sq (kr [1,2,4] [oC 38 48 [(cI 65524)],
oM 5 38])
(sq (sq (.reg [oA 39 1 1,
oL 40 39,
oE 41 40,
oD 42 (.mov (cI 0))])
(.block 0
(.loop
(sq (kr [1,2,4,5,40,41,42] [oB 43 .lss 42 41])
(sq (.cond 43
.skip
(.exit 0))
(sq (.block 1
(sq (.reg [oI 44 1 40 42,
oL 45 44,
oM 7 45])
(.block 2
(sq (.reg [oA 53 1 4,
oL 54 53,
oM 52 54])
(.cond 52
(kr [1,2,4,5,7,40,41,42] [oM 55 5,
oD 56 (.sliceAll (.int .i64) 2 [(0,1,(cI 2)),(1,1,(cI 2))]),
oM 57 7,
oD 58 (.sliceAll (.int .u64) 2 [(0,1,57),(1,1,(.c (.int .u64 4)))]),
oC 59 105 [55,56,58]])
(sq (kr [1,2,4,5,7,40,41,42] [oA 61 0 4,
oL 62 61,
oB 63 .eql 62 (cI 1),
oM 64 63,
oT 64 65 (.mov 7),
oT 64 66 (.bin .gtr 65 (.c (.int .u64 254))),
oP 67 64 66 cF,
oM 60 67])
(.cond 60
(kr [1,2,4,5,40,41,42] [oM 68 5,
oC 69 103 [68,(cI 10001)]])
(kr [1,2,4,5,7,40,41,42] [oM 46 5,
oA 47 0 4,
oL 48 47,
oD 49 (.minmax false 48 (cI 4)),
oM 50 7,
oC 51 161 [46,49,50]]))))))))
(kr [1,2,4,5,40,41,42] [oB 70 .add 42 (cI 1),
oM 42 70])))))))
(sq (kr [1,2,5] [oM 71 5,
oA 72 2 1,
oL 73 72,
oC 74 122 [71,73]])
(sq (kr [1,2,5] [oM 76 5,
oC 77 50 [76],
oM 75 77,
oX 78 75 0,
oX 79 75 1,
oM 8 78,
oM 9 79])
(sq (kr [1,2,8,9] [oA 80 0 1,
oL 81 80,
oM 82 8,
oD 83 (.buildAll 2 [(0,1,81),(1,1,82)]),
oM 84 9,
oB 85 .eql 84 (cI 0),
oS 2 2 83,
oM 3 85])
.ret))))))))
def Yv_:List RD:=[.cell 2 (some 2) true [],.tmp 3 true none]
theorem YF_:zo_ Tryz.prog Tryz.f155 YN_ Yv_=true:=by kernel_rfl
def jg_:List AV->List Obj->Option (Prop × AV)
 | [.agg [.int .i64 tt,.imm (.int .u64) n,.imm (.int .u8) d]],[]=>some ((n.length<=100000/\d.length<=1000000,.tup [.agg [.int .i64 (if kdF (tt,n,d,())=true then tt else 0),.imm (.int .u8) (fbY (tt,n,d,()))],.bool (fbK (tt,n,d,()))]))
 | _,_=>none
theorem X6_:ze_ Tryz.prog 155 (RoF jg_).sum:=by
 refine zz_ Tryz.func155 YF_ (zb_ (s:=RoF qo_) qH_ (zb_ (s:=RwF km_) K5_ (zb_ (s:=RwF Zh_) Z0_ (zb_ (s:=RwF zU_) Zc_ (zb_ (s:=RwF Qf_) wc_ (zb_ (s:=RwF zX_) ZE_ (zb_ (s:=RwF Zx_) ql_ (zf_ _)))))))) fun args objs p v e=>?_
 unfold jg_ at e
 split at e
 ·rename_i tt n d
  cases e
  refine ⟨rfl,fun hw ho hp=>?_⟩
  change List Int at n
  change List Int at d
  clear hw ho
  change List Int at n
  obtain ⟨hn,hd⟩:=hp
  have hroom:vs_ 65524=65524:=by decide
  cases hk:kdF (tt,n,d,()) with
  | false=>
    obtain ⟨e1,e2⟩:=zcQ_ hk
    rw [e1,e2]
    have h3:=zed_ hk
    dsimp only at h3
    rcases h3 with h3 | ⟨h3,h4,h5⟩ | ⟨h3,h4,h5⟩
    all_goals repeat'(intro t ht;first|(cases t<;>first|(cases ht;done)|(try simp only[zh_]at ht;try(exfalso;first|contradiction|omega)))|((first|refine za_ ht ?_|refine ht ?_ ?_|refine ht.1 ?_ ?_|refine ht ?_)<;>clear ht))
    all_goals first
     | exact True.intro
     | exact ⟨rfl,rfl⟩
     | (exfalso;simp_all;done)
     | (exfalso;simp_all;omega)
  | true=>
    have h3:=UF_ hk
    dsimp only at h3
    obtain ⟨h3,h4⟩:=h3
    rw [if_pos rfl]
    have hz:=Qh_ tt
    repeat'(intro t ht;first|(cases t<;>first|(cases ht;done)|(try simp only[zh_]at ht;try(exfalso;first|contradiction|omega)))|((first|refine za_ ht ?_|refine ht ?_ ?_|refine ht.1 ?_ ?_|refine ht ?_)<;>clear ht))
    all_goals first
     | exact True.intro
     | (exfalso;rcases h4 with ⟨h4,h5⟩ | ⟨h4,h5⟩<;>simp_all;done)
     | (intro r h1 h2;clear h1;refine h2 ⟨[],[1,2,4,5,40,41,42],Nat × List Int × Int,(fun a=>a.1<=n.length/\a.2.1.length<=1000000/\wlS (nbS tt) n ([],0)=wlS (nbS tt) (n.drop a.1) a.2),fun a=>[.ptr 0 0,.ptr 1 0,.ptr 2 0,.ptr 3 0,.imm (.int .u64) n,.int .i64 n.length,.int .i64 a.1],fun a=>[.box [.int .i64 tt,.imm (.int .u64) n,.imm (.int .u8) d],.box [.int .i64 0,.imm (.int .u8) []],.box [.int .i64 (szT tt),.bool (tyT tt),.bool (otT tt)],.box [.own 4,.int .i64 65524,.mapv 5,.int .i64 a.2.2],.row false (.int .u8) a.2.1,.map true (.int .i64) (.int .i64) ([])],fun a=>n.length - a.1,⟨(0,[],0),⟨Nat.zero_le _,by simp,rfl⟩,rfl,by rw [hroom];rfl⟩,?_⟩;clear h2)
    all_goals rintro ⟨i,b,e⟩ ⟨hi,hb,he⟩
    all_goals dsimp only at hi hb he
    all_goals have hw4:(if 4 < szT tt then (4:Int) else szT tt)=wdT tt:=by unfold wdT;split<;>split<;>omega
    all_goals have hst:=fun h:i < n.length=>gh_ (f:=nbS tt) (s:=(b,e)) h 0
    all_goals have hend:n.length<=i->wlS (nbS tt) n ([],0)=(b,e):=fun h=>by rw [he,List.drop_of_length_le h];rfl
    all_goals repeat'(intro t ht;first|(cases t<;>first|(cases ht;done)|(try simp only[zh_]at ht;try(exfalso;first|contradiction|omega)))|((first|refine za_ ht ?_|refine ht ?_ ?_|refine ht.1 ?_ ?_|refine ht ?_)<;>clear ht))
    all_goals first
     | exact True.intro
     | omega
     | ((try dsimp only);simp only [zn_];omega)
     | exact ⟨by decide,by decide,hb⟩
     | exact ⟨by decide,by decide,hb,hd⟩
     | (simp only [List.length_nil];(try simp only [zI_,zK_,zn_] at*);omega)
     | (refine ⟨?_,by decide⟩
        exact Nat.le_trans (Wz_ hb (by decide)) (by decide))
     | (have e1:=hend (by omega)
        obtain ⟨q1,q2⟩:=zb9_ hk
        unfold fbS at q1 q2
        dsimp only at q1 q2
        rw [e1] at q1 q2
        rw [<- q1,<- q2];exact ⟨rfl,rfl⟩)
     | (refine ⟨(i+1,nbS tt (n.getD i 0) b e),⟨by dsimp only;omega,zbV_ hb,he.trans (hst (by omega))⟩,by dsimp only;omega,rfl,?_⟩
        first
         | (rw [zdk_ (by assumption)];rfl)
         | (rw [zdl_ (by assumption) (by assumption) (by assumption)];rfl)
         | (rw [zdm_ (w:=if 4 < szT tt then (4:Int) else szT tt) (by assumption) (by omega) hw4];rfl))
 ·cases e
end Go.Eng
