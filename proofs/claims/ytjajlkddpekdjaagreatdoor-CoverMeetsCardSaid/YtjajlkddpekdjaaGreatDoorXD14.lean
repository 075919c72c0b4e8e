/- Parts of the proof: J1, J2, J3. No condition. -/
import Derived.Test.YtjajlkddpekdjaaGreatDoorProg
import Derived.Test.YtjajlkddpekdjaaGreatDoorXD10
import Derived.KernelRfl
import Derived.Test.YtjajlkddpekdjaaGreatDoorXD13
namespace Go.Eng
open Go.Proofs
set_option linter.unusedVariables false
set_option linter.unusedSimpArgs false
set_option maxRecDepth 100000
set_option maxHeartbeats 1000000
structure Swo {α:Type} (lt:α->α->Bool):Prop where
 irr:∀ a,lt a a=false
 neg:∀ a b c,lt a b=false->lt b c=false->lt a c=false
 asy:∀ a b,lt a b=true->lt b a=false
theorem Swo.lt_le {α:Type} {lt:α->α->Bool} (S:Swo lt) {a b c:α} (h:lt a b=true) (k:lt c b=false):lt a c=true:=by
 cases e:lt a c with
 | true=>rfl
 | false=>rw [S.neg a c b e k] at h;cases h
theorem Swo.le_lt {α:Type} {lt:α->α->Bool} (S:Swo lt) {a b c:α} (h:lt b a=false) (k:lt b c=true):lt a c=true:=by
 cases e:lt a c with
 | true=>rfl
 | false=>rw [S.neg b a c h e] at k;cases k
section
variable {α:Type} (lt:α->α->Bool)
def QR_ (c x:α):Bool:=!lt c x && !lt x c
theorem Qp_ (c x:α):QR_ lt c x=true ↔ lt c x=false/\lt x c=false:=by
 unfold QR_;rw [Bool.and_eq_true,Bool.not_eq_true',Bool.not_eq_true']
structure Stb (l:List α) (a b:Nat) (r:List α):Prop where
 len:r.length=l.length
 lo:r.take a=l.take a
 hi:r.drop b=l.drop b
 f:∀ c,r.filter (QR_ lt c)=l.filter (QR_ lt c)
variable {lt}
theorem Stb.refl (l:List α) (a b:Nat):Stb lt l a b l:=⟨rfl,rfl,rfl,fun _=>rfl⟩
theorem Stb.trans {l r s:List α} {a b:Nat} (h:Stb lt l a b r) (k:Stb lt r a b s):Stb lt l a b s:=⟨k.len.trans h.len,k.lo.trans h.lo,k.hi.trans h.hi,fun c=>(k.f c).trans (h.f c)⟩
theorem Stb.wide {l r:List α} {a b a' b':Nat} (h:Stb lt l a b r) (ha:a'<=a) (hb:b<=b'):Stb lt l a' b' r:=by
 refine ⟨h.len,?_,?_,h.f⟩
 ·have:=congrArg (List.take a') h.lo
  rwa [List.take_take,List.take_take,Nat.min_eq_left ha] at this
 ·have:=congrArg (List.drop (b' - b)) h.hi
  rwa [List.drop_drop,List.drop_drop,show b+(b' - b)=b' by omega] at this
theorem kP_ {l:List α} {k a:Nat} {d:α} (h:k < a):(l.take a).getD k d=l.getD k d:=by
 simp only [List.getD_eq_getElem?_getD,List.getElem?_take,if_pos h]
theorem kQ_ (l:List α) (k b:Nat) (d:α):(l.drop b).getD k d=l.getD (b+k) d:=by
 simp only [List.getD_eq_getElem?_getD,List.getElem?_drop]
theorem Stb.get {l r:List α} {a b k:Nat} {d:α} (h:Stb lt l a b r) (hk:k < a\/b<=k):r.getD k d=l.getD k d:=by
 rcases hk with hk | hk
 ·rw [<- kP_ hk,h.lo,kP_ hk]
 ·have:=kQ_ r (k - b) b d
  rw [h.hi,kQ_,show b+(k - b)=k by omega] at this
  exact this.symm
theorem extD {l r:List α} (d:α) (hl:l.length=r.length) (h:∀ k,k < l.length->l.getD k d=r.getD k d):l=r:=by
 refine List.ext_getElem hl fun k h1 h2=>?_
 have:=h k h1
 rwa [List.getD_eq_getElem?_getD,List.getD_eq_getElem?_getD,List.getElem?_eq_getElem h1,List.getElem?_eq_getElem h2] at this
theorem Zp_ (l r:List α) (k:Nat) (d:α):(l++r).getD k d=if k < l.length then l.getD k d else r.getD (k - l.length) d:=by
 simp only [List.getD_eq_getElem?_getD,List.getElem?_append]
 split<;>rfl
theorem wP_ (l:List α) (a b k:Nat) (d:α):((l.take b).drop a).getD k d=if a+k < b then l.getD (a+k) d else d:=by
 rw [kQ_]
 split
 ·exact kP_ (by assumption)
 ·rw [List.getD_eq_getElem?_getD,List.getElem?_eq_none (by rw [List.length_take];omega)];rfl
def zs_ (a m b k:Nat):Nat:=if k < a then k else if k < a+(b - m) then k - a+m else if k < b then k - (b - m) else k
structure Rot (l:List α) (a m b:Nat) (d:α) (r:List α):Prop where
 len:r.length=l.length
 g:∀ k,k < l.length->r.getD k d=l.getD (zs_ a m b k) d
theorem Rot.list {l r:List α} {a m b:Nat} {d:α} (h:Rot l a m b d r) (ham:a<=m) (hmb:m<=b) (hb:b<=l.length):r=l.take a++((l.take b).drop m++((l.take m).drop a++l.drop b)):=by
 refine extD d ?_ fun k hk=>?_
 ·rw [h.len];simp only [List.length_append,List.length_take,List.length_drop];omega
 ·rw [h.g k (by rw [<- h.len];exact hk)]
  have hkl:k < l.length:=by rw [<- h.len];exact hk
  unfold zs_
  rw [Zp_,Zp_,Zp_,wP_,wP_,kQ_]
  simp only [List.length_take,List.length_drop]
  by_cases c1:k < a
  ·rw [if_pos c1,if_pos (show k < min a l.length by omega),kP_ c1]
  ·rw [if_neg c1,if_neg (show ¬ k < min a l.length by omega)]
   by_cases c2:k < a+(b - m)
   ·rw [if_pos c2,if_pos (show k - min a l.length < min b l.length - m by omega),if_pos (by omega)];congr 1;omega
   ·rw [if_neg c2,if_neg (show ¬ k - min a l.length < min b l.length - m by omega)]
    by_cases c3:k < b
    ·rw [if_pos c3,if_pos (show k - min a l.length - (min b l.length - m) < min m l.length - a by omega),if_pos (by omega)];congr 1;omega
    ·rw [if_neg c3,if_neg (show ¬ k - min a l.length - (min b l.length - m) < min m l.length - a by omega)];congr 1;omega
theorem Hs_ (l:List α) {a m b:Nat} (ham:a<=m) (hmb:m<=b):l=l.take a++((l.take m).drop a++((l.take b).drop m++l.drop b)):=by
 have h1:(l.take m).drop a++l.drop m=l.drop a:=by
  have:=congrArg (List.drop a) (List.take_append_drop m l)
  by_cases c:a<=(l.take m).length
  ·rwa [List.drop_append_of_le_length c] at this
  ·rw [List.length_take] at c
   rw [List.drop_of_length_le (by rw [List.length_take];omega),List.nil_append,List.drop_of_length_le (by omega),List.drop_of_length_le (by omega)]
 have h2:(l.take b).drop m++l.drop b=l.drop m:=by
  have:=congrArg (List.drop m) (List.take_append_drop b l)
  by_cases c:m<=(l.take b).length
  ·rwa [List.drop_append_of_le_length c] at this
  ·rw [List.length_take] at c
   rw [List.drop_of_length_le (by rw [List.length_take];omega),List.nil_append,List.drop_of_length_le (by omega),List.drop_of_length_le (by omega)]
 rw [h2,h1,List.take_append_drop]
theorem yi_ {l:List α} {a b:Nat} {x:α} (d:α) (h:x ∈ (l.take b).drop a):∃ k,a<=k/\k < b/\k < l.length/\l.getD k d=x:=by
 obtain ⟨k,hk,e⟩:=List.mem_iff_getElem.1 h
 rw [List.length_drop,List.length_take] at hk
 refine ⟨a+k,by omega,by omega,by omega,?_⟩
 rw [List.getElem_drop,List.getElem_take] at e
 rw [List.getD_eq_getElem?_getD,List.getElem?_eq_getElem (by omega)];exact e
theorem Rot.stb (S:Swo lt) {l r:List α} {a m b:Nat} {d:α} (h:Rot l a m b d r) (ham:a<=m) (hmb:m<=b) (hb:b<=l.length) (hlt:∀ i j,a<=i->i < m->m<=j->j < b->lt (l.getD j d) (l.getD i d)=true):Stb lt l a b r:=by
 have e:=h.list ham hmb hb
 refine ⟨h.len,?_,?_,fun c=>?_⟩
 ·rw [e];exact List.take_left' (by rw [List.length_take];omega)
 ·rw [e,<- List.append_assoc,<- List.append_assoc]
  exact List.drop_left' (by simp only [List.length_append,List.length_take,List.length_drop];omega)
 ·rw [e]
  conv=>rhs;rw [Hs_ l ham hmb]
  simp only [List.filter_append]
  congr 1
  rw [<- List.append_assoc,<- List.append_assoc]
  congr 1
  by_cases c1:((l.take m).drop a).filter (QR_ lt c)=[]
  ·rw [c1,List.append_nil,List.nil_append]
  ·have c2:((l.take b).drop m).filter (QR_ lt c)=[]:=by
    obtain ⟨x,hx⟩:=List.exists_mem_of_ne_nil _ c1
    obtain ⟨hx1,hx2⟩:=List.mem_filter.1 hx
    refine List.filter_eq_nil_iff.2 fun y hy hc=>?_
    obtain ⟨i,i1,i2,_,rfl⟩:=yi_ d hx1
    obtain ⟨j,j1,j2,_,rfl⟩:=yi_ d hy
    have h1:=hlt i j i1 i2 j1 j2
    obtain ⟨p1,p2⟩:=(Qp_ lt _ _).1 hx2
    obtain ⟨q1,q2⟩:=(Qp_ lt _ _).1 hc
    rw [S.neg _ _ _ q2 p1] at h1;cases h1
   rw [c2,List.append_nil,List.nil_append]
def Xo_ (d:α) (l:List α) (i j:Nat):List α:=(l.set i (l.getD j d)).set j (l.getD i d)
theorem wl_ (d:α) (l:List α) (i j:Nat):(Xo_ d l i j).length=l.length:=by unfold Xo_;simp
theorem wm_ (d:α) (l:List α) {i j:Nat} (hi:i < l.length) (hj:j < l.length) (k:Nat):(Xo_ d l i j).getD k d=if k=j then l.getD i d else if k=i then l.getD j d else l.getD k d:=by
 unfold Xo_
 simp only [List.getD_eq_getElem?_getD,List.getElem?_set,List.length_set]
 by_cases h1:j=k
 ·subst h1;simp [hj]
 ·by_cases h2:i=k
  ·subst h2;simp [h1,Ne.symm h1,hi]
  ·simp [h1,h2,Ne.symm h1,Ne.symm h2]
def swI (a b n k:Nat):Nat:=if a<=k/\k < a+n then k - a+b else if b<=k/\k < b+n then k - b+a else k
structure SwR (l:List α) (a b n:Nat) (d:α) (r:List α):Prop where
 len:r.length=l.length
 g:∀ k,k < l.length->r.getD k d=l.getD (swI a b n k) d
theorem zb4_ (l:List α) (a b:Nat) (d:α):SwR l a b 0 d l:=⟨rfl,fun k _=>by unfold swI;rw [if_neg (by omega),if_neg (by omega)]⟩
theorem HW_ {l u:List α} {a b n N:Nat} {d:α} (h:SwR l a b n d u) (hn:n < N) (hab:a+N<=b) (hb:b+N<=l.length):SwR l a b (n+1) d (Xo_ d u (a+n) (b+n)):=by
 refine ⟨by rw [wl_,h.len],fun k hk=>?_⟩
 rw [wm_ d u (by rw [h.len];omega) (by rw [h.len];omega)]
 by_cases c1:k=b+n
 ·rw [if_pos c1,h.g _ (by omega)];congr 1;unfold swI;subst c1
  rw [if_neg (by omega),if_neg (by omega),if_neg (by omega),if_pos (by omega)];omega
 ·rw [if_neg c1]
  by_cases c2:k=a+n
  ·rw [if_pos c2,h.g _ (by omega)];congr 1;unfold swI;subst c2
   rw [if_neg (by omega),if_neg (by omega),if_pos (by omega)];omega
  ·rw [if_neg c2,h.g k hk];congr 1;unfold swI
   by_cases c3:a<=k/\k < a+n
   ·rw [if_pos c3,if_pos (by omega)]
   ·rw [if_neg c3,if_neg (show ¬ (a<=k/\k < a+(n+1)) by omega)]
    by_cases c4:b<=k/\k < b+n
    ·rw [if_pos c4,if_pos (by omega)]
    ·rw [if_neg c4,if_neg (by omega)]
structure RotJ (l u:List α) (a m b i j:Nat) (d:α):Prop where
 len:u.length=l.length
 i0:0 < i
 j0:0 < j
 ai:a+i<=m
 jb:m+j<=b
 g:∀ k,k < l.length->u.getD (zs_ (m - i) m (m+j) k) d=l.getD (zs_ a m b k) d
theorem hT_ {l:List α} {a m b:Nat} {d:α} (h1:a < m) (h2:m < b):RotJ l l a m b (m - a) (b - m) d:=
 ⟨rfl,by omega,by omega,by omega,by omega,fun k _=>by rw [show m - (m - a)=a by omega,show m+(b - m)=b by omega]⟩
theorem G0_ {a m b k n:Nat} (ham:a<=m) (hmb:m<=b) (hb:b<=n) (hk:k < n):zs_ a m b k < n:=by unfold zs_;split;omega;split;omega;split<;>omega
theorem zbq_ {l u r:List α} {a m b i j:Nat} {d:α} (hb:b<=l.length) (J:RotJ l u a m b i j d) (hij:j < i) (h:SwR u (m - i) m j d r):RotJ l r a m b (i - j) j d:=by
 obtain ⟨h1,h2,h3,h4,h5,h6⟩:=J
 refine ⟨by rw [h.len,h1],by omega,h3,by omega,h5,fun k hk=>?_⟩
 rw [h.g _ (by rw [h1];exact G0_ (by omega) (by omega) (by omega) hk),<- h6 k hk]
 congr 1
 unfold zs_ swI
 (repeat' split)<;>omega
theorem zbp_ {l u r:List α} {a m b i j:Nat} {d:α} (hb:b<=l.length) (J:RotJ l u a m b i j d) (hij:i < j) (h:SwR u (m - i) (m+j - i) i d r):RotJ l r a m b i (j - i) d:=by
 obtain ⟨h1,h2,h3,h4,h5,h6⟩:=J
 refine ⟨by rw [h.len,h1],h2,by omega,h4,by omega,fun k hk=>?_⟩
 rw [h.g _ (by rw [h1];exact G0_ (by omega) (by omega) (by omega) hk),<- h6 k hk]
 congr 1
 unfold zs_ swI
 (repeat' split)<;>omega
theorem BZ_ {l u r:List α} {a m b i:Nat} {d:α} (hb:b<=l.length) (J:RotJ l u a m b i i d) (h:SwR u (m - i) m i d r):Rot l a m b d r:=by
 obtain ⟨h1,h2,h3,h4,h5,h6⟩:=J
 refine ⟨by rw [h.len,h1],fun k hk=>?_⟩
 rw [h.g k (by omega),<- h6 k hk]
 congr 1
 unfold zs_ swI
 (repeat' split)<;>omega
theorem zbr_ (l:List α) (a:Nat) (d:α):Rot l a (a+1) (a+1) d l:=⟨rfl,fun k hk=>by congr 1;unfold zs_;(repeat' split)<;>omega⟩
theorem BY_ {l u:List α} {a k:Nat} {d:α} (h:Rot l a (a+1) (k+1) d u) (hak:a<=k) (hk:k+1 < l.length):Rot l a (a+1) (k+2) d (Xo_ d u k (k+1)):=by
 refine ⟨by rw [wl_,h.len],fun q hq=>?_⟩
 rw [wm_ d u (by rw [h.len];omega) (by rw [h.len];omega)]
 by_cases c1:q=k+1
 ·rw [if_pos c1,h.g _ (by omega)];congr 1;subst c1;unfold zs_;(repeat' split)<;>omega
 ·rw [if_neg c1]
  by_cases c2:q=k
  ·rw [if_pos c2,h.g _ (by omega)];congr 1;subst c2;unfold zs_;(repeat' split)<;>omega
  ·rw [if_neg c2,h.g q hq];congr 1;unfold zs_;(repeat' split)<;>omega
theorem H7_ (l:List α) (m:Nat) (d:α):Rot l m m (m+1) d l:=⟨rfl,fun k hk=>by congr 1;unfold zs_;(repeat' split)<;>omega⟩
theorem GZ_ {l u:List α} {m k:Nat} {d:α} (h:Rot l k m (m+1) d u) (hk0:0 < k) (hk:k<=m) (hm:m < l.length):Rot l (k - 1) m (m+1) d (Xo_ d u k (k - 1)):=by
 refine ⟨by rw [wl_,h.len],fun q hq=>?_⟩
 rw [wm_ d u (by rw [h.len];omega) (by rw [h.len];omega)]
 by_cases c1:q=k - 1
 ·rw [if_pos c1,h.g _ (by omega)];congr 1;subst c1;unfold zs_;(repeat' split)<;>omega
 ·rw [if_neg c1]
  by_cases c2:q=k
  ·rw [if_pos c2,h.g _ (by omega)];congr 1;subst c2;unfold zs_;(repeat' split)<;>omega
  ·rw [if_neg c2,h.g q hq];congr 1;unfold zs_;(repeat' split)<;>omega
theorem Stb.mid {l r:List α} {a b:Nat} (h:Stb lt l a b r) (hab:a<=b) (c:α):((r.take b).drop a).filter (QR_ lt c)=((l.take b).drop a).filter (QR_ lt c):=by
 have h1:=h.f c
 rw [Hs_ l (Nat.le_refl a) hab,Hs_ r (Nat.le_refl a) hab] at h1
 simp only [List.filter_append] at h1
 rw [h.lo,h.hi,List.append_cancel_left_eq] at h1
 rw [List.append_cancel_left_eq,List.append_cancel_right_eq] at h1
 exact h1
theorem Stb.at (S:Swo lt) {l r:List α} {a b i:Nat} (d:α) (h:Stb lt l a b r) (hb:b<=l.length) (h1:a<=i) (h2:i < b):∃ j,a<=j/\j < b/\r.getD i d=l.getD j d:=by
 have hx:r.getD i d ∈ ((r.take b).drop a).filter (QR_ lt (r.getD i d)):=by
  refine List.mem_filter.2 ⟨?_,(Qp_ lt _ _).2 ⟨S.irr _,S.irr _⟩⟩
  have hl:=h.len
  have:((r.take b).drop a)[i - a]?=some (r.getD i d):=by
   rw [List.getElem?_drop,List.getElem?_take,show a+(i - a)=i by omega,if_pos h2,List.getD_eq_getElem?_getD,List.getElem?_eq_getElem (by omega)];rfl
  exact List.mem_of_getElem? this
 rw [h.mid (by omega)] at hx
 obtain ⟨j,j1,j2,_,j3⟩:=yi_ d (List.mem_filter.1 hx).1
 exact ⟨j,j1,j2,j3.symm⟩
variable (lt) in
def zX_ (d:α) (l:List α) (a b:Nat):Prop:=∀ i j,a<=i->i < j->j < b->lt (l.getD j d) (l.getD i d)=false
variable (lt) in
def Low (d:α) (l:List α) (a m b:Nat):Prop:=∀ i j,a<=i->i < m->m<=j->j < b->lt (l.getD j d) (l.getD i d)=false
theorem hO_ {d:α} {l:List α} {a m b:Nat} (h1:zX_ lt d l a m) (h2:zX_ lt d l m b) (h3:Low lt d l a m b):zX_ lt d l a b:=fun i j i1 ij j1=>by
 by_cases c1:j < m
 ·exact h1 i j i1 ij c1
 ·by_cases c2:i < m
  ·exact h3 i j i1 c2 (by omega) j1
  ·exact h2 i j (by omega) ij j1
theorem Low.left (S:Swo lt) {d:α} {l r:List α} {a m b:Nat} (h:Low lt d l a m b) (hR:Stb lt l a m r) (hm:m<=l.length):Low lt d r a m b:=fun i j i1 i2 j1 j2=>by
 obtain ⟨k,k1,k2,k3⟩:=hR.at S d hm i1 i2
 rw [k3,hR.get (.inr j1)];exact h k j k1 k2 j1 j2
theorem Low.right (S:Swo lt) {d:α} {l r:List α} {a m b:Nat} (h:Low lt d l a m b) (hR:Stb lt l m b r) (hb:b<=l.length):Low lt d r a m b:=fun i j i1 i2 j1 j2=>by
 obtain ⟨k,k1,k2,k3⟩:=hR.at S d hb j1 j2
 rw [k3,hR.get (.inl i2)];exact h i k i1 i2 k1 k2
theorem zX_.keep {d:α} {l r:List α} {a b p q:Nat} (h:zX_ lt d l p q) (hR:Stb lt l a b r) (hd:q<=a\/b<=p):zX_ lt d r p q:=fun i j i1 ij j1=>by
 rw [hR.get (by omega),hR.get (by omega)];exact h i j i1 ij j1
theorem zX_.sub {d:α} {l:List α} {a b p q:Nat} (h:zX_ lt d l a b) (h1:a<=p) (h2:q<=b):zX_ lt d l p q:=fun i j i1 ij j1=>h i j (by omega) ij (by omega)
theorem zX_.none {d:α} (l:List α) {a b:Nat} (h:b<=a+1):zX_ lt d l a b:=fun i j i1 ij j1=>by omega
theorem G3_ (S:Swo lt):∀ (r s:List α),r.Pairwise (fun x y=>lt y x=false)->s.Pairwise (fun x y=>lt y x=false)->(∀ c,r.filter (QR_ lt c)=s.filter (QR_ lt c))->r=s
 | [],s,_,_,h=>by
   cases s with
   | nil=>rfl
   | cons y s=>
     have:=h y
     rw [List.filter_nil,List.filter_cons_of_pos ((Qp_ lt _ _).2 ⟨S.irr _,S.irr _⟩)] at this
     cases this
 | x :: r,s,hr,hs,h=>by
   have hr':=List.pairwise_cons.1 hr
   have hx:=h x
   rw [List.filter_cons_of_pos ((Qp_ lt _ _).2 ⟨S.irr _,S.irr _⟩)] at hx
   cases s with
   | nil=>cases hx
   | cons y s=>
     have hs':=List.pairwise_cons.1 hs
     have hxs:x ∈ y :: s:=(List.mem_filter.1 (show x ∈ (y :: s).filter (QR_ lt x) by rw [<- hx];exact List.mem_cons_self ..)).1
     have h1:lt x y=false:=by
      rcases List.mem_cons.1 hxs with e | e
      ·rw [e];exact S.irr _
      ·exact hs'.1 x e
     have hy:=h y
     rw [List.filter_cons_of_pos (a:=y) ((Qp_ lt _ _).2 ⟨S.irr _,S.irr _⟩)] at hy
     have hyr:y ∈ x :: r:=(List.mem_filter.1 (show y ∈ (x :: r).filter (QR_ lt y) by rw [hy];exact List.mem_cons_self ..)).1
     have h2:lt y x=false:=by
      rcases List.mem_cons.1 hyr with e | e
      ·rw [e];exact S.irr _
      ·exact hr'.1 y e
     rw [List.filter_cons_of_pos ((Qp_ lt _ _).2 ⟨h1,h2⟩)] at hx
     have e:=(List.cons.inj hx).1
     subst e
     rw [G3_ S r s hr'.2 hs'.2 fun c=>?_]
     have hc:=h c
     cases e:QR_ lt c x with
     | true=>
       rw [List.filter_cons_of_pos e,List.filter_cons_of_pos e] at hc
       exact (List.cons.inj hc).2
     | false=>
       rw [List.filter_cons_of_neg (by rw [e];decide),List.filter_cons_of_neg (by rw [e];decide)] at hc
       exact hc
theorem zX_.pw {d:α} {l:List α} {a b:Nat} (h:zX_ lt d l a b) (hb:b<=l.length):((l.take b).drop a).Pairwise (fun x y=>lt y x=false):=by
 rw [List.pairwise_iff_getElem]
 intro i j hi hj hij
 rw [List.length_drop,List.length_take] at hi hj
 have e:∀ k (hk:k < ((l.take b).drop a).length),((l.take b).drop a)[k]=l.getD (a+k) d:=fun k hk=>by
  rw [List.length_drop,List.length_take] at hk
  rw [List.getElem_drop,List.getElem_take,List.getD_eq_getElem?_getD,List.getElem?_eq_getElem (by omega)];rfl
 rw [e,e]
 exact h _ _ (by omega) (by omega) (by omega)
theorem HX_ (S:Swo lt) {d:α} {l r s:List α} {a b:Nat} (hab:a<=b) (hb:b<=l.length) (h1:Stb lt l a b r) (h2:Stb lt l a b s) (k1:zX_ lt d r a b) (k2:zX_ lt d s a b):r=s:=by
 have e:=G3_ S _ _ (k1.pw (by rw [h1.len];exact hb)) (k2.pw (by rw [h2.len];exact hb)) fun c=>by rw [h1.mid hab,h2.mid hab]
 rw [Hs_ r (Nat.le_refl a) hab,Hs_ s (Nat.le_refl a) hab,h1.lo,h1.hi,h2.lo,h2.hi,e]
variable (lt) in
def kn_ (x:α):List α->List α
 | []=>[x]
 | y :: r=>if lt x y=true then x :: y :: r else y :: kn_ x r
variable (lt) in
def isG (l:List α):List α:=l.foldl (fun o x=>kn_ lt x o) []
theorem U8_ (x z:α):∀ o:List α,z ∈ kn_ lt x o ↔ z=x\/z ∈ o
 | []=>by simp [kn_]
 | y :: r=>by
   unfold kn_
   split
   ·simp
   ·rw [List.mem_cons,U8_ x z r,List.mem_cons]
    constructor
    ·rintro (h | h | h)<;>simp [h]
    ·rintro (h | h | h)<;>simp [h]
theorem hn_ (S:Swo lt) (x:α):∀ o:List α,o.Pairwise (fun x y=>lt y x=false)->(kn_ lt x o).Pairwise (fun x y=>lt y x=false)
 | [],_=>List.pairwise_singleton ..
 | y :: r,h=>by
   have h':=List.pairwise_cons.1 h
   unfold kn_
   split
   ·rename_i c
    refine List.pairwise_cons.2 ⟨fun z hz=>?_,h⟩
    rcases List.mem_cons.1 hz with rfl | hz
    ·exact S.asy _ _ c
    ·exact S.neg _ _ _ (h'.1 z hz) (S.asy _ _ c)
   ·rename_i c
    refine List.pairwise_cons.2 ⟨fun z hz=>?_,hn_ S x r h'.2⟩
    rcases (U8_ x z r).1 hz with rfl | hz
    ·exact Bool.eq_false_iff.2 c
    ·exact h'.1 z hz
theorem bS_ (S:Swo lt) (x c:α):∀ o:List α,(kn_ lt x o).filter (QR_ lt c)=o.filter (QR_ lt c)++[x].filter (QR_ lt c)\/¬ o.Pairwise (fun x y=>lt y x=false)
 | []=>.inl rfl
 | y :: r=>by
   by_cases hp:(y :: r).Pairwise (fun x y=>lt y x=false)
   ·left
    have h':=List.pairwise_cons.1 hp
    have ih:=(bS_ S x c r).resolve_right fun h=>h h'.2
    unfold kn_
    split
    ·rename_i k
     cases e:QR_ lt c x with
     | false=>rw [List.filter_cons_of_neg (by rw [e];decide),List.filter_cons_of_neg (a:=x) (by rw [e];decide),List.filter_nil,List.append_nil]
     | true=>
       have he:=(Qp_ lt _ _).1 e
       have hno:∀ z,lt x z=true->QR_ lt c z=false:=fun z hz=>by
        cases q:QR_ lt c z with
        | false=>rfl
        | true=>
          have hq:=(Qp_ lt _ _).1 q
          rw [S.neg _ _ _ he.2 hq.1] at hz;cases hz
       have hn:(y :: r).filter (QR_ lt c)=[]:=by
        refine List.filter_eq_nil_iff.2 fun z hz=>?_
        rw [hno z ?_];decide
        rcases List.mem_cons.1 hz with rfl | hz
        ·exact k
        ·exact S.lt_le k (h'.1 z hz)
       rw [List.filter_cons_of_pos e,hn,List.filter_cons_of_pos (a:=x) e,List.filter_nil,List.nil_append]
    ·cases e:QR_ lt c y with
     | true=>rw [List.filter_cons_of_pos e,List.filter_cons_of_pos e,ih];rfl
     | false=>rw [List.filter_cons_of_neg (by rw [e];decide),List.filter_cons_of_neg (by rw [e];decide),ih]
   ·exact .inr hp
theorem Xc_ (S:Swo lt):∀ (l o:List α),o.Pairwise (fun x y=>lt y x=false)->(l.foldl (fun o x=>kn_ lt x o) o).Pairwise (fun x y=>lt y x=false)/\(∀ c,(l.foldl (fun o x=>kn_ lt x o) o).filter (QR_ lt c)=o.filter (QR_ lt c)++l.filter (QR_ lt c))/\(l.foldl (fun o x=>kn_ lt x o) o).length=o.length+l.length
 | [],o,h=>⟨h,fun c=>by rw [List.filter_nil,List.append_nil];rfl,rfl⟩
 | x :: l,o,h=>by
   obtain ⟨h1,h2,h3⟩:=Xc_ S l (kn_ lt x o) (hn_ S x o h)
   have hl:∀ o:List α,(kn_ lt x o).length=o.length+1:=by
    intro o
    induction o with
    | nil=>rfl
    | cons y r ih=>
      unfold kn_
      split
      ·rfl
      ·rw [List.length_cons,ih];rfl
   refine ⟨h1,fun c=>?_,?_⟩
   ·have e:=(bS_ S x c o).resolve_right fun k=>k h
    rw [List.foldl_cons,h2 c,e,List.append_assoc,<- List.filter_append];rfl
   ·rw [List.foldl_cons,h3,hl,List.length_cons];omega
theorem bO_ (S:Swo lt) (l:List α):(isG lt l).Pairwise (fun x y=>lt y x=false):=(Xc_ S l [] .nil).1
theorem zco_ (S:Swo lt) (l:List α) (c:α):(isG lt l).filter (QR_ lt c)=l.filter (QR_ lt c):=(Xc_ S l [] .nil).2.1 c
theorem Xb_ (S:Swo lt) (l:List α):(isG lt l).length=l.length:=by have:=(Xc_ S l [] .nil).2.2;rwa [List.length_nil,Nat.zero_add] at this
variable (lt) in
def stS (l:List α) (a b:Nat):List α:=l.take a++(isG lt ((l.take b).drop a)++l.drop b)
theorem KJ_ (S:Swo lt) (l:List α) {a b:Nat} (hab:a<=b) (hb:b<=l.length):Stb lt l a b (stS lt l a b):=by
 have h4:=Hs_ l (Nat.le_refl a) hab
 have z:(l.take a).drop a=[]:=List.drop_of_length_le (by rw [List.length_take];omega)
 rw [z,List.nil_append] at h4
 refine ⟨?_,?_,?_,fun c=>?_⟩
 ·unfold stS;simp only [List.length_append,Xb_ S,List.length_take,List.length_drop];omega
 ·unfold stS;exact List.take_left' (by rw [List.length_take];omega)
 ·unfold stS;rw [<- List.append_assoc]
  exact List.drop_left' (by simp only [List.length_append,Xb_ S,List.length_take,List.length_drop];omega)
 ·conv=>rhs;rw [h4]
  unfold stS
  rw [List.filter_append,List.filter_append,zco_ S,<- List.filter_append,<- List.filter_append]
theorem wn_ (S:Swo lt) (d:α) (l:List α) {a b:Nat} (hab:a<=b) (hb:b<=l.length):zX_ lt d (stS lt l a b) a b:=fun i j i1 ij j1=>by
 have hp:=bO_ S ((l.take b).drop a)
 rw [List.pairwise_iff_getElem] at hp
 have hl:(isG lt ((l.take b).drop a)).length=b - a:=by rw [Xb_ S,List.length_drop,List.length_take];omega
 have e:∀ k,a<=k->k < b->∀ h:k - a < (isG lt ((l.take b).drop a)).length,(stS lt l a b).getD k d=(isG lt ((l.take b).drop a))[k - a]:=fun k k1 k2 h=>by
  unfold stS
  rw [Zp_,List.length_take,if_neg (by omega),show min a l.length=a by omega,Zp_,if_pos h,List.getD_eq_getElem?_getD,List.getElem?_eq_getElem h];rfl
 rw [e i i1 (by omega) (by omega),e j (by omega) j1 (by omega)]
 exact hp _ _ _ _ (by omega)
theorem Wh_ (S:Swo lt) {d:α} {l r:List α} {a b:Nat} (hab:a<=b) (hb:b<=l.length) (h:Stb lt l a b r) (k:zX_ lt d r a b):r=stS lt l a b:=
 HX_ S hab hb h (KJ_ S l hab hb) k (wn_ S d l hab hb)
theorem gJ_ (S:Swo lt) {d:α} {l:List α} {a b:Nat} (hab:a<=b) (hb:b<=l.length) (k:zX_ lt d l a b):stS lt l a b=l:=(Wh_ S hab hb (Stb.refl l a b) k).symm
theorem hN_ (S:Swo lt) (d:α) {l u:List α} {a b:Nat} (hab:a<=b) (hb:b<=l.length) (h:Stb lt l a b u):stS lt u a b=stS lt l a b:=
 Wh_ S (d:=d) hab hb (h.trans (KJ_ S u hab (by rw [h.len];exact hb))) (wn_ S d u hab (by rw [h.len];exact hb))
theorem BU_ (l:List α):stS lt l 0 l.length=isG lt l:=by
 unfold stS;rw [List.take_zero,List.nil_append,List.take_length,List.drop_length,List.append_nil,List.drop_zero]
end
section
variable {α:Type} {lt:α->α->Bool}
structure InsG (lt:α->α->Bool) (d:α) (l u:List α) (a b i j:Nat):Prop where
 R:Stb lt l a b u
 aj:a<=j
 ji:j<=i
 ib:i < b
 s:∀ p q,a<=p->p < q->q<=i->q ≠ j->lt (u.getD q d) (u.getD p d)=false
theorem Gm_ {d:α} {l u:List α} {a b i:Nat} (hR:Stb lt l a b u) (hS:zX_ lt d u a i) (h1:a<=i) (h2:i < b):InsG lt d l u a b i i:=
 ⟨hR,h1,Nat.le_refl _,h2,fun p q k1 k2 k3 k4=>hS p q k1 k2 (by omega)⟩
theorem B0_ {d:α} {u:List α} {j:Nat} (h0:0 < j) (hj:j < u.length):Rot u (j - 1) j (j+1) d (Xo_ d u j (j - 1)):=
 GZ_ (H7_ u j d) h0 (Nat.le_refl _) hj
theorem Hl_ (S:Swo lt) {d:α} {l u:List α} {a b i j:Nat} (hb:b<=l.length) (J:InsG lt d l u a b i j) (haj:a < j) (hlt:lt (u.getD j d) (u.getD (j - 1) d)=true):InsG lt d l (Xo_ d u j (j - 1)) a b i (j - 1):=by
 obtain ⟨hR,h1,h2,h3,hs⟩:=J
 have hl:=hR.len
 have g:=wm_ d u (i:=j) (j:=j - 1) (by omega) (by omega)
 have hadj:Stb lt u (j - 1) (j+1) (Xo_ d u j (j - 1)):=(B0_ (d:=d) (u:=u) (j:=j) (by omega) (by omega)).stb S (by omega) (by omega) (by omega) fun p q p1 p2 q1 q2=>by
  rw [show p=j - 1 by omega,show q=j by omega];exact hlt
 refine ⟨hR.trans (hadj.wide (by omega) (by omega)),by omega,by omega,h3,fun p q hp hpq hq hne=>?_⟩
 rw [g p,g q,if_neg hne]
 by_cases e1:q=j
 ·subst e1
  rw [if_pos rfl]
  by_cases e2:p=q - 1
  ·rw [if_pos e2];exact S.asy _ _ hlt
  ·rw [if_neg e2,if_neg (by omega)];exact hs p (q - 1) hp (by omega) (by omega) (by omega)
 ·rw [if_neg e1]
  by_cases e2:p=j - 1
  ·rw [if_pos e2];exact hs j q (by omega) (by omega) hq e1
  ·rw [if_neg e2]
   by_cases e3:p=j
   ·rw [if_pos e3];exact hs (j - 1) q (by omega) (by omega) hq e1
   ·rw [if_neg e3];exact hs p q hp hpq hq e1
theorem vA_ (S:Swo lt) {d:α} {l u:List α} {a b i j:Nat} (J:InsG lt d l u a b i j) (hs:j=a\/lt (u.getD j d) (u.getD (j - 1) d)=false):zX_ lt d u a (i+1):=by
 obtain ⟨hR,h1,h2,h3,hs'⟩:=J
 intro p q hp hpq hq
 by_cases e:q=j
 ·subst e
  rcases hs with hs | hs
  ·omega
  ·by_cases e2:p=q - 1
   ·rw [e2];exact hs
   ·exact S.neg _ _ _ hs (hs' p (q - 1) hp (by omega) (by omega) (by omega))
 ·exact hs' p q hp hpq (by omega) e
theorem qL_ (S:Swo lt) {d:α} {l:List α} {a b i j:Nat} (h:zX_ lt d l a b) (h1:a<=i) (h2:i<=j) (h3:j < b):lt (l.getD j d) (l.getD i d)=false:=by
 by_cases e:i=j
 ·rw [e];exact S.irr _
 ·exact h i j h1 (by omega) h3
structure SymJ (lt:α->α->Bool) (d:α) (l:List α) (m b n s0 r0 s r:Nat):Prop where
 s0s:s0<=s
 sr:s<=r
 rr0:r<=r0
 f:∀ c,s0<=c->c < s->lt (l.getD (n - 1 - c) d) (l.getD c d)=false
 t:∀ c,r<=c->c < r0->lt (l.getD (n - 1 - c) d) (l.getD c d)=true
theorem gG_ {d:α} (l:List α) {m b n s0 r0:Nat} (h:s0<=r0):SymJ lt d l m b n s0 r0 s0 r0:=
 ⟨Nat.le_refl _,h,Nat.le_refl _,fun c h1 h2=>by omega,fun c h1 h2=>by omega⟩
theorem BP_ (S:Swo lt) {d:α} {l:List α} {a m b n s0 r0 s r c:Nat} (hs1:zX_ lt d l a m) (hs2:zX_ lt d l m b) (ha:a<=s0) (hr:r0<=m) (h1:n<=b+s0) (h2:m+r0<=n) (J:SymJ lt d l m b n s0 r0 s r) (hc1:s<=c) (hc2:c < r) (h:lt (l.getD (n - 1 - c) d) (l.getD c d)=false):SymJ lt d l m b n s0 r0 (c+1) r:=by
 obtain ⟨j1,j2,j3,j4,j5⟩:=J
 refine ⟨by omega,by omega,j3,fun k k1 k2=>?_,j5⟩
 have e1:=qL_ S hs1 (i:=k) (j:=c) (by omega) (by omega) (by omega)
 have e2:=qL_ S hs2 (i:=n - 1 - c) (j:=n - 1 - k) (by omega) (by omega) (by omega)
 exact S.neg _ _ _ e2 (S.neg _ _ _ h e1)
theorem BQ_ (S:Swo lt) {d:α} {l:List α} {a m b n s0 r0 s r c:Nat} (hs1:zX_ lt d l a m) (hs2:zX_ lt d l m b) (ha:a<=s0) (hr:r0<=m) (h1:n<=b+s0) (h2:m+r0<=n) (J:SymJ lt d l m b n s0 r0 s r) (hc1:s<=c) (hc2:c < r) (h:lt (l.getD (n - 1 - c) d) (l.getD c d)=true):SymJ lt d l m b n s0 r0 s c:=by
 obtain ⟨j1,j2,j3,j4,j5⟩:=J
 refine ⟨j1,hc1,by omega,j4,fun k k1 k2=>?_⟩
 have e1:=qL_ S hs1 (i:=c) (j:=k) (by omega) (by omega) (by omega)
 have e2:=qL_ S hs2 (i:=n - 1 - k) (j:=n - 1 - c) (by omega) (by omega) (by omega)
 exact S.lt_le (S.le_lt e2 h) e1
structure SymR (lt:α->α->Bool) (d:α) (l u:List α) (a s mid e b:Nat):Prop where
 R:Stb lt l a b u
 p1:zX_ lt d u a s
 p2:zX_ lt d u s mid
 p3:zX_ lt d u mid e
 p4:zX_ lt d u e b
 low:Low lt d u a mid b
theorem BO_ (S:Swo lt) {d:α} {l u:List α} {a m b n mid s0 r0 s e:Nat} (hb:b<=l.length) (hs1:zX_ lt d l a m) (hs2:zX_ lt d l m b) (ha:a<=s0) (hr:r0<=m) (h1:n<=b+s0) (h2:m+r0<=n) (hn:n=mid+m) (he:e=n - s) (hend:s0=a\/n - s0=b) (hend2:r0=m\/n - r0=m) (ham:a<=mid) (hmb:mid<=b) (hsm:s<=mid) (J:SymJ lt d l m b n s0 r0 s s) (h:Rot l s m e d u):SymR lt d l u a s mid e b:=by
 obtain ⟨j1,j2,j3,j4,j5⟩:=J
 have hstr:∀ i j,s<=i->i < m->m<=j->j < e->lt (l.getD j d) (l.getD i d)=true:=fun i j i1 i2 j1' j2'=>by
  have hsr:s < r0:=by omega
  have k1:=j5 s (Nat.le_refl _) hsr
  have e1:=qL_ S hs1 (i:=s) (j:=i) (by omega) i1 i2
  have e2:=qL_ S hs2 (i:=j) (j:=n - 1 - s) j1' (by omega) (by omega)
  exact S.lt_le (S.le_lt e2 k1) e1
 have hR:=h.stb S (by omega) (by omega) (by omega) hstr
 have g:∀ k,k < b->u.getD k d=l.getD (zs_ s m e k) d:=fun k hk=>h.g k (by omega)
 refine ⟨hR.wide (by omega) (by omega),?_,?_,?_,?_,?_⟩
 ·intro i j i1 ij jj
  rw [g i (by omega),g j (by omega),show zs_ s m e i=i by unfold zs_;(repeat' split)<;>omega,show zs_ s m e j=j by unfold zs_;(repeat' split)<;>omega]
  exact hs1 i j i1 ij (by omega)
 ·intro i j i1 ij jj
  rw [g i (by omega),g j (by omega),show zs_ s m e i=i - s+m by unfold zs_;(repeat' split)<;>omega,show zs_ s m e j=j - s+m by unfold zs_;(repeat' split)<;>omega]
  exact hs2 _ _ (by omega) (by omega) (by omega)
 ·intro i j i1 ij jj
  rw [g i (by omega),g j (by omega),show zs_ s m e i=i - (e - m) by unfold zs_;(repeat' split)<;>omega,show zs_ s m e j=j - (e - m) by unfold zs_;(repeat' split)<;>omega]
  exact hs1 _ _ (by omega) (by omega) (by omega)
 ·intro i j i1 ij jj
  rw [g i (by omega),g j (by omega),show zs_ s m e i=i by unfold zs_;(repeat' split)<;>omega,show zs_ s m e j=j by unfold zs_;(repeat' split)<;>omega]
  exact hs2 i j (by omega) ij jj
 ·intro i j i1 i2 k1 k2
  rw [g i (by omega),g j (by omega)]
  by_cases c1:i < s
  ·rw [show zs_ s m e i=i by unfold zs_;(repeat' split)<;>omega]
   by_cases c2:j < e
   ·rw [show zs_ s m e j=j - (e - m) by unfold zs_;(repeat' split)<;>omega]
    exact hs1 _ _ i1 (by omega) (by omega)
   ·rw [show zs_ s m e j=j by unfold zs_;(repeat' split)<;>omega]
    have q:=j4 (s - 1) (by omega) (by omega)
    rw [show n - 1 - (s - 1)=e by omega] at q
    have e1:=qL_ S hs1 (i:=i) (j:=s - 1) i1 (by omega) (by omega)
    have e2:=qL_ S hs2 (i:=e) (j:=j) (by omega) (by omega) k2
    exact S.neg _ _ _ e2 (S.neg _ _ _ q e1)
  ·rw [show zs_ s m e i=i - s+m by unfold zs_;(repeat' split)<;>omega]
   by_cases c2:j < e
   ·rw [show zs_ s m e j=j - (e - m) by unfold zs_;(repeat' split)<;>omega]
    exact S.asy _ _ (hstr _ _ (by omega) (by omega) (by omega) (by omega))
   ·rw [show zs_ s m e j=j by unfold zs_;(repeat' split)<;>omega]
    exact hs2 _ _ (by omega) (by omega) k2
theorem H6_ {l:List α} {s m e:Nat} (d:α) (h:s=m\/m=e) (h1:s<=m) (h2:m<=e):Rot l s m e d l:=⟨rfl,fun k hk=>by congr 1;unfold zs_;(repeat' split)<;>omega⟩
theorem wk_ (S:Swo lt) {d:α} {l u:List α} {a s mid e b:Nat} (hb:b<=l.length) (ham:a<=mid) (hmb:mid<=b) (K:SymR lt d l u a s mid e b):stS lt (stS lt u a mid) mid b=stS lt l a b:=by
 have hl:=K.R.len
 have r1:=KJ_ S u ham (by omega)
 have hl1:=r1.len
 have r2:=KJ_ S (stS lt u a mid) hmb (by omega)
 refine Wh_ S (d:=d) (by omega) hb ((K.R.trans (r1.wide (Nat.le_refl _) hmb)).trans (r2.wide ham (Nat.le_refl _))) (hO_ ?_ (wn_ S d _ hmb (by omega)) ((K.low.left S r1 (by omega)).right S r2 (by omega)))
 exact (wn_ S d u ham (by omega)).keep r2 (.inl (Nat.le_refl _))
theorem GV_ (S:Swo lt) {d:α} {l u:List α} {a s mid e b:Nat} (hb:b<=l.length) (ham:a<=mid) (hmb:mid<=b) (K:SymR lt d l u a s mid e b) (h:a=s\/s=mid):stS lt u a mid=u:=by
 have hl:=K.R.len
 refine gJ_ S (d:=d) ham (by omega) ?_
 rcases h with h | h
 ·rw [h];exact K.p2
 ·rw [<- h];exact K.p1
theorem GU_ (S:Swo lt) {d:α} {l u:List α} {a s mid e b:Nat} (hb:b<=l.length) (ham:a<=mid) (hmb:mid<=b) (K:SymR lt d l u a s mid e b) (h:mid=e\/e=b):stS lt (stS lt u a mid) mid b=stS lt u a mid:=by
 have hl:=K.R.len
 have r1:=KJ_ S u ham (by omega)
 have hl1:=r1.len
 refine gJ_ S (d:=d) hmb (by omega) ?_
 rcases h with h | h
 ·rw [h];rw [<- h];exact (show zX_ lt d u mid b by rw [h];exact K.p4).keep r1 (.inr (Nat.le_refl _))
 ·exact (show zX_ lt d u mid b by rw [<- h];exact K.p3).keep r1 (.inr (Nat.le_refl _))
theorem zcd_ (S:Swo lt) {d:α} {l u:List α} {a i b:Nat} (hb:b<=l.length) (h1:a+1<=i) (h2:i<=b) (hs:zX_ lt d l (a+1) b) (hf:∀ h,a+1<=h->h < i->lt (l.getD h d) (l.getD a d)=true) (ht:∀ h,i<=h->h < b->lt (l.getD h d) (l.getD a d)=false) (h:Rot l a (a+1) i d u):u=stS lt l a b:=by
 have hR:=h.stb S (by omega) h1 (by omega) fun p q p1 p2 q1 q2=>by rw [show p=a by omega];exact hf q q1 q2
 refine Wh_ S (d:=d) (by omega) hb (hR.wide (Nat.le_refl _) h2) fun p q p1 pq q1=>?_
 rw [h.g p (by omega),h.g q (by omega)]
 by_cases c1:q < i - 1
 ·rw [show zs_ a (a+1) i p=p+1 by unfold zs_;(repeat' split)<;>omega,show zs_ a (a+1) i q=q+1 by unfold zs_;(repeat' split)<;>omega]
  exact hs _ _ (by omega) (by omega) (by omega)
 ·by_cases c2:q=i - 1
  ·rw [show zs_ a (a+1) i p=p+1 by unfold zs_;(repeat' split)<;>omega,show zs_ a (a+1) i q=a by unfold zs_;(repeat' split)<;>omega]
   exact S.asy _ _ (hf _ (by omega) (by omega))
  ·rw [show zs_ a (a+1) i q=q by unfold zs_;(repeat' split)<;>omega]
   by_cases c3:p < i - 1
   ·rw [show zs_ a (a+1) i p=p+1 by unfold zs_;(repeat' split)<;>omega]
    exact hs _ _ (by omega) (by omega) q1
   ·by_cases c4:p=i - 1
    ·rw [show zs_ a (a+1) i p=a by unfold zs_;(repeat' split)<;>omega]
     exact ht _ (by omega) q1
    ·rw [show zs_ a (a+1) i p=p by unfold zs_;(repeat' split)<;>omega]
     exact hs _ _ (by omega) pq q1
theorem zce_ (S:Swo lt) {d:α} {l u:List α} {a i m:Nat} (hb:m+1<=l.length) (h1:a<=i) (h2:i<=m) (hs:zX_ lt d l a m) (hf:∀ h,a<=h->h < i->lt (l.getD m d) (l.getD h d)=false) (ht:∀ h,i<=h->h < m->lt (l.getD m d) (l.getD h d)=true) (h:Rot l i m (m+1) d u):u=stS lt l a (m+1):=by
 have hR:=h.stb S h2 (by omega) hb fun p q p1 p2 q1 q2=>by rw [show q=m by omega];exact ht p p1 p2
 refine Wh_ S (d:=d) (by omega) hb (hR.wide h1 (Nat.le_refl _)) fun p q p1 pq q1=>?_
 rw [h.g p (by omega),h.g q (by omega)]
 by_cases c1:q < i
 ·rw [show zs_ i m (m+1) p=p by unfold zs_;(repeat' split)<;>omega,show zs_ i m (m+1) q=q by unfold zs_;(repeat' split)<;>omega]
  exact hs _ _ p1 pq (by omega)
 ·by_cases c2:q=i
  ·rw [show zs_ i m (m+1) p=p by unfold zs_;(repeat' split)<;>omega,show zs_ i m (m+1) q=m by unfold zs_;(repeat' split)<;>omega]
   exact hf _ p1 (by omega)
  ·rw [show zs_ i m (m+1) q=q - 1 by unfold zs_;(repeat' split)<;>omega]
   by_cases c3:p < i
   ·rw [show zs_ i m (m+1) p=p by unfold zs_;(repeat' split)<;>omega]
    exact hs _ _ p1 (by omega) (by omega)
   ·by_cases c4:p=i
    ·rw [show zs_ i m (m+1) p=m by unfold zs_;(repeat' split)<;>omega]
     exact S.asy _ _ (ht _ (by omega) (by omega))
    ·rw [show zs_ i m (m+1) p=p - 1 by unfold zs_;(repeat' split)<;>omega]
     exact hs _ _ (by omega) (by omega) (by omega)
end
def ltO (a b:OV):Bool:=decide (a.1 < b.1) || (decide (a.1=b.1) && (decide (a.2.1 < b.2.1) || (decide (a.2.1=b.2.1) && decide (a.2.2.2.1 < b.2.2.2.1))))
theorem ua_ (a b:OV):ltO a b=true ↔ a.1 < b.1\/(a.1=b.1/\(a.2.1 < b.2.1\/(a.2.1=b.2.1/\a.2.2.2.1 < b.2.2.2.1))):=by
 unfold ltO
 simp only [Bool.or_eq_true,Bool.and_eq_true,decide_eq_true_eq]
theorem Gc_ (a b:OV):ltO a b=false ↔ ¬ (a.1 < b.1\/(a.1=b.1/\(a.2.1 < b.2.1\/(a.2.1=b.2.1/\a.2.2.2.1 < b.2.2.2.1)))):=by
 rw [<- ua_];cases ltO a b<;>simp
theorem zp_:Swo ltO:=by
 refine ⟨fun a=>?_,fun a b c h k=>?_,fun a b h=>?_⟩
 ·rw [Gc_];omega
 ·rw [Gc_] at*;omega
 ·rw [Gc_];rw [ua_] at h;omega
def cmI (x y:Int):Int:=if x < y then -1 else if y < x then 1 else 0
def orF:List Int->Int
 | []=>0
 | x :: r=>if x=0 then orF r else x
def cmO (a b:OV):Int:=orF [cmI a.1 b.1,cmI a.2.1 b.2.1,cmI a.2.2.2.1 b.2.2.2.1]
theorem yK_ (a b:OV):cmO a b < 0 ↔ ltO a b=true:=by
 rw [ua_];unfold cmO orF orF orF orF cmI
 (repeat' split)<;>omega
theorem uB_ (a b:OV):¬ cmO a b < 0 ↔ ltO a b=false:=by
 rw [yK_];cases ltO a b<;>simp
def JA_:IR:=
(sq (kr [0] [oD 2 (.mov cF)])
(sq (.reg [oM 3 0,
oM 4 0,
oB 5 .neq 3 4,
oM 2 5])
.ret))
def Jw_:List RD:=[.tmp 2 true none]
theorem Jx_:zl_ Tryz.prog Tryz.f72 JA_ Jw_=true:=by kernel_rfl
def qW_:List AV->List Obj->Option (Prop × AV)
 | [.int .u64 x],[]=>some ((True,.bool false))
 | _,_=>none
theorem jD_:zf_ Tryz.prog 72 (RoF qW_).sum:=by
 refine zh_ Tryz.func72 Jx_ (zd_ _) fun args objs p v e=>?_
 unfold qW_ at e
 split at e
 ·rename_i x
  cases e
  refine ⟨rfl,fun hw ho hp=>?_⟩
  repeat'(intro t ht;first|(cases t<;>first|(cases ht;done)|(try simp only[zg_]at ht;try(exfalso;first|contradiction|omega)))|((first|refine za_ ht ?_|refine ht ?_ ?_|refine ht.1 ?_ ?_|refine ht ?_)<;>clear ht))
  all_goals first
   | exact True.intro
   | exact ⟨rfl,rfl⟩
   | (refine ⟨congrArg AV.bool ?_,rfl⟩;simp;done)
 ·cases e
def JY_:IR:=
(sq (kr [0,1] [oD 4 (.mov (cI 0))])
(sq (.reg [oM 7 0,
oC 8 71 [7],
oM 5 8])
(sq (.reg [oM 9 1,
oC 10 71 [9],
oM 6 10])
(sq (sq (kr [0,1,5,6] [oM 11 5])
(.cond 11
(sq (sq (.reg [oM 12 6])
(.cond 12
(sq (.reg [oD 4 (.mov (cI 0))])
.ret)
.skip))
(sq (.reg [oD 4 (.mov (cI (-1)))])
.ret))
.skip))
(sq (sq (.reg [oM 13 6])
(.cond 13
(sq (kr [] [oD 4 (.mov (cI 1))])
.ret)
.skip))
(sq (sq (kr [0,1] [oM 14 0,
oM 15 1,
oB 16 .lss 14 15])
(.cond 16
(sq (.reg [oD 4 (.mov (cI (-1)))])
.ret)
.skip))
(sq (sq (.reg [oM 17 0,
oM 18 1,
oB 19 .gtr 17 18])
(.cond 19
(sq (kr [] [oD 4 (.mov (cI 1))])
.ret)
.skip))
(sq (kr [] [oD 4 (.mov (cI 0))])
.ret))))))))
def JP_:List RD:=[.tmp 4 true none]
theorem JS_:zl_ Tryz.prog Tryz.f47 JY_ JP_=true:=by kernel_rfl
def Qs_:List AV->List Obj->Option (Prop × AV)
 | [.int .i64 x,.int .i64 y],[]=>some ((True,.int .i64 (cmI x y)))
 | _,_=>none
theorem Jv_:zf_ Tryz.prog 47 (RoF Qs_).sum:=by
 refine zh_ Tryz.func47 JS_ (zb_ (s:=RoF kp_) ws_ (zd_ _)) fun args objs p v e=>?_
 unfold Qs_ at e
 split at e
 ·rename_i x y
  cases e
  refine ⟨rfl,fun hw ho hp=>?_⟩
  clear hw ho
  repeat'(intro t ht;first|(cases t<;>first|(cases ht;done)|(try simp only[zg_]at ht;try(exfalso;first|contradiction|omega)))|((first|refine za_ ht ?_|refine ht ?_ ?_|refine ht.1 ?_ ?_|refine ht ?_)<;>clear ht))
  all_goals (try unfold cmI)
  all_goals first
   | exact True.intro
   | (rw [if_pos (by omega)];exact ⟨rfl,by first | rfl | exact True.intro⟩)
   | (rw [if_neg (by omega),if_pos (by omega)];exact ⟨rfl,by first | rfl | exact True.intro⟩)
   | (rw [if_neg (by omega),if_neg (by omega)];exact ⟨rfl,by first | rfl | exact True.intro⟩)
 ·cases e
def ju_:IR:=
(sq (kr [0,1] [oD 4 (.mov (cI 0))])
(sq (.reg [oM 7 0,
oC 8 72 [7],
oM 5 8])
(sq (.reg [oM 9 1,
oC 10 72 [9],
oM 6 10])
(sq (sq (kr [0,1,5,6] [oM 11 5])
(.cond 11
(sq (sq (.reg [oM 12 6])
(.cond 12
(sq (.reg [oD 4 (.mov (cI 0))])
.ret)
.skip))
(sq (.reg [oD 4 (.mov (cI (-1)))])
.ret))
.skip))
(sq (sq (.reg [oM 13 6])
(.cond 13
(sq (kr [] [oD 4 (.mov (cI 1))])
.ret)
.skip))
(sq (sq (kr [0,1] [oM 14 0,
oM 15 1,
oB 16 .lss 14 15])
(.cond 16
(sq (.reg [oD 4 (.mov (cI (-1)))])
.ret)
.skip))
(sq (sq (.reg [oM 17 0,
oM 18 1,
oB 19 .gtr 17 18])
(.cond 19
(sq (kr [] [oD 4 (.mov (cI 1))])
.ret)
.skip))
(sq (kr [] [oD 4 (.mov (cI 0))])
.ret))))))))
def jp_:List RD:=[.tmp 4 true none]
theorem js_:zl_ Tryz.prog Tryz.f48 ju_ jp_=true:=by kernel_rfl
def Z8_:List AV->List Obj->Option (Prop × AV)
 | [.int .u64 x,.int .u64 y],[]=>some ((True,.int .i64 (cmI x y)))
 | _,_=>none
theorem KL_:zf_ Tryz.prog 48 (RoF Z8_).sum:=by
 refine zh_ Tryz.func48 js_ (zb_ (s:=RoF qW_) jD_ (zd_ _)) fun args objs p v e=>?_
 unfold Z8_ at e
 split at e
 ·rename_i x y
  cases e
  refine ⟨rfl,fun hw ho hp=>?_⟩
  clear hw ho
  repeat'(intro t ht;first|(cases t<;>first|(cases ht;done)|(try simp only[zg_]at ht;try(exfalso;first|contradiction|omega)))|((first|refine za_ ht ?_|refine ht ?_ ?_|refine ht.1 ?_ ?_|refine ht ?_)<;>clear ht))
  all_goals (try unfold cmI)
  all_goals first
   | exact True.intro
   | (rw [if_pos (by omega)];exact ⟨rfl,by first | rfl | exact True.intro⟩)
   | (rw [if_neg (by omega),if_pos (by omega)];exact ⟨rfl,by first | rfl | exact True.intro⟩)
   | (rw [if_neg (by omega),if_neg (by omega)];exact ⟨rfl,by first | rfl | exact True.intro⟩)
 ·cases e
theorem Uk_ {l:List Int} {i:Nat} {d:Int} (h:i < l.length):orF (l.drop i)=if l.getD i d=0 then orF (l.drop (i+1)) else l.getD i d:=by
 rw [z2_ h d];rfl
def va_:IR:=
(sq (kr [0] [oD 2 (.mov (cI 0))])
(sq (.reg [oD 3 (.mov (cI 0))])
(sq (sq (.reg [oM 6 0,
oE 7 6,
oD 8 (.mov (cI 0))])
(.block 0
(.loop
(sq (kr [3,6,7,8] [oB 9 .lss 8 7])
(sq (.cond 9
.skip
(.exit 0))
(sq (.block 1
(sq (.reg [oI 10 1 6 8,
oL 11 10,
oM 5 11])
(sq (.reg [oM 12 5,
oM 13 3,
oB 14 .neq 12 13])
(.cond 14
(sq (kr [5] [oM 15 5,
oM 2 15])
.ret)
.skip))))
(kr [3,6,7,8] [oB 16 .add 8 (cI 1),
oM 8 16])))))))
(sq (kr [3] [oM 17 3,
oM 2 17])
.ret))))
def YC_:List RD:=[.tmp 2 true none]
theorem YS_:zl_ Tryz.prog Tryz.f46 va_ YC_=true:=by kernel_rfl
def jk_:List AV->List Obj->Option (Prop × AV)
 | [.imm (.int .i64) l],[]=>some ((l.length<=1000000,.int .i64 (orF l)))
 | _,_=>none
theorem XE_:zf_ Tryz.prog 46 (RoF jk_).sum:=by
 refine zh_ Tryz.func46 YS_ (zd_ _) fun args objs p v e=>?_
 unfold jk_ at e
 split at e
 ·rename_i l
  cases e
  refine ⟨rfl,fun hw ho hp=>?_⟩
  change List Int at l
  clear hw ho
  repeat'(intro t ht;first|(cases t<;>first|(cases ht;done)|(try simp only[zg_]at ht;try(exfalso;first|contradiction|omega)))|((first|refine za_ ht ?_|refine ht ?_ ?_|refine ht.1 ?_ ?_|refine ht ?_)<;>clear ht))
  all_goals first
   | exact True.intro
   | (intro r h1 h2;clear h1;refine h2 ⟨[3,6,7,8],Nat,(fun i=>i<=l.length/\orF l=orF (l.drop i)),fun i=>[.int .i64 0,.imm (.int .i64) l,.int .i64 l.length,.int .i64 i],fun _=>[],fun i=>l.length - i,⟨0,⟨Nat.zero_le _,rfl⟩,rfl,rfl⟩,?_⟩;clear h2)
  rintro i ⟨hi,he⟩
  repeat'(intro t ht;first|(cases t<;>first|(cases ht;done)|(try simp only[zg_]at ht;try(exfalso;first|contradiction|omega)))|((first|refine za_ ht ?_|refine ht ?_ ?_|refine ht.1 ?_ ?_|refine ht ?_)<;>clear ht))
  all_goals first
   | exact True.intro
   | omega
   | ((try dsimp only);simp only [zj_];omega)
   | (rw [he,Uk_ (d:=0) (by omega),if_neg ht];exact ⟨rfl,by first | rfl | exact True.intro⟩)
   | (rw [he,List.drop_of_length_le (by omega)];exact ⟨rfl,by first | rfl | exact True.intro⟩)
   | (refine ⟨i+1,⟨by omega,?_⟩,?_,rfl,rfl⟩
      ·rw [he,Uk_ (d:=0) (by omega),if_pos ht]
      ·(try dsimp only);omega)
 ·cases e
def yp_:IR:=
(sq (kr [0,1] [oD 2 (.boxv 0),
oD 3 (.boxv 1),
oD 4 (.mov (cI 0))])
(sq (kd [2,3] [(oA 5 0 2,[]),
(oL 6 5,[]),
(oA 7 0 3,[0,0]),
(oL 8 7,[1,0]),
(oC 9 47 [6,8],[]),
(oA 10 1 2,[0,0,0,0,0]),
(oL 11 10,[1,0,0,0,0]),
(oA 12 1 3,[0,0,0,0,0,0,0]),
(oL 13 12,[1,0,0,0,0,0,0]),
(oC 14 47 [11,13],[]),
(oA 15 3 2,[0,0,0,0,0,0,0,0,0,0]),
(oL 16 15,[1,0,0,0,0,0,0,0,0,0]),
(oA 17 3 3,[0,0,0,0,0,0,0,0,0,0,0,0]),
(oL 18 17,[1,0,0,0,0,0,0,0,0,0,0,0]),
(oC 19 48 [16,18],[]),
(oD 20 (.sliceAll (.int .i64) 3 [(0,1,9),(1,1,14),(2,1,19)]),[]),
(oC 21 46 [20],[]),
(oM 4 21,[])])
.ret))
def XO_:List RD:=[.tmp 4 true none]
theorem X8_:zl_ Tryz.prog Tryz.f45 yp_ XO_=true:=by kernel_rfl
def qI_:List AV->List Obj->Option (Prop × AV)
 | [.agg [.int .i64 c,.int .i64 f,.bool h,.int .u64 x,.imm (.int .u8) v,.imm (.int .u8) m],.agg [.int .i64 c',.int .i64 f',.bool h',.int .u64 x',.imm (.int .u8) v',.imm (.int .u8) m']],[]=>some ((True,.int .i64 (cmO (c,f,h,x,v,m,()) (c',f',h',x',v',m',()))))
 | _,_=>none
theorem kl_:zf_ Tryz.prog 45 (RoF qI_).sum:=by
 refine zh_ Tryz.func45 X8_ (zb_ (s:=RoF Qs_) Jv_ (zb_ (s:=RoF Z8_) KL_ (zb_ (s:=RoF jk_) XE_ (zd_ _)))) fun args objs p v e=>?_
 unfold qI_ at e
 split at e
 ·rename_i c f h x v m c' f' h' x' v' m'
  cases e
  refine ⟨rfl,fun hw ho hp=>?_⟩
  change List Int at v
  change List Int at m
  change List Int at v'
  change List Int at m'
  clear hw ho
  repeat'(intro t ht;first|(cases t<;>first|(cases ht;done)|(try simp only[zg_]at ht;try(exfalso;first|contradiction|omega)))|((first|refine za_ ht ?_|refine ht ?_ ?_|refine ht.1 ?_ ?_|refine ht ?_)<;>clear ht))
  all_goals first
   | exact True.intro
   | exact ⟨rfl,rfl⟩
   | exact (by decide:(3:Nat)<=1000000)
   | (simp only [List.length_cons,List.length_nil];omega)
 ·cases e
def Z5_:IR:=
(sq (kr [0,1,2,3] [oM 10 1,
oB 11 .add 10 (cI 1),
oM 8 11])
(.block 0
(.loop
(sq (sq (kr [0,1,2,3,8] [oM 12 8,
oM 13 2,
oB 14 .lss 12 13])
(.cond 14
.skip
(.exit 0)))
(sq (.block 1
(sq (.reg [oM 17 8,
oM 9 17])
(.block 2
(.loop
(sq (sq (kd [0,1,2,3,8,9] [(oM 18 9,[]),
(oM 19 1,[0]),
(oB 20 .gtr 18 19,[]),
(oM 21 20,[]),
(oT 21 22 (.mov 3),[]),
(oT 21 23 (.mov 0),[0]),
(oT 21 24 (.mov 9),[0,0]),
(oT 21 25 (.indexSl 6 23 24),[2]),
(oT 21 26 (.load (some 6) 25),[3]),
(oT 21 27 (.mov 0),[0,0,0,0,0]),
(oT 21 28 (.mov 9),[0,0,0,0,0,0]),
(oT 21 29 (.bin .sub 28 (cI 1)),[1,0,0,0,0,0]),
(oT 21 30 (.indexSl 6 27 29),[3,0,0,0,0]),
(oT 21 31 (.load (some 6) 30),[4,0,0,0,0]),
(oT 21 32 (.call false 22 [26,31]),[]),
(oT 21 33 (.bin .lss 32 (cI 0)),[]),
(oP 34 21 33 cF,[])])
(.cond 34
.skip
(.exit 2)))
(sq (.block 3
(kd [0,1,2,3,8,9] [(oM 37 0,[]),
(oM 38 9,[0]),
(oM 39 0,[0,0]),
(oM 40 9,[0,0,0]),
(oB 41 .sub 40 (cI 1),[1,0,0]),
(oM 42 0,[0,0,0,0,0]),
(oM 43 9,[0,0,0,0,0,0]),
(oB 44 .sub 43 (cI 1),[1,0,0,0,0,0]),
(oI 45 6 42 44,[3,0,0,0,0]),
(oK 46 6 45,[4,0,0,0,0]),
(oM 47 0,[0,0,0,0,0,0,0,0,0,0]),
(oM 48 9,[0,0,0,0,0,0,0,0,0,0,0]),
(oI 49 6 47 48,[2,0,0,0,0,0,0,0,0,0]),
(oK 50 6 49,[3,0,0,0,0,0,0,0,0,0]),
(oI 51 6 37 38,[9,0,0]),
(oS 6 51 46,[10,0,0]),
(oI 52 6 39 41,[]),
(oS 6 52 50,[])]))
(kr [0,1,2,3,8,9] [oM 35 9,
oB 36 .sub 35 (cI 1),
oM 9 36])))))))
(kr [0,1,2,3,8] [oM 15 8,
oB 16 .add 15 (cI 1),
oM 8 16]))))))
def Z0_:List RD:=[]
theorem Z3_:zl_ Tryz.prog Tryz.f93 Z5_ Z0_=true:=by kernel_rfl
def zJ_:List AV->List Obj->Option (Prop × AV × List Obj)
 | [.own 0,.int .i64 a,.int .i64 b,(.fn 45 [] [])],[.row false (.cons (.int .i64) (.cons (.int .i64) (.cons .bool (.cons (.int .u64) (.cons (.sl (.int .u8)) (.cons (.sl (.int .u8)) .nil)))))) l]=>some ((0<=a/\a<=b/\b<=l.length/\l.length<=100000,.tup [],[.row false Y1 (stS ltO (l:List OV) a.toNat b.toNat)]))
 | _,_=>none
theorem ZV_:zf_ Tryz.prog 93 (RwF zJ_).sum:=by
 refine wu_ Tryz.func93 Z3_ (zb_ (s:=RoF qI_) kl_ (zd_ _)) fun args objs p v o e=>?_
 unfold zJ_ at e
 split at e
 ·rename_i a b l
  cases e
  refine ⟨rfl,fun hw ho hp=>?_⟩
  clear hw ho
  change List OV at l
  obtain ⟨h1,h2,h3,h4⟩:=hp
  obtain ⟨a,rfl⟩:=Int.eq_ofNat_of_zero_le h1
  obtain ⟨b,rfl⟩:=Int.eq_ofNat_of_zero_le (show 0<=b by omega)
  rw [Int.toNat_natCast,Int.toNat_natCast]
  have hab:a<=b:=by omega
  have hbl:b<=l.length:=by omega
  repeat'(intro t ht;first|(cases t<;>first|(cases ht;done)|(try simp only[zg_]at ht;try(exfalso;first|contradiction|omega)))|((first|refine za_ ht ?_|refine ht ?_ ?_|refine ht.1 ?_ ?_|refine ht ?_)<;>clear ht))
  all_goals first
   | exact True.intro
   | omega
   | ((try dsimp only);simp only [zj_];omega)
   | (intro r h1 h2;clear h1;refine h2 ⟨[0,1,2,3,8],Nat × List OV,(fun s=>a+1<=s.1/\(s.1<=b\/s.1=a+1)/\Stb ltO l a b s.2/\zX_ ltO (Ty.dflt Y1) s.2 a s.1),fun s=>[.own 0,.int .i64 a,.int .i64 b,(.fn 45 [] []),.int .i64 s.1],fun s=>[.row false Y1 s.2],fun s=>b+1 - s.1,⟨(a+1,l),⟨Nat.le_refl _,.inr rfl,Stb.refl _ _ _,zX_.none _ (Nat.le_refl _)⟩,rfl,rfl⟩,?_⟩;clear h2)
  rintro ⟨i,u⟩ ⟨hi1,hi2,hR,hS⟩
  dsimp only at hi1 hi2 hR hS
  have hl:=hR.len
  repeat'(intro t ht;first|(cases t<;>first|(cases ht;done)|(try simp only[zg_]at ht;try(exfalso;first|contradiction|omega)))|((first|refine za_ ht ?_|refine ht ?_ ?_|refine ht.1 ?_ ?_|refine ht ?_)<;>clear ht))
  all_goals first
   | exact True.intro
   | omega
   | ((try dsimp only);simp only [zj_];omega)
   | (intro r h1 h2;clear h1;refine h2 ⟨[0,1,2,3,8,9],Nat × List OV,(fun s=>InsG ltO (Ty.dflt Y1) l s.2 a b i s.1),fun s=>[.own 0,.int .i64 a,.int .i64 b,(.fn 45 [] []),.int .i64 i,.int .i64 s.1],fun s=>[.row false Y1 s.2],fun s=>s.1,⟨(i,u),Gm_ hR hS (by omega) (by omega),rfl,rfl⟩,?_⟩;clear h2)
   | (have hge:b<=i:=by omega
      have e:=Wh_ zp_ (d:=(Ty.dflt Y1)) hab hbl hR (hS.sub (Nat.le_refl _) hge)
      rw [e];exact ⟨by first | rfl | exact True.intro,rfl⟩)
  rintro ⟨j,q⟩ hJ
  dsimp only at hJ
  have hq:=hJ.R.len
  have hj1:=hJ.aj
  have hj2:=hJ.ji
  have hj3:=hJ.ib
  have e1:((j:Int) - 1).toNat=j - 1:=by omega
  repeat'(intro t ht;first|(cases t<;>first|(cases ht;done)|(try simp only[zg_]at ht;try(exfalso;first|contradiction|omega)))|((first|refine za_ ht ?_|refine ht ?_ ?_|refine ht.1 ?_ ?_|refine ht ?_)<;>clear ht))
  all_goals (try simp only [Int.toNat_natCast,e1] at ht ⊢)
  all_goals first
   | exact True.intro
   | omega
   | ((try dsimp only);simp only [zj_];omega)
   | (constructor<;>omega)
   | (rw [List.length_set];omega)
   | (simp only [List.length_set];constructor<;>omega)
   | (have hs:=vA_ zp_ hJ (.inr ((uB_ _ _).1 ht))
      refine ⟨(i+1,q),⟨?_,?_,hJ.R,hs⟩,?_,?_,by first | rfl | exact True.intro⟩
      ·(try dsimp only);omega
      ·(try dsimp only);omega
      ·(try dsimp only);omega
      ·rfl)
   | (have hs:=vA_ zp_ hJ (.inl (by omega))
      refine ⟨(i+1,q),⟨?_,?_,hJ.R,hs⟩,?_,?_,by first | rfl | exact True.intro⟩
      ·(try dsimp only);omega
      ·(try dsimp only);omega
      ·(try dsimp only);omega
      ·rfl)
   | (have hs:=Hl_ zp_ hbl hJ (by omega) ((yK_ _ _).1 ht)
      refine ⟨(j - 1,_),hs,?_,?_,by first | rfl | exact True.intro⟩
      ·(try dsimp only);omega
      ·(try dsimp only)
       rw [show ((j - 1:Nat):Int)=(j:Int) - 1 by omega])
 ·cases e
def hL_ (d:OV) (l:List OV) (a b:Nat):Nat->List OV
 | 0=>l
 | n+1=>Xo_ d (hL_ d l a b n) (a+n) (b+n)
theorem uS_ (d:OV) (l:List OV) (a b:Nat):∀ n,(hL_ d l a b n).length=l.length
 | 0=>rfl
 | n+1=>by unfold hL_;rw [wl_,uS_ d l a b n]
theorem x5_ (d:OV) (l:List OV) (a b:Nat) {N:Nat} (hab:a+N<=b) (hb:b+N<=l.length):∀ n,n<=N->SwR l a b n d (hL_ d l a b n)
 | 0,_=>zb4_ l a b d
 | n+1,h=>HW_ (x5_ d l a b hab hb n (by omega)) (by omega) hab hb
def qU_:IR:=
(sq (kr [0,1,2,3] [oD 10 (.mov (cI 0))])
(.block 0
(.loop
(sq (sq (kr [0,1,2,3,10] [oM 11 10,
oM 12 3,
oB 13 .lss 11 12])
(.cond 13
.skip
(.exit 0)))
(sq (.block 1
(kd [0,1,2,3,10] [(oM 16 0,[]),
(oM 17 1,[0]),
(oM 18 10,[0,0]),
(oB 19 .add 17 18,[2]),
(oM 20 0,[0,0,0,0]),
(oM 21 2,[0,0,0,0,0]),
(oM 22 10,[0,0,0,0,0,0]),
(oB 23 .add 21 22,[2,0,0,0,0]),
(oM 24 0,[0,0,0,0,0,0,0,0]),
(oM 25 2,[0,0,0,0,0,0,0,0,0]),
(oM 26 10,[0,0,0,0,0,0,0,0,0,0]),
(oB 27 .add 25 26,[2,0,0,0,0,0,0,0,0]),
(oI 28 6 24 27,[4,0,0,0,0,0,0,0]),
(oK 29 6 28,[5,0,0,0,0,0,0,0]),
(oM 30 0,[0,0,0,0,0,0,0,0,0,0,0,0,0,0]),
(oM 31 1,[0,0,0,0,0,0,0,0,0,0,0,0,0,0,0]),
(oM 32 10,[0,0,0,0,0,0,0,0,0,0,0,0,0,0,0,0]),
(oB 33 .add 31 32,[2,0,0,0,0,0,0,0,0,0,0,0,0,0,0]),
(oI 34 6 30 33,[4,0,0,0,0,0,0,0,0,0,0,0,0,0]),
(oK 35 6 34,[5,0,0,0,0,0,0,0,0,0,0,0,0,0]),
(oI 36 6 16 19,[12,0,0,0]),
(oS 6 36 29,[13,0,0,0]),
(oI 37 6 20 23,[]),
(oS 6 37 35,[])]))
(kr [0,1,2,3,10] [oM 14 10,
oB 15 .add 14 (cI 1),
oM 10 15]))))))
def qR_:List RD:=[]
theorem qS_:zl_ Tryz.prog Tryz.f111 qU_ qR_=true:=by kernel_rfl
def zU_:List AV->List Obj->Option (Prop × AV × List Obj)
 | [.own 0,.int .i64 a,.int .i64 b,.int .i64 n,(.fn 45 [] [])],[.row false (.cons (.int .i64) (.cons (.int .i64) (.cons .bool (.cons (.int .u64) (.cons (.sl (.int .u8)) (.cons (.sl (.int .u8)) .nil)))))) l]=>some ((0<=a/\0<=n/\a+n<=b/\b+n<=l.length/\l.length<=100000,.tup [],[.row false Y1 (hL_ (Ty.dflt Y1) (l:List OV) a.toNat b.toNat n.toNat)]))
 | _,_=>none
theorem qA_:zf_ Tryz.prog 111 (RwF zU_).sum:=by
 refine wu_ Tryz.func111 qS_ (zd_ _) fun args objs p v o e=>?_
 unfold zU_ at e
 split at e
 ·rename_i a b n l
  cases e
  refine ⟨rfl,fun hw ho hp=>?_⟩
  clear hw ho
  change List OV at l
  obtain ⟨h1,h2,h3,h4,h5⟩:=hp
  obtain ⟨a,rfl⟩:=Int.eq_ofNat_of_zero_le h1
  obtain ⟨n,rfl⟩:=Int.eq_ofNat_of_zero_le h2
  obtain ⟨b,rfl⟩:=Int.eq_ofNat_of_zero_le (show 0<=b by omega)
  simp only [Int.toNat_natCast]
  repeat'(intro t ht;first|(cases t<;>first|(cases ht;done)|(try simp only[zg_]at ht;try(exfalso;first|contradiction|omega)))|((first|refine za_ ht ?_|refine ht ?_ ?_|refine ht.1 ?_ ?_|refine ht ?_)<;>clear ht))
  all_goals first
   | exact True.intro
   | (intro r h1 h2;clear h1;refine h2 ⟨[0,1,2,3,10],Nat,(fun i=>i<=n),fun i=>[.own 0,.int .i64 a,.int .i64 b,.int .i64 n,.int .i64 i],fun i=>[.row false Y1 (hL_ (Ty.dflt Y1) l a b i)],fun i=>n - i,⟨0,Nat.zero_le _,rfl,rfl⟩,?_⟩;clear h2)
  rintro i hi
  have hl:=uS_ (Ty.dflt Y1) l a b i
  have e1:((a:Int)+i).toNat=a+i:=by omega
  have e2:((b:Int)+i).toNat=b+i:=by omega
  repeat'(intro t ht;first|(cases t<;>first|(cases ht;done)|(try simp only[zg_]at ht;try(exfalso;first|contradiction|omega)))|((first|refine za_ ht ?_|refine ht ?_ ?_|refine ht.1 ?_ ?_|refine ht ?_)<;>clear ht))
  all_goals (try simp only [Int.toNat_natCast,e1,e2] at ht ⊢)
  all_goals first
   | exact True.intro
   | omega
   | ((try dsimp only);simp only [zj_];omega)
   | (constructor<;>omega)
   | (rw [List.length_set];omega)
   | (simp only [List.length_set];constructor<;>omega)
   | (have e:n=i:=by omega
      rw [e];exact ⟨by first | rfl | exact True.intro,by first | rfl | exact True.intro⟩)
   | (refine ⟨i+1,?_,?_,rfl,rfl⟩
      ·(try dsimp only);omega
      ·(try dsimp only);omega)
 ·cases e
def H9_ (l:List OV) (a m b:Nat):List OV:=l.take a++((l.take b).drop m++((l.take m).drop a++l.drop b))
def QC_:IR:=
(sq (kr [0,1,2,3,4] [oM 12 2,
oM 13 1,
oB 14 .sub 12 13,
oM 10 14])
(sq (.reg [oM 15 3,
oM 16 2,
oB 17 .sub 15 16,
oM 11 17])
(sq (.block 0
(.loop
(sq (sq (kr [0,2,4,10,11] [oM 18 10,
oM 19 11,
oB 20 .neq 18 19])
(.cond 20
.skip
(.exit 0)))
(.block 1
(sq (.reg [oM 21 10,
oM 22 11,
oB 23 .gtr 21 22])
(.cond 23
(sq (kr [0,2,4,10,11] [oM 24 0,
oM 25 2,
oM 26 10,
oB 27 .sub 25 26,
oM 28 2,
oM 29 11,
oM 30 4,
oD 31 (.call true (.f 111) [24,27,28,29,30])])
(kr [0,2,4,10,11] [oM 32 10,
oM 33 11,
oB 34 .sub 32 33,
oM 10 34]))
(sq (kr [0,2,4,10,11] [oM 35 0,
oM 36 2,
oM 37 10,
oB 38 .sub 36 37,
oM 39 2,
oM 40 11,
oB 41 .add 39 40,
oM 42 10,
oB 43 .sub 41 42,
oM 44 10,
oM 45 4,
oD 46 (.call true (.f 111) [35,38,43,44,45])])
(kr [0,2,4,10,11] [oM 47 11,
oM 48 10,
oB 49 .sub 47 48,
oM 11 49]))))))))
(kr [0,2,4,10] [oM 50 0,
oM 51 2,
oM 52 10,
oB 53 .sub 51 52,
oM 54 2,
oM 55 10,
oM 56 4,
oD 57 (.call true (.f 111) [50,53,54,55,56])]))))
def Qv_:List RD:=[]
theorem Qy_:zl_ Tryz.prog Tryz.f101 QC_ Qv_=true:=by kernel_rfl
def z4_:List AV->List Obj->Option (Prop × AV × List Obj)
 | [.own 0,.int .i64 a,.int .i64 m,.int .i64 b,(.fn 45 [] [])],[.row false (.cons (.int .i64) (.cons (.int .i64) (.cons .bool (.cons (.int .u64) (.cons (.sl (.int .u8)) (.cons (.sl (.int .u8)) .nil)))))) l]=>some ((0<=a/\a < m/\m < b/\b<=l.length/\l.length<=100000,.tup [],[.row false Y1 (H9_ (l:List OV) a.toNat m.toNat b.toNat)]))
 | _,_=>none
theorem q9_:zf_ Tryz.prog 101 (RwF z4_).sum:=by
 refine wu_ Tryz.func101 Qy_ (zb_ (s:=RwF zU_) qA_ (zd_ _)) fun args objs p v o e=>?_
 unfold z4_ at e
 split at e
 ·rename_i a m b l
  cases e
  refine ⟨rfl,fun hw ho hp=>?_⟩
  clear hw ho
  change List OV at l
  obtain ⟨h1,h2,h3,h4,h5⟩:=hp
  obtain ⟨a,rfl⟩:=Int.eq_ofNat_of_zero_le h1
  obtain ⟨m,rfl⟩:=Int.eq_ofNat_of_zero_le (show 0<=m by omega)
  obtain ⟨b,rfl⟩:=Int.eq_ofNat_of_zero_le (show 0<=b by omega)
  simp only [Int.toNat_natCast]
  have hb:b<=l.length:=by omega
  have f1:(m:Int) - a=((m - a:Nat):Int):=by omega
  have f2:(b:Int) - m=((b - m:Nat):Int):=by omega
  repeat'(intro t ht;first|(cases t<;>first|(cases ht;done)|(try simp only[zg_]at ht;try(exfalso;first|contradiction|omega)))|((first|refine za_ ht ?_|refine ht ?_ ?_|refine ht.1 ?_ ?_|refine ht ?_)<;>clear ht))
  all_goals first
   | exact True.intro
   | ((try dsimp only);simp only [zj_];omega)
   | (intro r h1 h2;clear h1;refine h2 ⟨[0,2,4,10,11],Nat × Nat × List OV,(fun s=>RotJ l s.2.2 a m b s.1 s.2.1 (Ty.dflt Y1)),fun s=>[.own 0,.int .i64 m,(.fn 45 [] []),.int .i64 s.1,.int .i64 s.2.1],fun s=>[.row false Y1 s.2.2],fun s=>s.1+s.2.1,⟨(m - a,b - m,l),hT_ (by omega) (by omega),(by dsimp only;rw [f1,f2]),rfl⟩,?_⟩;clear h2)
  rintro ⟨i,j,u⟩ hJ
  dsimp only at hJ
  have hl:=hJ.len
  have j1:=hJ.i0
  have j2:=hJ.j0
  have j3:=hJ.ai
  have j4:=hJ.jb
  have e1:((m:Int) - i).toNat=m - i:=by omega
  have e2:((m:Int)+j - i).toNat=m+j - i:=by omega
  repeat'(intro t ht;first|(cases t<;>first|(cases ht;done)|(try simp only[zg_]at ht;try(exfalso;first|contradiction|omega)))|((first|refine za_ ht ?_|refine ht ?_ ?_|refine ht.1 ?_ ?_|refine ht ?_)<;>clear ht))
  all_goals (try simp only [Int.toNat_natCast,e1,e2] at ht ⊢)
  all_goals first
   | exact True.intro
   | omega
   | ((try dsimp only);simp only [zj_];omega)
   | (constructor<;>omega)
   | (refine ⟨?_,?_,?_,?_,?_⟩<;>omega)
   | (have hsw:=x5_ (Ty.dflt Y1) u (m - i) m (N:=i) (by omega) (by omega) i (Nat.le_refl _)
      have e:i=j:=by omega
      subst e
      have hr:=(BZ_ hb hJ hsw).list (by omega) (by omega) hb
      rw [hr];exact ⟨by first | rfl | exact True.intro,rfl⟩)
   | (have hsw:=x5_ (Ty.dflt Y1) u (m - i) m (N:=j) (by omega) (by omega) j (Nat.le_refl _)
      refine ⟨(i - j,j,_),zbq_ hb hJ (by omega) hsw,?_,?_,by first | rfl | exact True.intro⟩
      ·(try dsimp only);omega
      ·(try dsimp only)
       rw [show ((i - j:Nat):Int)=(i:Int) - j by omega])
   | (have hsw:=x5_ (Ty.dflt Y1) u (m - i) (m+j - i) (N:=i) (by omega) (by omega) i (Nat.le_refl _)
      refine ⟨(i,j - i,_),zbp_ hb hJ (by omega) hsw,?_,?_,by first | rfl | exact True.intro⟩
      ·(try dsimp only);omega
      ·(try dsimp only)
       rw [show ((j - i:Nat):Int)=(j:Int) - i by omega])
 ·cases e
end Go.Eng
