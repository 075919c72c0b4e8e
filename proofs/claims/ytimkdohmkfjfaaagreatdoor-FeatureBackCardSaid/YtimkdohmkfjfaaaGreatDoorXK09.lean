/- Parts of the proof: EDraw2, ERound. No condition. -/
import Derived.Test.YtimkdohmkfjfaaaGreatDoorXK08
import Derived.Orders
import Derived.RangeFuncLeaves
import Derived.RangeFuncRecord
import Derived.OrdersIn
import Derived.TacticsIn
import Derived.LoopNIn
import Derived.Scope
namespace Go.Eng
set_option linter.unusedVariables false
set_option linter.unusedSimpArgs false
open Go.RowKit
def Imp (v v':AV):Prop:=∀ {I:Nat->Prop} {w:World} {m:M} {cv:Value},RV I w m v cv->RV I w m v' cv
theorem Imp.refl (v:AV):Imp v v:=fun h=>h
theorem Imp.trans {a b c:AV} (h:Imp a b) (k:Imp b c):Imp a c:=fun x=>k (h x)
structure Stp where
 o:Oper
 d:Option Nat
 looks:List Nat
 F:List Nat
 W:List Nat
 v:AV
 st1:zc_
 lo:Nat
 hi:Nat
 T:List Nat
def KQ_ (x:IOper):List Nat:=(x.op.opds.filterMap fun y=>match y with | .t i=>some i | _=>none)++(match x.guard with | some (g,_)=>[g] | none=>[])
structure SF (P:Program) (ops:Array Oper) (X0:Bool->Nat->Prop) (I0:Nat->Prop) (w0:World) (fr:zd_) (st:zc_) (nx:Nat) (s:Stp):Prop where
 lo:s.lo=nx
 le:nx<=s.hi
 out:∀ i,i ∉ s.T->s.st1.get i=st.get i
 sub:∀ i ∈ s.T,(i ∈ s.F/\i ∈ s.W/\i < nx)\/(nx<=i/\i < s.hi)
 new:∀ i,nx<=i->i < s.hi->i ∈ s.W
 run:∀ {σ:Sto} {I:Nat->Prop} {w:World} {m:M} {a:Act} (N:Act->World->Prop) (Q:Exit->Act->World->Prop),(∀ i ∈ s.looks,RV I w m (fr.get i) (a.tmps.getD i undef))->HS X0 I0 w0 σ I w m->(∀ i ∈ s.F,σ i=st.get i)->(∀ i,nx<=i->i < s.hi->¬ m.used i)->
  (∀ cv I' w' m',V9_ X0 I0 w0 I w m (upd σ s.T s.st1) s.v nx s.hi cv I' w' m'->N (a.put s.o.dst cv) w')->
  if Region.wanted s.o (yielded ops a.tmps) then s.o.wp P a w N Q else N (a.put s.o.dst undef) w
inductive Chain (P:Program) (ops:Array Oper) (X0:Bool->Nat->Prop) (I0:Nat->Prop) (w0:World):zd_->zc_->Nat->List Stp->zd_->zc_->Nat->Prop
 | nil {fr:zd_} {st:zc_} {nx:Nat}:Chain P ops X0 I0 w0 fr st nx [] fr st nx
 | cons {fr fr1 fr2:zd_} {st st2:zc_} {nx nx2:Nat} {s:Stp} {r:List Stp}:SF P ops X0 I0 w0 fr st nx s->(∀ i,s.d ≠ some i->Imp (fr.get i) (fr1.get i))->(∀ i,s.d=some i->Imp s.v (fr1.get i))->Chain P ops X0 I0 w0 fr1 s.st1 s.hi r fr2 st2 nx2->Chain P ops X0 I0 w0 fr st nx (s :: r) fr2 st2 nx2
section
variable {P:Program} {ops:Array Oper} {X0:Bool->Nat->Prop} {I0:Nat->Prop} {w0:World}
theorem Chain.le {fr fr2:zd_} {st st2:zc_} {nx nx2:Nat} {l:List Stp} (h:Chain P ops X0 I0 w0 fr st nx l fr2 st2 nx2):nx<=nx2:=by
 induction h with
 | nil=>exact Nat.le_refl _
 | cons h1 _ _ _ ih=>exact Nat.le_trans h1.le ih
theorem Chain.ge {fr fr2:zd_} {st st2:zc_} {nx nx2:Nat} {l:List Stp} (h:Chain P ops X0 I0 w0 fr st nx l fr2 st2 nx2):∀ s ∈ l,nx<=s.lo/\s.hi<=nx2:=by
 induction h with
 | nil=>exact fun s hs=>by cases hs
 | cons h1 _ _ h4 ih=>
   intro s hs
   rcases List.mem_cons.1 hs with rfl | hs
   ·exact ⟨by rw [h1.lo];exact Nat.le_refl _,h4.le⟩
   ·have:=ih s hs;have:=h1.le;omega
theorem Chain.split {fr2:zd_} {st2:zc_} {nx2:Nat} {s:Stp} {post:List Stp}:∀ {pre:List Stp} {fr:zd_} {st:zc_} {nx:Nat},Chain P ops X0 I0 w0 fr st nx (pre++s :: post) fr2 st2 nx2->
 ∃ fr' st' nx' fr1,Chain P ops X0 I0 w0 fr st nx pre fr' st' nx'/\SF P ops X0 I0 w0 fr' st' nx' s/\Chain P ops X0 I0 w0 fr1 s.st1 s.hi post fr2 st2 nx2
 | [],fr,st,nx,h=>by
   cases h with
   | cons h1 h2 h3 h4=>exact ⟨_,_,_,_,.nil,h1,h4⟩
 | a :: pre,fr,st,nx,h=>by
   cases h with
   | cons h1 h2 h3 h4=>
     obtain ⟨fr',st',nx',fr1,k1,k2,k3⟩:=Chain.split (pre:=pre) h4
     exact ⟨fr',st',nx',fr1,.cons h1 h2 h3 k1,k2,k3⟩
def ZU_ (L:Nat->Bool):List Stp->Nat->Sto->Sto
 | [],_,σ=>σ
 | s :: r,k,σ=>ZU_ L r (k+1) (if L k then upd σ s.T s.st1 else σ)
def Z4_ (L:Nat->Bool):List Stp->Nat->(Nat->AV)->(Nat->AV)
 | [],_,φ=>φ
 | s :: r,k,φ=>Z4_ L r (k+1) (if L k then (fun i=>if s.d=some i then s.v else φ i) else φ)
theorem XD_ (L:Nat->Bool):∀ (pre r:List Stp) (k:Nat) (σ:Sto),ZU_ L (pre++r) k σ=ZU_ L r (k+pre.length) (ZU_ L pre k σ)
 | [],_,_,_=>rfl
 | s :: pre,r,k,σ=>by
   simp only [List.cons_append,ZU_,List.length_cons]
   rw [XD_ L pre r (k+1),show k+1+pre.length=k+(pre.length+1) by omega]
theorem XE_ (L:Nat->Bool):∀ (pre r:List Stp) (k:Nat) (φ:Nat->AV),Z4_ L (pre++r) k φ=Z4_ L r (k+pre.length) (Z4_ L pre k φ)
 | [],_,_,_=>rfl
 | s :: pre,r,k,φ=>by
   simp only [List.cons_append,Z4_,List.length_cons]
   rw [XE_ L pre r (k+1),show k+1+pre.length=k+(pre.length+1) by omega]
theorem xL_ {L:Nat->Bool} {x:Nat}:∀ {l:List Stp} {k:Nat} {σ:Sto},(∀ j (h:j < l.length),L (k+j)=true->x ∉ l[j].T)->ZU_ L l k σ x=σ x
 | [],_,_,_=>rfl
 | s :: r,k,σ,h=>by
   unfold ZU_
   rw [xL_ fun j hj hL=>by have:=h (j+1) (by simpa using hj) (by rw [show k+(j+1)=k+1+j by omega];exact hL);simpa using this]
   cases hk:L k with
   | true=>rw [if_pos rfl,kR_];have:=h 0 (by simp) (by simpa using hk);simpa using this
   | false=>rfl
theorem xM_ {L:Nat->Bool} {x:Nat}:∀ {l:List Stp} {k:Nat} {φ:Nat->AV},(∀ j (h:j < l.length),L (k+j)=true->l[j].d ≠ some x)->Z4_ L l k φ x=φ x
 | [],_,_,_=>rfl
 | s :: r,k,φ,h=>by
   unfold Z4_
   rw [xM_ fun j hj hL=>by have:=h (j+1) (by simpa using hj) (by rw [show k+(j+1)=k+1+j by omega];exact hL);simpa using this]
   cases hk:L k with
   | true=>rw [if_pos rfl];have:=h 0 (by simp) (by simpa using hk);exact if_neg (by simpa using this)
   | false=>rfl
theorem Yb_ {L:Nat->Bool} {x:Nat} {fr fr2:zd_} {st st2:zc_} {nx nx2:Nat} {l:List Stp} (h:Chain P ops X0 I0 w0 fr st nx l fr2 st2 nx2):∀ {k:Nat} {σ:Sto},(∀ j (h:j < l.length),L (k+j)=false->x ∉ l[j].T)->σ x=st.get x->ZU_ L l k σ x=st2.get x:=by
 induction h with
 | nil=>exact fun _ h=>h
 | @cons fr fr1 fr2 st st2 nx nx2 s r h1 _ _ _ ih=>
   intro k σ hL e
   unfold ZU_
   refine ih (fun j hj hl=>by have:=hL (j+1) (by simpa using hj) (by rw [show k+(j+1)=k+1+j by omega];exact hl);simpa using this) ?_
   by_cases hx:x ∈ s.T
   ·cases hk:L k with
    | true=>rw [if_pos rfl,Jo_ hx]
    | false=>exact absurd hx (by have:=hL 0 (by simp) (by simpa using hk);simpa using this)
   ·rw [h1.out x hx]
    cases hk:L k with
    | true=>rw [if_pos rfl,kR_ hx];exact e
    | false=>exact e
theorem Yc_ {L:Nat->Bool} {x:Nat} {fr fr2:zd_} {st st2:zc_} {nx nx2:Nat} {l:List Stp} (h:Chain P ops X0 I0 w0 fr st nx l fr2 st2 nx2):∀ {k:Nat} {φ:Nat->AV},(∀ j (h:j < l.length),L (k+j)=false->l[j].d ≠ some x)->Imp (φ x) (fr.get x)->Imp (Z4_ L l k φ x) (fr2.get x):=by
 induction h with
 | nil=>exact fun _ h=>h
 | @cons fr fr1 fr2 st st2 nx nx2 s r h1 h2 h3 _ ih=>
   intro k φ hL e
   unfold Z4_
   refine ih (fun j hj hl=>by have:=hL (j+1) (by simpa using hj) (by rw [show k+(j+1)=k+1+j by omega];exact hl);simpa using this) ?_
   by_cases hx:s.d=some x
   ·cases hk:L k with
    | true=>rw [if_pos rfl];simp only [hx,if_true];exact h3 x hx
    | false=>exact absurd hx (by have:=hL 0 (by simp) (by simpa using hk);simpa using this)
   ·cases hk:L k with
    | true=>rw [if_pos rfl];simp only [hx,if_false];exact e.trans (h2 x hx)
    | false=>exact e.trans (h2 x hx)
structure Free (s t:Stp):Prop where
 a:∀ x ∈ s.W,x ∉ t.F
 b:∀ x ∈ s.F,x ∉ t.W
 c:∀ d,s.d=some d->d ∉ t.looks/\t.d ≠ some d
 e:∀ d,t.d=some d->d ∉ s.looks
def XW_ (ops:Array Oper) (k j:Nat):Prop:=∃ o,ops[k]?=some o/\∃ e ∈ o.after,Region.binds .any e=true/\e.on=j
inductive Bef (ops:Array Oper):Nat->Nat->Prop
 | dir {j k:Nat}:XW_ ops k j->Bef ops j k
 | tr {j i k:Nat}:Bef ops j i->XW_ ops k i->Bef ops j k
def vg_ (ops:Array Oper) (L:Nat->Bool):Prop:=∀ k,L k=true->∀ j,XW_ ops k j->L j=true
theorem vg_.bef {L:Nat->Bool} (h:vg_ ops L) {j k:Nat} (hb:Bef ops j k) (hk:∀ i,XW_ ops k i->L i=true):L j=true:=by
 induction hb with
 | dir e=>exact hk _ e
 | tr _ e ih=>exact ih (h _ (hk _ e))
structure Inv (n k0:Nat) (X0:Bool->Nat->Prop) (I0:Nat->Prop) (w0:World) (m0:M) (fr:zd_) (st:zc_) (nx:Nat) (l:List Stp) (L:Nat->Bool) (I:Nat->Prop) (w:World) (m:M) (a:Act):Prop where
 size:a.tmps.size=n
 defers:xm_ I w0 w a.defers
 f:wL_ I w m (Z4_ L l 0 fr.get) a
 hs:HS X0 I0 w0 (ZU_ L l 0 st.get) I w m
 same:qF_ I0 w0 w
 kept:∀ i,i < k0->m.used i/\m0.same m i
 lt:∀ i,m.used i->i < nx\/∃ k,∃ h:k < l.length,L k=true/\l[k].lo<=i/\i < l[k].hi
structure Plan (P:Program) (n:Nat) (ops:Array Oper) (l:List Stp):Prop where
 len:l.length=ops.size
 op:∀ k (h:k < l.length),ops[k]?=some l[k].o/\XH_ n l[k].o.dst l[k].d=true
 free:∀ j k (h1:j < l.length) (h2:k < l.length),j < k->Free l[j] l[k]\/Bef ops j k
 edge:∀ k j,XW_ ops k j->j < k
theorem x3_ (l:List Stp) (i:Nat) (h:i < l.length):∃ pre post,l=pre++l[i] :: post/\pre.length=i:=by
 refine ⟨l.take i,l.drop (i+1),?_,by simp;omega⟩
 rw [List.getElem_cons_drop h,List.take_append_drop]
theorem zal_ {n k0:Nat} {m0:M} {fr fr2:zd_} {st st2:zc_} {nx nx2:Nat} {l:List Stp} {L:Nat->Bool} {I:Nat->Prop} {w:World} {m:M} {a:Act} {i:Nat} {Q:Exit->Act->World->Prop} {N:Act->World->Prop}
 (hc:Chain P ops X0 I0 w0 fr st nx l fr2 st2 nx2) (hp:Plan P n ops l) (hL:vg_ ops L) (hi:i < l.length) (hLi:L i=false) (hr:∀ j,XW_ ops i j->L j=true) (h:Inv n k0 X0 I0 w0 m0 fr st nx l L I w m a)
 (next:∀ I' w' m' a',Inv n k0 X0 I0 w0 m0 fr st nx l (fun k=>if k=i then true else L k) I' w' m' a'->N a' w'):wpOp P ops Q i N a w:=by
 obtain ⟨pre,post,hsp,hpl⟩:=x3_ l i hi
 have hc':=hc
 rw [hsp] at hc'
 obtain ⟨fri,sti,nxi,fr1,c1,sf,c2⟩:=Chain.split hc'
 have hlen:l.length=pre.length+(post.length+1):=by rw [hsp];simp
 have gpre:∀ j (h:j < pre.length),l[j]'(by omega)=pre[j]:=fun j h=>by
  have:l[j]?=pre[j]?:=by rw [hsp,List.getElem?_append_left h]
  rw [List.getElem?_eq_getElem (by omega),List.getElem?_eq_getElem h] at this
  exact Option.some.inj this
 have gpost:∀ j (h:j < post.length),l[i+1+j]'(by omega)=post[j]:=fun j h=>by
  have:l[i+1+j]?=post[j]?:=by
   conv=>lhs;rw [hsp]
   rw [List.getElem?_append_right (by omega),show i+1+j - pre.length=j+1 by omega,List.getElem?_cons_succ]
  rw [List.getElem?_eq_getElem (by omega),List.getElem?_eq_getElem h] at this
  exact Option.some.inj this
 have fpre:∀ j (h:j < pre.length),L j=false->Free pre[j] l[i]:=fun j h hj=>by
  rcases hp.free j i (by omega) hi (by omega) with k | k
  ·rw [gpre j h] at k;exact k
  ·have:=hL.bef k hr;rw [hj] at this;cases this
 have fpost:∀ j (h:j < post.length),L (i+1+j)=true->Free l[i] post[j]:=fun j h hj=>by
  rcases hp.free i (i+1+j) hi (by omega) (by omega) with k | k
  ·rw [gpost j h] at k;exact k
  ·have:=hL.bef k (fun q hq=>hL _ hj q hq);rw [hLi] at this;cases this
 have hpreT:∀ j (h:j < pre.length),∀ x ∈ pre[j].T,x ∈ pre[j].W/\x < nxi:=fun j h x hx=>by
  obtain ⟨pre1,post1,e1,e2⟩:=x3_ pre j h
  have c1':=c1
  rw [e1] at c1'
  obtain ⟨_,_,nxj,_,q1,q2,q3⟩:=Chain.split c1'
  have:=q3.le;have:=q2.le
  rcases q2.sub x hx with ⟨r1,r2,r3⟩ | ⟨r1,r2⟩
  ·exact ⟨r2,by omega⟩
  ·exact ⟨q2.new x r1 r2,by omega⟩
 have hpostT:∀ j (h:j < post.length),∀ x ∈ post[j].T,(x ∈ post[j].F/\x ∈ post[j].W)\/l[i].hi<=x:=fun j h x hx=>by
  obtain ⟨pre1,post1,e1,e2⟩:=x3_ post j h
  have c1':=c2
  rw [e1] at c1'
  obtain ⟨_,_,nxj,_,q1,q2,q3⟩:=Chain.split c1'
  have:=q1.le
  rcases q2.sub x hx with ⟨r1,r2,r3⟩ | ⟨r1,r2⟩
  ·exact .inl ⟨r1,r2⟩
  ·exact .inr (by omega)
 have hiT:∀ x ∈ l[i].T,x ∈ l[i].W/\x < l[i].hi:=fun x hx=>by
  have:=sf.le
  rcases sf.sub x hx with ⟨r1,r2,r3⟩ | ⟨r1,r2⟩
  ·exact ⟨r2,by omega⟩
  ·exact ⟨sf.new x r1 r2,r2⟩
 have hS:∀ (L':Nat->Bool) σ,ZU_ L' l 0 σ=ZU_ L' post (i+1) (if L' i then upd (ZU_ L' pre 0 σ) l[i].T l[i].st1 else ZU_ L' pre 0 σ):=fun L' σ=>by
  have e:ZU_ L' l 0 σ=ZU_ L' (pre++l[i] :: post) 0 σ:=by rw [<- hsp]
  rw [e,XD_,Nat.zero_add,hpl];rfl
 have hF:∀ (L':Nat->Bool) φ,Z4_ L' l 0 φ=Z4_ L' post (i+1) (if L' i then (fun x=>if l[i].d=some x then l[i].v else Z4_ L' pre 0 φ x) else Z4_ L' pre 0 φ):=fun L' φ=>by
  have e:Z4_ L' l 0 φ=Z4_ L' (pre++l[i] :: post) 0 φ:=by rw [<- hsp]
  rw [e,XE_,Nat.zero_add,hpl];rfl
 have pS:∀ (L':Nat->Bool) σ,(∀ j,j < i->L' j=L j)->ZU_ L' pre 0 σ=ZU_ L pre 0 σ:=by
  have:∀ (p:List Stp) (L':Nat->Bool) k σ,(∀ j,j < k+p.length->L' j=L j)->ZU_ L' p k σ=ZU_ L p k σ:=fun p=>by
   induction p with
   | nil=>intros;rfl
   | cons s r ih=>
     intro L' k σ hj
     simp only [List.length_cons] at hj
     unfold ZU_
     rw [hj k (by omega),ih L' (k+1) _ fun j hj'=>hj j (by omega)]
  exact fun L' σ hj=>this pre L' 0 σ fun j h=>hj j (by omega)
 have pF:∀ (L':Nat->Bool) φ,(∀ j,j < i->L' j=L j)->Z4_ L' pre 0 φ=Z4_ L pre 0 φ:=by
  have:∀ (p:List Stp) (L':Nat->Bool) k φ,(∀ j,j < k+p.length->L' j=L j)->Z4_ L' p k φ=Z4_ L p k φ:=fun p=>by
   induction p with
   | nil=>intros;rfl
   | cons s r ih=>
     intro L' k φ hj
     simp only [List.length_cons] at hj
     unfold Z4_
     rw [hj k (by omega),ih L' (k+1) _ fun j hj'=>hj j (by omega)]
  exact fun L' φ hj=>this pre L' 0 φ fun j h=>hj j (by omega)
 have qS:∀ (L':Nat->Bool) (p:List Stp) k σ σ' x,(∀ j,k<=j->L' j=L j)->σ x=σ' x->ZU_ L' p k σ x=ZU_ L p k σ' x:=fun L' p=>by
  induction p with
  | nil=>intro k σ σ' x _ e;exact e
  | cons s r ih=>
    intro k σ σ' x hj e
    unfold ZU_
    rw [hj k (Nat.le_refl _)]
    refine ih (k+1) _ _ x (fun j h=>hj j (by omega)) ?_
    cases L k with
    | true=>simp only [if_true];unfold upd;rw [e]
    | false=>exact e
 have qF:∀ (L':Nat->Bool) (p:List Stp) k φ φ' x,(∀ j,k<=j->L' j=L j)->φ x=φ' x->Z4_ L' p k φ x=Z4_ L p k φ' x:=fun L' p=>by
  induction p with
  | nil=>intro k φ φ' x _ e;exact e
  | cons s r ih=>
    intro k φ φ' x hj e
    unfold Z4_
    rw [hj k (Nat.le_refl _)]
    refine ih (k+1) _ _ x (fun j h=>hj j (by omega)) ?_
    cases L k with
    | true=>simp only [if_true];rw [e]
    | false=>exact e
 have hLne:∀ j,j ≠ i->(if j=i then true else L j)=L j:=fun j h=>if_neg h
 have hlook:∀ x ∈ l[i].looks,RV I w m (fri.get x) (a.tmps.getD x undef):=fun x hx=>by
  have hf:=h.f x
  rw [hF L,hLi,if_neg (by simp),xM_ (fun j hj hj' e=>(fpost j hj hj').e x e hx)] at hf
  exact Yc_ c1 (fun j hj hj' e=>by rw [Nat.zero_add] at hj';exact ((fpre j hj hj').c x e).1 hx) (Imp.refl _) hf
 have hfoot:∀ x ∈ l[i].F,ZU_ L l 0 st.get x=sti.get x:=fun x hx=>by
  rw [hS L,hLi,if_neg (by simp),xL_ (fun j hj hj' hT=>by
   rcases hpostT j hj x hT with ⟨_,k⟩ | k
   ·exact (fpost j hj hj').b x hx k
   ·-- new behind:then it is no old thing
    exact absurd k (by
     have:x < l[i].hi\/l[i].hi<=x:=Nat.lt_or_ge _ _
     rcases this with h | h
     ·omega
     ·exact fun _=>by
       have hW:=(show x ∈ post[j].W from by
        obtain ⟨pre1,post1,e1,e2⟩:=x3_ post j hj
        have c1':=c2
        rw [e1] at c1'
        obtain ⟨_,_,nxj,_,q1,q2,q3⟩:=Chain.split c1'
        rcases q2.sub x hT with ⟨r1,r2,r3⟩ | ⟨r1,r2⟩
        ·exact r2
        ·exact q2.new x r1 r2)
       exact (fpost j hj hj').b x hx hW))]
  exact Yb_ c1 (fun j hj hj' hT=>by rw [Nat.zero_add] at hj';exact (fpre j hj hj').a x (hpreT j hj x hT).1 hx) rfl
 have hnew:∀ x,nxi<=x->x < l[i].hi->¬ m.used x:=fun x h1 h2 hu=>by
  have hnx:nx<=nxi:=c1.le
  rcases h.lt x hu with h3 | ⟨k,hk,hLk,h3,h4⟩
  ·omega
  ·rcases Nat.lt_trichotomy k i with hki | hki | hki
   ·have hk':k < pre.length:=by omega
    have e:=gpre k hk'
    rw [e] at h4
    have:=(c1.ge pre[k] (List.getElem_mem hk')).2
    omega
   ·subst hki;rw [hLi] at hLk;cases hLk
   ·have hk':k - (i+1) < post.length:=by omega
    have e:=gpost (k - (i+1)) hk'
    simp only [show i+1+(k - (i+1))=k by omega] at e
    rw [e] at h3
    have:=(c2.ge _ (List.getElem_mem hk')).1
    omega
 have hop:=hp.op i hi
 unfold wpOp
 rw [hop.1]
 simp only []
 have key:=sf.run (σ:=ZU_ L l 0 st.get) (a:=a) N Q hlook h.hs hfoot hnew fun cv I' w' m' hg=>by
  obtain ⟨g1,g2,g3,g4⟩:=hg
  refine next I' w' m' _ ⟨?_,?_,fun x=>?_,?_,fun b hb=>(g3.same b (h.hs.Isub b hb)).trans (h.same b hb),fun x hx=>⟨g3.m.1 x (h.kept x hx).1,M.same_trans (h.kept x hx).2 (g3.m.2 x (h.kept x hx).1)⟩,fun x hx=>?_⟩
  ·have hd:=hop.2
   cases hdo:l[i].o.dst with
   | none=>exact h.size
   | some d=>simp only [Act.put,Array.size_setIfInBounds];exact h.size
  ·cases hdo:l[i].o.dst with
   | none=>exact h.defers.evo g3.up g3.same
   | some d=>exact h.defers.evo g3.up g3.same
  ·have hd:=hop.2
   have base:RV I' w' m' (Z4_ L l 0 fr.get x) (a.tmps.getD x undef):=g3.rv (h.f x)
   have other:l[i].d ≠ some x->Z4_ (fun k=>if k=i then true else L k) l 0 fr.get x=Z4_ L l 0 fr.get x:=fun hne=>by
    rw [hF,hF L,hLi,if_pos (by simp),if_neg (by simp),pF _ _ fun j hj=>hLne j (by omega)]
    exact qF _ post (i+1) _ _ x (fun j hj=>hLne j (by omega)) (if_neg hne)
   cases hdo:l[i].o.dst with
   | none=>
     rw [hdo] at hd
     cases hdd:l[i].d with
     | some d=>rw [hdd] at hd;cases hd
     | none=>rw [other (by rw [hdd];intro h;cases h)];exact base
   | some d=>
     rw [hdo] at hd
     cases hdd:l[i].d with
     | none=>rw [hdd] at hd;cases hd
     | some d'=>
       rw [hdd] at hd
       simp only [XH_,Bool.and_eq_true,beq_iff_eq,decide_eq_true_eq] at hd
       obtain ⟨rfl,hd⟩:=hd
       rw [Gi_ (by rw [h.size];exact hd)]
       split
       ·rename_i e;subst e
        rw [hF,if_pos (by simp),xM_ (fun j hj hj' e=>by
         rw [hLne _ (by omega)] at hj'
         exact ((fpost j hj hj').c x hdd).2 e)]
        simp only [hdd,if_true];exact g1
       ·rename_i e
        rw [other (by rw [hdd];intro h;cases h;exact e rfl)];exact base
  ·have:ZU_ (fun k=>if k=i then true else L k) l 0 st.get=upd (ZU_ L l 0 st.get) l[i].T l[i].st1:=funext fun x=>by
    by_cases hx:x ∈ l[i].T
    ·rw [Jo_ hx,hS,if_pos (by simp),xL_ (fun j hj hj' hT=>by
      rw [hLne _ (by omega)] at hj'
      rcases hpostT j hj x hT with ⟨k,_⟩ | k
      ·exact (fpost j hj hj').a x (hiT x hx).1 k
      ·have:=(hiT x hx).2;omega),Jo_ hx]
    ·rw [kR_ hx,hS,hS L,hLi,if_pos (by simp),if_neg (by simp),pS _ _ fun j hj=>hLne j (by omega)]
     exact qS _ post (i+1) _ _ x (fun j hj=>hLne j (by omega)) (kR_ hx)
   rw [this];exact g2
  ·rcases g4 x hx with h' | h'
   ·rcases h.lt x h' with h' | ⟨k,hk,hLk,h3,h4⟩
    ·exact .inl h'
    ·refine .inr ⟨k,hk,?_,h3,h4⟩
     split
     ·rfl
     ·exact hLk
   ·exact .inr ⟨i,hi,by simp,by rw [sf.lo];exact h'.1,h'.2⟩
 split
 ·rename_i hw;rw [if_pos hw] at key;exact .inl key
 ·rename_i hw;rw [if_neg hw] at key;exact key
end
end Go.Eng
namespace Go.Eng
set_option linter.unusedVariables false
set_option linter.unusedSimpArgs false
open Go.RowKit
def usOf (ios:List (IOper × List Nat)) (i:Nat):List Nat:=match ios[i]? with | some x=>x.2 | none=>[]
def zcO_ (x y:IOper):Bool:=
 (match x.dst with | some d=>!xE_ d (KQ_ y) && !(y.dst == some d) | none=>true) && (match y.dst with | some d=>!xE_ d (KQ_ x) | none=>true)
def JX_ (ios:List (IOper × List Nat)) (k:Nat) (o:Oper) (x:IOper) (us:List Nat):Bool:=
 (o.after.toList.all fun e=>!Region.binds .any e || decide (e.on < k)) &&
 ((List.range k).all fun j=>xE_ j us || o.after.toList.any fun e=>Region.binds .any e && (e.on == j || (decide (j < e.on) && !xE_ j (usOf ios e.on)))) &&
 (us.all fun j=>decide (j < k) && (match ios[j]? with | some y=>zcO_ y.1 x | none=>false))
def Vl_ (P:Program) (n:Nat) (ops:Array Oper) (all:List (IOper × List Nat)):Nat->List Oper->List (IOper × List Nat)->Bool
 | _,[],[]=>true
 | k,o :: r,x :: l=>Uq_ P n ops o x.1 && JX_ all k o x.1 x.2 && Vl_ P n ops all (k+1) r l
 | _,_,_=>false
theorem gY_ {i:Nat}:∀ {l:List Nat},i ∉ l->xE_ i l=false
 | [],_=>rfl
 | j :: r,h=>by
   unfold xE_
   have:Nat.beq j i=false:=by rw [<- Bool.not_eq_true,Nat.beq_eq];intro e;exact h (by simp [e])
   rw [this]
   exact gY_ fun h'=>h (List.mem_cons_of_mem _ h')
section
variable {P:Program} {Γ:Env} {ops:Array Oper} {n:Nat} {X0:Bool->Nat->Prop} {I0:Nat->Prop} {w0:World}
theorem yK_ {fr fr':zd_} {g:Option (Nat × Bool)} (e:fr'=fr\/∃ i v,g=some (i,v)/\∃ b,fr.get i=.bool b/\fr'=(i,.kb b) :: fr) (x:Nat):Imp (fr.get x) (fr'.get x):=by
 rcases e with rfl | ⟨i,v,_,b,hb,rfl⟩
 ·exact Imp.refl _
 ·rw [zd_.get_cons]
  split
  ·rename_i h;subst h;rw [hb];exact fun h=>h
  ·exact Imp.refl _
theorem vB_ {d:Option Nat} {v:AV} {fr:zd_} {i:Nat} (h:d ≠ some i):(wn_ d v fr).get i=fr.get i:=by
 cases d with
 | none=>rfl
 | some d=>unfold wn_;rw [zd_.get_cons,if_neg (fun e=>h (by rw [e]))]
theorem um_ {d:Option Nat} {v:AV} {fr:zd_} {i:Nat} (h:d=some i):(wn_ d v fr).get i=v:=by
 subst h;unfold wn_;rw [zd_.get_cons,if_pos rfl]
theorem G1_ (hΓ:qi_ P Γ) {o:Oper} {x:IOper} {C:List Nat->List Nat->Bool} {fr:zd_} {st:zc_} {nx:Nat} {K:List Nat->List Nat->zd_->zc_->Nat->Prop} (hok:Uq_ P n ops o x=true) (hst:∀ i,st.get i ≠ none->i < nx)
 (ev:kg_ x.guard fr
   (fun fr=>uC_ x.op fr st fun F=>zu_ Γ x.op fr st nx fun v st1 nx1=>kK_ (wrL (Xj_ Γ x.op fr) F st st1 nx nx1) fun W=>match C F W with
     | true=>K F W (wn_ x.dst v fr) st1 nx1
     | false=>False)
   fun fr=>K [] [] (wn_ x.dst .skp fr) st nx):
 ∃ s fr1,K s.F s.W fr1 s.st1 s.hi/\SF P ops X0 I0 w0 fr st nx s/\(∀ i,s.d ≠ some i->Imp (fr.get i) (fr1.get i))/\(∀ i,s.d=some i->Imp s.v (fr1.get i))/\s.o=o/\s.d=x.dst/\s.looks=KQ_ x/\
   ((s.F=[]/\s.W=[])\/C s.F s.W=true)/\∀ i,s.st1.get i ≠ none->i < s.hi:=by
 simp only [Uq_,Bool.and_eq_true] at hok
 obtain ⟨⟨⟨hd,hop⟩,hsup⟩,hg⟩:=hok
 obtain ⟨fr',t,ev',hfr,hw⟩:=Ya_ hg ev
 have hgl:∀ i v,x.guard=some (i,v)->i ∈ KQ_ x:=fun i v h=>by unfold KQ_;rw [h];simp
 cases t with
 | true=>
   obtain ⟨F,ev2,hcl,hfoot⟩:=Gl_ ev'
   obtain ⟨v,st1,nx1,T,hle,hK,h3,h4,run⟩:=BM_ (F:=(· ∈ F)) hΓ hst hsup hop hcl hfoot ev2
   simp only [WU_] at hK
   cases hc:C F (wrL (Xj_ Γ x.op fr') F st st1 nx nx1) with
   | false=>rw [hc] at hK;exact hK.elim
   | true=>
     rw [hc] at hK
     have hT:∀ i ∈ T,((i ∈ F/\i ∈ wrL (Xj_ Γ x.op fr') F st st1 nx nx1/\i < nx)\/(nx<=i/\i < nx1))\/(i ∈ F/\st1.get i=st.get i):=fun i hi=>by
      rcases h4 i hi with ⟨q1,q2,q3⟩ | h
      ·rcases q3 with h | h | h
       ·refine .inl (.inl ⟨q1,?_,hst i q2⟩)
        unfold wrL;rw [h];exact List.mem_append.2 (.inl q1)
       ·exact .inr ⟨q1,h⟩
       ·refine .inl (.inl ⟨q1,?_,hst i q2⟩)
        unfold wrL
        cases Xj_ Γ x.op fr' with
        | true=>exact List.mem_append.2 (.inl q1)
        | false=>exact List.mem_append.2 (.inl (uD_ q1 h))
      ·exact .inl (.inr h)
     have mT:∀ {i:Nat},i ∈ T.filter (fun i=>(decide (i ∈ F) && decide (i ∈ wrL (Xj_ Γ x.op fr') F st st1 nx nx1) && decide (i < nx)) || (decide (nx<=i) && decide (i < nx1))) ↔ i ∈ T/\((i ∈ F/\i ∈ wrL (Xj_ Γ x.op fr') F st st1 nx nx1/\i < nx)\/(nx<=i/\i < nx1)):=fun {i}=>by
      rw [List.mem_filter]
      simp only [Bool.or_eq_true,Bool.and_eq_true,decide_eq_true_eq,and_assoc]
     refine ⟨⟨o,x.dst,KQ_ x,F,wrL (Xj_ Γ x.op fr') F st st1 nx nx1,v,st1,nx,nx1,T.filter (fun i=>(decide (i ∈ F) && decide (i ∈ wrL (Xj_ Γ x.op fr') F st st1 nx nx1) && decide (i < nx)) || (decide (nx<=i) && decide (i < nx1)))⟩,wn_ x.dst v fr',hK,⟨rfl,hle,fun i hi=>?_,fun i hi=>(mT.1 hi).2,fun i h1 h2=>?_,fun {σ I w m a} N Q hlk hs ha hN k=>?_⟩,fun i hi=>?_,fun i hi=>?_,rfl,rfl,rfl,.inr hc,fun i hi=>?_⟩
     ·by_cases hiT:i ∈ T
      ·rcases hT i hiT with h | h
       ·exact absurd (mT.2 ⟨hiT,h⟩) hi
       ·exact h.2
      ·exact h3 i hiT
     ·have h2:i < nx1:=h2
      exact List.mem_append.2 (.inr (vz_ h1 (by omega)))
     ·rw [hw I w m a fun i v h=>hlk i (hgl i v h)]
      simp only [if_true]
      refine run (fun i hi=>yK_ hfr i (hlk i ?_)) hs ha hN N Q fun cv I' w' m' hgood=>k cv I' w' m' ?_
      ·exact List.mem_append.2 (.inl (List.mem_filterMap.2 ⟨.t i,hi,rfl⟩))
      ·obtain ⟨q1,q2,q3,q4⟩:=hgood
       refine ⟨q1,?_,q3,q4⟩
       have:upd σ T st1=upd σ (T.filter (fun i=>(decide (i ∈ F) && decide (i ∈ wrL (Xj_ Γ x.op fr') F st st1 nx nx1) && decide (i < nx)) || (decide (nx<=i) && decide (i < nx1)))) st1:=funext fun i=>by
        by_cases h1:i ∈ T
        ·by_cases h2:i ∈ T.filter (fun i=>(decide (i ∈ F) && decide (i ∈ wrL (Xj_ Γ x.op fr') F st st1 nx nx1) && decide (i < nx)) || (decide (nx<=i) && decide (i < nx1)))
         ·rw [Jo_ h1,Jo_ h2]
         ·rw [Jo_ h1,kR_ h2]
          rcases hT i h1 with h | h
          ·exact absurd (mT.2 ⟨h1,h⟩) h2
          ·rw [h.2,ha i h.1]
        ·rw [kR_ h1,kR_ fun h=>h1 (mT.1 h).1]
       rw [<- this];exact q2
     ·rw [vB_ hi];exact yK_ hfr i
     ·rw [um_ hi];exact Imp.refl _
     ·by_cases hiT:i ∈ T
      ·rcases h4 i hiT with ⟨_,q2,_⟩ | h
       ·have:=hst i q2;exact Nat.lt_of_lt_of_le this hle
       ·exact h.2
      ·have h3':=h3 i hiT
       have hi:st1.get i ≠ none:=hi
       rw [h3'] at hi
       have:=hst i hi;exact Nat.lt_of_lt_of_le this hle
 | false=>
   refine ⟨⟨o,x.dst,KQ_ x,[],[],.skp,st,nx,nx,[]⟩,wn_ x.dst .skp fr',ev',⟨rfl,Nat.le_refl _,fun _ _=>rfl,fun i hi=>(by cases hi),fun i h1 h2=>absurd h2 (Nat.not_lt.2 h1),fun {σ I w m a} N Q hlk hs ha hN k=>?_⟩,fun i hi=>?_,fun i hi=>?_,rfl,rfl,rfl,.inl ⟨rfl,rfl⟩,hst⟩
   ·rw [hw I w m a fun i v h=>hlk i (hgl i v h)]
    simp only [Bool.false_eq_true,if_false]
    exact k undef I w m ⟨rfl,by rw [jq_];exact hs,Evo.refl _ _ _,fun _ h=>.inl h⟩
   ·rw [vB_ hi];exact yK_ hfr i
   ·rw [um_ hi];exact Imp.refl _
theorem Gq_ {Γ:Env} {x:IOper} {us:List Nat} {l:List (IOper × List Nat)} {hist:List (List Nat × List Nat)} {fr:zd_} {st:zc_} {nx:Nat} {K:zd_->zc_->Nat->Prop}:JW_ Γ ((x,us) :: l) hist fr st nx K=kg_ x.guard fr
 (fun fr=>uC_ x.op fr st fun F=>zu_ Γ x.op fr st nx fun v st1 nx1=>kK_ (wrL (Xj_ Γ x.op fr) F st st1 nx nx1) fun W=>match yP_ hist F W us with
   | true=>JW_ Γ l ((F,W) :: hist) (wn_ x.dst v fr) st1 nx1 K
   | false=>False)
 fun fr=>JW_ Γ l (([],[]) :: hist) (wn_ x.dst .skp fr) st nx K:=by
 show kg_ x.guard fr
  (fun fr=>uC_ x.op fr st fun F=>zu_ Γ x.op fr st nx fun v st1 nx1=>VZ_ nx1 fun nx1=>kK_ (wrL (Xj_ Γ x.op fr) F st st1 nx nx1) fun W=>match yP_ hist F W us with
    | true=>w6_ x.dst v fr fun fr=>JW_ Γ l ((F,W) :: hist) fr st1 nx1 K
    | false=>False)
  (fun fr=>w6_ x.dst .skp fr fun fr=>JW_ Γ l (([],[]) :: hist) fr st nx K)=_
 simp only [WR_,vC_]
theorem uF_ (hΓ:qi_ P Γ) {all:List (IOper × List Nat)} {K:zd_->zc_->Nat->Prop}:∀ {os:List Oper} {ios:List (IOper × List Nat)} {k:Nat} {hist:List (List Nat × List Nat)} {fr:zd_} {st:zc_} {nx:Nat},hist.length=k->Vl_ P n ops all k os (WD_ k ios)=true->(∀ i,st.get i ≠ none->i < nx)->JW_ Γ ios hist.reverse fr st nx K->
 ∃ l fr2 st2 nx2,K fr2 st2 nx2/\Chain P ops X0 I0 w0 fr st nx l fr2 st2 nx2/\l.length=os.length/\(WD_ k ios).length=os.length/\
   (∀ j (h:j < l.length) (h1:j < os.length) (h2:j < (WD_ k ios).length),l[j].o=os[j]/\l[j].d=(WD_ k ios)[j].1.dst/\l[j].looks=KQ_ (WD_ k ios)[j].1/\XH_ n os[j].dst (WD_ k ios)[j].1.dst=true/\JX_ all (k+j) os[j] (WD_ k ios)[j].1 (WD_ k ios)[j].2=true/\
     ((l[j].F=[]/\l[j].W=[])\/Jf_ (hist++(l.take j).map fun s=>(s.F,s.W)) l[j].F l[j].W (WD_ k ios)[j].2=true))
 | [],[],k,hist,fr,st,nx,_,_,_,ev=>⟨[],fr,st,nx,ev,.nil,rfl,rfl,fun j h=>absurd h (by simp)⟩
 | o :: r,x :: l,k,hist,fr,st,nx,hk,hok,hst,ev=>by
   obtain ⟨x,us⟩:=x
   have hab:WD_ k ((x,us) :: l)=(x,usA k us) :: WD_ (k+1) l:=rfl
   rw [hab] at hok
   simp only [Vl_,Bool.and_eq_true] at hok
   obtain ⟨⟨h1,h2⟩,h3⟩:=hok
   rw [Gq_] at ev
   obtain ⟨s,fr1,e1,e2,e3,e4,e5,e6,e7,e8,e9⟩:=G1_ (X0:=X0) (I0:=I0) (w0:=w0) (C:=fun F W=>yP_ hist.reverse F W us) (K:=fun F W fr st nx=>JW_ Γ l ((F,W) :: hist.reverse) fr st nx K) hΓ h1 hst ev
   have hrev:(s.F,s.W) :: hist.reverse=(hist++[(s.F,s.W)]).reverse:=by simp
   rw [hrev] at e1
   obtain ⟨ls,fr2,st2,nx2,k1,k2,k3,k4,k5⟩:=uF_ hΓ (k:=k+1) (by simp [hk]) h3 e9 e1
   have hus:∀ j ∈ usA k us,j < k:=fun j hj=>by
    simp only [JX_,Bool.and_eq_true,List.all_eq_true,decide_eq_true_eq] at h2
    exact (h2.2 j hj).1
   have e8':(s.F=[]/\s.W=[])\/Jf_ hist s.F s.W (usA k us)=true:=e8.imp id fun h=>bP_ hk hus h
   refine ⟨s :: ls,fr2,st2,nx2,k1,.cons e2 e3 e4 k2,by simp [k3],by rw [hab,List.length_cons,k4,List.length_cons],fun j h h1' h2'=>?_⟩
   cases j with
   | zero=>
     simp only [Uq_,Bool.and_eq_true] at h1
     exact ⟨e5,e6,e7,h1.1.1.1,h2,by simpa [hab] using e8'⟩
   | succ j=>
     have h2'':j < (WD_ (k+1) l).length:=by rw [hab,List.length_cons] at h2';omega
     obtain ⟨q1,q2,q3,q4,q5,q6⟩:=k5 j (by simpa using h) (by simpa using h1') h2''
     simp only [hab,List.getElem_cons_succ,List.take_succ_cons,List.map_cons]
     refine ⟨q1,q2,q3,q4,by rw [show k+(j+1)=k+1+j by omega];exact q5,q6.imp id fun h=>by simpa using h⟩
 | [],x :: l,k,_,_,_,_,_,hok,_,_=>by
   obtain ⟨x,us⟩:=x
   cases hok
 | _ :: _,[],_,_,_,_,_,_,hok,_,_=>by cases hok
theorem Gy_:∀ {us:List Nat} {hist:List (List Nat × List Nat)} {F W:List Nat},Jf_ hist F W us=true->∀ j ∈ us,∃ Fj Wj,hist[j]?=some (Fj,Wj)/\(∀ i ∈ Wj,i ∉ F)/\∀ i ∈ Fj,i ∉ W
 | [],_,_,_,_=>fun j hj=>by cases hj
 | u :: r,hist,F,W,h=>fun j hj=>by
   unfold Jf_ at h
   split at h
   ·rename_i Fj Wj tl hd
    split at h
    ·rename_i hd1
     split at h
     ·rename_i hd2
      rcases List.mem_cons.1 hj with rfl | hj
      ·refine ⟨Fj,Wj,?_,XI_ hd1,XI_ hd2⟩
       have:(hist.drop j)[0]?=some (Fj,Wj):=by rw [hd];rfl
       rw [List.getElem?_drop,Nat.add_zero] at this;exact this
      ·exact Gy_ h j hj
     ·cases h
    ·cases h
   ·cases h
theorem zbI_ {all:List (IOper × List Nat)} {l:List Stp} (hl:l.length=ops.toList.length) (ha:all.length=ops.toList.length)
 (h:∀ j (h:j < l.length) (h1:j < ops.toList.length) (h2:j < all.length),l[j].o=ops.toList[j]/\l[j].d=all[j].1.dst/\l[j].looks=KQ_ all[j].1/\XH_ n ops.toList[j].dst all[j].1.dst=true/\JX_ all (0+j) ops.toList[j] all[j].1 all[j].2=true/\
   ((l[j].F=[]/\l[j].W=[])\/Jf_ ([]++(l.take j).map fun s=>(s.F,s.W)) l[j].F l[j].W all[j].2=true)):Plan P n ops l:=by
 have hsz:l.length=ops.size:=by rw [hl];simp
 have hget:∀ k (hk:k < ops.toList.length),ops[k]?=some ops.toList[k]:=fun k hk=>by
  rw [<- Array.getElem?_toList,List.getElem?_eq_getElem hk]
 have hedge:∀ k j,XW_ ops k j->j < k:=fun k j ⟨o,ho,e,he,hb,hj⟩=>by
  have hk:k < ops.toList.length:=by
   rcases Nat.lt_or_ge k ops.size with h | h
   ·simpa using h
   ·rw [Array.getElem?_eq_none h] at ho;cases ho
  rw [hget k hk] at ho;cases ho
  obtain ⟨_,_,_,_,q,_⟩:=h k (by omega) hk (by omega)
  simp only [JX_,Bool.and_eq_true,List.all_eq_true,Bool.or_eq_true,decide_eq_true_eq,Nat.zero_add] at q
  have:=q.1.1 e (by simpa using he)
  rcases this with h | h
  ·rw [hb] at h;cases h
  ·omega
 have hbef:∀ k (hk:k < all.length) j,j < k->j ∉ all[k].2->Bef ops j k:=fun k=>by
  induction k using Nat.strongRecOn with
  | ind k ih=>
    intro hk j hjk hju
    have hk':k < ops.toList.length:=by omega
    obtain ⟨_,_,_,_,q,_⟩:=h k (by omega) hk' hk
    simp only [JX_,Bool.and_eq_true,List.all_eq_true,Nat.zero_add] at q
    have:=q.1.2 j (by simpa using hjk)
    rw [gY_ hju,Bool.false_or,List.any_eq_true] at this
    obtain ⟨e,he,hb⟩:=this
    simp only [Bool.and_eq_true,Bool.or_eq_true,beq_iff_eq,decide_eq_true_eq,Bool.not_eq_true'] at hb
    obtain ⟨hb,h'⟩:=hb
    have hed:XW_ ops k e.on:=⟨_,hget k hk',e,by simpa using he,hb,rfl⟩
    rcases h' with h' | ⟨h1,h2⟩
    ·rw [<- h'];exact .dir hed
    ·have hlt:=hedge k _ hed
     refine .tr (ih e.on hlt (by omega) j h1 ?_) hed
     have:usOf all e.on=(all[e.on]'(by omega)).2:=by unfold usOf;rw [List.getElem?_eq_getElem (by omega)]
     rw [this] at h2
     exact Xv_ h2
 refine ⟨hsz,fun k hk=>?_,fun j k h1 h2 hjk=>?_,hedge⟩
 ·obtain ⟨q1,q2,_,q4,_⟩:=h k hk (by omega) (by omega)
  rw [q1,q2];exact ⟨hget k (by omega),q4⟩
 ·by_cases hu:j ∈ (all[k]'(by omega)).2
  ·left
   obtain ⟨q1,q2,q3,q4,q5,q6⟩:=h k h2 (by omega) (by omega)
   obtain ⟨p1,p2,p3,_,_,_⟩:=h j h1 (by omega) (by omega)
   simp only [JX_,Bool.and_eq_true,List.all_eq_true,Nat.zero_add,decide_eq_true_eq] at q5
   obtain ⟨_,hf⟩:=q5.2 j hu
   rw [List.getElem?_eq_getElem (by omega)] at hf
   simp only [zcO_,Bool.and_eq_true] at hf
   have hFW:(∀ x ∈ l[j].W,x ∉ l[k].F)/\∀ x ∈ l[j].F,x ∉ l[k].W:=by
    rcases q6 with ⟨e1,e2⟩ | hc
    ·rw [e1,e2];exact ⟨fun _ _ h=>(by cases h),fun _ _ h=>(by cases h)⟩
    ·obtain ⟨Fj,Wj,e1,e2,e3⟩:=Gy_ hc j hu
     rw [List.nil_append,List.getElem?_map,List.getElem?_take,if_pos hjk,List.getElem?_eq_getElem h1] at e1
     cases e1
     exact ⟨e2,e3⟩
   refine ⟨hFW.1,hFW.2,fun d hd=>?_,fun d hd=>?_⟩
   ·rw [p2] at hd
    have:=hf.1
    rw [hd] at this
    simp only [Bool.and_eq_true,Bool.not_eq_true',beq_eq_false_iff_ne,ne_eq] at this
    rw [q3,q2]
    exact ⟨Xv_ this.1,this.2⟩
   ·rw [q2] at hd
    have:=hf.2
    rw [hd] at this
    simp only [Bool.not_eq_true'] at this
    rw [p3];exact Xv_ this
  ·exact .inr (hbef k (by omega) j hjk hu)
theorem b1_ {k0:Nat} {m0:M} {fr fr2:zd_} {st st2:zc_} {nx nx2:Nat} {l:List Stp} {Q:Exit->Act->World->Prop} (hc:Chain P ops X0 I0 w0 fr st nx l fr2 st2 nx2) (hp:Plan P n ops l)
 (fin:∀ I w m a,Sta n k0 X0 I0 w0 m0 fr2 st2 nx2 I w m a->Q .normal a w):∀ (fuel:Nat) (listed:Array Bool) (todo:List Nat) (I:Nat->Prop) (w:World) (m:M) (a:Act),listed.size=ops.size->todo.Nodup->(∀ k,k ∈ todo ↔ k < ops.size/\listed.getD k false=false)->todo.length<=fuel->
   vg_ ops (fun k=>listed.getD k false)->Inv n k0 X0 I0 w0 m0 fr st nx l (fun k=>listed.getD k false) I w m a->wpAny P .any ops Q fuel listed a w:=by
 have done:∀ (listed:Array Bool) (I:Nat->Prop) (w:World) (m:M) (a:Act),(∀ k,k < ops.size->listed.getD k false=true)->Inv n k0 X0 I0 w0 m0 fr st nx l (fun k=>listed.getD k false) I w m a->Q .normal a w:=fun listed I w m a hall h=>by
  refine fin I w m a ⟨h.size,h.defers,fun x=>?_,?_,h.same,h.kept,fun i hi=>?_⟩
  ·exact Yc_ hc (fun j hj hl=>by rw [Nat.zero_add] at hl;rw [hall j (by rw [<- hp.len];exact hj)] at hl;cases hl) (Imp.refl _) (h.f x)
  ·have:ZU_ (fun k=>listed.getD k false) l 0 st.get=st2.get:=funext fun x=>Yb_ hc (fun j hj hl=>by rw [Nat.zero_add] at hl;rw [hall j (by rw [<- hp.len];exact hj)] at hl;cases hl) rfl
   rw [<- this];exact h.hs
  ·rcases h.lt i hi with h' | ⟨k,hk,_,_,h'⟩
   ·have:=hc.le;omega
   ·have:=(hc.ge _ (List.getElem_mem hk)).2;omega
 have ready0:∀ listed:Array Bool,listed.size=ops.size->Region.ready .any ops listed=[]->∀ k,k < ops.size->listed.getD k false=true:=fun listed hsz hr k=>by
  induction k using Nat.strongRecOn with
  | ind k ih=>
    intro hk
    cases hl:listed.getD k false with
    | true=>rfl
    | false=>
      exfalso
      have hm:k ∈ Region.ready .any ops listed:=mem_ready.2 ⟨by
       rw [Array.getD_eq_getD_getElem?,Array.getElem?_eq_getElem (by omega)] at hl ⊢;exact hl,ops[k],Array.getElem?_eq_getElem hk,fun e he hb=>by
        have:=hp.edge k e.on ⟨_,Array.getElem?_eq_getElem hk,e,he,hb,rfl⟩
        exact ih e.on this (by omega)⟩
      rw [hr] at hm;cases hm
 intro fuel
 induction fuel with
 | zero=>
   intro listed todo I w m a hsz hnd htd hlen hcl h
   have hnil:todo=[]:=List.length_eq_zero_iff.1 (by omega)
   have hall:∀ k,k < ops.size->listed.getD k false=true:=fun k hk=>by
    cases hl:listed.getD k false with
    | true=>rfl
    | false=>have:=(htd k).2 ⟨hk,hl⟩;rw [hnil] at this;cases this
   refine ⟨?_,done listed I w m a hall h⟩
   cases hr:Region.ready .any ops listed with
   | nil=>rfl
   | cons i r=>
     have hi:i ∈ Region.ready .any ops listed:=by rw [hr];exact List.mem_cons_self ..
     obtain ⟨h1,o,ho,_⟩:=mem_ready.1 hi
     have hlt:i < ops.size:=(Array.getElem?_eq_some_iff.1 ho).1
     have:=hall i hlt
     rw [Array.getD_eq_getD_getElem?,Array.getElem?_eq_getElem (by omega)] at this h1
     simp only [Option.getD_some] at this h1
     rw [this] at h1;cases h1
 | succ fuel ih=>
   intro listed todo I w m a hsz hnd htd hlen hcl h
   refine ⟨fun hr=>done listed I w m a (ready0 listed hsz hr) h,fun i hi=>?_⟩
   obtain ⟨h1,o,ho,hed⟩:=mem_ready.1 hi
   have hlt:i < ops.size:=(Array.getElem?_eq_some_iff.1 ho).1
   have hLi:listed.getD i false=false:=by
    rw [Array.getD_eq_getD_getElem?,Array.getElem?_eq_getElem (by omega)] at h1 ⊢;exact h1
   have hedges:∀ j,XW_ ops i j->listed.getD j false=true:=fun j ⟨o',ho',e,he,hb,hj⟩=>by
    rw [ho] at ho';cases ho'
    rw [<- hj];exact hed e he hb
   have hset:∀ k,(listed.setIfInBounds i true).getD k false=if k=i then true else listed.getD k false:=fun k=>by
    rw [Array.getD_eq_getD_getElem?,Array.getD_eq_getD_getElem?]
    by_cases e:k=i
    ·subst e;rw [if_pos rfl,Array.getElem?_setIfInBounds_self];simp [show k < listed.size by omega]
    ·rw [if_neg e,Array.getElem?_setIfInBounds_ne (fun h=>e h.symm)]
   refine zal_ hc hp hcl (by rw [hp.len];exact hlt) hLi hedges h fun I' w' m' a' h'=>?_
   have hmem:i ∈ todo:=(htd i).2 ⟨hlt,hLi⟩
   refine ih (listed.setIfInBounds i true) (todo.erase i) I' w' m' a' (by rw [Array.size_setIfInBounds];exact hsz) (hnd.erase i) (fun k=>?_) (by rw [List.length_erase_of_mem hmem];omega) (fun k hk j hj=>?_) ?_
   ·rw [hnd.mem_erase_iff,htd k,hset]
    by_cases e:k=i
    ·subst e;simp
    ·simp [e]
   ·have hk:(listed.setIfInBounds i true).getD k false=true:=hk
    show (listed.setIfInBounds i true).getD j false=true
    rw [hset] at hk ⊢
    split at hk
    ·rename_i e;subst e
     split
     ·rfl
     ·exact hedges j hj
    ·split
     ·rfl
     ·exact hcl k hk j hj
   ·have e:(fun k=>(listed.setIfInBounds i true).getD k false)=fun k=>if k=i then true else listed.getD k false:=funext hset
    rw [e];exact h'
theorem zaR_ (hΓ:qi_ P Γ) {k0:Nat} {m0:M} {ios:List (IOper × List Nat)} {fr:zd_} {st:zc_} {nx:Nat} {I:Nat->Prop} {w:World} {m:M} {a:Act} {Q:Exit->Act->World->Prop} {K:zd_->zc_->Nat->Prop}
 (hok:Vl_ P n ops (WD_ 0 ios) 0 ops.toList (WD_ 0 ios)=true) (h:Sta n k0 X0 I0 w0 m0 fr st nx I w m a) (ev:JW_ Γ ios [] fr st nx K)
 (fin:∀ fr' st' nx' I' w' m' a',K fr' st' nx'->Sta n k0 X0 I0 w0 m0 fr' st' nx' I' w' m' a'->Q .normal a' w'):wpAny P .any ops Q ops.size (Array.replicate ops.size false) a {w with drawn:=w.drawn+1}:=by
 obtain ⟨l,fr2,st2,nx2,k1,k2,k3,k4,k5⟩:=uF_ (X0:=X0) (I0:=I0) (w0:=w0) (hist:=[]) hΓ rfl hok h.st_lt ev
 have hp:=zbI_ (P:=P) k3 k4 k5
 refine b1_ (m0:=m0) (k0:=k0) k2 hp (fun I' w' m' a' hS=>fin _ _ _ _ _ _ _ k1 hS) ops.size _ (List.range ops.size) I _ m a (by simp) List.nodup_range (fun k=>?_) (by simp) (fun k hk=>?_) ?_
 ·rw [List.mem_range,Array.getD_eq_getD_getElem?,Array.getElem?_replicate]
  constructor
  ·intro h;simp [h]
  ·intro h;exact h.1
 ·simp only [Array.getD_eq_getD_getElem?,Array.getElem?_replicate] at hk
  split at hk<;>simp at hk
 ·have hL:(fun k=>(Array.replicate ops.size false).getD k false)=fun _=>false:=funext fun k=>by
   rw [Array.getD_eq_getD_getElem?,Array.getElem?_replicate];split<;>rfl
  rw [hL]
  have fS:∀ (l:List Stp) k σ,ZU_ (fun _=>false) l k σ=σ:=fun l=>by
   induction l with
   | nil=>intros;rfl
   | cons s r ih=>intro k σ;unfold ZU_;simp only [Bool.false_eq_true,if_false];exact ih _ _
  have fF:∀ (l:List Stp) k φ,Z4_ (fun _=>false) l k φ=φ:=fun l=>by
   induction l with
   | nil=>intros;rfl
   | cons s r ih=>intro k φ;unfold Z4_;simp only [Bool.false_eq_true,if_false];exact ih _ _
  have hsame:qF_ I w {w with drawn:=w.drawn+1}:=fun _ _=>rfl
  have hE:Evo I w m I {w with drawn:=w.drawn+1} m:=⟨fun _ h=>h,hsame,m.le_refl⟩
  have hfr:Fr (X0 true) w0 {w with drawn:=w.drawn+1}:=⟨h.hs.fr0.os,h.hs.fr0.tape,h.hs.fr0.output,h.hs.fr0.size,h.hs.fr0.block⟩
  refine ⟨h.size,h.defers.evo (fun _ h=>h) hsame,by rw [fF];exact h.f.evo hE,?_,h.same,h.kept,fun i hi=>.inl (h.lt i hi)⟩
  rw [fS]
  exact ⟨⟨h.hs.H.lt,fun i o ho=>(h.hs.H.obj i o ho).mono (fun _ h=>h) hsame m.le_refl (h.hs.H.lt i (by rw [ho];intro h;cases h)) (fun _ _ _=>rfl),h.hs.H.inj,h.hs.H.notI,h.hs.H.isI,h.hs.H.Ilt,h.hs.H.gar,h.hs.H.rdj⟩,hfr,h.hs.Isub,h.hs.Inew,h.hs.own,h.hs.ownL,h.hs.Ifz,h.hs.regw⟩
end
def fen (r:Option Nat):Fence:={fn:=fun _=>True,depth:=none,alive:=false,round:=r}
def ndO (o:Oper):Bool:=match o.op with | .defer _=>false | _=>true
theorem BZ_ {o:Oper} (h:ndO o=true):∀ c,o.op ≠ .defer c:=fun c e=>by unfold ndO at h;rw [e] at h;cases h
section
variable {P:Program} {r:Option Nat} {j:Nat}
theorem GB_ {f:FuncId} {args:Array Value} {w:World} {R:Ending->World->Prop} (h:Calls P f args w R):CallsIn (fen r) j P f args w R:=(callsIn_wide (n:=j)).2 h
theorem G6_ {row:String} {args:Array Value} {w:World} {R:Value->World->Prop} (h:Rows P row args w R):RowsIn (fen r) j P row args w R:=
 fun c cs _=>let ⟨v,w',a,s⟩:=h c cs;⟨v,w',a,stepsIn_wide.2 s⟩
theorem zcG_ {o:Oper} {a:Act} {w:World} {N N':Act->World->Prop} {Q Q':Exit->Act->World->Prop} (hd:∀ c,o.op ≠ .defer c) (hN:∀ a w,N a w->N' a w) (hQ:∀ e a w,e ≠ .normal->Q e a w->Q' e a w) (h:o.wp P a w N Q):o.wpIn (fen r) j P a w N' Q':=by
 refine ⟨fun _ _=>trivial,?_⟩
 show Oper.uponIn (fen r) j P o a N' Q' ((o.semAt r a.eval).run P w)
 rw [Oper.semAt_eq _ _ _ hd]
 unfold Oper.wp at h
 generalize (execOp a.eval o).run P w=res at h ⊢
 cases res with
 | ok x w'=>
   cases x with
   | value v=>exact hN _ _ h
   | skip=>exact hN _ _ h
   | defer d=>exact hN _ _ h
   | enter f args=>
     refine ⟨fun hq=>(by cases hq),(GB_ h).mono fun e w'' he=>?_⟩
     cases e with
     | returned v=>exact hN _ _ he
     | panicked ch=>exact hQ _ _ _ (by simp) he
     | outgrown=>obtain ⟨a0,w0,h0⟩:=he;exact ⟨a0,w0,hQ _ _ _ (by simp) h0⟩
   | row row args=>exact ⟨fun hq=>(by cases hq),(G6_ h).mono fun _ _ he=>hN _ _ he⟩
   | _=>exact h.elim
 | halt x w'=>cases x<;>first | exact hQ _ _ _ (by simp) h | exact h.elim
theorem Xw_ {ops:Array Oper} {Q Q':Exit->Act->World->Prop} {rest:List Oper} (hL:¬ LetsOut Q) (hQ:∀ e a w,e ≠ .normal->Q e a w->Q' e a w) (hN:∀ a w,Q .normal a w->wpListIn (fen r) j P ops Q' rest a w):
 ∀ {os:List Oper} {a:Act} {w:World},os.all ndO=true->wpList P ops Q os a w->wpListIn (fen r) j P ops Q' (os++rest) a w
 | [],a,w,_,h=>hN _ _ h
 | o :: os,a,w,hd,h=>by
   simp only [List.all_cons,Bool.and_eq_true] at hd
   unfold wpList at h
   rw [List.cons_append]
   unfold wpListIn
   split
   ·rename_i hw
    rw [if_pos hw] at h
    rcases h with h | h
    ·exact zcG_ (BZ_ hd.1) (fun a w h=>Xw_ hL hQ hN hd.2 h) hQ h
    ·exact absurd h.2 hL
   ·rename_i hw
    rw [if_neg hw] at h
    exact ⟨fun _ _=>trivial,Xw_ hL hQ hN hd.2 h⟩
theorem U5_ {ops:Array Oper} {Q:Exit->Act->World->Prop} {md:Region.Mode} (hL:¬ LetsOut Q) (hd:ops.toList.all ndO=true):
 ∀ {fuel:Nat} {listed:Array Bool} {a:Act} {w:World},wpAny P md ops Q fuel listed a w->wpAnyIn (fen r) j P md ops Q fuel listed a w
 | 0,_,_,_,h=>h
 | fuel+1,listed,a,w,h=>by
   refine ⟨h.1,fun i hi=>?_⟩
   have h:=h.2 i hi
   unfold wpOp at h
   unfold wpOpIn
   split
   ·rename_i ho;rw [ho] at h;exact U5_ hL hd h
   ·rename_i o ho
    rw [ho] at h
    have hdo:ndO o=true:=by
     rw [List.all_eq_true] at hd
     exact hd o (Array.mem_toList_iff.2 (Array.mem_of_getElem? ho))
    simp only [] at h
    split
    ·rename_i hw
     rw [if_pos hw] at h
     rcases h with h | h
     ·exact zcG_ (BZ_ hdo) (fun a w h=>U5_ hL hd h) (fun _ _ _ _ h=>h) h
     ·exact absurd h.2 hL
    ·rename_i hw
     rw [if_neg hw] at h
     exact ⟨fun _ _=>trivial,U5_ hL hd h⟩
end
def XF (m:M) (os:List Obj):Bool->Nat->Prop:=fun b=>match b with | true=>XL m os | false=>fun b=>∃ i o,os[i]?=some o/\o.live=true/\m.blk i=some b
section
variable {n n' k0:Nat} {X0:Bool->Nat->Prop} {I0 I I':Nat->Prop} {w0 w w':World} {m0 m m':M} {fr fr':zd_} {st:zc_} {nx:Nat} {os:List Obj} {a a':Act}
theorem Sta.fresh (h:Sta n k0 X0 I0 w0 m0 fr (KP_ 0 os) os.length I w m a) (hsz:a'.tmps.size=n') (hd:a'.defers=[]) (hf:wL_ I w m fr'.get a'):
 Sta n' os.length (XF m os) I w m fr' (KP_ 0 os) os.length I w m a':=by
 refine ⟨hsz,by rw [hd];exact xm_.nil _ _ _,hf,⟨h.hs.H,Fr.refl _ _,fun _ h=>h,fun _ h=>.inl h,fun i o b e hm hb=>?_,fun i o b e hm hb=>?_,fun _ h=>.inl h,fun i kn b e hd=>by rw [z6_] at e;exact .inl (.inr ⟨i,kn,e,hd⟩)⟩,fun _ _=>rfl,fun i hi=>⟨h.hs.H.lt i ?_,M.same_refl _ _⟩,h.lt⟩
 ·rw [z6_] at e;exact .inl (.inl ⟨i,o,e,hm,hb⟩)
 ·rw [z6_] at e;exact .inl ⟨i,o,e,hm,hb⟩
 ·rw [z6_];unfold ofL;rw [List.getElem?_eq_getElem hi];intro h;cases h
theorem Sta.back (hA:Sta n k0 X0 I0 w0 m0 fr (KP_ 0 os) os.length I w m a) (hB:Sta n' os.length (XF m os) I w m fr' st nx I' w' m' a'):Sta n k0 X0 I0 w0 m0 fr st nx I' w' m' a:=by
 have hm:m.le m':=⟨fun i hi=>(hB.kept i (hA.lt i hi)).1,fun i hi=>(hB.kept i (hA.lt i hi)).2⟩
 have E:Evo I w m I' w' m':=⟨hB.hs.Isub,hB.same,hm⟩
 have hXX:∀ b,XL m os b->X0 true b\/w0.heap.size<=b:=fun b hb=>by
  rcases hb with ⟨k,o,h1,h2,h3⟩ | ⟨k,kn,h1,h2⟩
  ·exact hA.hs.own k o b (by rw [z6_];exact h1) h2 h3
  ·exact hA.hs.regw k kn b (by rw [z6_];exact h1) h2
 refine ⟨hA.size,hA.defers.evo E.up E.same,hA.f.evo E,⟨hB.hs.H,hA.hs.fr0.trans hB.hs.fr0 (fun i hi hX=>?_),fun b hb=>E.up b (hA.hs.Isub b hb),fun b hb=>?_,fun i o b e hm hb=>?_,fun i o b e hm hb=>?_,fun b hb=>(hB.hs.Ifz b hb).elim (fun h=>(hA.hs.Ifz b h).imp id fun h2=>h2.same (E.same b h)) .inr,fun i kn b e hd=>(hB.hs.regw i kn b e hd).elim (hXX b) fun h=>.inr (Nat.le_trans hA.hs.fr0.size h)⟩,
  fun b hb=>(E.same b (hA.hs.Isub b hb)).trans (hA.same b hb),fun i hi=>⟨hm.1 i (hA.kept i hi).1,M.same_trans (hA.kept i hi).2 (hm.2 i (hA.kept i hi).1)⟩,hB.lt⟩
 ·rcases hXX i hX with h | h
  ·exact h
  ·omega
 ·rcases hB.hs.Inew b hb with h | h | h
  ·exact hA.hs.Inew b h
  ·exact .inr (.inl (Nat.le_trans hA.hs.fr0.size h))
  ·rcases hXX b h with h | h
   ·exact .inr (.inr h)
   ·exact .inr (.inl h)
 ·rcases hB.hs.own i o b e hm hb with h | h
  ·exact hXX b h
  ·exact .inr (Nat.le_trans hA.hs.fr0.size h)
 ·rcases hB.hs.ownL i o b e hm hb with h | h
  ·obtain ⟨k,o,h1,h2,h3⟩:=(h:∃ (i:Nat) (o:Obj),os[i]?=some o/\o.live=true/\m.blk i=some b)
   exact hA.hs.ownL k o b (by rw [z6_];exact h1) h2 h3
  ·exact .inr (Nat.le_trans hA.hs.fr0.size h)
theorem ul_ (w:World) (l:Nat) (o:Go.Obj):Fr (fun b=>b=l) w (w.putObj l o):=
 ⟨rfl,rfl,rfl,by simp,fun k _ hk=>World.putObj_heap_other hk⟩
theorem Sta.turn (h:Sta n k0 X0 I0 w0 m0 fr st nx I w m a) {i:Nat} {r:Go.Loop} {c l:Nat} (hi:st.get i=some (.lrec r c)) (hl:m.blk i=some l) {o':Obj} {x:Go.Loop}
 (ho:o'=.dead\/∃ c',o'=.lrec r c'/\x=Ql_ r c'):Sta n k0 X0 I0 w0 m0 fr (st.set i o') nx I (w.putObj l (.loop x)) m a:=by
 obtain ⟨b,q1,q2⟩:=h.hs.H.obj i _ hi
 rw [hl] at q1;cases q1
 have hlt:=ZR_ q2
 have hne:∀ b,I b->b ≠ l:=fun b hb e=>by subst e;exact h.hs.H.notI i _ _ hi rfl hl hb
 have hsame:qF_ I w (w.putObj l (.loop x)):=fun b hb=>World.putObj_heap_other (hne b hb)
 have E:Evo I w m I (w.putObj l (.loop x)) m:=⟨fun _ h=>h,hsame,m.le_refl⟩
 have hg:∀ k,(st.set i o').get k=if k=i then some o' else st.get k:=fun k=>zc_.get_set st i o' k
 refine h.evo (hs':=?_) E (Nat.le_refl _) (fun _ h=>.inl h)
 refine h.hs.step E (· =i) (fun k hk=>by rw [hg,if_neg hk]) ?_ (fun b hb=>.inl hb) (fun b hb=>Nat.lt_of_lt_of_le (h.hs.H.Ilt b hb) (by simp)) ?_ ?_ ?_ ?_ ?_ (fun k wr kn hk e=>by subst hk;rw [hg,if_pos rfl] at e;rcases ho with rfl | ⟨c',rfl,rfl⟩<;>cases e) (fun b hb=>.inl hb)
 ·refine (ul_ w l _).weak fun b hb=>⟨i,_,rfl,hi,rfl,?_⟩
  subst hb;exact hl
 ·rintro k o rfl e
  rw [hg,if_pos rfl] at e;cases e
  refine ⟨h.hs.H.lt _ (by rw [hi];intro h;cases h),?_⟩
  rcases ho with rfl | ⟨c',rfl,rfl⟩
  ·trivial
  ·exact ⟨l,hl,World.putObj_heap_same hlt⟩
 ·rintro k o b rfl e hlv hb'
  exact .inr ⟨_,_,rfl,hi,rfl,fun _=>rfl,hb'⟩
 ·rintro k k' o o'' b rfl rfl _ _ _ _ _ _;rfl
 ·rintro k o b rfl e hm hb' hI
  rw [hl] at hb';cases hb'
  exact hne _ hI rfl
 ·rintro k t y b rfl e hb'
  rw [hg,if_pos rfl] at e
  rcases ho with rfl | ⟨c',rfl,rfl⟩<;>cases e
theorem bf_ (r:Go.Loop) (c:Nat) (jump:Option Code):({Ql_ r c with state:=if jump.isNone then .ready else .done,pending:=jump}:Go.Loop)={r with state:=if jump.isNone then .ready else .done,pending:=jump}:=by
 match c with
 | 0=>rfl
 | 1=>rfl
 | 2=>rfl
 | _+3=>rfl
theorem KY_ {I:Nat->Prop} {w w':World} (hk:∀ b o v,w.cell? ⟨b,o,none⟩=some v->w'.cell? ⟨b,o,none⟩=some v):∀ (t:Ty) (x:t.den) (cs:List Value),RC I w t x cs->RC I w' t x cs
 | .int _,_,_,h=>by simpa only [RC] using h
 | .bool,_,_,h=>by simpa only [RC] using h
 | .str,_,_,h=>by simpa only [RC] using h
 | .nil,_,_,h=>by simpa only [RC] using h
 | .cons a b,x,cs,h=>by
   simp only [RC] at h ⊢
   obtain ⟨c1,c2,rfl,h1,h2⟩:=h
   exact ⟨c1,c2,rfl,KY_ hk a _ _ h1,KY_ hk b _ _ h2⟩
 | .sl t,l,cs,h=>by
   simp only [RC] at h ⊢
   obtain ⟨ao,len,cap,rfl,h1,h2,h3,h4⟩:=h
   refine ⟨ao,len,cap,rfl,h1,h2,h3,fun h0=>?_⟩
   obtain ⟨b,o,rfl,hb,h5⟩:=h4 h0
   refine ⟨b,o,rfl,hb,fun i hi=>?_⟩
   obtain ⟨es,he,hc⟩:=h5 i hi
   exact ⟨es,KY_ hk t _ _ he,fun j hj=>hk _ _ _ (hc j hj)⟩
theorem VD_ {I:Nat->Prop} {w w':World} {m:M} (hk:∀ b o v,w.cell? ⟨b,o,none⟩=some v->w'.cell? ⟨b,o,none⟩=some v) {u:AV} {v:Value} (h:RV0 I w m u v):RV0 I w' m u v:=by
 cases u with
 | imm t x=>
   obtain ⟨ao,len,cap,rfl,h⟩:=h
   have:=KY_ hk (.sl t) x _ (xk_.2 ⟨ao,len,cap,rfl,h⟩)
   obtain ⟨ao',len',cap',he,h'⟩:=xk_.1 this
   exact ⟨ao',len',cap',by simpa using he,h'⟩
 | iptr t x i off=>
   obtain ⟨b,o,rfl,hb,hi,h⟩:=h
   refine ⟨b,o,rfl,hb,hi,fun i hi=>?_⟩
   obtain ⟨es,he,hc⟩:=h i hi
   exact ⟨es,KY_ hk t _ _ he,fun j hj=>hk _ _ _ (hc j hj)⟩
 | _=>exact h
theorem W4_ {I:Nat->Prop} {w w':World} {m:M} (hk:∀ b o v,w.cell? ⟨b,o,none⟩=some v->w'.cell? ⟨b,o,none⟩=some v):∀ {u:List AV} {v:List Value},z0_ I w m u v->z0_ I w' m u v
 | [],[],_=>trivial
 | _ :: _,_ :: _,h=>⟨VD_ hk h.1,W4_ hk h.2⟩
 | [],_ :: _,h=>h.elim
 | _ :: _,[],h=>h.elim
theorem GS_ {I:Nat->Prop} {w w':World} {m:M} (hk:∀ b o v,w.cell? ⟨b,o,none⟩=some v->w'.cell? ⟨b,o,none⟩=some v) {u:AV} {v:Value} (h:RV1 I w m u v):RV1 I w' m u v:=by
 rcases kP_ h with h' | ⟨l,cs,rfl,rfl,h'⟩
 ·exact KC_ (VD_ hk h')
 ·exact ⟨cs,rfl,W4_ hk h'⟩
theorem W2_ {I:Nat->Prop} {w w':World} {m:M} (hk:∀ b o v,w.cell? ⟨b,o,none⟩=some v->w'.cell? ⟨b,o,none⟩=some v):∀ {u:List AV} {v:List Value},q5_ I w m u v->q5_ I w' m u v
 | [],[],_=>trivial
 | _ :: _,_ :: _,h=>⟨GS_ hk h.1,W2_ hk h.2⟩
 | [],_ :: _,h=>h.elim
 | _ :: _,[],h=>h.elim
theorem zcp_ {I:Nat->Prop} {w w':World} {m:M} (hk:∀ b o v,w.cell? ⟨b,o,none⟩=some v->w'.cell? ⟨b,o,none⟩=some v) {u:AV} {v:Value} (h:RV I w m u v):RV I w' m u v:=by
 rcases XO_ h with rfl | ⟨rfl,rfl⟩ | h' | ⟨l,cs,rfl,rfl,h'⟩
 ·trivial
 ·rfl
 ·refine Jj_ ?_
  rcases QW_ h' with h' | ⟨f,l,c,fs,cs,rfl,rfl,h',h''⟩
  ·exact qz_ (GS_ hk h')
  ·exact ⟨fs,cs,rfl,W2_ hk h',W2_ hk h''⟩
 ·exact ⟨cs,rfl,W2_ hk h'⟩
theorem VG_ {I:Nat->Prop} {w w':World} (hk:∀ b o v,w.cell? ⟨b,o,none⟩=some v->w'.cell? ⟨b,o,none⟩=some v) {t:Ty} {x:List t.den} {cs:Array Value} (h:VH_ I w t x cs):VH_ I w' t x cs:=fun i hi=>by
 obtain ⟨es,h1,h2⟩:=h i hi
 exact ⟨es,KY_ hk t _ _ h1,h2⟩
theorem Ha_ {I:Nat->Prop} {w w':World} {m:M} (hk:∀ b o v,w.cell? ⟨b,o,none⟩=some v->w'.cell? ⟨b,o,none⟩=some v) (hh:∀ (b:Nat) (x:Go.Obj),(∀ ds,x ≠ Go.Obj.deferred ds)->w.heap[b]?=some x->w'.heap[b]?=some x) {i:Nat} {o:Obj} (h:zM_ I w m i o):zM_ I w' m i o:=by
 cases o with
 | dead=>trivial
 | reg wr kn=>trivial
 | rowm t x i0 L=>
   obtain ⟨h1,h2,h3,h4,h5,r,cl,b,vs,T,fz,h6,h7,h8,h9,h10,h11,h12,h13⟩:=h
   refine ⟨h1,h2,h3,h4,h5,r,cl,b,vs,T,fz,h6,h7,h8,h9,hh _ _ (fun _ h=>by cases h) h10,h11,h12,fun k hk'=>?_⟩
   obtain ⟨es,q1,q2,q3,q4,q5⟩:=h13 k hk'
   exact ⟨es,q1,fun h=>KY_ hk t _ _ (q2 h),q3,fun h=>W4_ hk (q4 h),q5⟩
 | box l=>obtain ⟨b,cs,T,fz,h1,h2,h3,h4⟩:=h;exact ⟨b,cs,T,fz,h1,hh _ _ (fun _ h=>by cases h) h2,h3,W4_ hk h4⟩
 | row fz t x=>
   obtain ⟨h1,h2,h3,h4,h5⟩:=h
   refine ⟨h1,h2,h3,h4,h5.imp id ?_⟩
   rintro ⟨b,cs,T,f,k1,k2,k3,k4,k5⟩
   exact ⟨b,cs,T,f,k1,hh _ _ (fun _ h=>by cases h) k2,k3,k4,VG_ hk k5⟩
 | map q kt vt l=>
   obtain ⟨b,es,c,h1,h2,h3⟩:=h
   exact ⟨b,es,c,h1,hh _ _ (fun _ h=>by cases h) h2,h3.1,fun i a b=>⟨⟨KY_ hk _ _ _ (h3.2.1 i a b).1.1,(h3.2.1 i a b).1.2⟩,⟨KY_ hk _ _ _ (h3.2.1 i a b).2.1,(h3.2.1 i a b).2.2⟩⟩,h3.2.2⟩
 | iter s p=>obtain ⟨b,t,h1,h2,h3⟩:=h;exact ⟨b,t,h1,hh _ _ (fun _ h=>by cases h) h2,h3⟩
 | lrec r c=>obtain ⟨b,h1,h2⟩:=h;exact ⟨b,h1,hh _ _ (fun _ h=>by cases h) h2⟩
 | miter v n s=>obtain ⟨b,mb,h1,h2,h3⟩:=h;exact ⟨b,mb,h1,hh _ _ (fun _ h=>by cases h) h2,VD_ hk h3⟩
 | rowp t x l c=>
   obtain ⟨h1,h2,h3,h4,q1,q2,q3,h5⟩:=h
   refine ⟨h1,h2,h3,h4,q1,q2,q3,h5.imp id ?_⟩
   rintro ⟨b,cs,T,f,k1,k2,k3,k4,k5⟩
   exact ⟨b,cs,T,f,k1,hh _ _ (fun _ h=>by cases h) k2,k3,k4,VG_ hk k5⟩
theorem Sta.shut (h:Sta n k0 X0 I0 w0 m0 fr st nx I w m a) {D:Nat} (hDI:I D) (h0:w0.heap.size<=D) (hD:w.heap[D]?=some (.deferred (some []))) (hI0:∀ b,I0 b->b < w0.heap.size) {ds:List Deferred}
 (hds:ds.Nodup/\∀ d ∈ ds,∃ D',d={target:=.collected D',args:=#[]}/\D' ≠ D/\I D'/\w0.heap.size<=D'/\w.heap[D']?=some (.deferred (some []))):
 Sta n k0 X0 I0 w0 m0 fr st nx I (w.putObj D (.deferred none)) m {a with defers:=ds}:=by
 have other:∀ b,b ≠ D->(w.putObj D (.deferred none)).heap[b]?=w.heap[b]?:=fun b hb=>World.putObj_heap_other hb
 have hk:∀ b o v,w.cell? ⟨b,o,none⟩=some v->(w.putObj D (.deferred none)).cell? ⟨b,o,none⟩=some v:=fun b o v hv=>by
  have hb:b ≠ D:=fun e=>by subst e;simp [World.cell?,hD] at hv
  simp only [World.cell?,other b hb] at hv ⊢;exact hv
 have hh:∀ (b:Nat) (x:Go.Obj),(∀ ds,x ≠ Go.Obj.deferred ds)->w.heap[b]?=some x->(w.putObj D (.deferred none)).heap[b]?=some x:=fun b x hx he=>by
  have hb:b ≠ D:=fun e=>by subst e;rw [hD] at he;cases he;exact hx _ rfl
  rw [other b hb];exact he
 refine ⟨h.size,⟨hds.1,fun d hd=>?_⟩,fun i=>zcp_ hk (h.f i),⟨⟨h.hs.H.lt,fun i o e=>Ha_ hk hh (h.hs.H.obj i o e),h.hs.H.inj,h.hs.H.notI,h.hs.H.isI,fun b hb=>Nat.lt_of_lt_of_le (h.hs.H.Ilt b hb) (by simp),fun i wr kn b e hd=>?_,h.hs.H.rdj⟩,?_,h.hs.Isub,h.hs.Inew,h.hs.own,h.hs.ownL,fun b hb=>(h.hs.Ifz b hb).imp id fun hf=>?_,h.hs.regw⟩,fun b hb=>?_,h.kept,h.lt⟩
 ·obtain ⟨D',e,h1,h2,h3,h4⟩:=hds.2 d hd
  exact ⟨D',e,h2,h3,(other D' h1).trans h4⟩
 ·obtain ⟨g1,g2,g3,g4⟩:=h.hs.H.gar i wr kn b e hd
  exact ⟨Nat.lt_of_lt_of_le g1 (by simp),g2,g3,g4.same (other b fun e=>g2 (e ▸ hDI))⟩
 ·exact h.hs.fr0.trans (ul_ w D _) fun i hi e=>by omega
 ·by_cases hbD:b=D
  ·subst hbD
   intro cs T fz e
   rw [World.putObj_heap_same (ZR_ hD)] at e;cases e
  ·exact hf.same (other b hbD)
 ·have:=hI0 b hb
  rw [other b (by omega)];exact h.same b hb
theorem JK_ {P:Program} {F:Fence} {j:Nat} {fn:Func} {R:Ending->World->Prop} (hI0:∀ b,I0 b->b < w0.heap.size)
 (fin:∀ w'' a'',a''.tmps=a.tmps->Sta n k0 X0 I0 w0 m0 fr st nx I w'' m a''->∃ v,(results fn a.tmps).run P w''=.ok v w''/\R (.returned v) w''):
 ∀ (ds:List Deferred) (w:World) (a':Act),a'.tmps=a.tmps->a'.defers=ds->Sta n k0 X0 I0 w0 m0 fr st nx I w m a'->LeavesInM F j P fn a.tmps R ds .returning w
 | [],w,a',ht,hd,h=>fin w a' ht h
 | d :: ds,w,a',ht,hd,h=>by
   have hD:=h.defers
   rw [hd] at hD
   obtain ⟨D,rfl,h1,h2,h3⟩:=hD.2 d (List.mem_cons_self ..)
   refine ⟨by simp,.inl ⟨D,_,rfl,run_takeDeferred h3,?_⟩⟩
   refine JK_ hI0 fin ds _ {a' with defers:=ds} ht rfl (h.shut h1 h2 h3 hI0 ⟨(List.nodup_cons.1 hD.1).2,fun d' hd'=>?_⟩)
   obtain ⟨D',e,g1,g2,g3⟩:=hD.2 d' (List.mem_cons_of_mem _ hd')
   refine ⟨D',e,fun e'=>?_,g1,g2,g3⟩
   subst e';subst e
   exact (List.nodup_cons.1 hD.1).1 hd'
theorem Sta.enter (h:Sta n k0 X0 I0 w0 m0 fr (KP_ 0 os) os.length I w m a) {lr:Go.Loop} (hlr:Ql_ lr 0=lr):
 Sta n k0 X0 I0 w0 m0 fr (KP_ 0 (os++[.lrec lr 0])) (os.length+1) (fun b=>I b\/b=w.heap.size) ((w.alloc (.deferred (some []))).alloc (.loop lr)) (m.push os.length (some (w.heap.size+1)) 0 0 0)
  {a with defers:={target:=.collected w.heap.size,args:=#[]} :: a.defers}:=by
 have hnu:¬ m.used os.length:=fun hu=>by have:=h.lt _ hu;omega
 obtain ⟨w1,hw1⟩:∃ w1,(w.alloc (.deferred (some []))).alloc (.loop lr)=w1:=⟨_,rfl⟩
 rw [hw1]
 have hsz:w1.heap.size=w.heap.size+2:=by rw [<- hw1,World.size_alloc,World.size_alloc]
 have hL:w1.heap[w.heap.size+1]?=some (.loop lr):=by
  rw [<- hw1];have:=World.alloc_heap_new (w.alloc (.deferred (some []))) (.loop lr);rwa [World.size_alloc] at this
 have hD:w1.heap[w.heap.size]?=some (.deferred (some [])):=by
  rw [<- hw1];exact (Below.heap_alloc _ _ _ (by simp)).trans (World.alloc_heap_new w _)
 have hold:∀ b,b < w.heap.size->w1.heap[b]?=w.heap[b]?:=fun b hb=>by
  rw [<- hw1];exact (Below.heap_alloc _ _ _ (by simp;omega)).trans (Below.heap_alloc _ _ _ hb)
 have hfr:∀ X,Fr X w w1:=fun X=>by rw [<- hw1];exact (Fr.alloc X w _).trans (Fr.alloc X _ _) fun _ _ h=>h
 have E:Evo I w m (fun b=>I b\/b=w.heap.size) w1 (m.push os.length (some (w.heap.size+1)) 0 0 0):=⟨fun _ h=>.inl h,fun b hb=>hold b (h.hs.H.Ilt b hb),M.push_le hnu⟩
 have hg:∀ i,(KP_ 0 (os++[.lrec lr 0])).get i=if i=os.length then some (.lrec lr 0) else (KP_ 0 os).get i:=fun i=>by
  rw [z6_,z6_];unfold ofL
  split
  ·rename_i e;subst e;simp
  ·rename_i e
   rcases Nat.lt_or_ge i os.length with hlt | hge
   ·rw [List.getElem?_append_left hlt]
   ·rw [List.getElem?_eq_none (by simp;omega),List.getElem?_eq_none hge]
 have hS:HS X0 I0 w0 (KP_ 0 (os++[.lrec lr 0])).get (fun b=>I b\/b=w.heap.size) w1 (m.push os.length (some (w.heap.size+1)) 0 0 0):=by
  refine h.hs.step E (· =os.length) (fun i hi=>by rw [hg,if_neg hi]) (hfr _) (fun b hb=>?_) (fun b hb=>?_) ?_ ?_ ?_ ?_ ?_ (fun i wr kn hi e=>by subst hi;rw [hg,if_pos rfl] at e;cases e) (fun b hb=>hb.imp id fun h cs T fz e0=>by subst h;rw [hD] at e0;cases e0)
  ·rcases hb with hb | hb
   ·exact .inl hb
   ·exact .inr (.inl (by omega))
  ·rcases hb with hb | hb
   ·have:=h.hs.H.Ilt b hb;omega
   ·omega
  ·rintro i o rfl e
   rw [hg,if_pos rfl] at e;cases e
   exact ⟨.inr rfl,_,M.push_blk _ _ _ _ _ _,by rw [hlr];exact hL⟩
  ·rintro i o b rfl e _ hb
   rw [M.push_blk] at hb;cases hb
   exact .inl (by omega)
  ·rintro i k o o' b rfl rfl _ _ _ _ _ _;rfl
  ·rintro i o b rfl e _ hb hI
   rw [M.push_blk] at hb;cases hb
   rcases hI with hI | hI
   ·have:=h.hs.H.Ilt _ hI;omega
   ·omega
  ·rintro i t x b rfl e
   rw [hg,if_pos rfl] at e;cases e
 refine ⟨h.size,⟨List.nodup_cons.2 ⟨fun hm=>?_,h.defers.1⟩,fun d hd=>?_⟩,h.f.evo E,hS,fun b hb=>(E.same b (h.hs.Isub b hb)).trans (h.same b hb),fun i hi=>⟨E.m.1 i (h.kept i hi).1,M.same_trans (h.kept i hi).2 (E.m.2 i (h.kept i hi).1)⟩,fun i hi=>?_⟩
 ·obtain ⟨D,e,h1,_,_⟩:=h.defers.2 _ hm
  simp only [Deferred.mk.injEq,Target.collected.injEq] at e
  have:=h.hs.H.Ilt D h1;omega
 ·rcases List.mem_cons.1 hd with rfl | hd
  ·exact ⟨_,rfl,.inr rfl,h.hs.fr0.size,hD⟩
  ·exact (h.defers.evo E.up E.same).2 d hd
 ·rcases hi with hi | hi
  ·have:=h.lt i hi;omega
  ·omega
end
end Go.Eng
