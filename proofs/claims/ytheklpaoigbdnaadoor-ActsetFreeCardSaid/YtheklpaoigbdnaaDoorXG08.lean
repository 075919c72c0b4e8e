/- Parts of the proof: ECode. No condition. -/
import Derived.Test.YtheklpaoigbdnaaDoorXG07
import Derived.LoopN
namespace Go.Eng
set_option linter.unusedVariables false
set_option linter.unusedSimpArgs false
open Go.RowKit
inductive Ex where
 | normal
 | exit (i:Nat)
 | ret
abbrev qy_:=Ex->zd_->za_->Nat->Prop
def qd_ (g:Option (Nat × Bool)) (fr:zd_) (run skip:zd_->Prop):Prop:=match g with
 | none=>run fr
 | some (g,b)=>match fr.get g with
   | .bool t=>cnd t (match b with | true=>run ((g,.kb true) :: fr) | false=>skip ((g,.kb true) :: fr)) (match b with | true=>skip ((g,.kb false) :: fr) | false=>run ((g,.kb false) :: fr))
   | .kb t=>match t,b with
     | true,true=>run fr
     | false,false=>run fr
     | true,false=>skip fr
     | false,true=>skip fr
   | .skp=>skip fr
   | _=>False
def kF_ (d:Option Nat) (v:AV) (fr:zd_):zd_:=match d with | none=>fr | some d=>(d,v) :: fr
def kS_ (d:Option Nat) (v:AV) (fr:zd_) (K:zd_->Prop):Prop:=match d with | none=>K fr | some d=>K ((d,v) :: fr)
theorem Wc_ (d:Option Nat) (v:AV) (fr:zd_) (K:zd_->Prop):kS_ d v fr K=K (kF_ d v fr):=by cases d<;>rfl
def YE_:List Nat->zd_->(zd_->Prop)->Prop
 | [],_,K=>K []
 | i :: r,fr,K=>kZ_ (fr.get i) fun v=>YE_ r fr fun t=>K ((i,v) :: t)
def Wv_ (l:List Nat) (fr:zd_):zd_:=l.map fun i=>(i,fr.get i)
theorem YD_:∀ (l:List Nat) (fr:zd_) (K:zd_->Prop),YE_ l fr K=K (Wv_ l fr)
 | [],_,_=>rfl
 | i :: r,fr,K=>by unfold YE_;rw [QU_];exact YD_ r fr _
def W4_:za_->(za_->Prop)->Prop
 | [],K=>K []
 | (i,o) :: r,K=>W4_ r fun r=>K ((i,o) :: r)
theorem XD_:∀ (st:za_) (K:za_->Prop),W4_ st K=K st
 | [],_=>rfl
 | (i,o) :: r,K=>by unfold W4_;exact XD_ r _
def k3_ (Γ:Env) (l:List IOper):zd_->za_->Nat->(zd_->za_->Nat->Prop)->Prop:=
 List.rec (motive:=fun _=>zd_->za_->Nat->(zd_->za_->Nat->Prop)->Prop) (fun fr st nx K=>K fr st nx)
  (fun x _ ih fr st nx K=>qd_ x.guard fr (fun fr=>zl_ Γ x.op fr st nx fun v st nx=>xM_ nx fun nx=>kS_ x.dst v fr fun fr=>ih fr st nx K) fun fr=>kS_ x.dst .skp fr fun fr=>ih fr st nx K) l
theorem WR_ {Γ:Env} {x:IOper} {l:List IOper} {fr:zd_} {st:za_} {nx:Nat} {K:zd_->za_->Nat->Prop}:k3_ Γ (x :: l) fr st nx K=qd_ x.guard fr (fun fr=>zl_ Γ x.op fr st nx fun v st nx=>k3_ Γ l (kF_ x.dst v fr) st nx K) fun fr=>k3_ Γ l (kF_ x.dst .skp fr) st nx K:=by
 show qd_ x.guard fr (fun fr=>zl_ Γ x.op fr st nx fun v st nx=>xM_ nx fun nx=>kS_ x.dst v fr fun fr=>k3_ Γ l fr st nx K) (fun fr=>kS_ x.dst .skp fr fun fr=>k3_ Γ l fr st nx K)=_
 simp only [Ki_,Wc_]
def yd_ (io:IOp) (fr:zd_):List Nat:=match io with
 | .call _ f args=>yO_ f args fr
 | .box _ | .boxv _ | .slice0 _ | .mkrow _ _ _ _ _=>[]
 | .store _ x y=>q7_ x y fr
 | io=>match io.pure with | true=>[] | false=>zY_ io.opds fr
def jA_ (Γ:Env) (io:IOp) (fr:zd_):Bool:=match io with
 | .call _ f _=>Vd_ Γ (f.ev fr)
 | .store _ _ _ | .sliceAll _ _ _ | .sliceOwn _ _ _ | .append _ _ _ _ | .copy _ _ _ | .sliceX _ _ _ | .copyP _ _ _ | .appendzP _ _ _ _ _ | .clr _ _ _=>true
 | _=>false
def yu_:IOp->Bool | .call _ _ _=>true | _=>false
def IOp.sup:IOp->Bool
 | .calln _ _ | .capp _=>false
 | _=>true
def IOp.supS (o:IOp):Bool:=match o with | .calln _ _=>true | .capp _=>true | o=>o.sup
theorem Uf_ {P:Program} {Γ:Env} {o:Oper} {io:IOp} {fr:zd_} {F:Nat->Prop} {st:za_} {nx:Nat} {K:AV->za_->Nat->Prop} (hΓ:ZR_ P Γ) (hst:∀ i,st.get i ≠ none->i < nx) (hsup:io.sup=true) (hok:zp_ P o.op io=true)
 (hcl:yu_ io=true->JO_ st F) (hfoot:∀ i ∈ yd_ io fr,F i) (ev:zl_ Γ io fr st nx K):qP_ P o io.opds fr F (jA_ Γ io fr) st nx K:=by
 by_cases hp:io.pure=true
 ·exact qP_.of (F:=[]) (wr:=false) (Un_ (Uc_ hp hok ev)) (fun i hi=>(by cases hi)) (fun h=>(by cases h))
 ·cases io with
  | len=>exact qP_.of (wr:=false) (gQ_ hok ev) hfoot (fun h=>(by cases h))
  | indexSl=>exact qP_.of (wr:=false) (YS_ hok ev) hfoot (fun h=>(by cases h))
  | load=>exact qP_.of (wr:=false) (Us_ hok ev) hfoot (fun h=>(by cases h))
  | loadI=>exact qP_.of (wr:=false) (up_ hok ev) hfoot (fun h=>(by cases h))
  | slice=>exact qP_.of (wr:=false) (V9_ hok ev) hfoot (fun h=>(by cases h))
  | b2s=>exact qP_.of (wr:=false) (g8_ hok ev) hfoot (fun h=>(by cases h))
  | box=>exact qP_.of (F:=[]) (wr:=false) (g6_ hok ev) (fun i hi=>(by cases hi)) (fun h=>(by cases h))
  | boxv=>exact qP_.of (F:=[]) (wr:=false) (U7_ hok ev) (fun i hi=>(by cases hi)) (fun h=>(by cases h))
  | sliceOwn=>exact qP_.of (XV_ hok ev) hfoot (fun _=>rfl)
  | slice0=>exact qP_.of (F:=[]) (wr:=false) (vu_ hok ev) (fun i hi=>(by cases hi)) (fun h=>(by cases h))
  | mkrow=>exact qP_.of (F:=[]) (wr:=false) (um_ hok ev) (fun i hi=>(by cases hi)) (fun h=>(by cases h))
  | sliceAll=>exact qP_.of (XW_ hok ev) hfoot (fun _=>rfl)
  | store=>exact qP_.of (V6_ hok ev) hfoot (fun _=>rfl)
  | append=>exact qP_.of (Vi_ hok ev) hfoot (fun _=>rfl)
  | copy=>exact qP_.of (UV_ hok ev) hfoot (fun _=>rfl)
  | sliceX=>exact qP_.of (vs_ hok ev) hfoot (fun _=>rfl)
  | sliceP=>exact qP_.of (wr:=false) (vt_ hok ev) hfoot (fun h=>(by cases h))
  | ovl=>exact qP_.of (wr:=false) (gI_ hok ev) hfoot (fun h=>(by cases h))
  | copyP=>exact qP_.of (uF_ hok ev) hfoot (fun _=>rfl)
  | appendzP=>exact qP_.of (yR_ hok ev) hfoot (fun _=>rfl)
  | clr=>exact qP_.of (g5_ hok ev) hfoot (fun _=>rfl)
  | call=>exact U3_ hΓ hst hok (hcl rfl) hfoot ev
  | _=>first | exact absurd rfl hp | cases hsup
def qs_:List Nat->(List Nat->Prop)->Prop
 | [],K=>K []
 | i :: r,K=>xM_ i fun i=>qs_ r fun r=>K (i :: r)
theorem Kn_:∀ (l:List Nat) (K:List Nat->Prop),qs_ l K=K l
 | [],_=>rfl
 | i :: r,K=>by unfold qs_;rw [Ki_];exact Kn_ r _
def Zi_ (st:za_):List Nat->List Nat
 | []=>[]
 | i :: r=>match st.get i with
   | some o=>o.ids++Zi_ st r
   | none=>Zi_ st r
def UX_ (st:za_) (l:List Nat):List Nat:=
 l++(Zi_ st l++(Zi_ st (Zi_ st l)++Zi_ st (Zi_ st (Zi_ st l))))
def Va_ (st:za_) (l:List Nat) (K:List Nat->Prop):Prop:=
 qs_ l fun l=>qs_ (Zi_ st l) fun a=>qs_ (Zi_ st a) fun b=>qs_ (Zi_ st b) fun c=>qs_ (l++(a++(b++c))) K
theorem uH_ (st:za_) (l:List Nat) (K:List Nat->Prop):Va_ st l K=K (UX_ st l):=by
 unfold Va_ UX_;simp only [Kn_]
def gt_:List Nat->List Nat->Bool
 | [],_=>true
 | i :: r,l=>match KZ_ i l with | true=>gt_ r l | false=>false
def VS_ (st:za_) (F:List Nat):Bool:=gt_ (Zi_ st F) F
theorem VH_ {i:Nat}:∀ {l:List Nat},KZ_ i l=true->i ∈ l
 | [],h=>by cases h
 | j :: r,h=>by
   unfold KZ_ at h
   cases hb:Nat.beq j i with
   | true=>rw [Nat.eq_of_beq_eq_true hb];exact List.mem_cons_self ..
   | false=>rw [hb] at h;exact List.mem_cons_of_mem _ (VH_ h)
theorem Vx_:∀ {l r:List Nat},gt_ l r=true->∀ i ∈ l,i ∈ r
 | [],_,_=>fun i hi=>by cases hi
 | j :: l,r,h=>fun i hi=>by
   unfold gt_ at h
   cases hb:KZ_ j r with
   | true=>
     rw [hb] at h
     rcases List.mem_cons.1 hi with rfl | hi
     ·exact VH_ hb
     ·exact Vx_ h i hi
   | false=>rw [hb] at h;cases h
theorem JS_ {st:za_}:∀ {F:List Nat} {i:Nat} {l:Obj},i ∈ F->st.get i=some l->∀ j ∈ l.ids,j ∈ Zi_ st F
 | [],_,_,h,_=>by cases h
 | k :: r,i,l,h,hg=>fun j hj=>by
   unfold Zi_
   rcases List.mem_cons.1 h with rfl | h
   ·rw [hg];exact List.mem_append.2 (.inl hj)
   ·have:=JS_ h hg j hj
    split
    ·exact List.mem_append.2 (.inr this)
    ·exact this
theorem v8_ {st:za_} {F:List Nat} (h:VS_ st F=true):JO_ st (· ∈ F):=fun i hi l hg j hj=>Vx_ h j (JS_ hi hg j hj)
def Xn_ (io:IOp) (fr:zd_) (st:za_) (K:List Nat->Prop):Prop:=match yu_ io with
 | true=>Va_ st (yd_ io fr) fun F=>match VS_ st F with | true=>K F | false=>False
 | false=>qs_ (yd_ io fr) K
theorem YU_ {io:IOp} {fr:zd_} {st:za_} {K:List Nat->Prop} (h:Xn_ io fr st K):∃ F,K F/\(yu_ io=true->JO_ st (· ∈ F))/\∀ i ∈ yd_ io fr,i ∈ F:=by
 unfold Xn_ at h
 cases hc:yu_ io with
 | true=>
   rw [hc] at h
   simp only [uH_] at h
   split at h
   ·rename_i hb;exact ⟨_,h,fun _=>v8_ hb,fun i hi=>List.mem_append.2 (.inl hi)⟩
   ·exact h.elim
 | false=>
   rw [hc] at h
   simp only [Kn_] at h
   exact ⟨_,h,fun e=>(by cases e),fun i hi=>hi⟩
def YW_ (st st1:za_):List Nat->List Nat
 | []=>[]
 | i :: r=>match YX_ st st1 i with | true=>i :: YW_ st st1 r | false=>YW_ st st1 r
theorem Xo_ {st st1:za_}:∀ {F:List Nat} {i:Nat},i ∈ F->YX_ st st1 i=true->i ∈ YW_ st st1 F
 | [],_,h,_=>by cases h
 | j :: r,i,h,hb=>by
   unfold YW_
   rcases List.mem_cons.1 h with rfl | h
   ·rw [hb];exact List.mem_cons_self ..
   ·have:=Xo_ h hb
    split
    ·exact List.mem_cons_of_mem _ this
    ·exact this
def Z7_:Nat->Nat->List Nat
 | _,0=>[]
 | i,n+1=>i :: Z7_ (i+1) n
theorem w9_:∀ {n i k:Nat},i<=k->k < i+n->k ∈ Z7_ i n
 | 0,i,k,h1,h2=>by omega
 | n+1,i,k,h1,h2=>by
   unfold Z7_
   by_cases e:k=i
   ·rw [e];exact List.mem_cons_self ..
   ·exact List.mem_cons_of_mem _ (w9_ (by omega) (by omega))
def wrL (wr:Bool) (F:List Nat) (st st1:za_) (nx nx1:Nat):List Nat:=(match wr with | true=>F | false=>YW_ st st1 F)++Z7_ nx (nx1 - nx)
def QX_ (hist:List (List Nat × List Nat)) (F W:List Nat):List Nat->Bool
 | []=>true
 | j :: r=>match hist.drop j with
   | (Fj,Wj) :: _=>match jZ_ Wj F with
     | true=>match jZ_ Fj W with
       | true=>QX_ hist F W r
       | false=>false
     | false=>false
   | []=>false
def Jz_:List (List Nat × List Nat)->List Nat->List Nat->List Nat->Bool
 | _,_,_,[]=>true
 | h,F,W,g :: r=>match h.drop g with
   | (Fj,Wj) :: t=>match jZ_ Wj F with
     | true=>match jZ_ Fj W with
       | true=>Jz_ t F W r
       | false=>false
     | false=>false
   | []=>false
def JA_ (h:List (List Nat × List Nat)) (F W us:List Nat):Bool:=match F with
 | []=>match W with
   | []=>true
   | _ :: _=>Jz_ h F W us
 | _ :: _=>Jz_ h F W us
def kn_ (Γ:Env) (l:List (IOper × List Nat)):List (List Nat × List Nat)->zd_->za_->Nat->(zd_->za_->Nat->Prop)->Prop:=
 List.rec (motive:=fun _=>List (List Nat × List Nat)->zd_->za_->Nat->(zd_->za_->Nat->Prop)->Prop) (fun _ fr st nx K=>K fr st nx)
  (fun x _ ih hist fr st nx K=>qd_ x.1.guard fr
    (fun fr=>Xn_ x.1.op fr st fun F=>zl_ Γ x.1.op fr st nx fun v st1 nx1=>xM_ nx1 fun nx1=>qs_ (wrL (jA_ Γ x.1.op fr) F st st1 nx nx1) fun W=>match JA_ hist F W x.2 with
      | true=>kS_ x.1.dst v fr fun fr=>ih ((F,W) :: hist) fr st1 nx1 K
      | false=>False)
    fun fr=>kS_ x.1.dst .skp fr fun fr=>ih (([],[]) :: hist) fr st nx K) l
def usA:Nat->List Nat->List Nat
 | _,[]=>[]
 | k,g :: r=>(k - 1 - g) :: usA (k - 1 - g) r
def k8_:Nat->List (IOper × List Nat)->List (IOper × List Nat)
 | _,[]=>[]
 | k,x :: r=>(x.1,usA k x.2) :: k8_ (k+1) r
theorem Xw_ {full:List (List Nat × List Nat)} {F W:List Nat}:∀ {us:List Nat} {k:Nat},k<=full.length->Jz_ (full.take k).reverse F W us=true->QX_ full F W (usA k us)=true
 | [],_,_,_=>rfl
 | g :: r,k,hk,h=>by
   unfold Jz_ at h
   split at h
   ·rename_i Fj Wj t hd
    have hl:g < (full.take k).reverse.length:=by
     rcases Nat.lt_or_ge g (full.take k).reverse.length with h' | h'
     ·exact h'
     ·rw [List.drop_of_length_le h'] at hd;cases hd
    have hgk:g < k:=by rw [List.length_reverse,List.length_take] at hl;omega
    rw [List.drop_eq_getElem_cons hl] at hd
    injection hd with h1 h2
    have e1:full[k - 1 - g]?=some (Fj,Wj):=by
     rw [<- h1,List.getElem_reverse,List.getElem_take,List.getElem?_eq_getElem (by omega)]
     simp only [List.length_take,Nat.min_eq_left hk]
    have e2:(full.take (k - 1 - g)).reverse=t:=by
     rw [<- h2,List.drop_reverse,List.length_take,Nat.min_eq_left hk,List.take_take,Nat.min_eq_left (by omega),show k - 1 - g=k - (g+1) by omega]
    have e3:full.drop (k - 1 - g)=(Fj,Wj) :: full.drop (k - 1 - g+1):=by
     have hlt:k - 1 - g < full.length:=by omega
     rw [List.drop_eq_getElem_cons hlt]
     rw [List.getElem?_eq_getElem hlt] at e1
     rw [Option.some.inj e1]
    split at h
    ·rename_i d1
     split at h
     ·rename_i d2
      show QX_ full F W ((k - 1 - g) :: usA (k - 1 - g) r)=true
      unfold QX_
      rw [e3]
      simp only []
      rw [d1];simp only []
      rw [d2];simp only []
      exact Xw_ (by omega) (by rw [e2];exact h)
     ·cases h
    ·cases h
   ·cases h
theorem Xv_ {hist:List (List Nat × List Nat)}:∀ {us:List Nat},(∀ j ∈ us,j < hist.length)->QX_ hist [] [] us=true
 | [],_=>rfl
 | j :: r,h=>by
   have hj:=h j (List.mem_cons_self ..)
   unfold QX_
   rw [List.drop_eq_getElem_cons hj]
   generalize hist[j]=x
   obtain ⟨Fj,Wj⟩:=x
   have d1:∀ l:List Nat,jZ_ l []=true:=fun l=>by induction l with
    | nil=>rfl
    | cons a t ih=>exact ih
   simp only [d1,jZ_]
   exact Xv_ fun j hj=>h j (List.mem_cons_of_mem _ hj)
theorem uG_ {full:List (List Nat × List Nat)} {F W us:List Nat} {k:Nat} (hk:full.length=k) (hu:∀ j ∈ usA k us,j < k) (h:JA_ full.reverse F W us=true):QX_ full F W (usA k us)=true:=by
 have key:Jz_ full.reverse F W us=true->QX_ full F W (usA k us)=true:=fun h=>Xw_ (by omega) (by rw [List.take_of_length_le (by omega)];exact h)
 unfold JA_ at h
 split at h
 ·split at h
  ·exact Xv_ fun j hj=>by rw [hk];exact hu j hj
  ·exact key h
 ·exact key h
def qy_.block (id:Nat) (K:qy_):qy_:=fun e fr st nx=>match e with
 | .exit i=>match Nat.beq i id with | true=>K .normal fr st nx | false=>K (.exit i) fr st nx
 | .normal=>K .normal fr st nx
 | .ret=>K .ret fr st nx
def qy_.seq (n:zd_->za_->Nat->Prop) (K:qy_):qy_:=fun e fr st nx=>match e with
 | .normal=>n fr st nx
 | .exit i=>K (.exit i) fr st nx
 | .ret=>K .ret fr st nx
def uT_ (body:qy_->zd_->za_->Nat->Prop) (K:qy_):Nat->zd_->za_->Nat->Prop
 | 0,_,_,_=>False
 | n+1,fr,st,nx=>body (K.seq fun fr st nx=>uT_ body K n fr st nx) fr st nx
def q0_:Nat->List Obj->za_
 | _,[]=>[]
 | i,o :: r=>(i,o) :: q0_ (i+1) r
def Z0_:List Nat->List AV->zd_
 | i :: l,v :: r=>(i,v) :: Z0_ l r
 | _,_=>[]
def V3_:Nat->List Nat:=fun k=>Z7_ 0 k
def yM_ (k0:Nat) (live:List Nat) (fr:zd_) (st:za_) (K:List AV->List Obj->Prop):Prop:=
 jH_ (live.map fr.get) fun vs=>j1_ vs (V3_ k0) fun vs ρ=>qX_ st 1000 0 ρ fun os _=>K vs os
def hp_ (k0:Nat) (body:qy_->zd_->za_->Nat->Prop) (K:qy_) (fr:zd_) (st:za_) (nx:Nat):Prop:=∀ r:Prop,
 ((∃ n,uT_ body K n fr st nx)->r)->
 ((∃ (live:List Nat) (α:Type) (J:α->Prop) (V:α->List AV) (O:α->List Obj) (μ:α->Nat),yM_ k0 live fr st (fun vs os=>∃ a,J a/\vs=V a/\os=O a)/\
   ∀ a,J a->body (K.seq fun fr st _=>yM_ k0 live fr st fun vs os=>post (∃ a',J a'/\μ a' < μ a/\vs=V a'/\os=O a')) (Z0_ live (V a)) (q0_ 0 (O a)) (O a).length)->r)->r
def hU_ (k0:Nat) (body:qy_->zd_->za_->Nat->Prop) (K:qy_) (fr:zd_) (st:za_) (nx:Nat):Prop:=∀ r:Prop,
 (body K fr st nx->r)->
 ((∃ (live:List Nat) (α:Type) (V:α->List AV) (O:α->List Obj),body (K.seq fun fr st _=>yM_ k0 live fr st fun vs os=>post (∃ a,vs=V a/\os=O a)) fr st nx/\
   ∀ a,K .normal (Z0_ live (V a)) (q0_ 0 (O a)) (O a).length)->r)->r
def Xk_ (c:Opd) (b:Bool) (fr:zd_):zd_:=match c with | .t i=>(i,.kb b) :: fr | _=>fr
def W5_:Nat->List AV->zd_
 | _,[]=>[]
 | k,v :: r=>(k,v) :: W5_ (k+1) r
abbrev Hd:=Nat->List Nat->List Opd->zd_->za_->Nat->(Bool->zd_->za_->Nat->Prop)->Prop
def hd0:Hd:=fun _ _ _ _ _ _ _=>False
def qz_:List Opd->List Nat
 | []=>[]
 | .t i :: r=>i :: qz_ r
 | .c _ :: r=>qz_ r
 | .f _ :: r=>qz_ r
def Uu_:List Opd->List Nat->Bool
 | [],[]=>true
 | _ :: r,_ :: l=>Uu_ r l
 | _,_=>false
theorem Ws_:∀ {l:List Opd} {r:List Nat},Uu_ l r=true->l.length=r.length
 | [],[],_=>rfl
 | _ :: l,_ :: r,h=>by
   have:=Ws_ (l:=l) (r:=r) h
   simp [this]
 | [],_ :: _,h=>by cases h
 | _ :: _,[],h=>by cases h
def leB:List AV->Nat->Bool
 | [],_=>true
 | _ :: r,n+1=>leB r n
 | _ :: _,0=>false
theorem Uv_:∀ {l:List AV} {n:Nat},leB l n=true->l.length<=n
 | [],_,_=>Nat.zero_le _
 | _ :: r,n+1,h=>by
   have:=Uv_ (l:=r) (n:=n) h
   simp;omega
 | _ :: _,0,h=>by cases h
def lay (p:Prop):Prop:=p\/False
abbrev Wk:=Nat->Hd->qy_->zd_->za_->Nat->Prop
def Y2_ (n c:Nat) (st:za_) (K:za_->Prop):Prop:=match st.get n with
 | some (.lrec r _)=>st.setK n (.lrec r c) K
 | _=>False
def hB_ (n:Nat) (frc:zd_) (KY:Bool->zd_->za_->Nat->Prop):qy_:=fun e _ st nx=>match e with
 | .normal=>Y2_ n 0 st fun st=>KY true frc st nx
 | .ret=>Y2_ n 2 st fun st=>KY false frc st nx
 | .exit i=>Y2_ n (i+3) st fun st=>KY false frc st nx
def hC_ (n nb:Nat) (frc:zd_) (body:Wk) (KY:Bool->zd_->za_->Nat->Prop):qy_:=fun e fr st nx=>match e with
 | .normal=>match st.get n with
   | some (.lrec r c)=>match c with
     | 0=>st.setK n (.lrec r 1) fun st=>body nb hd0 (hB_ n frc KY) fr st nx
     | _+1=>False
   | _=>False
 | _=>False
def hdR (n:Nat) (lr:Go.Loop) (l:Nat) (us:List AV) (ps lv:List Nat) (asg body:Wk):Hd:=fun l' lvg args fr st nx KY=>
 yM_ (n+1) (lvg++qz_ args) fr st fun vs os=>xM_ os.length fun nb=>match (q0_ 0 os).get n with
  | some (.lrec r c)=>match c with
    | 0=>match Uu_ args ps with
      | true=>need (l'=l/\r=lr) (asg nb hd0 (hC_ n nb (Z0_ (lvg++qz_ args) vs) body KY) (Z0_ ps (args.map (·.ev (Z0_ (lvg++qz_ args) vs)))++Z0_ lv us) (q0_ 0 os) nb)
      | false=>False
    | _+1=>False
  | _=>False
def g0_ (n:Nat) (fr:zd_) (K:qy_) (st:za_) (nx:Nat):Prop:=match st.get n with
 | some (.lrec _ c)=>st.setK n .dead fun st=>match c with
   | 0=>K .normal fr st nx
   | 1=>False
   | 2=>K .ret fr st nx
   | c+3=>K (.exit c) fr st nx
 | _=>False
def KG (n:Nat) (fr:zd_) (K:qy_):qy_:=fun e _ st nx=>match e with
 | .normal=>g0_ n fr K st nx
 | .ret=>g0_ n fr K st nx
 | .exit _=>False
def GI_ (f:Nat) (ps lv:List Nat) (g:Nat) (asg body gir:Wk) (k0:Nat) (K:qy_) (fr:zd_) (st:za_):Prop:=
 yM_ k0 (f :: lv) fr st fun vs os=>match vs with
  | []=>False
  | v :: us=>match v with
    | .fn f' first cap=>match first with
      | []=>match Nat.beq f' g with
        | true=>match leB cap 3 with
          | true=>xM_ os.length fun n=>lay (∀ (lr:Go.Loop) (l:Nat),gir (n+1) (hdR n lr l us ps lv asg body) (KG n (Z0_ lv us) K) (W5_ 0 (.yv l :: cap)) (q0_ 0 (os++[.lrec lr 0])) (n+1))
          | false=>False
        | false=>False
      | _ :: _=>False
    | _=>False
def V2_ (Γ:Env) (pre:List IOper) (d:Option Nat) (y:Opd) (args:List Opd) (lv:List Nat) (suf:List IOper) (hd:Hd) (K:qy_) (fr:zd_) (st:za_) (nx:Nat):Prop:=
 k3_ Γ pre fr st nx fun fr st nx=>match y.ev fr with
  | .yv l=>hd l lv args fr st nx fun b fr st nx=>kS_ d (.kb b) fr fun fr=>k3_ Γ suf fr st nx fun fr st nx=>K .normal fr st nx
  | _=>False
def evC (Γ:Env) (ir:IR):Wk:=
 IR.rec (motive:=fun _=>Wk)
  (fun _ _ K fr st nx=>K .normal fr st nx)
  (fun ops _ _ K fr st nx=>k3_ Γ ops fr st nx fun fr st nx=>K .normal fr st nx)
  (fun ops _ _ K fr st nx=>kn_ Γ ops [] fr st nx fun fr st nx=>K .normal fr st nx)
  (fun _ _ iha ihb k0 hd K fr st nx=>iha k0 hd (K.seq fun fr st nx=>ihb k0 hd K fr st nx) fr st nx)
  (fun c _ _ iha ihb k0 hd K fr st nx=>match c.ev fr with
    | .bool t=>cnd t (iha k0 hd K (Xk_ c true fr) st nx) (ihb k0 hd K (Xk_ c false fr) st nx)
    | .kb t=>match t with | true=>iha k0 hd K fr st nx | false=>ihb k0 hd K fr st nx
    | _=>False)
  (fun id _ ih k0 hd K fr st nx=>ih k0 hd (K.block id) fr st nx)
  (fun _ ih k0 hd K fr st nx=>hp_ k0 (ih k0 hd) K fr st nx)
  (fun _ ih k0 hd K fr st nx=>hU_ k0 (ih k0 hd) K fr st nx)
  (fun l _ ih k0 hd K fr st nx=>YE_ l fr fun fr=>W4_ st fun st=>ih k0 hd K fr st nx)
  (fun i _ _ K fr st nx=>K (.exit i) fr st nx)
  (fun _ _ K fr st nx=>K .ret fr st nx)
  (fun _ ih k0 hd K fr st nx=>ih k0 hd K fr st nx)
  (fun f ps lv g _ _ _ iha ihb ihg k0 _ K fr st _=>GI_ f ps lv g iha ihb ihg k0 K fr st)
  (fun pre d y args lv suf _ hd K fr st nx=>V2_ Γ pre d y args lv suf hd K fr st nx) ir
end Go.Eng
namespace Go.Eng
set_option linter.unusedVariables false
set_option linter.unusedSimpArgs false
open Go.RowKit
def kL_ (I:Nat->Prop) (w:World) (m:M) (φ:Nat->AV) (a:Act):Prop:=∀ i,RV I w m (φ i) (a.tmps.getD i undef)
def KJ_ (I:Nat->Prop) (w0 w:World) (ds:List Deferred):Prop:=
 ds.Nodup/\∀ d ∈ ds,∃ D,d={target:=.collected D,args:=#[]}/\I D/\w0.heap.size<=D/\w.heap[D]?=some (.deferred (some []))
theorem KJ_.nil (I:Nat->Prop) (w0 w:World):KJ_ I w0 w []:=⟨List.nodup_nil,fun d hd=>by cases hd⟩
theorem KJ_.evo {I I':Nat->Prop} {w0 w w':World} {ds:List Deferred} (h:KJ_ I w0 w ds) (hI:∀ b,I b->I' b) (hs:ZO_ I w w'):KJ_ I' w0 w' ds:=
 ⟨h.1,fun d hd=>by
  obtain ⟨D,h1,h2,h3,h4⟩:=h.2 d hd
  exact ⟨D,h1,hI D h2,h3,(hs D h2).trans h4⟩⟩
structure Sta (n k0:Nat) (X0:Bool->Nat->Prop) (I0:Nat->Prop) (w0:World) (m0:M) (fr:zd_) (st:za_) (nx:Nat) (I:Nat->Prop) (w:World) (m:M) (a:Act):Prop where
 size:a.tmps.size=n
 defers:KJ_ I w0 w a.defers
 f:kL_ I w m fr.get a
 hs:HS X0 I0 w0 st.get I w m
 same:ZO_ I0 w0 w
 kept:∀ i,i < k0->m.used i/\m0.same m i
 lt:∀ i,m.used i->i < nx
theorem YT_ {a:Act} {d:Nat} {v:Value} {i:Nat} (hd:d < a.tmps.size):(a.put (some d) v).tmps.getD i undef=if i=d then v else a.tmps.getD i undef:=by
 simp only [Act.put,Array.getD_eq_getD_getElem?,Array.getElem?_setIfInBounds]
 by_cases h:i=d
 ·subst h;simp [hd]
 ·rw [if_neg (fun e=>h e.symm),if_neg h]
theorem kL_.put {I:Nat->Prop} {w:World} {m:M} {fr:zd_} {a:Act} {d:Nat} {v:AV} {cv:Value} (h:kL_ I w m fr.get a) (hd:d < a.tmps.size) (hv:RV I w m v cv):kL_ I w m (zd_.get ((d,v) :: fr)) (a.put (some d) cv):=fun i=>by
 rw [zd_.get_cons,YT_ hd]
 split
 ·exact hv
 ·exact h i
theorem kL_.evo {I I':Nat->Prop} {w w':World} {m m':M} {φ:Nat->AV} {a:Act} (h:kL_ I w m φ a) (e:Evo I w m I' w' m'):kL_ I' w' m' φ a:=fun i=>e.rv (h i)
theorem kL_.know {I:Nat->Prop} {w:World} {m:M} {fr:zd_} {a:Act} {g:Nat} {b:Bool} (h:kL_ I w m fr.get a) (e:a.tmps.getD g undef=.bool b):kL_ I w m (zd_.get ((g,.kb b) :: fr)) a:=fun i=>by
 rw [zd_.get_cons]
 split
 ·subst_vars;rw [e];rfl
 ·exact h i
def jX_ (n:Nat):Option Nat->Option Nat->Bool
 | none,none=>true
 | some d,some e=>d == e && decide (d < n)
 | _,_=>false
def wH_ (ops:Array Oper):Option (Nat × Bool)->Option (Nat × Bool)->Bool
 | none,none=>true
 | some (j,b),some (g,c)=>b == c && (match (ops[j]?).bind (·.dst) with | some d=>d == g | none=>false)
 | _,_=>false
def yc_ (P:Program) (n:Nat) (ops:Array Oper) (o:Oper) (x:IOper):Bool:=jX_ n o.dst x.dst && zp_ P o.op x.op && x.op.sup && wH_ ops o.guard x.guard
def wC_ (P:Program) (n:Nat) (ops:Array Oper) (o:Oper) (x:IOper):Bool:=jX_ n o.dst x.dst && zp_ P o.op x.op && x.op.supS && wH_ ops o.guard x.guard
def jy_ (P:Program) (n:Nat) (ops:Array Oper):List Oper->List IOper->Bool
 | [],[]=>true
 | o :: r,x :: l=>wC_ P n ops o x && jy_ P n ops r l
 | _,_=>false
theorem wN_ {ops:Array Oper} {a:Act} {j g:Nat} (h:(match (ops[j]?).bind (·.dst) with | some d=>d == g | none=>false)=true):
 yielded ops a.tmps j=match a.tmps.getD g undef with | .bool b=>some b | _=>none:=by
 unfold yielded
 split at h
 ·rename_i d hd
  simp only [beq_iff_eq] at h;subst h
  rw [hd]
  simp only [Option.bind_some,Array.getD_eq_getD_getElem?]
  cases a.tmps[d]? with
  | none=>rfl
  | some v=>cases v<;>rfl
 ·cases h
theorem J0_ {ops:Array Oper} {o:Oper} {g:Option (Nat × Bool)} {fr:zd_} {run skip:zd_->Prop} (hg:wH_ ops o.guard g=true) (ev:qd_ g fr run skip):
 ∃ fr' t,(match t with | true=>run fr' | false=>skip fr')/\(fr'=fr\/∃ i v,g=some (i,v)/\∃ b,fr.get i=.bool b/\fr'=(i,.kb b) :: fr)/\
   ∀ (I:Nat->Prop) (w:World) (m:M) (a:Act),(∀ i v,g=some (i,v)->RV I w m (fr.get i) (a.tmps.getD i undef))->Region.wanted o (yielded ops a.tmps)=t:=by
 unfold qd_ at ev
 cases hog:o.guard with
 | none=>
   cases hxg:g with
   | some _=>rw [hog,hxg] at hg;cases hg
   | none=>
     rw [hxg] at ev
     exact ⟨fr,true,ev,.inl rfl,fun I w m a _=>by simp [Region.wanted,hog]⟩
 | some jb=>
   obtain ⟨j,b⟩:=jb
   cases hxg:g with
   | none=>rw [hog,hxg] at hg;cases hg
   | some gc=>
     obtain ⟨g,c⟩:=gc
     rw [hog,hxg] at hg
     simp only [wH_,Bool.and_eq_true,beq_iff_eq] at hg
     obtain ⟨rfl,hy⟩:=hg
     rw [hxg] at ev
     have hw:∀ a:Act,Region.wanted o (yielded ops a.tmps)=(yielded ops a.tmps j == some b):=fun a=>by simp [Region.wanted,hog]
     have is:∀ {t:Bool},(∀ {I:Nat->Prop} {w:World} {m:M} {a:Act},RV I w m (fr.get g) (a.tmps.getD g undef)->a.tmps.getD g undef=.bool t)->∀ (I:Nat->Prop) (w:World) (m:M) (a:Act),(∀ i v,some (g,b)=some (i,v)->RV I w m (fr.get i) (a.tmps.getD i undef))->Region.wanted o (yielded ops a.tmps)=(t == b):=fun {t} h I w m a hv=>by
      rw [hw,wN_ hy,h (hv g b rfl)]
      cases t<;>cases b<;>rfl
     simp only at ev
     split at ev
     ·rename_i t ht
      have hb:=is (t:=t) fun {I w m a} h=>by rw [ht] at h;exact h
      rcases JB_ ev with ⟨rfl,ev'⟩ | ⟨rfl,ev'⟩
      ·cases b with
       | true=>exact ⟨_,true,ev',.inr ⟨_,_,rfl,_,ht,rfl⟩,hb⟩
       | false=>exact ⟨_,false,ev',.inr ⟨_,_,rfl,_,ht,rfl⟩,hb⟩
      ·cases b with
       | true=>exact ⟨_,false,ev',.inr ⟨_,_,rfl,_,ht,rfl⟩,hb⟩
       | false=>exact ⟨_,true,ev',.inr ⟨_,_,rfl,_,ht,rfl⟩,hb⟩
     ·rename_i t ht
      have hb:=is (t:=t) fun {I w m a} h=>by rw [ht] at h;exact h
      cases t<;>cases b
      ·exact ⟨_,true,ev,.inl rfl,hb⟩
      ·exact ⟨_,false,ev,.inl rfl,hb⟩
      ·exact ⟨_,false,ev,.inl rfl,hb⟩
      ·exact ⟨_,true,ev,.inl rfl,hb⟩
     ·rename_i ht
      refine ⟨_,false,ev,.inl rfl,fun I w m a hv=>?_⟩
      have h:=hv g b rfl
      rw [ht] at h
      rw [hw,wN_ hy,show a.tmps.getD g undef=undef from h]
      rfl
     ·exact ev.elim
section
variable {P:Program} {Γ:Env} {n k0:Nat} {X0:Bool->Nat->Prop} {I0:Nat->Prop} {w0:World} {m0:M}
theorem Sta.fr' {fr fr':zd_} {st:za_} {nx:Nat} {I:Nat->Prop} {w:World} {m:M} {a:Act} {g:Option (Nat × Bool)} (h:Sta n k0 X0 I0 w0 m0 fr st nx I w m a) (e:fr'=fr\/∃ i v,g=some (i,v)/\∃ b,fr.get i=.bool b/\fr'=(i,.kb b) :: fr):
 Sta n k0 X0 I0 w0 m0 fr' st nx I w m a:=by
 rcases e with rfl | ⟨i,v,_,b,hb,rfl⟩
 ·exact h
 ·have:=h.f i
  rw [hb] at this
  exact ⟨h.size,h.defers,h.f.know this,h.hs,h.same,h.kept,h.lt⟩
theorem Sta.put {fr:zd_} {st:za_} {nx:Nat} {I:Nat->Prop} {w:World} {m:M} {a:Act} {d d':Option Nat} {v:AV} {cv:Value}
 (h:Sta n k0 X0 I0 w0 m0 fr st nx I w m a) (hd:jX_ n d d'=true) (hv:RV I w m v cv):Sta n k0 X0 I0 w0 m0 (kF_ d' v fr) st nx I w m (a.put d cv):=by
 cases d with
 | none=>
   cases d' with
   | some _=>cases hd
   | none=>exact h
 | some d=>
   cases d' with
   | none=>cases hd
   | some e=>
     simp only [jX_,Bool.and_eq_true,beq_iff_eq,decide_eq_true_eq] at hd
     obtain ⟨rfl,hd⟩:=hd
     exact ⟨by simp only [Act.put,Array.size_setIfInBounds];exact h.size,h.defers,h.f.put (by rw [h.size];exact hd) hv,h.hs,h.same,h.kept,h.lt⟩
theorem kL_.on {I:Nat->Prop} {w:World} {m:M} {fr:zd_} {a:Act} (h:kL_ I w m fr.get a) (L:List Opd):FOn L fr I w m a:=fun i _=>h i
theorem Sta.st_lt {fr:zd_} {st:za_} {nx:Nat} {I:Nat->Prop} {w:World} {m:M} {a:Act} (h:Sta n k0 X0 I0 w0 m0 fr st nx I w m a):∀ i,st.get i ≠ none->i < nx:=fun i hi=>h.lt i (h.hs.H.lt i hi)
theorem Sta.evo {fr:zd_} {st st':za_} {nx nx':Nat} {I I':Nat->Prop} {w w':World} {m m':M} {a:Act} (h:Sta n k0 X0 I0 w0 m0 fr st nx I w m a) (hs':HS X0 I0 w0 st'.get I' w' m') (e:Evo I w m I' w' m') (hle:nx<=nx') (hu:∀ i,m'.used i->m.used i\/(nx<=i/\i < nx')):
 Sta n k0 X0 I0 w0 m0 fr st' nx' I' w' m' a:=
 ⟨h.size,h.defers.evo e.up e.same,h.f.evo e,hs',fun b hb=>(e.same b (h.hs.Isub b hb)).trans (h.same b hb),fun i hi=>⟨e.m.1 i (h.kept i hi).1,M.same_trans (h.kept i hi).2 (e.m.2 i (h.kept i hi).1)⟩,fun i hi=>by
  rcases hu i hi with h' | h'
  ·have:=h.lt i h';omega
  ·exact h'.2⟩
theorem gv_ (hΓ:ZR_ P Γ) {o:Oper} {io:IOp} {fr:zd_} {st:za_} {nx:Nat} {I:Nat->Prop} {w:World} {m:M} {a:Act} {K:AV->za_->Nat->Prop} (hst:∀ i,st.get i ≠ none->i < nx) (hok:zp_ P o.op io=true) (hn:io.sup=false) (hS:io.supS=true)
 (hf:FOn io.opds fr I w m a) (hs:HS X0 I0 w0 st.get I w m) (hN:∀ i,nx<=i->¬ m.used i) (ev:zl_ Γ io fr st nx K):Kg_ P o a w fun cv I' w' m'=>∃ v st1 nx',nx<=nx'/\K v st1 nx'/\xi_ X0 I0 w0 I w m st1.get v nx nx' cv I' w' m':=by
 have keep:(∃ v cv,K v st nx/\RV I w m v cv/\(execOp a.eval o).run P w=.ok (.value cv) w)->Kg_ P o a w fun cv I' w' m'=>∃ v st1 nx',nx<=nx'/\K v st1 nx'/\xi_ X0 I0 w0 I w m st1.get v nx nx' cv I' w' m':=fun ⟨v,cv,hK,hv,hrun⟩=>
  ZS_ (I':=I) (m':=m) hrun ⟨v,st,nx,Nat.le_refl _,hK,hv,hs,Evo.refl _ _ _,fun _ h=>.inl h⟩
 have one:(∃ v st1,K v st1 nx/\Kg_ P o a w (xi_ X0 I0 w0 I w m st1.get v nx nx))->Kg_ P o a w fun cv I' w' m'=>∃ v st1 nx',nx<=nx'/\K v st1 nx'/\xi_ X0 I0 w0 I w m st1.get v nx nx' cv I' w' m':=fun ⟨v,st1,hK,hrun⟩=>
  fun N Q k=>hrun N Q fun cv I' w' m' hg=>k cv I' w' m' ⟨v,st1,nx,Nat.le_refl _,hK,hg⟩
 cases io with
 | calln=>exact uK_ hΓ hst hok hf hs hN ev
 | capp=>exact one (U0_ hok hf hs ev)
 | _=>first | (cases hn;done) | (cases hS;done)
theorem wT_ (hΓ:ZR_ P Γ) {ops:Array Oper} {Q:Exit->Act->World->Prop} {o:Oper} {x:IOper} {r:List Oper} {fr:zd_} {st:za_} {nx:Nat} {I:Nat->Prop} {w:World} {m:M} {a:Act} {K:zd_->za_->Nat->Prop}
 (hok:wC_ P n ops o x=true) (h:Sta n k0 X0 I0 w0 m0 fr st nx I w m a)
 (ev:qd_ x.guard fr (fun fr=>zl_ Γ x.op fr st nx fun v st nx=>K (kF_ x.dst v fr) st nx) fun fr=>K (kF_ x.dst .skp fr) st nx)
 (rest:∀ fr' st' nx' I' w' m' a',K fr' st' nx'->Sta n k0 X0 I0 w0 m0 fr' st' nx' I' w' m' a'->wpList P ops Q r a' w'):
 wpList P ops Q (o :: r) a w:=by
 simp only [wC_,Bool.and_eq_true] at hok
 obtain ⟨⟨⟨hd,hop⟩,hsup⟩,hg⟩:=hok
 obtain ⟨fr',t,ev',hfr,hw⟩:=J0_ hg ev
 have h':=h.fr' hfr
 have hw:=hw I w m a fun i _ _=>h.f i
 unfold wpList
 cases t with
 | true=>
   rw [if_pos hw]
   by_cases hn:x.op.sup=true
   ·have hsup:=hn
    obtain ⟨v,st1,nx',T,hle,hK,h3,_,run⟩:=Uf_ (F:=fun _=>True) hΓ h'.st_lt hsup hop (fun _ _ _ _ _ _ _=>trivial) (fun _ _=>trivial) ev'
    refine .inl (run (h'.f.on _) h'.hs (fun _ _=>rfl) (fun i h1 _ hu=>by have:=h'.lt i hu;omega) _ Q fun cv I' w' m' hgood=>?_)
    obtain ⟨q1,q2,q3,q4⟩:=hgood
    have hupd:upd st.get T st1=st1.get:=funext fun i=>by
     unfold upd
     split
     ·rfl
     ·rename_i hi;exact (h3 i hi).symm
    rw [hupd] at q2
    exact rest _ _ _ _ _ _ _ hK ((h'.evo q2 q3 hle q4).put hd q1)
   ·refine .inl (gv_ hΓ h'.st_lt hop (by simpa using hn) hsup (h'.f.on _) h'.hs (fun i h1 hu=>by have:=h'.lt i hu;omega) ev' _ Q fun cv I' w' m' hgood=>?_)
    obtain ⟨v,st1,nx',hle,hK,q1,q2,q3,q4⟩:=hgood
    exact rest _ _ _ _ _ _ _ hK ((h'.evo q2 q3 hle q4).put hd q1)
 | false=>
   rw [if_neg (by rw [hw];simp)]
   exact rest _ _ _ _ _ _ _ ev' (h'.put hd (v:=.skp) (cv:=undef) rfl)
theorem Jm_ (hΓ:ZR_ P Γ) {ops:Array Oper} {Q:Exit->Act->World->Prop} {K:zd_->za_->Nat->Prop}:∀ {os:List Oper} {ios:List IOper} {fr:zd_} {st:za_} {nx:Nat} {I:Nat->Prop} {w:World} {m:M} {a:Act},
 jy_ P n ops os ios=true->Sta n k0 X0 I0 w0 m0 fr st nx I w m a->k3_ Γ ios fr st nx K->
 (∀ fr' st' nx' I' w' m' a',K fr' st' nx'->Sta n k0 X0 I0 w0 m0 fr' st' nx' I' w' m' a'->Q .normal a' w')->wpList P ops Q os a w
 | [],[],fr,st,nx,I,w,m,a,_,h,ev,fin=>fin _ _ _ _ _ _ _ ev h
 | o :: r,x :: l,fr,st,nx,I,w,m,a,hok,h,ev,fin=>by
   simp only [jy_,Bool.and_eq_true] at hok
   rw [WR_] at ev
   exact wT_ (K:=fun fr st nx=>k3_ Γ l fr st nx K) hΓ hok.1 h ev fun fr' st' nx' I' w' m' a' hK hS=>Jm_ hΓ hok.2 hS hK fin
 | [],_ :: _,_,_,_,_,_,_,_,hok,_,_,_=>by cases hok
 | _ :: _,[],_,_,_,_,_,_,_,hok,_,_,_=>by cases hok
theorem Yz_:∀ (l:List Obj) (k i:Nat),(q0_ k l).get i=if k<=i then l[i - k]? else none
 | [],k,i=>by simp [q0_,za_.get]
 | o :: r,k,i=>by
   show za_.get ((k,o) :: q0_ (k+1) r) i=_
   rw [za_.get_cons,Yz_ r (k+1) i]
   by_cases h:i=k
   ·subst h;simp
   ·rw [if_neg h]
    by_cases h2:k<=i
    ·rw [if_pos (by omega),if_pos h2,show i - k=(i - (k+1))+1 by omega];rfl
    ·rw [if_neg (by omega),if_neg h2]
theorem zN_ (l:List Obj):(q0_ 0 l).get=ofL l:=funext fun i=>by rw [Yz_,if_pos (Nat.zero_le _)];rfl
theorem Wa_:∀ (n i j:Nat),(Z7_ i n)[j]?=if j < n then some (i+j) else none
 | 0,i,j=>by simp [Z7_]
 | n+1,i,j=>by
   unfold Z7_
   cases j with
   | zero=>simp
   | succ j=>rw [List.getElem?_cons_succ,Wa_ n (i+1) j];by_cases h:j < n<;>simp [h,show i+1+j=i+(j+1) by omega]
theorem Xe_:∀ {n i k:Nat},k ∈ Z7_ i n->i<=k
 | 0,i,k,h=>by cases h
 | n+1,i,k,h=>by
   unfold Z7_ at h
   rcases List.mem_cons.1 h with rfl | h
   ·exact Nat.le_refl _
   ·have:=Xe_ h;omega
theorem jx_:∀ (n i:Nat),(Z7_ i n).Nodup
 | 0,_=>List.nodup_nil
 | n+1,i=>by
   unfold Z7_
   exact List.nodup_cons.2 ⟨fun h=>by have:=Xe_ h;omega,jx_ n (i+1)⟩
theorem KS_:∀ (n i:Nat),(Z7_ i n).length=n
 | 0,_=>rfl
 | n+1,i=>by simp [Z7_,KS_ n (i+1)]
theorem jl_ {I:Nat->Prop} {w:World} {m:M} {a:Act}:∀ {live:List Nat} {vs:List AV},ql_ I w m vs (live.map fun i=>a.tmps.getD i undef)->kL_ I w m (Z0_ live vs).get a
 | [],[],_=>fun _=>trivial
 | i :: l,v :: r,h=>fun j=>by
   show RV I w m (zd_.get ((i,v) :: Z0_ l r) j) _
   rw [zd_.get_cons]
   split
   ·rename_i e;subst e;exact kC_ h.1
   ·exact jl_ h.2 j
 | [],_ :: _,h=>h.elim
 | _ :: _,[],h=>h.elim
theorem qt_ {live:List Nat} {fr:zd_} {st:za_} {nx:Nat} {I:Nat->Prop} {w:World} {m:M} {a:Act} {K:List AV->List Obj->Prop} (h:Sta n k0 X0 I0 w0 m0 fr st nx I w m a) (ev:yM_ k0 live fr st K):
 ∃ vs os,K vs os/\∃ m',Sta n k0 X0 I0 w0 m0 (Z0_ live vs) (q0_ 0 os) os.length I w m' a/\ql_ I w m' vs (live.map fun i=>a.tmps.getD i undef):=by
 unfold yM_ at ev
 rcases Qw_ (live.map fr.get) with h' | ⟨l',e1,e2,e3⟩
 ·exact absurd ev (h' _)
 ·rw [e1] at ev
  obtain ⟨vs,ρ1,c1,c2,c3,c4⟩:=QY_ nx l' (V3_ k0)
  rw [c1] at ev
  rcases qH_ st nx 1000 0 ρ1 (Nat.zero_le _) with h' | ⟨os,ρ,d1,d2,d3,d4⟩
  ·exact absurd ev (h' _)
  ·rw [d1] at ev
   rw [Nat.zero_add] at d3
   have d4:∀ k (h:k < os.length) (h':k < ρ.length),∃ o,st.get ρ[k]=some o/\Zh_ nx ρ o os[k]:=fun k h h'=>by
    have:=d4 k h (by omega)
    simpa only [Nat.zero_add] using this
   have hpre:=c2.trans d2
   have hnod:ρ.Nodup:=hpre.nodup (jx_ k0 0)
   have hk0:∀ i,i < k0->∃ h:i < ρ.length,ρ[i]=i:=fun i hi=>by
    have hl:i < (V3_ k0).length:=by unfold V3_;rw [KS_];exact hi
    refine ⟨Nat.lt_of_lt_of_le hl hpre.len,?_⟩
    rw [<- hpre.pre.getElem hl]
    have:=Wa_ k0 0 i
    rw [if_pos hi,List.getElem?_eq_getElem (by rw [KS_];exact hi)] at this
    have e:=Option.some.inj this
    simpa [V3_] using e
   have hl2:ql_ I w m l' (live.map fun i=>a.tmps.getD i undef):=e3 (by simp) fun i h1 h2=>by
    simp only [List.getElem_map];exact h.f _
   have huse:∀ j,j < ρ.length->Un (ZL_ m ρ nx) m (un ρ nx) j:=fun j hj=>⟨hj,rfl,rfl,rfl,rfl⟩
   have hvs:vs.map (qq_ (un ρ nx))=l':=by
    rw [<- c3]
    exact List.map_congr_left fun v hv=>kc_ fun j hj=>d2.un (c4 j (List.mem_flatMap.2 ⟨v,hv,hj⟩))
   rw [<- hvs] at hl2
   have hl3:=ky_ (fun j hj=>huse j (Nat.lt_of_lt_of_le (c4 j hj) d2.len)) hl2
   have hH:=JE_ (js:=[]) (nx:=nx) h.hs.H hnod d3 d4 (fun i hi=>(by cases hi)) (fun i hi=>(by cases hi))
   have hIb:Ib I m []=I:=funext fun b=>propext ⟨fun h=>h.elim id fun ⟨i,hi,_⟩=>(by cases hi),.inl⟩
   rw [hIb] at hH
   refine ⟨vs,os,ev,ZL_ m ρ nx,⟨h.size,h.defers,jl_ hl3,⟨by rw [zN_];exact hH,h.hs.fr0,h.hs.Isub,h.hs.Inew,fun i o b e hm hb=>?_,fun i o b e hm hb=>?_⟩,h.same,fun i hi=>?_,fun i hi=>by rw [d3];exact hi⟩,hl3⟩
   ·rw [zN_] at e
    unfold ofL at e
    obtain ⟨hi,e⟩:=List.getElem?_eq_some_iff.1 e
    obtain ⟨o',g1,g2⟩:=d4 i hi (by omega)
    simp only [ZL_,zV_ (show i < ρ.length by omega)] at hb
    exact h.hs.own _ o' b g1 (by rw [<- g2.same.1,e];exact hm) hb
   ·rw [zN_] at e
    unfold ofL at e
    obtain ⟨hi,e⟩:=List.getElem?_eq_some_iff.1 e
    obtain ⟨o',g1,g2⟩:=d4 i hi (by omega)
    simp only [ZL_,zV_ (show i < ρ.length by omega)] at hb
    exact h.hs.ownL _ o' b g1 (by rw [<- g2.same.2,e];exact hm) hb
   ·obtain ⟨h1,h2⟩:=hk0 i hi
    refine ⟨h1,?_⟩
    have:=(h.kept i hi).2
    unfold M.same at this ⊢
    simp only [ZL_,zV_ h1,h2];exact this
def XN_:Exit->Option Ex
 | .normal=>some .normal
 | .exit i=>some (.exit i)
 | .ret=>some .ret
 | _=>none
def QQ (n k0:Nat) (X0:Bool->Nat->Prop) (I0:Nat->Prop) (w0:World) (m0:M) (K:qy_):Exit->Act->World->Prop:=fun e a w=>
 ∃ x,XN_ e=some x/\∃ fr st nx I m,K x fr st nx/\Sta n k0 X0 I0 w0 m0 fr st nx I w m a
end
end Go.Eng
