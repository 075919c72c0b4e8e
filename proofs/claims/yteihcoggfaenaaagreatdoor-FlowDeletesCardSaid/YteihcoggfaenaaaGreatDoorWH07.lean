/- Parts of the proof: ECode. No condition. -/
import Derived.Test.YteihcoggfaenaaaGreatDoorWH06
import Derived.LoopN
namespace Go.Eng
set_option linter.unusedVariables false
set_option linter.unusedSimpArgs false
open Go.RowKit
inductive Ex where
 | normal
 | exit (i:Nat)
 | ret
abbrev kH_:=Ex->zh_->zf_->Nat->Prop
def Q6_ (g:Option (Nat × Bool)) (fr:zh_) (run skip:zh_->Prop):Prop:=match g with
 | none=>run fr
 | some (g,b)=>match fr.get g with
   | .bool t=>cnd t (match b with | true=>run ((g,.kb true) :: fr) | false=>skip ((g,.kb true) :: fr)) (match b with | true=>skip ((g,.kb false) :: fr) | false=>run ((g,.kb false) :: fr))
   | .kb t=>match t,b with
     | true,true=>run fr
     | false,false=>run fr
     | true,false=>skip fr
     | false,true=>skip fr
   | .skp=>skip fr
   | _=>False
def Wb_ (d:Option Nat) (v:AV) (fr:zh_):zh_:=match d with | none=>fr | some d=>(d,v) :: fr
def W6_ (d:Option Nat) (v:AV) (fr:zh_) (K:zh_->Prop):Prop:=match d with | none=>K fr | some d=>K ((d,v) :: fr)
theorem u9_ (d:Option Nat) (v:AV) (fr:zh_) (K:zh_->Prop):W6_ d v fr K=K (Wb_ d v fr):=by cases d<;>rfl
def zap_:List Nat->zh_->(zh_->Prop)->Prop
 | [],_,K=>K []
 | i :: r,fr,K=>XG_ (fr.get i) fun v=>zap_ r fr fun t=>K ((i,v) :: t)
def UD_ (l:List Nat) (fr:zh_):zh_:=l.map fun i=>(i,fr.get i)
theorem zao_:∀ (l:List Nat) (fr:zh_) (K:zh_->Prop),zap_ l fr K=K (UD_ l fr)
 | [],_,_=>rfl
 | i :: r,fr,K=>by unfold zap_;rw [xu_];exact zao_ r fr _
def gp_:zf_->(zf_->Prop)->Prop
 | [],K=>K []
 | (i,o) :: r,K=>gp_ r fun r=>K ((i,o) :: r)
theorem hI_:∀ (st:zf_) (K:zf_->Prop),gp_ st K=K st
 | [],_=>rfl
 | (i,o) :: r,K=>by unfold gp_;exact hI_ r _
def xz_ (Γ:Env) (l:List IOper):zh_->zf_->Nat->(zh_->zf_->Nat->Prop)->Prop:=
 List.rec (motive:=fun _=>zh_->zf_->Nat->(zh_->zf_->Nat->Prop)->Prop) (fun fr st nx K=>K fr st nx)
  (fun x _ ih fr st nx K=>Q6_ x.guard fr (fun fr=>zH_ Γ x.op fr st nx fun v st nx=>GC_ nx fun nx=>W6_ x.dst v fr fun fr=>ih fr st nx K) fun fr=>W6_ x.dst .skp fr fun fr=>ih fr st nx K) l
theorem gc_ {Γ:Env} {x:IOper} {l:List IOper} {fr:zh_} {st:zf_} {nx:Nat} {K:zh_->zf_->Nat->Prop}:xz_ Γ (x :: l) fr st nx K=Q6_ x.guard fr (fun fr=>zH_ Γ x.op fr st nx fun v st nx=>xz_ Γ l (Wb_ x.dst v fr) st nx K) fun fr=>xz_ Γ l (Wb_ x.dst .skp fr) st nx K:=by
 show Q6_ x.guard fr (fun fr=>zH_ Γ x.op fr st nx fun v st nx=>GC_ nx fun nx=>W6_ x.dst v fr fun fr=>xz_ Γ l fr st nx K) (fun fr=>W6_ x.dst .skp fr fun fr=>xz_ Γ l fr st nx K)=_
 simp only [x3_,u9_]
def HE_ (io:IOp) (fr:zh_):List Nat:=match io with
 | .call _ f args=>bK_ f args fr
 | .box _ | .boxv _ | .mkmap _ _ | .slice0 _ | .mkrow _ _ _ _ _ | .nilrow _=>[]
 | .store _ x y=>KN_ x y fr
 | io=>match io.pure with | true=>[] | false=>Z5_ io.opds fr
def yS_ (Γ:Env) (io:IOp) (fr:zh_):Bool:=match io with
 | .call _ f _=>zdd_ Γ (f.ev fr)
 | .store _ _ _ | .sliceAll _ _ _ | .append _ _ _ _ | .mput _ _ _ _ _=>true
 | _=>false
def bc_:IOp->Bool | .call _ _ _=>true | _=>false
def IOp.sup:IOp->Bool
 | .isnil _ _=>false
 | _=>true
def IOp.supS (o:IOp):Bool:=match o with | .isnil _ _=>true | o=>o.sup
theorem zf2_ {P:Program} {Γ:Env} {o:Oper} {io:IOp} {fr:zh_} {F:Nat->Prop} {st:zf_} {nx:Nat} {K:AV->zf_->Nat->Prop} (hΓ:QN_ P Γ) (hst:∀ i,st.get i ≠ none->i < nx) (hsup:io.sup=true) (hok:zM_ P o.op io=true)
 (hcl:bc_ io=true->vx_ st F) (hfoot:∀ i ∈ HE_ io fr,F i) (ev:zH_ Γ io fr st nx K):ji_ P o io.opds fr F (yS_ Γ io fr) st nx K:=by
 by_cases hp:io.pure=true
 ·exact ji_.of (F:=[]) (wr:=false) (zgf_ (zfY_ hp hok ev)) (fun i hi=>(by cases hi)) (fun h=>(by cases h))
 ·cases io with
  | len=>exact ji_.of (wr:=false) (zh6_ hok ev) hfoot (fun h=>(by cases h))
  | indexSl=>exact ji_.of (wr:=false) (zaY_ hok ev) hfoot (fun h=>(by cases h))
  | load=>exact ji_.of (wr:=false) (zgn_ hok ev) hfoot (fun h=>(by cases h))
  | loadI=>exact ji_.of (wr:=false) (zeU_ hok ev) hfoot (fun h=>(by cases h))
  | slice=>exact ji_.of (wr:=false) (zeC_ hok ev) hfoot (fun h=>(by cases h))
  | b2s=>exact ji_.of (wr:=false) (ziz_ hok ev) hfoot (fun h=>(by cases h))
  | box=>exact ji_.of (F:=[]) (wr:=false) (ziv_ hok ev) (fun i hi=>(by cases hi)) (fun h=>(by cases h))
  | boxv=>exact ji_.of (F:=[]) (wr:=false) (zg5_ hok ev) (fun i hi=>(by cases hi)) (fun h=>(by cases h))
  | mkmap=>exact ji_.of (F:=[]) (wr:=false) (zeR_ hok ev) (fun i hi=>(by cases hi)) (fun h=>(by cases h))
  | slice0=>exact ji_.of (F:=[]) (wr:=false) (zbP_ hok ev) (fun i hi=>(by cases hi)) (fun h=>(by cases h))
  | mkrow=>exact ji_.of (F:=[]) (wr:=false) (zeQ_ hok ev) (fun i hi=>(by cases hi)) (fun h=>(by cases h))
  | sliceAll=>exact ji_.of (h8_ hok ev) hfoot (fun _=>rfl)
  | store=>exact ji_.of (zey_ hok ev) hfoot (fun _=>rfl)
  | append=>exact ji_.of (zdl_ hok ev) hfoot (fun _=>rfl)
  | mget=>exact ji_.of (wr:=false) (zgk_ hok ev) hfoot (fun h=>(by cases h))
  | mput=>exact ji_.of (zgd_ hok ev) hfoot (fun _=>rfl)
  | nilrow=>exact ji_.of (F:=[]) (wr:=false) (zcx_ hok ev) (fun i hi=>(by cases hi)) (fun h=>(by cases h))
  | mlen=>exact ji_.of (wr:=false) (zgi_ hok ev) hfoot (fun h=>(by cases h))
  | call=>exact zg2_ hΓ hst hok (hcl rfl) hfoot ev
  | _=>first | exact absurd rfl hp | cases hsup
def kx_:List Nat->(List Nat->Prop)->Prop
 | [],K=>K []
 | i :: r,K=>GC_ i fun i=>kx_ r fun r=>K (i :: r)
theorem x9_:∀ (l:List Nat) (K:List Nat->Prop),kx_ l K=K l
 | [],_=>rfl
 | i :: r,K=>by unfold kx_;rw [x3_];exact x9_ r _
def qA_ (st:zf_):List Nat->List Nat
 | []=>[]
 | i :: r=>match st.get i with
   | some o=>o.ids++qA_ st r
   | none=>qA_ st r
def zgW_ (st:zf_) (l:List Nat):List Nat:=
 l++(qA_ st l++(qA_ st (qA_ st l)++qA_ st (qA_ st (qA_ st l))))
def zda_ (st:zf_) (l:List Nat) (K:List Nat->Prop):Prop:=
 kx_ l fun l=>kx_ (qA_ st l) fun a=>kx_ (qA_ st a) fun b=>kx_ (qA_ st b) fun c=>kx_ (l++(a++(b++c))) K
theorem zfc_ (st:zf_) (l:List Nat) (K:List Nat->Prop):zda_ st l K=K (zgW_ st l):=by
 unfold zda_ zgW_;simp only [x9_]
def subB:List Nat->List Nat->Bool
 | [],_=>true
 | i :: r,l=>match XZ_ i l with | true=>subB r l | false=>false
def zei_ (st:zf_) (F:List Nat):Bool:=subB (qA_ st F) F
theorem zdY_ {i:Nat}:∀ {l:List Nat},XZ_ i l=true->i ∈ l
 | [],h=>by cases h
 | j :: r,h=>by
   unfold XZ_ at h
   cases hb:Nat.beq j i with
   | true=>rw [Nat.eq_of_beq_eq_true hb];exact List.mem_cons_self ..
   | false=>rw [hb] at h;exact List.mem_cons_of_mem _ (zdY_ h)
theorem zdD_:∀ {l r:List Nat},subB l r=true->∀ i ∈ l,i ∈ r
 | [],_,_=>fun i hi=>by cases hi
 | j :: l,r,h=>fun i hi=>by
   unfold subB at h
   cases hb:XZ_ j r with
   | true=>
     rw [hb] at h
     rcases List.mem_cons.1 hi with rfl | hi
     ·exact zdY_ hb
     ·exact zdD_ h i hi
   | false=>rw [hb] at h;cases h
theorem vB_ {st:zf_}:∀ {F:List Nat} {i:Nat} {l:Obj},i ∈ F->st.get i=some l->∀ j ∈ l.ids,j ∈ qA_ st F
 | [],_,_,h,_=>by cases h
 | k :: r,i,l,h,hg=>fun j hj=>by
   unfold qA_
   rcases List.mem_cons.1 h with rfl | h
   ·rw [hg];exact List.mem_append.2 (.inl hj)
   ·have:=vB_ h hg j hj
    split
    ·exact List.mem_append.2 (.inr this)
    ·exact this
theorem zc8_ {st:zf_} {F:List Nat} (h:zei_ st F=true):vx_ st (· ∈ F):=fun i hi l hg j hj=>zdD_ h j (vB_ hi hg j hj)
def hu_ (io:IOp) (fr:zh_) (st:zf_) (K:List Nat->Prop):Prop:=match bc_ io with
 | true=>zda_ st (HE_ io fr) fun F=>match zei_ st F with | true=>K F | false=>False
 | false=>kx_ (HE_ io fr) K
theorem za8_ {io:IOp} {fr:zh_} {st:zf_} {K:List Nat->Prop} (h:hu_ io fr st K):∃ F,K F/\(bc_ io=true->vx_ st (· ∈ F))/\∀ i ∈ HE_ io fr,i ∈ F:=by
 unfold hu_ at h
 cases hc:bc_ io with
 | true=>
   rw [hc] at h
   simp only [zfc_] at h
   split at h
   ·rename_i hb;exact ⟨_,h,fun _=>zc8_ hb,fun i hi=>List.mem_append.2 (.inl hi)⟩
   ·exact h.elim
 | false=>
   rw [hc] at h
   simp only [x9_] at h
   exact ⟨_,h,fun e=>(by cases e),fun i hi=>hi⟩
def za9_ (st st1:zf_):List Nat->List Nat
 | []=>[]
 | i :: r=>match zba_ st st1 i with | true=>i :: za9_ st st1 r | false=>za9_ st st1 r
theorem hv_ {st st1:zf_}:∀ {F:List Nat} {i:Nat},i ∈ F->zba_ st st1 i=true->i ∈ za9_ st st1 F
 | [],_,h,_=>by cases h
 | j :: r,i,h,hb=>by
   unfold za9_
   rcases List.mem_cons.1 h with rfl | h
   ·rw [hb];exact List.mem_cons_self ..
   ·have:=hv_ h hb
    split
    ·exact List.mem_cons_of_mem _ this
    ·exact this
def QY_:Nat->Nat->List Nat
 | _,0=>[]
 | i,n+1=>i :: QY_ (i+1) n
theorem u6_:∀ {n i k:Nat},i<=k->k < i+n->k ∈ QY_ i n
 | 0,i,k,h1,h2=>by omega
 | n+1,i,k,h1,h2=>by
   unfold QY_
   by_cases e:k=i
   ·rw [e];exact List.mem_cons_self ..
   ·exact List.mem_cons_of_mem _ (u6_ (by omega) (by omega))
def wrL (wr:Bool) (F:List Nat) (st st1:zf_) (nx nx1:Nat):List Nat:=(match wr with | true=>F | false=>za9_ st st1 F)++QY_ nx (nx1 - nx)
def Jm_ (hist:List (List Nat × List Nat)) (F W:List Nat):List Nat->Bool
 | []=>true
 | j :: r=>match hist.drop j with
   | (Fj,Wj) :: _=>match VY_ Wj F with
     | true=>match VY_ Fj W with
       | true=>Jm_ hist F W r
       | false=>false
     | false=>false
   | []=>false
def vd_:List (List Nat × List Nat)->List Nat->List Nat->List Nat->Bool
 | _,_,_,[]=>true
 | h,F,W,g :: r=>match h.drop g with
   | (Fj,Wj) :: t=>match VY_ Wj F with
     | true=>match VY_ Fj W with
       | true=>vd_ t F W r
       | false=>false
     | false=>false
   | []=>false
def ve_ (h:List (List Nat × List Nat)) (F W us:List Nat):Bool:=match F with
 | []=>match W with
   | []=>true
   | _ :: _=>vd_ h F W us
 | _ :: _=>vd_ h F W us
def wm_ (Γ:Env) (l:List (IOper × List Nat)):List (List Nat × List Nat)->zh_->zf_->Nat->(zh_->zf_->Nat->Prop)->Prop:=
 List.rec (motive:=fun _=>List (List Nat × List Nat)->zh_->zf_->Nat->(zh_->zf_->Nat->Prop)->Prop) (fun _ fr st nx K=>K fr st nx)
  (fun x _ ih hist fr st nx K=>Q6_ x.1.guard fr
    (fun fr=>hu_ x.1.op fr st fun F=>zH_ Γ x.1.op fr st nx fun v st1 nx1=>GC_ nx1 fun nx1=>kx_ (wrL (yS_ Γ x.1.op fr) F st st1 nx nx1) fun W=>match ve_ hist F W x.2 with
      | true=>W6_ x.1.dst v fr fun fr=>ih ((F,W) :: hist) fr st1 nx1 K
      | false=>False)
    fun fr=>W6_ x.1.dst .skp fr fun fr=>ih (([],[]) :: hist) fr st nx K) l
def usA:Nat->List Nat->List Nat
 | _,[]=>[]
 | k,g :: r=>(k - 1 - g) :: usA (k - 1 - g) r
def xJ_:Nat->List (IOper × List Nat)->List (IOper × List Nat)
 | _,[]=>[]
 | k,x :: r=>(x.1,usA k x.2) :: xJ_ (k+1) r
theorem hz_ {full:List (List Nat × List Nat)} {F W:List Nat}:∀ {us:List Nat} {k:Nat},k<=full.length->vd_ (full.take k).reverse F W us=true->Jm_ full F W (usA k us)=true
 | [],_,_,_=>rfl
 | g :: r,k,hk,h=>by
   unfold vd_ at h
   split at h
   ·rename_i Fj Wj t hd
    have hl:g < (full.take k).reverse.length:=by
     rcases Nat.lt_or_ge g (full.take k).reverse.length with h' | h'
     ·exact h'
     ·rw [List.drop_of_length_le h'] at hd;cases hd
    have hgk:g < k:=by rw [List.length_reverse,List.length_take] at hl;omega
    rw [List.drop_eq_getElem_cons hl] at hd
    injection hd with h1 h2
    have e1:full[k - 1 - g]?=some (Fj,Wj):=by
     rw [<- h1,List.getElem_reverse,List.getElem_take,List.getElem?_eq_getElem (by omega)]
     simp only [List.length_take,Nat.min_eq_left hk]
    have e2:(full.take (k - 1 - g)).reverse=t:=by
     rw [<- h2,List.drop_reverse,List.length_take,Nat.min_eq_left hk,List.take_take,Nat.min_eq_left (by omega),show k - 1 - g=k - (g+1) by omega]
    have e3:full.drop (k - 1 - g)=(Fj,Wj) :: full.drop (k - 1 - g+1):=by
     have hlt:k - 1 - g < full.length:=by omega
     rw [List.drop_eq_getElem_cons hlt]
     rw [List.getElem?_eq_getElem hlt] at e1
     rw [Option.some.inj e1]
    split at h
    ·rename_i d1
     split at h
     ·rename_i d2
      show Jm_ full F W ((k - 1 - g) :: usA (k - 1 - g) r)=true
      unfold Jm_
      rw [e3]
      simp only []
      rw [d1];simp only []
      rw [d2];simp only []
      exact hz_ (by omega) (by rw [e2];exact h)
     ·cases h
    ·cases h
   ·cases h
theorem hy_ {hist:List (List Nat × List Nat)}:∀ {us:List Nat},(∀ j ∈ us,j < hist.length)->Jm_ hist [] [] us=true
 | [],_=>rfl
 | j :: r,h=>by
   have hj:=h j (List.mem_cons_self ..)
   unfold Jm_
   rw [List.drop_eq_getElem_cons hj]
   generalize hist[j]=x
   obtain ⟨Fj,Wj⟩:=x
   have d1:∀ l:List Nat,VY_ l []=true:=fun l=>by induction l with
    | nil=>rfl
    | cons a t ih=>exact ih
   simp only [d1,VY_]
   exact hy_ fun j hj=>h j (List.mem_cons_of_mem _ hj)
theorem zfb_ {full:List (List Nat × List Nat)} {F W us:List Nat} {k:Nat} (hk:full.length=k) (hu:∀ j ∈ usA k us,j < k) (h:ve_ full.reverse F W us=true):Jm_ full F W (usA k us)=true:=by
 have key:vd_ full.reverse F W us=true->Jm_ full F W (usA k us)=true:=fun h=>hz_ (by omega) (by rw [List.take_of_length_le (by omega)];exact h)
 unfold ve_ at h
 split at h
 ·split at h
  ·exact hy_ fun j hj=>by rw [hk];exact hu j hj
  ·exact key h
 ·exact key h
def kH_.block (id:Nat) (K:kH_):kH_:=fun e fr st nx=>match e with
 | .exit i=>match Nat.beq i id with | true=>K .normal fr st nx | false=>K (.exit i) fr st nx
 | .normal=>K .normal fr st nx
 | .ret=>K .ret fr st nx
def kH_.seq (n:zh_->zf_->Nat->Prop) (K:kH_):kH_:=fun e fr st nx=>match e with
 | .normal=>n fr st nx
 | .exit i=>K (.exit i) fr st nx
 | .ret=>K .ret fr st nx
def zfv_ (body:kH_->zh_->zf_->Nat->Prop) (K:kH_):Nat->zh_->zf_->Nat->Prop
 | 0,_,_,_=>False
 | n+1,fr,st,nx=>body (K.seq fun fr st nx=>zfv_ body K n fr st nx) fr st nx
def Ku_:Nat->List Obj->zf_
 | _,[]=>[]
 | i,o :: r=>(i,o) :: Ku_ (i+1) r
def QO_:List Nat->List AV->zh_
 | i :: l,v :: r=>(i,v) :: QO_ l r
 | _,_=>[]
def upto:Nat->List Nat:=fun k=>QY_ 0 k
def bI_ (k0:Nat) (live:List Nat) (fr:zh_) (st:zf_) (K:List AV->List Obj->Prop):Prop:=
 vQ_ (live.map fr.get) fun vs=>v2_ vs (upto k0) fun vs ρ=>K3_ st 1000 0 ρ fun os _=>K vs os
def zkR_ (k0:Nat) (body:kH_->zh_->zf_->Nat->Prop) (K:kH_) (fr:zh_) (st:zf_) (nx:Nat):Prop:=∀ r:Prop,
 ((∃ n,zfv_ body K n fr st nx)->r)->
 ((∃ (live:List Nat) (α:Type) (J:α->Prop) (V:α->List AV) (O:α->List Obj) (μ:α->Nat),bI_ k0 live fr st (fun vs os=>∃ a,J a/\vs=V a/\os=O a)/\
   ∀ a,J a->body (K.seq fun fr st _=>bI_ k0 live fr st fun vs os=>post (∃ a',J a'/\μ a' < μ a/\vs=V a'/\os=O a')) (QO_ live (V a)) (Ku_ 0 (O a)) (O a).length)->r)->r
def cutK (k0:Nat) (body:kH_->zh_->zf_->Nat->Prop) (K:kH_) (fr:zh_) (st:zf_) (nx:Nat):Prop:=∀ r:Prop,
 (body K fr st nx->r)->
 ((∃ (live:List Nat) (α:Type) (V:α->List AV) (O:α->List Obj),body (K.seq fun fr st _=>bI_ k0 live fr st fun vs os=>post (∃ a,vs=V a/\os=O a)) fr st nx/\
   ∀ a,K .normal (QO_ live (V a)) (Ku_ 0 (O a)) (O a).length)->r)->r
def hp_ (c:Opd) (b:Bool) (fr:zh_):zh_:=match c with | .t i=>(i,.kb b) :: fr | _=>fr
def gr_:Nat->List AV->zh_
 | _,[]=>[]
 | k,v :: r=>(k,v) :: gr_ (k+1) r
abbrev Hd:=Nat->List Nat->List Opd->zh_->zf_->Nat->(Bool->zh_->zf_->Nat->Prop)->Prop
def hd0:Hd:=fun _ _ _ _ _ _ _=>False
def kL_:List Opd->List Nat
 | []=>[]
 | .t i :: r=>i :: kL_ r
 | .c _ :: r=>kL_ r
 | .f _ :: r=>kL_ r
def zgr_:List Opd->List Nat->Bool
 | [],[]=>true
 | _ :: r,_ :: l=>zgr_ r l
 | _,_=>false
theorem UC_:∀ {l:List Opd} {r:List Nat},zgr_ l r=true->l.length=r.length
 | [],[],_=>rfl
 | _ :: l,_ :: r,h=>by
   have:=UC_ (l:=l) (r:=r) h
   simp [this]
 | [],_ :: _,h=>by cases h
 | _ :: _,[],h=>by cases h
def leB:List AV->Nat->Bool
 | [],_=>true
 | _ :: r,n+1=>leB r n
 | _ :: _,0=>false
theorem zgu_:∀ {l:List AV} {n:Nat},leB l n=true->l.length<=n
 | [],_,_=>Nat.zero_le _
 | _ :: r,n+1,h=>by
   have:=zgu_ (l:=r) (n:=n) h
   simp;omega
 | _ :: _,0,h=>by cases h
def lay (p:Prop):Prop:=p\/False
abbrev Wk:=Nat->Hd->kH_->zh_->zf_->Nat->Prop
def zbl_ (n c:Nat) (st:zf_) (K:zf_->Prop):Prop:=match st.get n with
 | some (.lrec r _)=>st.setK n (.lrec r c) K
 | _=>False
def zk9_ (n:Nat) (frc:zh_) (KY:Bool->zh_->zf_->Nat->Prop):kH_:=fun e _ st nx=>match e with
 | .normal=>zbl_ n 0 st fun st=>KY true frc st nx
 | .ret=>zbl_ n 2 st fun st=>KY false frc st nx
 | .exit i=>zbl_ n (i+3) st fun st=>KY false frc st nx
def asgE (n nb:Nat) (frc:zh_) (body:Wk) (KY:Bool->zh_->zf_->Nat->Prop):kH_:=fun e fr st nx=>match e with
 | .normal=>match st.get n with
   | some (.lrec r c)=>match c with
     | 0=>st.setK n (.lrec r 1) fun st=>body nb hd0 (zk9_ n frc KY) fr st nx
     | _+1=>False
   | _=>False
 | _=>False
def hdR (n:Nat) (lr:Go.Loop) (l:Nat) (us:List AV) (ps lv:List Nat) (asg body:Wk):Hd:=fun l' lvg args fr st nx KY=>
 bI_ (n+1) (lvg++kL_ args) fr st fun vs os=>GC_ os.length fun nb=>match (Ku_ 0 os).get n with
  | some (.lrec r c)=>match c with
    | 0=>match zgr_ args ps with
      | true=>need (l'=l/\r=lr) (asg nb hd0 (asgE n nb (QO_ (lvg++kL_ args) vs) body KY) (QO_ ps (args.map (·.ev (QO_ (lvg++kL_ args) vs)))++QO_ lv us) (Ku_ 0 os) nb)
      | false=>False
    | _+1=>False
  | _=>False
def endR (n:Nat) (fr:zh_) (K:kH_) (st:zf_) (nx:Nat):Prop:=match st.get n with
 | some (.lrec _ c)=>st.setK n .dead fun st=>match c with
   | 0=>K .normal fr st nx
   | 1=>False
   | 2=>K .ret fr st nx
   | c+3=>K (.exit c) fr st nx
 | _=>False
def KG (n:Nat) (fr:zh_) (K:kH_):kH_:=fun e _ st nx=>match e with
 | .normal=>endR n fr K st nx
 | .ret=>endR n fr K st nx
 | .exit _=>False
def rngK (f:Nat) (ps lv:List Nat) (g:Nat) (asg body gir:Wk) (k0:Nat) (K:kH_) (fr:zh_) (st:zf_):Prop:=
 bI_ k0 (f :: lv) fr st fun vs os=>match vs with
  | []=>False
  | v :: us=>match v with
    | .fn f' first cap=>match first with
      | []=>match Nat.beq f' g with
        | true=>match leB cap 3 with
          | true=>GC_ os.length fun n=>lay (∀ (lr:Go.Loop) (l:Nat),gir (n+1) (hdR n lr l us ps lv asg body) (KG n (QO_ lv us) K) (gr_ 0 (.yv l :: cap)) (Ku_ 0 (os++[.lrec lr 0])) (n+1))
          | false=>False
        | false=>False
      | _ :: _=>False
    | _=>False
def yldK (Γ:Env) (pre:List IOper) (d:Option Nat) (y:Opd) (args:List Opd) (lv:List Nat) (suf:List IOper) (hd:Hd) (K:kH_) (fr:zh_) (st:zf_) (nx:Nat):Prop:=
 xz_ Γ pre fr st nx fun fr st nx=>match y.ev fr with
  | .yv l=>hd l lv args fr st nx fun b fr st nx=>W6_ d (.kb b) fr fun fr=>xz_ Γ suf fr st nx fun fr st nx=>K .normal fr st nx
  | _=>False
def evC (Γ:Env) (ir:IR):Wk:=
 IR.rec (motive:=fun _=>Wk)
  (fun _ _ K fr st nx=>K .normal fr st nx)
  (fun ops _ _ K fr st nx=>xz_ Γ ops fr st nx fun fr st nx=>K .normal fr st nx)
  (fun ops _ _ K fr st nx=>wm_ Γ ops [] fr st nx fun fr st nx=>K .normal fr st nx)
  (fun _ _ iha ihb k0 hd K fr st nx=>iha k0 hd (K.seq fun fr st nx=>ihb k0 hd K fr st nx) fr st nx)
  (fun c _ _ iha ihb k0 hd K fr st nx=>match c.ev fr with
    | .bool t=>cnd t (iha k0 hd K (hp_ c true fr) st nx) (ihb k0 hd K (hp_ c false fr) st nx)
    | .kb t=>match t with | true=>iha k0 hd K fr st nx | false=>ihb k0 hd K fr st nx
    | _=>False)
  (fun id _ ih k0 hd K fr st nx=>ih k0 hd (K.block id) fr st nx)
  (fun _ ih k0 hd K fr st nx=>zkR_ k0 (ih k0 hd) K fr st nx)
  (fun _ ih k0 hd K fr st nx=>cutK k0 (ih k0 hd) K fr st nx)
  (fun l _ ih k0 hd K fr st nx=>zap_ l fr fun fr=>gp_ st fun st=>ih k0 hd K fr st nx)
  (fun i _ _ K fr st nx=>K (.exit i) fr st nx)
  (fun _ _ K fr st nx=>K .ret fr st nx)
  (fun _ ih k0 hd K fr st nx=>ih k0 hd K fr st nx)
  (fun f ps lv g _ _ _ iha ihb ihg k0 _ K fr st _=>rngK f ps lv g iha ihb ihg k0 K fr st)
  (fun pre d y args lv suf _ hd K fr st nx=>yldK Γ pre d y args lv suf hd K fr st nx) ir
end Go.Eng
namespace Go.Eng
set_option linter.unusedVariables false
set_option linter.unusedSimpArgs false
open Go.RowKit
def WG_ (I:Nat->Prop) (w:World) (m:M) (φ:Nat->AV) (a:Act):Prop:=∀ i,RV I w m (φ i) (a.tmps.getD i undef)
def XI_ (I:Nat->Prop) (w0 w:World) (ds:List Deferred):Prop:=
 ds.Nodup/\∀ d ∈ ds,∃ D,d={target:=.collected D,args:=#[]}/\I D/\w0.heap.size<=D/\w.heap[D]?=some (.deferred (some []))
theorem XI_.nil (I:Nat->Prop) (w0 w:World):XI_ I w0 w []:=⟨List.nodup_nil,fun d hd=>by cases hd⟩
theorem XI_.evo {I I':Nat->Prop} {w0 w w':World} {ds:List Deferred} (h:XI_ I w0 w ds) (hI:∀ b,I b->I' b) (hs:kk_ I w w'):XI_ I' w0 w' ds:=
 ⟨h.1,fun d hd=>by
  obtain ⟨D,h1,h2,h3,h4⟩:=h.2 d hd
  exact ⟨D,h1,hI D h2,h3,(hs D h2).trans h4⟩⟩
structure Sta (n k0:Nat) (X0:Bool->Nat->Prop) (I0:Nat->Prop) (w0:World) (m0:M) (fr:zh_) (st:zf_) (nx:Nat) (I:Nat->Prop) (w:World) (m:M) (a:Act):Prop where
 size:a.tmps.size=n
 defers:XI_ I w0 w a.defers
 f:WG_ I w m fr.get a
 hs:HS X0 I0 w0 st.get I w m
 same:kk_ I0 w0 w
 kept:∀ i,i < k0->m.used i/\m0.same m i
 lt:∀ i,m.used i->i < nx
theorem za0_ {a:Act} {d:Nat} {v:Value} {i:Nat} (hd:d < a.tmps.size):(a.put (some d) v).tmps.getD i undef=if i=d then v else a.tmps.getD i undef:=by
 simp only [Act.put,Array.getD_eq_getD_getElem?,Array.getElem?_setIfInBounds]
 by_cases h:i=d
 ·subst h;simp [hd]
 ·rw [if_neg (fun e=>h e.symm),if_neg h]
theorem WG_.put {I:Nat->Prop} {w:World} {m:M} {fr:zh_} {a:Act} {d:Nat} {v:AV} {cv:Value} (h:WG_ I w m fr.get a) (hd:d < a.tmps.size) (hv:RV I w m v cv):WG_ I w m (zh_.get ((d,v) :: fr)) (a.put (some d) cv):=fun i=>by
 rw [zh_.get_cons,za0_ hd]
 split
 ·exact hv
 ·exact h i
theorem WG_.evo {I I':Nat->Prop} {w w':World} {m m':M} {φ:Nat->AV} {a:Act} (h:WG_ I w m φ a) (e:Evo I w m I' w' m'):WG_ I' w' m' φ a:=fun i=>e.rv (h i)
theorem WG_.know {I:Nat->Prop} {w:World} {m:M} {fr:zh_} {a:Act} {g:Nat} {b:Bool} (h:WG_ I w m fr.get a) (e:a.tmps.getD g undef=.bool b):WG_ I w m (zh_.get ((g,.kb b) :: fr)) a:=fun i=>by
 rw [zh_.get_cons]
 split
 ·subst_vars;rw [e];rfl
 ·exact h i
def Yf_ (n:Nat):Option Nat->Option Nat->Bool
 | none,none=>true
 | some d,some e=>d == e && decide (d < n)
 | _,_=>false
def ub_ (ops:Array Oper):Option (Nat × Bool)->Option (Nat × Bool)->Bool
 | none,none=>true
 | some (j,b),some (g,c)=>b == c && (match (ops[j]?).bind (·.dst) with | some d=>d == g | none=>false)
 | _,_=>false
def HC_ (P:Program) (n:Nat) (ops:Array Oper) (o:Oper) (x:IOper):Bool:=Yf_ n o.dst x.dst && zM_ P o.op x.op && x.op.sup && ub_ ops o.guard x.guard
def V6_ (P:Program) (n:Nat) (ops:Array Oper) (o:Oper) (x:IOper):Bool:=Yf_ n o.dst x.dst && zM_ P o.op x.op && x.op.supS && ub_ ops o.guard x.guard
def yR_ (P:Program) (n:Nat) (ops:Array Oper):List Oper->List IOper->Bool
 | [],[]=>true
 | o :: r,x :: l=>V6_ P n ops o x && yR_ P n ops r l
 | _,_=>false
theorem uo_ {ops:Array Oper} {a:Act} {j g:Nat} (h:(match (ops[j]?).bind (·.dst) with | some d=>d == g | none=>false)=true):
 yielded ops a.tmps j=match a.tmps.getD g undef with | .bool b=>some b | _=>none:=by
 unfold yielded
 split at h
 ·rename_i d hd
  simp only [beq_iff_eq] at h;subst h
  rw [hd]
  simp only [Option.bind_some,Array.getD_eq_getD_getElem?]
  cases a.tmps[d]? with
  | none=>rfl
  | some v=>cases v<;>rfl
 ·cases h
theorem vU_ {ops:Array Oper} {o:Oper} {g:Option (Nat × Bool)} {fr:zh_} {run skip:zh_->Prop} (hg:ub_ ops o.guard g=true) (ev:Q6_ g fr run skip):
 ∃ fr' t,(match t with | true=>run fr' | false=>skip fr')/\(fr'=fr\/∃ i v,g=some (i,v)/\∃ b,fr.get i=.bool b/\fr'=(i,.kb b) :: fr)/\
   ∀ (I:Nat->Prop) (w:World) (m:M) (a:Act),(∀ i v,g=some (i,v)->RV I w m (fr.get i) (a.tmps.getD i undef))->Region.wanted o (yielded ops a.tmps)=t:=by
 unfold Q6_ at ev
 cases hog:o.guard with
 | none=>
   cases hxg:g with
   | some _=>rw [hog,hxg] at hg;cases hg
   | none=>
     rw [hxg] at ev
     exact ⟨fr,true,ev,.inl rfl,fun I w m a _=>by simp [Region.wanted,hog]⟩
 | some jb=>
   obtain ⟨j,b⟩:=jb
   cases hxg:g with
   | none=>rw [hog,hxg] at hg;cases hg
   | some gc=>
     obtain ⟨g,c⟩:=gc
     rw [hog,hxg] at hg
     simp only [ub_,Bool.and_eq_true,beq_iff_eq] at hg
     obtain ⟨rfl,hy⟩:=hg
     rw [hxg] at ev
     have hw:∀ a:Act,Region.wanted o (yielded ops a.tmps)=(yielded ops a.tmps j == some b):=fun a=>by simp [Region.wanted,hog]
     have is:∀ {t:Bool},(∀ {I:Nat->Prop} {w:World} {m:M} {a:Act},RV I w m (fr.get g) (a.tmps.getD g undef)->a.tmps.getD g undef=.bool t)->∀ (I:Nat->Prop) (w:World) (m:M) (a:Act),(∀ i v,some (g,b)=some (i,v)->RV I w m (fr.get i) (a.tmps.getD i undef))->Region.wanted o (yielded ops a.tmps)=(t == b):=fun {t} h I w m a hv=>by
      rw [hw,uo_ hy,h (hv g b rfl)]
      cases t<;>cases b<;>rfl
     simp only at ev
     split at ev
     ·rename_i t ht
      have hb:=is (t:=t) fun {I w m a} h=>by rw [ht] at h;exact h
      rcases vf_ ev with ⟨rfl,ev'⟩ | ⟨rfl,ev'⟩
      ·cases b with
       | true=>exact ⟨_,true,ev',.inr ⟨_,_,rfl,_,ht,rfl⟩,hb⟩
       | false=>exact ⟨_,false,ev',.inr ⟨_,_,rfl,_,ht,rfl⟩,hb⟩
      ·cases b with
       | true=>exact ⟨_,false,ev',.inr ⟨_,_,rfl,_,ht,rfl⟩,hb⟩
       | false=>exact ⟨_,true,ev',.inr ⟨_,_,rfl,_,ht,rfl⟩,hb⟩
     ·rename_i t ht
      have hb:=is (t:=t) fun {I w m a} h=>by rw [ht] at h;exact h
      cases t<;>cases b
      ·exact ⟨_,true,ev,.inl rfl,hb⟩
      ·exact ⟨_,false,ev,.inl rfl,hb⟩
      ·exact ⟨_,false,ev,.inl rfl,hb⟩
      ·exact ⟨_,true,ev,.inl rfl,hb⟩
     ·rename_i ht
      refine ⟨_,false,ev,.inl rfl,fun I w m a hv=>?_⟩
      have h:=hv g b rfl
      rw [ht] at h
      rw [hw,uo_ hy,show a.tmps.getD g undef=undef from h]
      rfl
     ·exact ev.elim
section
variable {P:Program} {Γ:Env} {n k0:Nat} {X0:Bool->Nat->Prop} {I0:Nat->Prop} {w0:World} {m0:M}
theorem Sta.fr' {fr fr':zh_} {st:zf_} {nx:Nat} {I:Nat->Prop} {w:World} {m:M} {a:Act} {g:Option (Nat × Bool)} (h:Sta n k0 X0 I0 w0 m0 fr st nx I w m a) (e:fr'=fr\/∃ i v,g=some (i,v)/\∃ b,fr.get i=.bool b/\fr'=(i,.kb b) :: fr):
 Sta n k0 X0 I0 w0 m0 fr' st nx I w m a:=by
 rcases e with rfl | ⟨i,v,_,b,hb,rfl⟩
 ·exact h
 ·have:=h.f i
  rw [hb] at this
  exact ⟨h.size,h.defers,h.f.know this,h.hs,h.same,h.kept,h.lt⟩
theorem Sta.put {fr:zh_} {st:zf_} {nx:Nat} {I:Nat->Prop} {w:World} {m:M} {a:Act} {d d':Option Nat} {v:AV} {cv:Value}
 (h:Sta n k0 X0 I0 w0 m0 fr st nx I w m a) (hd:Yf_ n d d'=true) (hv:RV I w m v cv):Sta n k0 X0 I0 w0 m0 (Wb_ d' v fr) st nx I w m (a.put d cv):=by
 cases d with
 | none=>
   cases d' with
   | some _=>cases hd
   | none=>exact h
 | some d=>
   cases d' with
   | none=>cases hd
   | some e=>
     simp only [Yf_,Bool.and_eq_true,beq_iff_eq,decide_eq_true_eq] at hd
     obtain ⟨rfl,hd⟩:=hd
     exact ⟨by simp only [Act.put,Array.size_setIfInBounds];exact h.size,h.defers,h.f.put (by rw [h.size];exact hd) hv,h.hs,h.same,h.kept,h.lt⟩
theorem WG_.on {I:Nat->Prop} {w:World} {m:M} {fr:zh_} {a:Act} (h:WG_ I w m fr.get a) (L:List Opd):FOn L fr I w m a:=fun i _=>h i
theorem Sta.st_lt {fr:zh_} {st:zf_} {nx:Nat} {I:Nat->Prop} {w:World} {m:M} {a:Act} (h:Sta n k0 X0 I0 w0 m0 fr st nx I w m a):∀ i,st.get i ≠ none->i < nx:=fun i hi=>h.lt i (h.hs.H.lt i hi)
theorem Sta.evo {fr:zh_} {st st':zf_} {nx nx':Nat} {I I':Nat->Prop} {w w':World} {m m':M} {a:Act} (h:Sta n k0 X0 I0 w0 m0 fr st nx I w m a) (hs':HS X0 I0 w0 st'.get I' w' m') (e:Evo I w m I' w' m') (hle:nx<=nx') (hu:∀ i,m'.used i->m.used i\/(nx<=i/\i < nx')):
 Sta n k0 X0 I0 w0 m0 fr st' nx' I' w' m' a:=
 ⟨h.size,h.defers.evo e.up e.same,h.f.evo e,hs',fun b hb=>(e.same b (h.hs.Isub b hb)).trans (h.same b hb),fun i hi=>⟨e.m.1 i (h.kept i hi).1,M.same_trans (h.kept i hi).2 (e.m.2 i (h.kept i hi).1)⟩,fun i hi=>by
  rcases hu i hi with h' | h'
  ·have:=h.lt i h';omega
  ·exact h'.2⟩
@[reducible] def xorB (neg b:Bool):Bool:=match neg with | true=>!b | false=>b
theorem zeW_ {o:Oper} {neg:Bool} {x':Opd} {fr:zh_} {st:zf_} {nx:Nat} {I:Nat->Prop} {w:World} {m:M} {a:Act} {K:AV->zf_->Nat->Prop} (hok:zM_ P o.op (.isnil neg x')=true) (hf:FOn [x'] fr I w m a) (hH:HRel I w m st.get) (ev:zH_ Γ (.isnil neg x') fr st nx K):
 ∃ v cv,K v st nx/\RV I w m v cv/\(execOp a.eval o).run P w=.ok (.value cv) w:=by
 simp only [zM_] at hok
 split at hok
 ·rename_i op xt x y e ho
  simp only [Bool.and_eq_true,beq_iff_eq] at hok
  obtain ⟨⟨⟨hop,hx⟩,hy⟩,ht⟩:=hok
  obtain ⟨el,ht⟩:=X0_ ht
  have hy':a.eval y=.slice none 0 0:=by
   unfold nilC at hy
   split at hy
   ·rfl
   ·cases hy
  have key:∀ {ao:Option Addr} {len cap:Nat},a.eval x=.slice ao len cap->(execOp a.eval o).run P w=.ok (.value (.bool (xorB neg ao.isNone))) w:=fun {ao len cap} h=>by
   have hr:=ya_ (P:=P) (w:=w) (neg:=neg) (xt:=xt) (x:=x) (y:=y) (r:=ao.isNone) (.inr (.inr (.inr ⟨_,_,_,_,_,_,h,hy'⟩))) (by rw [h,hy'];exact G5_ (d:=9999) ht)
   refine vc_ (S:=do eqGuard (if neg then .neq else .eql) xt x y (a.eval x) (a.eval y);binOp (if neg then .neq else .eql) xt (a.eval x) (a.eval y)) ?_ hr
   unfold execOp;rw [ho,hop]
  have hv:=hf.rv (List.mem_cons_self ..) hx
  simp only [zH_] at ev
  split at ev
  ·rename_i hb
   rw [hb] at hv
   have hv:a.eval x=.slice none 0 0:=hv
   refine ⟨_,_,ev,?_,key hv⟩
   cases neg<;>exact Uz_
  ·rename_i t l hb
   rw [hb] at hv
   obtain ⟨ao,len,cap,h1,h2⟩:=hv
   obtain ⟨k1,k2,k3,k4⟩:=h2
   refine ⟨_,_,ev ao.isNone fun h=>?_,?_,key h1⟩
   ·rw [Option.isNone_iff_eq_none] at h;subst h
    rcases Nat.eq_zero_or_pos len with h0 | h0
    ·exact List.eq_nil_of_length_eq_zero (by omega)
    ·obtain ⟨b,o,e,_⟩:=k4 h0;cases e
   ·cases neg<;>exact qB_
  ·rename_i i hb
   split at ev
   ·rename_i fz t l hl
    rw [hb] at hv
    obtain ⟨ao,len,cap,h1,q1,q2,q3,q4,q5,q6⟩:=hv
    refine ⟨_,_,ev ao.isNone fun h=>?_,?_,key h1⟩
    ·rw [Option.isNone_iff_eq_none] at h;subst h
     obtain ⟨_,r2,r3,_,_⟩:=hH.obj i _ hl
     rcases q6 with ⟨_,_,q6⟩ | ⟨b,_,e⟩
     ·exact List.eq_nil_of_length_eq_zero (by omega)
     ·cases e
    ·cases neg<;>exact qB_
   ·exact ev.elim
  ·rename_i i off n hb
   rw [hb] at hv
   obtain ⟨ao,len,cap,h1,q1,q2,q3,q4,q5,q6⟩:=hv
   refine ⟨_,_,ev ao.isNone fun h=>?_,?_,key h1⟩
   ·rw [Option.isNone_iff_eq_none] at h;subst h
    rcases q6 with ⟨_,_,q6⟩ | ⟨b,o,_,e,_⟩
    ·omega
    ·cases e
   ·cases neg<;>exact qB_
  ·exact ev.elim
 ·cases hok
theorem zhy_ (hΓ:QN_ P Γ) {o:Oper} {io:IOp} {fr:zh_} {st:zf_} {nx:Nat} {I:Nat->Prop} {w:World} {m:M} {a:Act} {K:AV->zf_->Nat->Prop} (hst:∀ i,st.get i ≠ none->i < nx) (hok:zM_ P o.op io=true) (hn:io.sup=false) (hS:io.supS=true)
 (hf:FOn io.opds fr I w m a) (hs:HS X0 I0 w0 st.get I w m) (hN:∀ i,nx<=i->¬ m.used i) (ev:zH_ Γ io fr st nx K):Yr_ P o a w fun cv I' w' m'=>∃ v st1 nx',nx<=nx'/\K v st1 nx'/\bV_ X0 I0 w0 I w m st1.get v nx nx' cv I' w' m':=by
 have keep:(∃ v cv,K v st nx/\RV I w m v cv/\(execOp a.eval o).run P w=.ok (.value cv) w)->Yr_ P o a w fun cv I' w' m'=>∃ v st1 nx',nx<=nx'/\K v st1 nx'/\bV_ X0 I0 w0 I w m st1.get v nx nx' cv I' w' m':=fun ⟨v,cv,hK,hv,hrun⟩=>
  JN_ (I':=I) (m':=m) hrun ⟨v,st,nx,Nat.le_refl _,hK,hv,hs,Evo.refl _ _ _,fun _ h=>.inl h⟩
 have one:(∃ v st1,K v st1 nx/\Yr_ P o a w (bV_ X0 I0 w0 I w m st1.get v nx nx))->Yr_ P o a w fun cv I' w' m'=>∃ v st1 nx',nx<=nx'/\K v st1 nx'/\bV_ X0 I0 w0 I w m st1.get v nx nx' cv I' w' m':=fun ⟨v,st1,hK,hrun⟩=>
  fun N Q k=>hrun N Q fun cv I' w' m' hg=>k cv I' w' m' ⟨v,st1,nx,Nat.le_refl _,hK,hg⟩
 cases io with
 | isnil=>exact keep (zeW_ hok hf hs.H ev)
 | _=>first | (cases hn;done) | (cases hS;done)
theorem uv_ (hΓ:QN_ P Γ) {ops:Array Oper} {Q:Exit->Act->World->Prop} {o:Oper} {x:IOper} {r:List Oper} {fr:zh_} {st:zf_} {nx:Nat} {I:Nat->Prop} {w:World} {m:M} {a:Act} {K:zh_->zf_->Nat->Prop}
 (hok:V6_ P n ops o x=true) (h:Sta n k0 X0 I0 w0 m0 fr st nx I w m a)
 (ev:Q6_ x.guard fr (fun fr=>zH_ Γ x.op fr st nx fun v st nx=>K (Wb_ x.dst v fr) st nx) fun fr=>K (Wb_ x.dst .skp fr) st nx)
 (rest:∀ fr' st' nx' I' w' m' a',K fr' st' nx'->Sta n k0 X0 I0 w0 m0 fr' st' nx' I' w' m' a'->wpList P ops Q r a' w'):
 wpList P ops Q (o :: r) a w:=by
 simp only [V6_,Bool.and_eq_true] at hok
 obtain ⟨⟨⟨hd,hop⟩,hsup⟩,hg⟩:=hok
 obtain ⟨fr',t,ev',hfr,hw⟩:=vU_ hg ev
 have h':=h.fr' hfr
 have hw:=hw I w m a fun i _ _=>h.f i
 unfold wpList
 cases t with
 | true=>
   rw [if_pos hw]
   by_cases hn:x.op.sup=true
   ·have hsup:=hn
    obtain ⟨v,st1,nx',T,hle,hK,h3,_,run⟩:=zf2_ (F:=fun _=>True) hΓ h'.st_lt hsup hop (fun _ _ _ _ _ _ _=>trivial) (fun _ _=>trivial) ev'
    refine .inl (run (h'.f.on _) h'.hs (fun _ _=>rfl) (fun i h1 _ hu=>by have:=h'.lt i hu;omega) _ Q fun cv I' w' m' hgood=>?_)
    obtain ⟨q1,q2,q3,q4⟩:=hgood
    have hupd:upd st.get T st1=st1.get:=funext fun i=>by
     unfold upd
     split
     ·rfl
     ·rename_i hi;exact (h3 i hi).symm
    rw [hupd] at q2
    exact rest _ _ _ _ _ _ _ hK ((h'.evo q2 q3 hle q4).put hd q1)
   ·refine .inl (zhy_ hΓ h'.st_lt hop (by simpa using hn) hsup (h'.f.on _) h'.hs (fun i h1 hu=>by have:=h'.lt i hu;omega) ev' _ Q fun cv I' w' m' hgood=>?_)
    obtain ⟨v,st1,nx',hle,hK,q1,q2,q3,q4⟩:=hgood
    exact rest _ _ _ _ _ _ _ hK ((h'.evo q2 q3 hle q4).put hd q1)
 | false=>
   rw [if_neg (by rw [hw];simp)]
   exact rest _ _ _ _ _ _ _ ev' (h'.put hd (v:=.skp) (cv:=undef) rfl)
theorem YN_ (hΓ:QN_ P Γ) {ops:Array Oper} {Q:Exit->Act->World->Prop} {K:zh_->zf_->Nat->Prop}:∀ {os:List Oper} {ios:List IOper} {fr:zh_} {st:zf_} {nx:Nat} {I:Nat->Prop} {w:World} {m:M} {a:Act},
 yR_ P n ops os ios=true->Sta n k0 X0 I0 w0 m0 fr st nx I w m a->xz_ Γ ios fr st nx K->
 (∀ fr' st' nx' I' w' m' a',K fr' st' nx'->Sta n k0 X0 I0 w0 m0 fr' st' nx' I' w' m' a'->Q .normal a' w')->wpList P ops Q os a w
 | [],[],fr,st,nx,I,w,m,a,_,h,ev,fin=>fin _ _ _ _ _ _ _ ev h
 | o :: r,x :: l,fr,st,nx,I,w,m,a,hok,h,ev,fin=>by
   simp only [yR_,Bool.and_eq_true] at hok
   rw [gc_] at ev
   exact uv_ (K:=fun fr st nx=>xz_ Γ l fr st nx K) hΓ hok.1 h ev fun fr' st' nx' I' w' m' a' hK hS=>YN_ hΓ hok.2 hS hK fin
 | [],_ :: _,_,_,_,_,_,_,_,hok,_,_,_=>by cases hok
 | _ :: _,[],_,_,_,_,_,_,_,hok,_,_,_=>by cases hok
theorem zai_:∀ (l:List Obj) (k i:Nat),(Ku_ k l).get i=if k<=i then l[i - k]? else none
 | [],k,i=>by simp [Ku_,zf_.get]
 | o :: r,k,i=>by
   show zf_.get ((k,o) :: Ku_ (k+1) r) i=_
   rw [zf_.get_cons,zai_ r (k+1) i]
   by_cases h:i=k
   ·subst h;simp
   ·rw [if_neg h]
    by_cases h2:k<=i
    ·rw [if_pos (by omega),if_pos h2,show i - k=(i - (k+1))+1 by omega];rfl
    ·rw [if_neg (by omega),if_neg h2]
theorem Zo_ (l:List Obj):(Ku_ 0 l).get=ofL l:=funext fun i=>by rw [zai_,if_pos (Nat.zero_le _)];rfl
theorem u7_:∀ (n i j:Nat),(QY_ i n)[j]?=if j < n then some (i+j) else none
 | 0,i,j=>by simp [QY_]
 | n+1,i,j=>by
   unfold QY_
   cases j with
   | zero=>simp
   | succ j=>rw [List.getElem?_cons_succ,u7_ n (i+1) j];by_cases h:j < n<;>simp [h,show i+1+j=i+(j+1) by omega]
theorem hi_:∀ {n i k:Nat},k ∈ QY_ i n->i<=k
 | 0,i,k,h=>by cases h
 | n+1,i,k,h=>by
   unfold QY_ at h
   rcases List.mem_cons.1 h with rfl | h
   ·exact Nat.le_refl _
   ·have:=hi_ h;omega
theorem yP_:∀ (n i:Nat),(QY_ i n).Nodup
 | 0,_=>List.nodup_nil
 | n+1,i=>by
   unfold QY_
   exact List.nodup_cons.2 ⟨fun h=>by have:=hi_ h;omega,yP_ n (i+1)⟩
theorem XT_:∀ (n i:Nat),(QY_ i n).length=n
 | 0,_=>rfl
 | n+1,i=>by simp [QY_,XT_ n (i+1)]
theorem ys_ {I:Nat->Prop} {w:World} {m:M} {a:Act}:∀ {live:List Nat} {vs:List AV},Kk_ I w m vs (live.map fun i=>a.tmps.getD i undef)->WG_ I w m (QO_ live vs).get a
 | [],[],_=>fun _=>trivial
 | i :: l,v :: r,h=>fun j=>by
   show RV I w m (zh_.get ((i,v) :: QO_ l r) j) _
   rw [zh_.get_cons]
   split
   ·rename_i e;subst e;exact wQ_ h.1
   ·exact ys_ h.2 j
 | [],_ :: _,h=>h.elim
 | _ :: _,[],h=>h.elim
theorem kA_ {live:List Nat} {fr:zh_} {st:zf_} {nx:Nat} {I:Nat->Prop} {w:World} {m:M} {a:Act} {K:List AV->List Obj->Prop} (h:Sta n k0 X0 I0 w0 m0 fr st nx I w m a) (ev:bI_ k0 live fr st K):
 ∃ vs os,K vs os/\∃ m',Sta n k0 X0 I0 w0 m0 (QO_ live vs) (Ku_ 0 os) os.length I w m' a/\Kk_ I w m' vs (live.map fun i=>a.tmps.getD i undef):=by
 unfold bI_ at ev
 rcases xg_ (live.map fr.get) with h' | ⟨l',e1,e2,e3⟩
 ·exact absurd ev (h' _)
 ·rw [e1] at ev
  obtain ⟨vs,ρ1,c1,c2,c3,c4⟩:=xB_ nx l' (upto k0)
  rw [c1] at ev
  rcases jx_ st nx 1000 0 ρ1 (Nat.zero_le _) with h' | ⟨os,ρ,d1,d2,d3,d4⟩
  ·exact absurd ev (h' _)
  ·rw [d1] at ev
   rw [Nat.zero_add] at d3
   have d4:∀ k (h:k < os.length) (h':k < ρ.length),∃ o,st.get ρ[k]=some o/\q4_ nx ρ o os[k]:=fun k h h'=>by
    have:=d4 k h (by omega)
    simpa only [Nat.zero_add] using this
   have hpre:=c2.trans d2
   have hnod:ρ.Nodup:=hpre.nodup (yP_ k0 0)
   have hk0:∀ i,i < k0->∃ h:i < ρ.length,ρ[i]=i:=fun i hi=>by
    have hl:i < (upto k0).length:=by unfold upto;rw [XT_];exact hi
    refine ⟨Nat.lt_of_lt_of_le hl hpre.len,?_⟩
    rw [<- hpre.pre.getElem hl]
    have:=u7_ k0 0 i
    rw [if_pos hi,List.getElem?_eq_getElem (by rw [XT_];exact hi)] at this
    have e:=Option.some.inj this
    simpa [upto] using e
   have hl2:Kk_ I w m l' (live.map fun i=>a.tmps.getD i undef):=e3 (by simp) fun i h1 h2=>by
    simp only [List.getElem_map];exact h.f _
   have huse:∀ j,j < ρ.length->Un (Kw_ m ρ nx) m (un ρ nx) j:=fun j hj=>⟨hj,rfl,rfl,rfl,rfl⟩
   have hvs:vs.map (kY_ (un ρ nx))=l':=by
    rw [<- c3]
    exact List.map_congr_left fun v hv=>XM_ fun j hj=>d2.un (c4 j (List.mem_flatMap.2 ⟨v,hv,hj⟩))
   rw [<- hvs] at hl2
   have hl3:=yp_ (fun j hj=>huse j (Nat.lt_of_lt_of_le (c4 j hj) d2.len)) hl2
   have hH:=hC_ (js:=[]) (nx:=nx) h.hs.H hnod d3 d4 (fun i hi=>(by cases hi)) (fun i hi=>(by cases hi))
   have hIb:Ib I m []=I:=funext fun b=>propext ⟨fun h=>h.elim id fun ⟨i,hi,_⟩=>(by cases hi),.inl⟩
   rw [hIb] at hH
   refine ⟨vs,os,ev,Kw_ m ρ nx,⟨h.size,h.defers,ys_ hl3,⟨by rw [Zo_];exact hH,h.hs.fr0,h.hs.Isub,h.hs.Inew,fun i o b e hm hb=>?_,fun i o b e hm hb=>?_⟩,h.same,fun i hi=>?_,fun i hi=>by rw [d3];exact hi⟩,hl3⟩
   ·rw [Zo_] at e
    unfold ofL at e
    obtain ⟨hi,e⟩:=List.getElem?_eq_some_iff.1 e
    obtain ⟨o',g1,g2⟩:=d4 i hi (by omega)
    simp only [Kw_,ZV_ (show i < ρ.length by omega)] at hb
    exact h.hs.own _ o' b g1 (by rw [<- g2.same.1,e];exact hm) hb
   ·rw [Zo_] at e
    unfold ofL at e
    obtain ⟨hi,e⟩:=List.getElem?_eq_some_iff.1 e
    obtain ⟨o',g1,g2⟩:=d4 i hi (by omega)
    simp only [Kw_,ZV_ (show i < ρ.length by omega)] at hb
    exact h.hs.ownL _ o' b g1 (by rw [<- g2.same.2,e];exact hm) hb
   ·obtain ⟨h1,h2⟩:=hk0 i hi
    refine ⟨h1,?_⟩
    have:=(h.kept i hi).2
    unfold M.same at this ⊢
    simp only [Kw_,ZV_ h1,h2];exact this
def hV_:Exit->Option Ex
 | .normal=>some .normal
 | .exit i=>some (.exit i)
 | .ret=>some .ret
 | _=>none
def QQ (n k0:Nat) (X0:Bool->Nat->Prop) (I0:Nat->Prop) (w0:World) (m0:M) (K:kH_):Exit->Act->World->Prop:=fun e a w=>
 ∃ x,hV_ e=some x/\∃ fr st nx I m,K x fr st nx/\Sta n k0 X0 I0 w0 m0 fr st nx I w m a
end
end Go.Eng
