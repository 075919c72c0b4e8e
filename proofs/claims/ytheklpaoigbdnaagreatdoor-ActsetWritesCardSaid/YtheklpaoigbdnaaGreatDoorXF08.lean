/- Parts of the proof: ECode. No condition. -/
import Derived.Test.YtheklpaoigbdnaaGreatDoorXF07
import Derived.LoopN
namespace Go.Eng
set_option linter.unusedVariables false
set_option linter.unusedSimpArgs false
open Go.RowKit
inductive Ex where
 | normal
 | exit (i:Nat)
 | ret
abbrev qK_:=Ex->zd_->zb_->Nat->Prop
def qo_ (g:Option (Nat × Bool)) (fr:zd_) (run skip:zd_->Prop):Prop:=match g with
 | none=>run fr
 | some (g,b)=>match fr.get g with
   | .bool t=>cnd t (match b with | true=>run ((g,.kb true) :: fr) | false=>skip ((g,.kb true) :: fr)) (match b with | true=>skip ((g,.kb false) :: fr) | false=>run ((g,.kb false) :: fr))
   | .kb t=>match t,b with
     | true,true=>run fr
     | false,false=>run fr
     | true,false=>skip fr
     | false,true=>skip fr
   | .skp=>skip fr
   | _=>False
def k9_ (d:Option Nat) (v:AV) (fr:zd_):zd_:=match d with | none=>fr | some d=>(d,v) :: fr
def Kn_ (d:Option Nat) (v:AV) (fr:zd_) (K:zd_->Prop):Prop:=match d with | none=>K fr | some d=>K ((d,v) :: fr)
theorem xg_ (d:Option Nat) (v:AV) (fr:zd_) (K:zd_->Prop):Kn_ d v fr K=K (k9_ d v fr):=by cases d<;>rfl
def ue_:List Nat->zd_->(zd_->Prop)->Prop
 | [],_,K=>K []
 | i :: r,fr,K=>Ku_ (fr.get i) fun v=>ue_ r fr fun t=>K ((i,v) :: t)
def xA_ (l:List Nat) (fr:zd_):zd_:=l.map fun i=>(i,fr.get i)
theorem ud_:∀ (l:List Nat) (fr:zd_) (K:zd_->Prop),ue_ l fr K=K (xA_ l fr)
 | [],_,_=>rfl
 | i :: r,fr,K=>by unfold ue_;rw [kh_];exact ud_ r fr _
def x9_:zb_->(zb_->Prop)->Prop
 | [],K=>K []
 | (i,o) :: r,K=>x9_ r fun r=>K ((i,o) :: r)
theorem y1_:∀ (st:zb_) (K:zb_->Prop),x9_ st K=K st
 | [],_=>rfl
 | (i,o) :: r,K=>by unfold x9_;exact y1_ r _
def Kw_ (Γ:Env) (l:List IOper):zd_->zb_->Nat->(zd_->zb_->Nat->Prop)->Prop:=
 List.rec (motive:=fun _=>zd_->zb_->Nat->(zd_->zb_->Nat->Prop)->Prop) (fun fr st nx K=>K fr st nx)
  (fun x _ ih fr st nx K=>qo_ x.guard fr (fun fr=>zp_ Γ x.op fr st nx fun v st nx=>X2_ nx fun nx=>Kn_ x.dst v fr fun fr=>ih fr st nx K) fun fr=>Kn_ x.dst .skp fr fun fr=>ih fr st nx K) l
theorem xW_ {Γ:Env} {x:IOper} {l:List IOper} {fr:zd_} {st:zb_} {nx:Nat} {K:zd_->zb_->Nat->Prop}:Kw_ Γ (x :: l) fr st nx K=qo_ x.guard fr (fun fr=>zp_ Γ x.op fr st nx fun v st nx=>Kw_ Γ l (k9_ x.dst v fr) st nx K) fun fr=>Kw_ Γ l (k9_ x.dst .skp fr) st nx K:=by
 show qo_ x.guard fr (fun fr=>zp_ Γ x.op fr st nx fun v st nx=>X2_ nx fun nx=>Kn_ x.dst v fr fun fr=>Kw_ Γ l fr st nx K) (fun fr=>Kn_ x.dst .skp fr fun fr=>Kw_ Γ l fr st nx K)=_
 simp only [KW_,xg_]
def YY_ (io:IOp) (fr:zd_):List Nat:=match io with
 | .call _ f args=>v1_ f args fr
 | .box _ | .boxv _ | .slice0 _ | .mkrow _ _ _ _ _ | .nilrow _=>[]
 | .store _ x y=>Qi_ x y fr
 | io=>match io.pure with | true=>[] | false=>z3_ io.opds fr
def Js_ (Γ:Env) (io:IOp) (fr:zd_):Bool:=match io with
 | .call _ f _=>U9_ Γ (f.ev fr)
 | .store _ _ _ | .sliceAll _ _ _ | .sliceOwn _ _ _ | .append _ _ _ _ | .appendz _ _ _ _ _ | .copy _ _ _ | .sliceX _ _ _ | .copyP _ _ _ | .appendzP _ _ _ _ _ | .clr _ _ _=>true
 | _=>false
def vt_:IOp->Bool | .call _ _ _=>true | _=>false
def IOp.sup:IOp->Bool
 | .calln _ _ | .capp _=>false
 | _=>true
def IOp.supS (o:IOp):Bool:=match o with | .calln _ _=>true | .capp _=>true | o=>o.sup
theorem hb_ {P:Program} {Γ:Env} {o:Oper} {io:IOp} {fr:zd_} {F:Nat->Prop} {st:zb_} {nx:Nat} {K:AV->zb_->Nat->Prop} (hΓ:Z6_ P Γ) (hst:∀ i,st.get i ≠ none->i < nx) (hsup:io.sup=true) (hok:zs_ P o.op io=true)
 (hcl:vt_ io=true->wH_ st F) (hfoot:∀ i ∈ YY_ io fr,F i) (ev:zp_ Γ io fr st nx K):qx_ P o io.opds fr F (Js_ Γ io fr) st nx K:=by
 by_cases hp:io.pure=true
 ·exact qx_.of (F:=[]) (wr:=false) (hi_ (G7_ hp hok ev)) (fun i hi=>(by cases hi)) (fun h=>(by cases h))
 ·cases io with
  | len=>exact qx_.of (wr:=false) (HE_ hok ev) hfoot (fun h=>(by cases h))
  | indexSl=>exact qx_.of (wr:=false) (uy_ hok ev) hfoot (fun h=>(by cases h))
  | load=>exact qx_.of (wr:=false) (hl_ hok ev) hfoot (fun h=>(by cases h))
  | loadI=>exact qx_.of (wr:=false) (Gi_ hok ev) hfoot (fun h=>(by cases h))
  | slice=>exact qx_.of (wr:=false) (g2_ hok ev) hfoot (fun h=>(by cases h))
  | b2s=>exact qx_.of (wr:=false) (HY_ hok ev) hfoot (fun h=>(by cases h))
  | box=>exact qx_.of (F:=[]) (wr:=false) (HV_ hok ev) (fun i hi=>(by cases hi)) (fun h=>(by cases h))
  | boxv=>exact qx_.of (F:=[]) (wr:=false) (h0_ hok ev) (fun i hi=>(by cases hi)) (fun h=>(by cases h))
  | sliceOwn=>exact qx_.of (Yq_ hok ev) hfoot (fun _=>rfl)
  | slice0=>exact qx_.of (F:=[]) (wr:=false) (Ue_ hok ev) (fun i hi=>(by cases hi)) (fun h=>(by cases h))
  | mkrow=>exact qx_.of (F:=[]) (wr:=false) (Gg_ hok ev) (fun i hi=>(by cases hi)) (fun h=>(by cases h))
  | sliceAll=>exact qx_.of (Yr_ hok ev) hfoot (fun _=>rfl)
  | store=>exact qx_.of (gZ_ hok ev) hfoot (fun _=>rfl)
  | append=>exact qx_.of (gf_ hok ev) hfoot (fun _=>rfl)
  | appendz=>exact qx_.of (uV_ hok ev) hfoot (fun _=>rfl)
  | nilrow=>exact qx_.of (F:=[]) (wr:=false) (UG_ hok ev) (fun i hi=>(by cases hi)) (fun h=>(by cases h))
  | copy=>exact qx_.of (hO_ hok ev) hfoot (fun _=>rfl)
  | sliceX=>exact qx_.of (Uc_ hok ev) hfoot (fun _=>rfl)
  | sliceP=>exact qx_.of (wr:=false) (Ud_ hok ev) hfoot (fun h=>(by cases h))
  | ovl=>exact qx_.of (wr:=false) (Hw_ hok ev) hfoot (fun h=>(by cases h))
  | copyP=>exact qx_.of (Gy_ hok ev) hfoot (fun _=>rfl)
  | appendzP=>exact qx_.of (v5_ hok ev) hfoot (fun _=>rfl)
  | clr=>exact qx_.of (HU_ hok ev) hfoot (fun _=>rfl)
  | call=>exact hX_ hΓ hst hok (hcl rfl) hfoot ev
  | _=>first | exact absurd rfl hp | cases hsup
def qD_:List Nat->(List Nat->Prop)->Prop
 | [],K=>K []
 | i :: r,K=>X2_ i fun i=>qD_ r fun r=>K (i :: r)
theorem K1_:∀ (l:List Nat) (K:List Nat->Prop),qD_ l K=K l
 | [],_=>rfl
 | i :: r,K=>by unfold qD_;rw [KW_];exact K1_ r _
def Zy_ (st:zb_):List Nat->List Nat
 | []=>[]
 | i :: r=>match st.get i with
   | some o=>o.ids++Zy_ st r
   | none=>Zy_ st r
def hR_ (st:zb_) (l:List Nat):List Nat:=
 l++(Zy_ st l++(Zy_ st (Zy_ st l)++Zy_ st (Zy_ st (Zy_ st l))))
def U6_ (st:zb_) (l:List Nat) (K:List Nat->Prop):Prop:=
 qD_ l fun l=>qD_ (Zy_ st l) fun a=>qD_ (Zy_ st a) fun b=>qD_ (Zy_ st b) fun c=>qD_ (l++(a++(b++c))) K
theorem GA_ (st:zb_) (l:List Nat) (K:List Nat->Prop):U6_ st l K=K (hR_ st l):=by
 unfold U6_ hR_;simp only [K1_]
def Hi_:List Nat->List Nat->Bool
 | [],_=>true
 | i :: r,l=>match jI_ i l with | true=>Hi_ r l | false=>false
def gK_ (st:zb_) (F:List Nat):Bool:=Hi_ (Zy_ st F) F
theorem gB_ {i:Nat}:∀ {l:List Nat},jI_ i l=true->i ∈ l
 | [],h=>by cases h
 | j :: r,h=>by
   unfold jI_ at h
   cases hb:Nat.beq j i with
   | true=>rw [Nat.eq_of_beq_eq_true hb];exact List.mem_cons_self ..
   | false=>rw [hb] at h;exact List.mem_cons_of_mem _ (gB_ h)
theorem gq_:∀ {l r:List Nat},Hi_ l r=true->∀ i ∈ l,i ∈ r
 | [],_,_=>fun i hi=>by cases hi
 | j :: l,r,h=>fun i hi=>by
   unfold Hi_ at h
   cases hb:jI_ j r with
   | true=>
     rw [hb] at h
     rcases List.mem_cons.1 hi with rfl | hi
     ·exact gB_ hb
     ·exact gq_ h i hi
   | false=>rw [hb] at h;cases h
theorem wL_ {st:zb_}:∀ {F:List Nat} {i:Nat} {l:Obj},i ∈ F->st.get i=some l->∀ j ∈ l.ids,j ∈ Zy_ st F
 | [],_,_,h,_=>by cases h
 | k :: r,i,l,h,hg=>fun j hj=>by
   unfold Zy_
   rcases List.mem_cons.1 h with rfl | h
   ·rw [hg];exact List.mem_append.2 (.inl hj)
   ·have:=wL_ h hg j hj
    split
    ·exact List.mem_append.2 (.inr this)
    ·exact this
theorem U5_ {st:zb_} {F:List Nat} (h:gK_ st F=true):wH_ st (· ∈ F):=fun i hi l hg j hj=>gq_ h j (wL_ hi hg j hj)
def yI_ (io:IOp) (fr:zd_) (st:zb_) (K:List Nat->Prop):Prop:=match vt_ io with
 | true=>U6_ st (YY_ io fr) fun F=>match gK_ st F with | true=>K F | false=>False
 | false=>qD_ (YY_ io fr) K
theorem uA_ {io:IOp} {fr:zd_} {st:zb_} {K:List Nat->Prop} (h:yI_ io fr st K):∃ F,K F/\(vt_ io=true->wH_ st (· ∈ F))/\∀ i ∈ YY_ io fr,i ∈ F:=by
 unfold yI_ at h
 cases hc:vt_ io with
 | true=>
   rw [hc] at h
   simp only [GA_] at h
   split at h
   ·rename_i hb;exact ⟨_,h,fun _=>U5_ hb,fun i hi=>List.mem_append.2 (.inl hi)⟩
   ·exact h.elim
 | false=>
   rw [hc] at h
   simp only [K1_] at h
   exact ⟨_,h,fun e=>(by cases e),fun i hi=>hi⟩
def uC_ (st st1:zb_):List Nat->List Nat
 | []=>[]
 | i :: r=>match uD_ st st1 i with | true=>i :: uC_ st st1 r | false=>uC_ st st1 r
theorem yM_ {st st1:zb_}:∀ {F:List Nat} {i:Nat},i ∈ F->uD_ st st1 i=true->i ∈ uC_ st st1 F
 | [],_,h,_=>by cases h
 | j :: r,i,h,hb=>by
   unfold uC_
   rcases List.mem_cons.1 h with rfl | h
   ·rw [hb];exact List.mem_cons_self ..
   ·have:=yM_ h hb
    split
    ·exact List.mem_cons_of_mem _ this
    ·exact this
def qk_:Nat->Nat->List Nat
 | _,0=>[]
 | i,n+1=>i :: qk_ (i+1) n
theorem xd_:∀ {n i k:Nat},i<=k->k < i+n->k ∈ qk_ i n
 | 0,i,k,h1,h2=>by omega
 | n+1,i,k,h1,h2=>by
   unfold qk_
   by_cases e:k=i
   ·rw [e];exact List.mem_cons_self ..
   ·exact List.mem_cons_of_mem _ (xd_ (by omega) (by omega))
def wrL (wr:Bool) (F:List Nat) (st st1:zb_) (nx nx1:Nat):List Nat:=(match wr with | true=>F | false=>uC_ st st1 F)++qk_ nx (nx1 - nx)
def kk_ (hist:List (List Nat × List Nat)) (F W:List Nat):List Nat->Bool
 | []=>true
 | j :: r=>match hist.drop j with
   | (Fj,Wj) :: _=>match JM_ Wj F with
     | true=>match JM_ Fj W with
       | true=>kk_ hist F W r
       | false=>false
     | false=>false
   | []=>false
def wq_:List (List Nat × List Nat)->List Nat->List Nat->List Nat->Bool
 | _,_,_,[]=>true
 | h,F,W,g :: r=>match h.drop g with
   | (Fj,Wj) :: t=>match JM_ Wj F with
     | true=>match JM_ Fj W with
       | true=>wq_ t F W r
       | false=>false
     | false=>false
   | []=>false
def wr_ (h:List (List Nat × List Nat)) (F W us:List Nat):Bool:=match F with
 | []=>match W with
   | []=>true
   | _ :: _=>wq_ h F W us
 | _ :: _=>wq_ h F W us
def kN_ (Γ:Env) (l:List (IOper × List Nat)):List (List Nat × List Nat)->zd_->zb_->Nat->(zd_->zb_->Nat->Prop)->Prop:=
 List.rec (motive:=fun _=>List (List Nat × List Nat)->zd_->zb_->Nat->(zd_->zb_->Nat->Prop)->Prop) (fun _ fr st nx K=>K fr st nx)
  (fun x _ ih hist fr st nx K=>qo_ x.1.guard fr
    (fun fr=>yI_ x.1.op fr st fun F=>zp_ Γ x.1.op fr st nx fun v st1 nx1=>X2_ nx1 fun nx1=>qD_ (wrL (Js_ Γ x.1.op fr) F st st1 nx nx1) fun W=>match wr_ hist F W x.2 with
      | true=>Kn_ x.1.dst v fr fun fr=>ih ((F,W) :: hist) fr st1 nx1 K
      | false=>False)
    fun fr=>Kn_ x.1.dst .skp fr fun fr=>ih (([],[]) :: hist) fr st nx K) l
def usA:Nat->List Nat->List Nat
 | _,[]=>[]
 | k,g :: r=>(k - 1 - g) :: usA (k - 1 - g) r
def KC_:Nat->List (IOper × List Nat)->List (IOper × List Nat)
 | _,[]=>[]
 | k,x :: r=>(x.1,usA k x.2) :: KC_ (k+1) r
theorem yU_ {full:List (List Nat × List Nat)} {F W:List Nat}:∀ {us:List Nat} {k:Nat},k<=full.length->wq_ (full.take k).reverse F W us=true->kk_ full F W (usA k us)=true
 | [],_,_,_=>rfl
 | g :: r,k,hk,h=>by
   unfold wq_ at h
   split at h
   ·rename_i Fj Wj t hd
    have hl:g < (full.take k).reverse.length:=by
     rcases Nat.lt_or_ge g (full.take k).reverse.length with h' | h'
     ·exact h'
     ·rw [List.drop_of_length_le h'] at hd;cases hd
    have hgk:g < k:=by rw [List.length_reverse,List.length_take] at hl;omega
    rw [List.drop_eq_getElem_cons hl] at hd
    injection hd with h1 h2
    have e1:full[k - 1 - g]?=some (Fj,Wj):=by
     rw [<- h1,List.getElem_reverse,List.getElem_take,List.getElem?_eq_getElem (by omega)]
     simp only [List.length_take,Nat.min_eq_left hk]
    have e2:(full.take (k - 1 - g)).reverse=t:=by
     rw [<- h2,List.drop_reverse,List.length_take,Nat.min_eq_left hk,List.take_take,Nat.min_eq_left (by omega),show k - 1 - g=k - (g+1) by omega]
    have e3:full.drop (k - 1 - g)=(Fj,Wj) :: full.drop (k - 1 - g+1):=by
     have hlt:k - 1 - g < full.length:=by omega
     rw [List.drop_eq_getElem_cons hlt]
     rw [List.getElem?_eq_getElem hlt] at e1
     rw [Option.some.inj e1]
    split at h
    ·rename_i d1
     split at h
     ·rename_i d2
      show kk_ full F W ((k - 1 - g) :: usA (k - 1 - g) r)=true
      unfold kk_
      rw [e3]
      simp only []
      rw [d1];simp only []
      rw [d2];simp only []
      exact yU_ (by omega) (by rw [e2];exact h)
     ·cases h
    ·cases h
   ·cases h
theorem yT_ {hist:List (List Nat × List Nat)}:∀ {us:List Nat},(∀ j ∈ us,j < hist.length)->kk_ hist [] [] us=true
 | [],_=>rfl
 | j :: r,h=>by
   have hj:=h j (List.mem_cons_self ..)
   unfold kk_
   rw [List.drop_eq_getElem_cons hj]
   generalize hist[j]=x
   obtain ⟨Fj,Wj⟩:=x
   have d1:∀ l:List Nat,JM_ l []=true:=fun l=>by induction l with
    | nil=>rfl
    | cons a t ih=>exact ih
   simp only [d1,JM_]
   exact yT_ fun j hj=>h j (List.mem_cons_of_mem _ hj)
theorem Gz_ {full:List (List Nat × List Nat)} {F W us:List Nat} {k:Nat} (hk:full.length=k) (hu:∀ j ∈ usA k us,j < k) (h:wr_ full.reverse F W us=true):kk_ full F W (usA k us)=true:=by
 have key:wq_ full.reverse F W us=true->kk_ full F W (usA k us)=true:=fun h=>yU_ (by omega) (by rw [List.take_of_length_le (by omega)];exact h)
 unfold wr_ at h
 split at h
 ·split at h
  ·exact yT_ fun j hj=>by rw [hk];exact hu j hj
  ·exact key h
 ·exact key h
def qK_.block (id:Nat) (K:qK_):qK_:=fun e fr st nx=>match e with
 | .exit i=>match Nat.beq i id with | true=>K .normal fr st nx | false=>K (.exit i) fr st nx
 | .normal=>K .normal fr st nx
 | .ret=>K .ret fr st nx
def qK_.seq (n:zd_->zb_->Nat->Prop) (K:qK_):qK_:=fun e fr st nx=>match e with
 | .normal=>n fr st nx
 | .exit i=>K (.exit i) fr st nx
 | .ret=>K .ret fr st nx
def GM_ (body:qK_->zd_->zb_->Nat->Prop) (K:qK_):Nat->zd_->zb_->Nat->Prop
 | 0,_,_,_=>False
 | n+1,fr,st,nx=>body (K.seq fun fr st nx=>GM_ body K n fr st nx) fr st nx
def Qa_:Nat->List Obj->zb_
 | _,[]=>[]
 | i,o :: r=>(i,o) :: Qa_ (i+1) r
def qe_:List Nat->List AV->zd_
 | i :: l,v :: r=>(i,v) :: qe_ l r
 | _,_=>[]
def gV_:Nat->List Nat:=fun k=>qk_ 0 k
def vZ_ (k0:Nat) (live:List Nat) (fr:zd_) (st:zb_) (K:List AV->List Obj->Prop):Prop:=
 JA_ (live.map fr.get) fun vs=>JO_ vs (gV_ k0) fun vs ρ=>q6_ st 1000 0 ρ fun os _=>K vs os
def Bc_ (k0:Nat) (body:qK_->zd_->zb_->Nat->Prop) (K:qK_) (fr:zd_) (st:zb_) (nx:Nat):Prop:=∀ r:Prop,
 ((∃ n,GM_ body K n fr st nx)->r)->
 ((∃ (live:List Nat) (α:Type) (J:α->Prop) (V:α->List AV) (O:α->List Obj) (μ:α->Nat),vZ_ k0 live fr st (fun vs os=>∃ a,J a/\vs=V a/\os=O a)/\
   ∀ a,J a->body (K.seq fun fr st _=>vZ_ k0 live fr st fun vs os=>post (∃ a',J a'/\μ a' < μ a/\vs=V a'/\os=O a')) (qe_ live (V a)) (Qa_ 0 (O a)) (O a).length)->r)->r
def BG_ (k0:Nat) (body:qK_->zd_->zb_->Nat->Prop) (K:qK_) (fr:zd_) (st:zb_) (nx:Nat):Prop:=∀ r:Prop,
 (body K fr st nx->r)->
 ((∃ (live:List Nat) (α:Type) (V:α->List AV) (O:α->List Obj),body (K.seq fun fr st _=>vZ_ k0 live fr st fun vs os=>post (∃ a,vs=V a/\os=O a)) fr st nx/\
   ∀ a,K .normal (qe_ live (V a)) (Qa_ 0 (O a)) (O a).length)->r)->r
def yG_ (c:Opd) (b:Bool) (fr:zd_):zd_:=match c with | .t i=>(i,.kb b) :: fr | _=>fr
def Xb_:Nat->List AV->zd_
 | _,[]=>[]
 | k,v :: r=>(k,v) :: Xb_ (k+1) r
abbrev Hd:=Nat->List Nat->List Opd->zd_->zb_->Nat->(Bool->zd_->zb_->Nat->Prop)->Prop
def hd0:Hd:=fun _ _ _ _ _ _ _=>False
def qL_:List Opd->List Nat
 | []=>[]
 | .t i :: r=>i :: qL_ r
 | .c _ :: r=>qL_ r
 | .f _ :: r=>qL_ r
def hn_:List Opd->List Nat->Bool
 | [],[]=>true
 | _ :: r,_ :: l=>hn_ r l
 | _,_=>false
theorem xy_:∀ {l:List Opd} {r:List Nat},hn_ l r=true->l.length=r.length
 | [],[],_=>rfl
 | _ :: l,_ :: r,h=>by
   have:=xy_ (l:=l) (r:=r) h
   simp [this]
 | [],_ :: _,h=>by cases h
 | _ :: _,[],h=>by cases h
def leB:List AV->Nat->Bool
 | [],_=>true
 | _ :: r,n+1=>leB r n
 | _ :: _,0=>false
theorem ho_:∀ {l:List AV} {n:Nat},leB l n=true->l.length<=n
 | [],_,_=>Nat.zero_le _
 | _ :: r,n+1,h=>by
   have:=ho_ (l:=r) (n:=n) h
   simp;omega
 | _ :: _,0,h=>by cases h
def lay (p:Prop):Prop:=p\/False
abbrev Wk:=Nat->Hd->qK_->zd_->zb_->Nat->Prop
def uJ_ (n c:Nat) (st:zb_) (K:zb_->Prop):Prop:=match st.get n with
 | some (.lrec r _)=>st.setK n (.lrec r c) K
 | _=>False
def Bm_ (n:Nat) (frc:zd_) (KY:Bool->zd_->zb_->Nat->Prop):qK_:=fun e _ st nx=>match e with
 | .normal=>uJ_ n 0 st fun st=>KY true frc st nx
 | .ret=>uJ_ n 2 st fun st=>KY false frc st nx
 | .exit i=>uJ_ n (i+3) st fun st=>KY false frc st nx
def Bn_ (n nb:Nat) (frc:zd_) (body:Wk) (KY:Bool->zd_->zb_->Nat->Prop):qK_:=fun e fr st nx=>match e with
 | .normal=>match st.get n with
   | some (.lrec r c)=>match c with
     | 0=>st.setK n (.lrec r 1) fun st=>body nb hd0 (Bm_ n frc KY) fr st nx
     | _+1=>False
   | _=>False
 | _=>False
def hdR (n:Nat) (lr:Go.Loop) (l:Nat) (us:List AV) (ps lv:List Nat) (asg body:Wk):Hd:=fun l' lvg args fr st nx KY=>
 vZ_ (n+1) (lvg++qL_ args) fr st fun vs os=>X2_ os.length fun nb=>match (Qa_ 0 os).get n with
  | some (.lrec r c)=>match c with
    | 0=>match hn_ args ps with
      | true=>need (l'=l/\r=lr) (asg nb hd0 (Bn_ n nb (qe_ (lvg++qL_ args) vs) body KY) (qe_ ps (args.map (·.ev (qe_ (lvg++qL_ args) vs)))++qe_ lv us) (Qa_ 0 os) nb)
      | false=>False
    | _+1=>False
  | _=>False
def HP_ (n:Nat) (fr:zd_) (K:qK_) (st:zb_) (nx:Nat):Prop:=match st.get n with
 | some (.lrec _ c)=>st.setK n .dead fun st=>match c with
   | 0=>K .normal fr st nx
   | 1=>False
   | 2=>K .ret fr st nx
   | c+3=>K (.exit c) fr st nx
 | _=>False
def KG (n:Nat) (fr:zd_) (K:qK_):qK_:=fun e _ st nx=>match e with
 | .normal=>HP_ n fr K st nx
 | .ret=>HP_ n fr K st nx
 | .exit _=>False
def bz_ (f:Nat) (ps lv:List Nat) (g:Nat) (asg body gir:Wk) (k0:Nat) (K:qK_) (fr:zd_) (st:zb_):Prop:=
 vZ_ k0 (f :: lv) fr st fun vs os=>match vs with
  | []=>False
  | v :: us=>match v with
    | .fn f' first cap=>match first with
      | []=>match Nat.beq f' g with
        | true=>match leB cap 3 with
          | true=>X2_ os.length fun n=>lay (∀ (lr:Go.Loop) (l:Nat),gir (n+1) (hdR n lr l us ps lv asg body) (KG n (qe_ lv us) K) (Xb_ 0 (.yv l :: cap)) (Qa_ 0 (os++[.lrec lr 0])) (n+1))
          | false=>False
        | false=>False
      | _ :: _=>False
    | _=>False
def gU_ (Γ:Env) (pre:List IOper) (d:Option Nat) (y:Opd) (args:List Opd) (lv:List Nat) (suf:List IOper) (hd:Hd) (K:qK_) (fr:zd_) (st:zb_) (nx:Nat):Prop:=
 Kw_ Γ pre fr st nx fun fr st nx=>match y.ev fr with
  | .yv l=>hd l lv args fr st nx fun b fr st nx=>Kn_ d (.kb b) fr fun fr=>Kw_ Γ suf fr st nx fun fr st nx=>K .normal fr st nx
  | _=>False
def evC (Γ:Env) (ir:IR):Wk:=
 IR.rec (motive:=fun _=>Wk)
  (fun _ _ K fr st nx=>K .normal fr st nx)
  (fun ops _ _ K fr st nx=>Kw_ Γ ops fr st nx fun fr st nx=>K .normal fr st nx)
  (fun ops _ _ K fr st nx=>kN_ Γ ops [] fr st nx fun fr st nx=>K .normal fr st nx)
  (fun _ _ iha ihb k0 hd K fr st nx=>iha k0 hd (K.seq fun fr st nx=>ihb k0 hd K fr st nx) fr st nx)
  (fun c _ _ iha ihb k0 hd K fr st nx=>match c.ev fr with
    | .bool t=>cnd t (iha k0 hd K (yG_ c true fr) st nx) (ihb k0 hd K (yG_ c false fr) st nx)
    | .kb t=>match t with | true=>iha k0 hd K fr st nx | false=>ihb k0 hd K fr st nx
    | _=>False)
  (fun id _ ih k0 hd K fr st nx=>ih k0 hd (K.block id) fr st nx)
  (fun _ ih k0 hd K fr st nx=>Bc_ k0 (ih k0 hd) K fr st nx)
  (fun _ ih k0 hd K fr st nx=>BG_ k0 (ih k0 hd) K fr st nx)
  (fun l _ ih k0 hd K fr st nx=>ue_ l fr fun fr=>x9_ st fun st=>ih k0 hd K fr st nx)
  (fun i _ _ K fr st nx=>K (.exit i) fr st nx)
  (fun _ _ K fr st nx=>K .ret fr st nx)
  (fun _ ih k0 hd K fr st nx=>ih k0 hd K fr st nx)
  (fun f ps lv g _ _ _ iha ihb ihg k0 _ K fr st _=>bz_ f ps lv g iha ihb ihg k0 K fr st)
  (fun pre d y args lv suf _ hd K fr st nx=>gU_ Γ pre d y args lv suf hd K fr st nx) ir
end Go.Eng
namespace Go.Eng
set_option linter.unusedVariables false
set_option linter.unusedSimpArgs false
open Go.RowKit
def Kf_ (I:Nat->Prop) (w:World) (m:M) (φ:Nat->AV) (a:Act):Prop:=∀ i,RV I w m (φ i) (a.tmps.getD i undef)
def ju_ (I:Nat->Prop) (w0 w:World) (ds:List Deferred):Prop:=
 ds.Nodup/\∀ d ∈ ds,∃ D,d={target:=.collected D,args:=#[]}/\I D/\w0.heap.size<=D/\w.heap[D]?=some (.deferred (some []))
theorem ju_.nil (I:Nat->Prop) (w0 w:World):ju_ I w0 w []:=⟨List.nodup_nil,fun d hd=>by cases hd⟩
theorem ju_.evo {I I':Nat->Prop} {w0 w w':World} {ds:List Deferred} (h:ju_ I w0 w ds) (hI:∀ b,I b->I' b) (hs:ZX_ I w w'):ju_ I' w0 w' ds:=
 ⟨h.1,fun d hd=>by
  obtain ⟨D,h1,h2,h3,h4⟩:=h.2 d hd
  exact ⟨D,h1,hI D h2,h3,(hs D h2).trans h4⟩⟩
structure Sta (n k0:Nat) (X0:Bool->Nat->Prop) (I0:Nat->Prop) (w0:World) (m0:M) (fr:zd_) (st:zb_) (nx:Nat) (I:Nat->Prop) (w:World) (m:M) (a:Act):Prop where
 size:a.tmps.size=n
 defers:ju_ I w0 w a.defers
 f:Kf_ I w m fr.get a
 hs:HS X0 I0 w0 st.get I w m
 same:ZX_ I0 w0 w
 kept:∀ i,i < k0->m.used i/\m0.same m i
 lt:∀ i,m.used i->i < nx
theorem uz_ {a:Act} {d:Nat} {v:Value} {i:Nat} (hd:d < a.tmps.size):(a.put (some d) v).tmps.getD i undef=if i=d then v else a.tmps.getD i undef:=by
 simp only [Act.put,Array.getD_eq_getD_getElem?,Array.getElem?_setIfInBounds]
 by_cases h:i=d
 ·subst h;simp [hd]
 ·rw [if_neg (fun e=>h e.symm),if_neg h]
theorem Kf_.put {I:Nat->Prop} {w:World} {m:M} {fr:zd_} {a:Act} {d:Nat} {v:AV} {cv:Value} (h:Kf_ I w m fr.get a) (hd:d < a.tmps.size) (hv:RV I w m v cv):Kf_ I w m (zd_.get ((d,v) :: fr)) (a.put (some d) cv):=fun i=>by
 rw [zd_.get_cons,uz_ hd]
 split
 ·exact hv
 ·exact h i
theorem Kf_.evo {I I':Nat->Prop} {w w':World} {m m':M} {φ:Nat->AV} {a:Act} (h:Kf_ I w m φ a) (e:Evo I w m I' w' m'):Kf_ I' w' m' φ a:=fun i=>e.rv (h i)
theorem Kf_.know {I:Nat->Prop} {w:World} {m:M} {fr:zd_} {a:Act} {g:Nat} {b:Bool} (h:Kf_ I w m fr.get a) (e:a.tmps.getD g undef=.bool b):Kf_ I w m (zd_.get ((g,.kb b) :: fr)) a:=fun i=>by
 rw [zd_.get_cons]
 split
 ·subst_vars;rw [e];rfl
 ·exact h i
def JK_ (n:Nat):Option Nat->Option Nat->Bool
 | none,none=>true
 | some d,some e=>d == e && decide (d < n)
 | _,_=>false
def WJ_ (ops:Array Oper):Option (Nat × Bool)->Option (Nat × Bool)->Bool
 | none,none=>true
 | some (j,b),some (g,c)=>b == c && (match (ops[j]?).bind (·.dst) with | some d=>d == g | none=>false)
 | _,_=>false
def YX_ (P:Program) (n:Nat) (ops:Array Oper) (o:Oper) (x:IOper):Bool:=JK_ n o.dst x.dst && zs_ P o.op x.op && x.op.sup && WJ_ ops o.guard x.guard
def WE_ (P:Program) (n:Nat) (ops:Array Oper) (o:Oper) (x:IOper):Bool:=JK_ n o.dst x.dst && zs_ P o.op x.op && x.op.supS && WJ_ ops o.guard x.guard
def Jq_ (P:Program) (n:Nat) (ops:Array Oper):List Oper->List IOper->Bool
 | [],[]=>true
 | o :: r,x :: l=>WE_ P n ops o x && Jq_ P n ops r l
 | _,_=>false
theorem WN_ {ops:Array Oper} {a:Act} {j g:Nat} (h:(match (ops[j]?).bind (·.dst) with | some d=>d == g | none=>false)=true):
 yielded ops a.tmps j=match a.tmps.getD g undef with | .bool b=>some b | _=>none:=by
 unfold yielded
 split at h
 ·rename_i d hd
  simp only [beq_iff_eq] at h;subst h
  rw [hd]
  simp only [Option.bind_some,Array.getD_eq_getD_getElem?]
  cases a.tmps[d]? with
  | none=>rfl
  | some v=>cases v<;>rfl
 ·cases h
theorem wW_ {ops:Array Oper} {o:Oper} {g:Option (Nat × Bool)} {fr:zd_} {run skip:zd_->Prop} (hg:WJ_ ops o.guard g=true) (ev:qo_ g fr run skip):
 ∃ fr' t,(match t with | true=>run fr' | false=>skip fr')/\(fr'=fr\/∃ i v,g=some (i,v)/\∃ b,fr.get i=.bool b/\fr'=(i,.kb b) :: fr)/\
   ∀ (I:Nat->Prop) (w:World) (m:M) (a:Act),(∀ i v,g=some (i,v)->RV I w m (fr.get i) (a.tmps.getD i undef))->Region.wanted o (yielded ops a.tmps)=t:=by
 unfold qo_ at ev
 cases hog:o.guard with
 | none=>
   cases hxg:g with
   | some _=>rw [hog,hxg] at hg;cases hg
   | none=>
     rw [hxg] at ev
     exact ⟨fr,true,ev,.inl rfl,fun I w m a _=>by simp [Region.wanted,hog]⟩
 | some jb=>
   obtain ⟨j,b⟩:=jb
   cases hxg:g with
   | none=>rw [hog,hxg] at hg;cases hg
   | some gc=>
     obtain ⟨g,c⟩:=gc
     rw [hog,hxg] at hg
     simp only [WJ_,Bool.and_eq_true,beq_iff_eq] at hg
     obtain ⟨rfl,hy⟩:=hg
     rw [hxg] at ev
     have hw:∀ a:Act,Region.wanted o (yielded ops a.tmps)=(yielded ops a.tmps j == some b):=fun a=>by simp [Region.wanted,hog]
     have is:∀ {t:Bool},(∀ {I:Nat->Prop} {w:World} {m:M} {a:Act},RV I w m (fr.get g) (a.tmps.getD g undef)->a.tmps.getD g undef=.bool t)->∀ (I:Nat->Prop) (w:World) (m:M) (a:Act),(∀ i v,some (g,b)=some (i,v)->RV I w m (fr.get i) (a.tmps.getD i undef))->Region.wanted o (yielded ops a.tmps)=(t == b):=fun {t} h I w m a hv=>by
      rw [hw,WN_ hy,h (hv g b rfl)]
      cases t<;>cases b<;>rfl
     simp only at ev
     split at ev
     ·rename_i t ht
      have hb:=is (t:=t) fun {I w m a} h=>by rw [ht] at h;exact h
      rcases ws_ ev with ⟨rfl,ev'⟩ | ⟨rfl,ev'⟩
      ·cases b with
       | true=>exact ⟨_,true,ev',.inr ⟨_,_,rfl,_,ht,rfl⟩,hb⟩
       | false=>exact ⟨_,false,ev',.inr ⟨_,_,rfl,_,ht,rfl⟩,hb⟩
      ·cases b with
       | true=>exact ⟨_,false,ev',.inr ⟨_,_,rfl,_,ht,rfl⟩,hb⟩
       | false=>exact ⟨_,true,ev',.inr ⟨_,_,rfl,_,ht,rfl⟩,hb⟩
     ·rename_i t ht
      have hb:=is (t:=t) fun {I w m a} h=>by rw [ht] at h;exact h
      cases t<;>cases b
      ·exact ⟨_,true,ev,.inl rfl,hb⟩
      ·exact ⟨_,false,ev,.inl rfl,hb⟩
      ·exact ⟨_,false,ev,.inl rfl,hb⟩
      ·exact ⟨_,true,ev,.inl rfl,hb⟩
     ·rename_i ht
      refine ⟨_,false,ev,.inl rfl,fun I w m a hv=>?_⟩
      have h:=hv g b rfl
      rw [ht] at h
      rw [hw,WN_ hy,show a.tmps.getD g undef=undef from h]
      rfl
     ·exact ev.elim
section
variable {P:Program} {Γ:Env} {n k0:Nat} {X0:Bool->Nat->Prop} {I0:Nat->Prop} {w0:World} {m0:M}
theorem Sta.fr' {fr fr':zd_} {st:zb_} {nx:Nat} {I:Nat->Prop} {w:World} {m:M} {a:Act} {g:Option (Nat × Bool)} (h:Sta n k0 X0 I0 w0 m0 fr st nx I w m a) (e:fr'=fr\/∃ i v,g=some (i,v)/\∃ b,fr.get i=.bool b/\fr'=(i,.kb b) :: fr):
 Sta n k0 X0 I0 w0 m0 fr' st nx I w m a:=by
 rcases e with rfl | ⟨i,v,_,b,hb,rfl⟩
 ·exact h
 ·have:=h.f i
  rw [hb] at this
  exact ⟨h.size,h.defers,h.f.know this,h.hs,h.same,h.kept,h.lt⟩
theorem Sta.put {fr:zd_} {st:zb_} {nx:Nat} {I:Nat->Prop} {w:World} {m:M} {a:Act} {d d':Option Nat} {v:AV} {cv:Value}
 (h:Sta n k0 X0 I0 w0 m0 fr st nx I w m a) (hd:JK_ n d d'=true) (hv:RV I w m v cv):Sta n k0 X0 I0 w0 m0 (k9_ d' v fr) st nx I w m (a.put d cv):=by
 cases d with
 | none=>
   cases d' with
   | some _=>cases hd
   | none=>exact h
 | some d=>
   cases d' with
   | none=>cases hd
   | some e=>
     simp only [JK_,Bool.and_eq_true,beq_iff_eq,decide_eq_true_eq] at hd
     obtain ⟨rfl,hd⟩:=hd
     exact ⟨by simp only [Act.put,Array.size_setIfInBounds];exact h.size,h.defers,h.f.put (by rw [h.size];exact hd) hv,h.hs,h.same,h.kept,h.lt⟩
theorem Kf_.on {I:Nat->Prop} {w:World} {m:M} {fr:zd_} {a:Act} (h:Kf_ I w m fr.get a) (L:List Opd):FOn L fr I w m a:=fun i _=>h i
theorem Sta.st_lt {fr:zd_} {st:zb_} {nx:Nat} {I:Nat->Prop} {w:World} {m:M} {a:Act} (h:Sta n k0 X0 I0 w0 m0 fr st nx I w m a):∀ i,st.get i ≠ none->i < nx:=fun i hi=>h.lt i (h.hs.H.lt i hi)
theorem Sta.evo {fr:zd_} {st st':zb_} {nx nx':Nat} {I I':Nat->Prop} {w w':World} {m m':M} {a:Act} (h:Sta n k0 X0 I0 w0 m0 fr st nx I w m a) (hs':HS X0 I0 w0 st'.get I' w' m') (e:Evo I w m I' w' m') (hle:nx<=nx') (hu:∀ i,m'.used i->m.used i\/(nx<=i/\i < nx')):
 Sta n k0 X0 I0 w0 m0 fr st' nx' I' w' m' a:=
 ⟨h.size,h.defers.evo e.up e.same,h.f.evo e,hs',fun b hb=>(e.same b (h.hs.Isub b hb)).trans (h.same b hb),fun i hi=>⟨e.m.1 i (h.kept i hi).1,M.same_trans (h.kept i hi).2 (e.m.2 i (h.kept i hi).1)⟩,fun i hi=>by
  rcases hu i hi with h' | h'
  ·have:=h.lt i h';omega
  ·exact h'.2⟩
theorem Hm_ (hΓ:Z6_ P Γ) {o:Oper} {io:IOp} {fr:zd_} {st:zb_} {nx:Nat} {I:Nat->Prop} {w:World} {m:M} {a:Act} {K:AV->zb_->Nat->Prop} (hst:∀ i,st.get i ≠ none->i < nx) (hok:zs_ P o.op io=true) (hn:io.sup=false) (hS:io.supS=true)
 (hf:FOn io.opds fr I w m a) (hs:HS X0 I0 w0 st.get I w m) (hN:∀ i,nx<=i->¬ m.used i) (ev:zp_ Γ io fr st nx K):KS_ P o a w fun cv I' w' m'=>∃ v st1 nx',nx<=nx'/\K v st1 nx'/\Xo_ X0 I0 w0 I w m st1.get v nx nx' cv I' w' m':=by
 have keep:(∃ v cv,K v st nx/\RV I w m v cv/\(execOp a.eval o).run P w=.ok (.value cv) w)->KS_ P o a w fun cv I' w' m'=>∃ v st1 nx',nx<=nx'/\K v st1 nx'/\Xo_ X0 I0 w0 I w m st1.get v nx nx' cv I' w' m':=fun ⟨v,cv,hK,hv,hrun⟩=>
  Z7_ (I':=I) (m':=m) hrun ⟨v,st,nx,Nat.le_refl _,hK,hv,hs,Evo.refl _ _ _,fun _ h=>.inl h⟩
 have one:(∃ v st1,K v st1 nx/\KS_ P o a w (Xo_ X0 I0 w0 I w m st1.get v nx nx))->KS_ P o a w fun cv I' w' m'=>∃ v st1 nx',nx<=nx'/\K v st1 nx'/\Xo_ X0 I0 w0 I w m st1.get v nx nx' cv I' w' m':=fun ⟨v,st1,hK,hrun⟩=>
  fun N Q k=>hrun N Q fun cv I' w' m' hg=>k cv I' w' m' ⟨v,st1,nx,Nat.le_refl _,hK,hg⟩
 cases io with
 | calln=>exact GD_ hΓ hst hok hf hs hN ev
 | capp=>exact one (hU_ hok hf hs ev)
 | _=>first | (cases hn;done) | (cases hS;done)
theorem WR_ (hΓ:Z6_ P Γ) {ops:Array Oper} {Q:Exit->Act->World->Prop} {o:Oper} {x:IOper} {r:List Oper} {fr:zd_} {st:zb_} {nx:Nat} {I:Nat->Prop} {w:World} {m:M} {a:Act} {K:zd_->zb_->Nat->Prop}
 (hok:WE_ P n ops o x=true) (h:Sta n k0 X0 I0 w0 m0 fr st nx I w m a)
 (ev:qo_ x.guard fr (fun fr=>zp_ Γ x.op fr st nx fun v st nx=>K (k9_ x.dst v fr) st nx) fun fr=>K (k9_ x.dst .skp fr) st nx)
 (rest:∀ fr' st' nx' I' w' m' a',K fr' st' nx'->Sta n k0 X0 I0 w0 m0 fr' st' nx' I' w' m' a'->wpList P ops Q r a' w'):
 wpList P ops Q (o :: r) a w:=by
 simp only [WE_,Bool.and_eq_true] at hok
 obtain ⟨⟨⟨hd,hop⟩,hsup⟩,hg⟩:=hok
 obtain ⟨fr',t,ev',hfr,hw⟩:=wW_ hg ev
 have h':=h.fr' hfr
 have hw:=hw I w m a fun i _ _=>h.f i
 unfold wpList
 cases t with
 | true=>
   rw [if_pos hw]
   by_cases hn:x.op.sup=true
   ·have hsup:=hn
    obtain ⟨v,st1,nx',T,hle,hK,h3,_,run⟩:=hb_ (F:=fun _=>True) hΓ h'.st_lt hsup hop (fun _ _ _ _ _ _ _=>trivial) (fun _ _=>trivial) ev'
    refine .inl (run (h'.f.on _) h'.hs (fun _ _=>rfl) (fun i h1 _ hu=>by have:=h'.lt i hu;omega) _ Q fun cv I' w' m' hgood=>?_)
    obtain ⟨q1,q2,q3,q4⟩:=hgood
    have hupd:upd st.get T st1=st1.get:=funext fun i=>by
     unfold upd
     split
     ·rfl
     ·rename_i hi;exact (h3 i hi).symm
    rw [hupd] at q2
    exact rest _ _ _ _ _ _ _ hK ((h'.evo q2 q3 hle q4).put hd q1)
   ·refine .inl (Hm_ hΓ h'.st_lt hop (by simpa using hn) hsup (h'.f.on _) h'.hs (fun i h1 hu=>by have:=h'.lt i hu;omega) ev' _ Q fun cv I' w' m' hgood=>?_)
    obtain ⟨v,st1,nx',hle,hK,q1,q2,q3,q4⟩:=hgood
    exact rest _ _ _ _ _ _ _ hK ((h'.evo q2 q3 hle q4).put hd q1)
 | false=>
   rw [if_neg (by rw [hw];simp)]
   exact rest _ _ _ _ _ _ _ ev' (h'.put hd (v:=.skp) (cv:=undef) rfl)
theorem we_ (hΓ:Z6_ P Γ) {ops:Array Oper} {Q:Exit->Act->World->Prop} {K:zd_->zb_->Nat->Prop}:∀ {os:List Oper} {ios:List IOper} {fr:zd_} {st:zb_} {nx:Nat} {I:Nat->Prop} {w:World} {m:M} {a:Act},
 Jq_ P n ops os ios=true->Sta n k0 X0 I0 w0 m0 fr st nx I w m a->Kw_ Γ ios fr st nx K->
 (∀ fr' st' nx' I' w' m' a',K fr' st' nx'->Sta n k0 X0 I0 w0 m0 fr' st' nx' I' w' m' a'->Q .normal a' w')->wpList P ops Q os a w
 | [],[],fr,st,nx,I,w,m,a,_,h,ev,fin=>fin _ _ _ _ _ _ _ ev h
 | o :: r,x :: l,fr,st,nx,I,w,m,a,hok,h,ev,fin=>by
   simp only [Jq_,Bool.and_eq_true] at hok
   rw [xW_] at ev
   exact WR_ (K:=fun fr st nx=>Kw_ Γ l fr st nx K) hΓ hok.1 h ev fun fr' st' nx' I' w' m' a' hK hS=>we_ hΓ hok.2 hS hK fin
 | [],_ :: _,_,_,_,_,_,_,_,hok,_,_,_=>by cases hok
 | _ :: _,[],_,_,_,_,_,_,_,hok,_,_,_=>by cases hok
theorem V8_:∀ (l:List Obj) (k i:Nat),(Qa_ k l).get i=if k<=i then l[i - k]? else none
 | [],k,i=>by simp [Qa_,zb_.get]
 | o :: r,k,i=>by
   show zb_.get ((k,o) :: Qa_ (k+1) r) i=_
   rw [zb_.get_cons,V8_ r (k+1) i]
   by_cases h:i=k
   ·subst h;simp
   ·rw [if_neg h]
    by_cases h2:k<=i
    ·rw [if_pos (by omega),if_pos h2,show i - k=(i - (k+1))+1 by omega];rfl
    ·rw [if_neg (by omega),if_neg h2]
theorem zV_ (l:List Obj):(Qa_ 0 l).get=ofL l:=funext fun i=>by rw [V8_,if_pos (Nat.zero_le _)];rfl
theorem xe_:∀ (n i j:Nat),(qk_ i n)[j]?=if j < n then some (i+j) else none
 | 0,i,j=>by simp [qk_]
 | n+1,i,j=>by
   unfold qk_
   cases j with
   | zero=>simp
   | succ j=>rw [List.getElem?_cons_succ,xe_ n (i+1) j];by_cases h:j < n<;>simp [h,show i+1+j=i+(j+1) by omega]
theorem yv_:∀ {n i k:Nat},k ∈ qk_ i n->i<=k
 | 0,i,k,h=>by cases h
 | n+1,i,k,h=>by
   unfold qk_ at h
   rcases List.mem_cons.1 h with rfl | h
   ·exact Nat.le_refl _
   ·have:=yv_ h;omega
theorem Jp_:∀ (n i:Nat),(qk_ i n).Nodup
 | 0,_=>List.nodup_nil
 | n+1,i=>by
   unfold qk_
   exact List.nodup_cons.2 ⟨fun h=>by have:=yv_ h;omega,Jp_ n (i+1)⟩
theorem jD_:∀ (n i:Nat),(qk_ i n).length=n
 | 0,_=>rfl
 | n+1,i=>by simp [qk_,jD_ n (i+1)]
theorem j8_ {I:Nat->Prop} {w:World} {m:M} {a:Act}:∀ {live:List Nat} {vs:List AV},qI_ I w m vs (live.map fun i=>a.tmps.getD i undef)->Kf_ I w m (qe_ live vs).get a
 | [],[],_=>fun _=>trivial
 | i :: l,v :: r,h=>fun j=>by
   show RV I w m (zd_.get ((i,v) :: qe_ l r) j) _
   rw [zd_.get_cons]
   split
   ·rename_i e;subst e;exact k6_ h.1
   ·exact j8_ h.2 j
 | [],_ :: _,h=>h.elim
 | _ :: _,[],h=>h.elim
theorem qF_ {live:List Nat} {fr:zd_} {st:zb_} {nx:Nat} {I:Nat->Prop} {w:World} {m:M} {a:Act} {K:List AV->List Obj->Prop} (h:Sta n k0 X0 I0 w0 m0 fr st nx I w m a) (ev:vZ_ k0 live fr st K):
 ∃ vs os,K vs os/\∃ m',Sta n k0 X0 I0 w0 m0 (qe_ live vs) (Qa_ 0 os) os.length I w m' a/\qI_ I w m' vs (live.map fun i=>a.tmps.getD i undef):=by
 unfold vZ_ at ev
 rcases QO_ (live.map fr.get) with h' | ⟨l',e1,e2,e3⟩
 ·exact absurd ev (h' _)
 ·rw [e1] at ev
  obtain ⟨vs,ρ1,c1,c2,c3,c4⟩:=kl_ nx l' (gV_ k0)
  rw [c1] at ev
  rcases qU_ st nx 1000 0 ρ1 (Nat.zero_le _) with h' | ⟨os,ρ,d1,d2,d3,d4⟩
  ·exact absurd ev (h' _)
  ·rw [d1] at ev
   rw [Nat.zero_add] at d3
   have d4:∀ k (h:k < os.length) (h':k < ρ.length),∃ o,st.get ρ[k]=some o/\Zx_ nx ρ o os[k]:=fun k h h'=>by
    have:=d4 k h (by omega)
    simpa only [Nat.zero_add] using this
   have hpre:=c2.trans d2
   have hnod:ρ.Nodup:=hpre.nodup (Jp_ k0 0)
   have hk0:∀ i,i < k0->∃ h:i < ρ.length,ρ[i]=i:=fun i hi=>by
    have hl:i < (gV_ k0).length:=by unfold gV_;rw [jD_];exact hi
    refine ⟨Nat.lt_of_lt_of_le hl hpre.len,?_⟩
    rw [<- hpre.pre.getElem hl]
    have:=xe_ k0 0 i
    rw [if_pos hi,List.getElem?_eq_getElem (by rw [jD_];exact hi)] at this
    have e:=Option.some.inj this
    simpa [gV_] using e
   have hl2:qI_ I w m l' (live.map fun i=>a.tmps.getD i undef):=e3 (by simp) fun i h1 h2=>by
    simp only [List.getElem_map];exact h.f _
   have huse:∀ j,j < ρ.length->Un (Z2_ m ρ nx) m (un ρ nx) j:=fun j hj=>⟨hj,rfl,rfl,rfl,rfl⟩
   have hvs:vs.map (qB_ (un ρ nx))=l':=by
    rw [<- c3]
    exact List.map_congr_left fun v hv=>kB_ fun j hj=>d2.un (c4 j (List.mem_flatMap.2 ⟨v,hv,hj⟩))
   rw [<- hvs] at hl2
   have hl3:=k2_ (fun j hj=>huse j (Nat.lt_of_lt_of_le (c4 j hj) d2.len)) hl2
   have hH:=wv_ (js:=[]) (nx:=nx) h.hs.H hnod d3 d4 (fun i hi=>(by cases hi)) (fun i hi=>(by cases hi))
   have hIb:Ib I m []=I:=funext fun b=>propext ⟨fun h=>h.elim id fun ⟨i,hi,_⟩=>(by cases hi),.inl⟩
   rw [hIb] at hH
   refine ⟨vs,os,ev,Z2_ m ρ nx,⟨h.size,h.defers,j8_ hl3,⟨by rw [zV_];exact hH,h.hs.fr0,h.hs.Isub,h.hs.Inew,fun i o b e hm hb=>?_,fun i o b e hm hb=>?_⟩,h.same,fun i hi=>?_,fun i hi=>by rw [d3];exact hi⟩,hl3⟩
   ·rw [zV_] at e
    unfold ofL at e
    obtain ⟨hi,e⟩:=List.getElem?_eq_some_iff.1 e
    obtain ⟨o',g1,g2⟩:=d4 i hi (by omega)
    simp only [Z2_,z1_ (show i < ρ.length by omega)] at hb
    exact h.hs.own _ o' b g1 (by rw [<- g2.same.1,e];exact hm) hb
   ·rw [zV_] at e
    unfold ofL at e
    obtain ⟨hi,e⟩:=List.getElem?_eq_some_iff.1 e
    obtain ⟨o',g1,g2⟩:=d4 i hi (by omega)
    simp only [Z2_,z1_ (show i < ρ.length by omega)] at hb
    exact h.hs.ownL _ o' b g1 (by rw [<- g2.same.2,e];exact hm) hb
   ·obtain ⟨h1,h2⟩:=hk0 i hi
    refine ⟨h1,?_⟩
    have:=(h.kept i hi).2
    unfold M.same at this ⊢
    simp only [Z2_,z1_ h1,h2];exact this
def Yd_:Exit->Option Ex
 | .normal=>some .normal
 | .exit i=>some (.exit i)
 | .ret=>some .ret
 | _=>none
def QQ (n k0:Nat) (X0:Bool->Nat->Prop) (I0:Nat->Prop) (w0:World) (m0:M) (K:qK_):Exit->Act->World->Prop:=fun e a w=>
 ∃ x,Yd_ e=some x/\∃ fr st nx I m,K x fr st nx/\Sta n k0 X0 I0 w0 m0 fr st nx I w m a
end
end Go.Eng
