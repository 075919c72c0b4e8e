/- Parts of the proof: ECode. No condition. -/
import Derived.Test.YtimkdohmkfjfaaaGreatDoorXK07
import Derived.LoopN
namespace Go.Eng
set_option linter.unusedVariables false
set_option linter.unusedSimpArgs false
open Go.RowKit
inductive Ex where
 | normal
 | exit (i:Nat)
 | ret
abbrev kQ_:=Ex->zd_->zc_->Nat->Prop
def kg_ (g:Option (Nat × Bool)) (fr:zd_) (run skip:zd_->Prop):Prop:=match g with
 | none=>run fr
 | some (g,b)=>match fr.get g with
   | .bool t=>cnd t (match b with | true=>run ((g,.kb true) :: fr) | false=>skip ((g,.kb true) :: fr)) (match b with | true=>skip ((g,.kb false) :: fr) | false=>run ((g,.kb false) :: fr))
   | .kb t=>match t,b with
     | true,true=>run fr
     | false,false=>run fr
     | true,false=>skip fr
     | false,true=>skip fr
   | .skp=>skip fr
   | _=>False
def wn_ (d:Option Nat) (v:AV) (fr:zd_):zd_:=match d with | none=>fr | some d=>(d,v) :: fr
def w6_ (d:Option Nat) (v:AV) (fr:zd_) (K:zd_->Prop):Prop:=match d with | none=>K fr | some d=>K ((d,v) :: fr)
theorem vC_ (d:Option Nat) (v:AV) (fr:zd_) (K:zd_->Prop):w6_ d v fr K=K (wn_ d v fr):=by cases d<;>rfl
def g5_:List Nat->zd_->(zd_->Prop)->Prop
 | [],_,K=>K []
 | i :: r,fr,K=>Wt_ (fr.get i) fun v=>g5_ r fr fun t=>K ((i,v) :: t)
def vU_ (l:List Nat) (fr:zd_):zd_:=l.map fun i=>(i,fr.get i)
theorem g4_:∀ (l:List Nat) (fr:zd_) (K:zd_->Prop),g5_ l fr K=K (vU_ l fr)
 | [],_,_=>rfl
 | i :: r,fr,K=>by unfold g5_;rw [Jb_];exact g4_ r fr _
def Vu_:zc_->(zc_->Prop)->Prop
 | [],K=>K []
 | (i,o) :: r,K=>Vu_ r fun r=>K ((i,o) :: r)
theorem uP_:∀ (st:zc_) (K:zc_->Prop),Vu_ st K=K st
 | [],_=>rfl
 | (i,o) :: r,K=>by unfold Vu_;exact uP_ r _
def Wu_ (Γ:Env) (l:List IOper):zd_->zc_->Nat->(zd_->zc_->Nat->Prop)->Prop:=
 List.rec (motive:=fun _=>zd_->zc_->Nat->(zd_->zc_->Nat->Prop)->Prop) (fun fr st nx K=>K fr st nx)
  (fun x _ ih fr st nx K=>kg_ x.guard fr (fun fr=>zu_ Γ x.op fr st nx fun v st nx=>VZ_ nx fun nx=>w6_ x.dst v fr fun fr=>ih fr st nx K) fun fr=>w6_ x.dst .skp fr fun fr=>ih fr st nx K) l
theorem Vk_ {Γ:Env} {x:IOper} {l:List IOper} {fr:zd_} {st:zc_} {nx:Nat} {K:zd_->zc_->Nat->Prop}:Wu_ Γ (x :: l) fr st nx K=kg_ x.guard fr (fun fr=>zu_ Γ x.op fr st nx fun v st nx=>Wu_ Γ l (wn_ x.dst v fr) st nx K) fun fr=>Wu_ Γ l (wn_ x.dst .skp fr) st nx K:=by
 show kg_ x.guard fr (fun fr=>zu_ Γ x.op fr st nx fun v st nx=>VZ_ nx fun nx=>w6_ x.dst v fr fun fr=>Wu_ Γ l fr st nx K) (fun fr=>w6_ x.dst .skp fr fun fr=>Wu_ Γ l fr st nx K)=_
 simp only [WR_,vC_]
def Ur_ (io:IOp) (fr:zd_):List Nat:=match io with
 | .call _ f args=>U3_ f args fr
 | .box _ | .boxv _ | .mkmap _ _ | .slice0 _ | .mkrow _ _ _ _ _ | .s2b _ | .nilrow _ | .rngs _=>[]
 | .store _ x y=>QR_ x y fr
 | io=>match io.pure with | true=>[] | false=>zZ_ io.opds fr
def Xj_ (Γ:Env) (io:IOp) (fr:zd_):Bool:=match io with
 | .call _ f _=>hW_ Γ (f.ev fr)
 | .store _ _ _ | .sliceAll _ _ _ | .append _ _ _ _ | .appendJ _ _ _ _ | .appendz _ _ _ _ _ | .nxts _ | .mput _ _ _ _ _=>true
 | _=>false
def UI_:IOp->Bool | .call _ _ _=>true | _=>false
def IOp.sup:IOp->Bool
 | .isnil _ _ | .calln _ _=>false
 | _=>true
def IOp.supS (o:IOp):Bool:=match o with | .isnil _ _=>true | .calln _ _=>true | o=>o.sup
theorem BM_ {P:Program} {Γ:Env} {o:Oper} {io:IOp} {fr:zd_} {F:Nat->Prop} {st:zc_} {nx:Nat} {K:AV->zc_->Nat->Prop} (hΓ:qi_ P Γ) (hst:∀ i,st.get i ≠ none->i < nx) (hsup:io.sup=true) (hok:zy_ P o.op io=true)
 (hcl:UI_ io=true->y1_ st F) (hfoot:∀ i ∈ Ur_ io fr,F i) (ev:zu_ Γ io fr st nx K):kq_ P o io.opds fr F (Xj_ Γ io fr) st nx K:=by
 by_cases hp:io.pure=true
 ·exact kq_.of (F:=[]) (wr:=false) (B3_ (BA_ hp hok ev)) (fun i hi=>(by cases hi)) (fun h=>(by cases h))
 ·cases io with
  | len=>exact kq_.of (wr:=false) (zb1_ hok ev) hfoot (fun h=>(by cases h))
  | indexSl=>exact kq_.of (wr:=false) (Gh_ hok ev) hfoot (fun h=>(by cases h))
  | load=>exact kq_.of (wr:=false) (B9_ hok ev) hfoot (fun h=>(by cases h))
  | slice=>exact kq_.of (wr:=false) (bc_ hok ev) hfoot (fun h=>(by cases h))
  | b2s=>exact kq_.of (wr:=false) (zcl_ hok ev) hfoot (fun h=>(by cases h))
  | box=>exact kq_.of (F:=[]) (wr:=false) (zcj_ hok ev) (fun i hi=>(by cases hi)) (fun h=>(by cases h))
  | boxv=>exact kq_.of (F:=[]) (wr:=false) (za6_ hok ev) (fun i hi=>(by cases hi)) (fun h=>(by cases h))
  | mkmap=>exact kq_.of (F:=[]) (wr:=false) (bz_ hok ev) (fun i hi=>(by cases hi)) (fun h=>(by cases h))
  | slice0=>exact kq_.of (F:=[]) (wr:=false) (G3_ hok ev) (fun i hi=>(by cases hi)) (fun h=>(by cases h))
  | mkrow=>exact kq_.of (F:=[]) (wr:=false) (by_ hok ev) (fun i hi=>(by cases hi)) (fun h=>(by cases h))
  | s2b=>exact kq_.of (F:=[]) (wr:=false) (zbs_ hok ev) (fun i hi=>(by cases hi)) (fun h=>(by cases h))
  | sliceAll=>exact kq_.of (u9_ hok ev) hfoot (fun _=>rfl)
  | store=>exact kq_.of (H7_ hok ev) hfoot (fun _=>rfl)
  | append=>exact kq_.of (h3_ hok ev) hfoot (fun _=>rfl)
  | appendJ=>exact kq_.of (GJ_ hok ev) hfoot (fun _=>rfl)
  | appendz=>exact kq_.of (GI_ hok ev) hfoot (fun _=>rfl)
  | bad=>exact ev.elim
  | rngs=>exact kq_.of (F:=[]) (wr:=false) (Bt_ hok ev) (fun i hi=>(by cases hi)) (fun h=>(by cases h))
  | nxts=>exact kq_.of (BQ_ hok ev) hfoot (fun _=>rfl)
  | mget=>exact kq_.of (wr:=false) (B6_ hok ev) hfoot (fun h=>(by cases h))
  | mput=>exact kq_.of (B2_ hok ev) hfoot (fun _=>rfl)
  | nilrow=>exact kq_.of (F:=[]) (wr:=false) (ho_ hok ev) (fun i hi=>(by cases hi)) (fun h=>(by cases h))
  | mlen=>exact kq_.of (wr:=false) (B4_ hok ev) hfoot (fun h=>(by cases h))
  | call=>exact za1_ hΓ hst hok (hcl rfl) hfoot ev
  | callF=>exact kq_.of (wr:=false) (bW_ hΓ hok ev) hfoot (fun h=>(by cases h))
  | callL=>exact kq_.of (wr:=false) (bV_ hΓ hok ev) hfoot (fun h=>(by cases h))
  | _=>first | exact absurd rfl hp | cases hsup
def kK_:List Nat->(List Nat->Prop)->Prop
 | [],K=>K []
 | i :: r,K=>VZ_ i fun i=>kK_ r fun r=>K (i :: r)
theorem WU_:∀ (l:List Nat) (K:List Nat->Prop),kK_ l K=K l
 | [],_=>rfl
 | i :: r,K=>by unfold kK_;rw [WR_];exact WU_ r _
def qA_ (st:zc_):List Nat->List Nat
 | []=>[]
 | i :: r=>match st.get i with
   | some o=>o.ids++qA_ st r
   | none=>qA_ st r
def zaW_ (st:zc_) (l:List Nat):List Nat:=
 l++(qA_ st l++(qA_ st (qA_ st l)++qA_ st (qA_ st (qA_ st l))))
def hT_ (st:zc_) (l:List Nat) (K:List Nat->Prop):Prop:=
 kK_ l fun l=>kK_ (qA_ st l) fun a=>kK_ (qA_ st a) fun b=>kK_ (qA_ st b) fun c=>kK_ (l++(a++(b++c))) K
theorem bQ_ (st:zc_) (l:List Nat) (K:List Nat->Prop):hT_ st l K=K (zaW_ st l):=by
 unfold hT_ zaW_;simp only [WU_]
def subB:List Nat->List Nat->Bool
 | [],_=>true
 | i :: r,l=>match xE_ i l with | true=>subB r l | false=>false
def HS_ (st:zc_) (F:List Nat):Bool:=subB (qA_ st F) F
theorem HE_ {i:Nat}:∀ {l:List Nat},xE_ i l=true->i ∈ l
 | [],h=>by cases h
 | j :: r,h=>by
   unfold xE_ at h
   cases hb:Nat.beq j i with
   | true=>rw [Nat.eq_of_beq_eq_true hb];exact List.mem_cons_self ..
   | false=>rw [hb] at h;exact List.mem_cons_of_mem _ (HE_ h)
theorem Hk_:∀ {l r:List Nat},subB l r=true->∀ i ∈ l,i ∈ r
 | [],_,_=>fun i hi=>by cases hi
 | j :: l,r,h=>fun i hi=>by
   unfold subB at h
   cases hb:xE_ j r with
   | true=>
     rw [hb] at h
     rcases List.mem_cons.1 hi with rfl | hi
     ·exact HE_ hb
     ·exact Hk_ h i hi
   | false=>rw [hb] at h;cases h
theorem y5_ {st:zc_}:∀ {F:List Nat} {i:Nat} {l:Obj},i ∈ F->st.get i=some l->∀ j ∈ l.ids,j ∈ qA_ st F
 | [],_,_,h,_=>by cases h
 | k :: r,i,l,h,hg=>fun j hj=>by
   unfold qA_
   rcases List.mem_cons.1 h with rfl | h
   ·rw [hg];exact List.mem_append.2 (.inl hj)
   ·have:=y5_ h hg j hj
    split
    ·exact List.mem_append.2 (.inr this)
    ·exact this
theorem hS_ {st:zc_} {F:List Nat} (h:HS_ st F=true):y1_ st (· ∈ F):=fun i hi l hg j hj=>Hk_ h j (y5_ hi hg j hj)
def uC_ (io:IOp) (fr:zd_) (st:zc_) (K:List Nat->Prop):Prop:=match UI_ io with
 | true=>hT_ st (Ur_ io fr) fun F=>match HS_ st F with | true=>K F | false=>False
 | false=>kK_ (Ur_ io fr) K
theorem Gl_ {io:IOp} {fr:zd_} {st:zc_} {K:List Nat->Prop} (h:uC_ io fr st K):∃ F,K F/\(UI_ io=true->y1_ st (· ∈ F))/\∀ i ∈ Ur_ io fr,i ∈ F:=by
 unfold uC_ at h
 cases hc:UI_ io with
 | true=>
   rw [hc] at h
   simp only [bQ_] at h
   split at h
   ·rename_i hb;exact ⟨_,h,fun _=>hS_ hb,fun i hi=>List.mem_append.2 (.inl hi)⟩
   ·exact h.elim
 | false=>
   rw [hc] at h
   simp only [WU_] at h
   exact ⟨_,h,fun e=>(by cases e),fun i hi=>hi⟩
def Gm_ (st st1:zc_):List Nat->List Nat
 | []=>[]
 | i :: r=>match Gn_ st st1 i with | true=>i :: Gm_ st st1 r | false=>Gm_ st st1 r
theorem uD_ {st st1:zc_}:∀ {F:List Nat} {i:Nat},i ∈ F->Gn_ st st1 i=true->i ∈ Gm_ st st1 F
 | [],_,h,_=>by cases h
 | j :: r,i,h,hb=>by
   unfold Gm_
   rcases List.mem_cons.1 h with rfl | h
   ·rw [hb];exact List.mem_cons_self ..
   ·have:=uD_ h hb
    split
    ·exact List.mem_cons_of_mem _ this
    ·exact this
def Q9_:Nat->Nat->List Nat
 | _,0=>[]
 | i,n+1=>i :: Q9_ (i+1) n
theorem vz_:∀ {n i k:Nat},i<=k->k < i+n->k ∈ Q9_ i n
 | 0,i,k,h1,h2=>by omega
 | n+1,i,k,h1,h2=>by
   unfold Q9_
   by_cases e:k=i
   ·rw [e];exact List.mem_cons_self ..
   ·exact List.mem_cons_of_mem _ (vz_ (by omega) (by omega))
def wrL (wr:Bool) (F:List Nat) (st st1:zc_) (nx nx1:Nat):List Nat:=(match wr with | true=>F | false=>Gm_ st st1 F)++Q9_ nx (nx1 - nx)
def Jf_ (hist:List (List Nat × List Nat)) (F W:List Nat):List Nat->Bool
 | []=>true
 | j :: r=>match hist.drop j with
   | (Fj,Wj) :: _=>match XJ_ Wj F with
     | true=>match XJ_ Fj W with
       | true=>Jf_ hist F W r
       | false=>false
     | false=>false
   | []=>false
def yO_:List (List Nat × List Nat)->List Nat->List Nat->List Nat->Bool
 | _,_,_,[]=>true
 | h,F,W,g :: r=>match h.drop g with
   | (Fj,Wj) :: t=>match XJ_ Wj F with
     | true=>match XJ_ Fj W with
       | true=>yO_ t F W r
       | false=>false
     | false=>false
   | []=>false
def yP_ (h:List (List Nat × List Nat)) (F W us:List Nat):Bool:=match F with
 | []=>match W with
   | []=>true
   | _ :: _=>yO_ h F W us
 | _ :: _=>yO_ h F W us
def JW_ (Γ:Env) (l:List (IOper × List Nat)):List (List Nat × List Nat)->zd_->zc_->Nat->(zd_->zc_->Nat->Prop)->Prop:=
 List.rec (motive:=fun _=>List (List Nat × List Nat)->zd_->zc_->Nat->(zd_->zc_->Nat->Prop)->Prop) (fun _ fr st nx K=>K fr st nx)
  (fun x _ ih hist fr st nx K=>kg_ x.1.guard fr
    (fun fr=>uC_ x.1.op fr st fun F=>zu_ Γ x.1.op fr st nx fun v st1 nx1=>VZ_ nx1 fun nx1=>kK_ (wrL (Xj_ Γ x.1.op fr) F st st1 nx nx1) fun W=>match yP_ hist F W x.2 with
      | true=>w6_ x.1.dst v fr fun fr=>ih ((F,W) :: hist) fr st1 nx1 K
      | false=>False)
    fun fr=>w6_ x.1.dst .skp fr fun fr=>ih (([],[]) :: hist) fr st nx K) l
def usA:Nat->List Nat->List Nat
 | _,[]=>[]
 | k,g :: r=>(k - 1 - g) :: usA (k - 1 - g) r
def WD_:Nat->List (IOper × List Nat)->List (IOper × List Nat)
 | _,[]=>[]
 | k,x :: r=>(x.1,usA k x.2) :: WD_ (k+1) r
theorem uH_ {full:List (List Nat × List Nat)} {F W:List Nat}:∀ {us:List Nat} {k:Nat},k<=full.length->yO_ (full.take k).reverse F W us=true->Jf_ full F W (usA k us)=true
 | [],_,_,_=>rfl
 | g :: r,k,hk,h=>by
   unfold yO_ at h
   split at h
   ·rename_i Fj Wj t hd
    have hl:g < (full.take k).reverse.length:=by
     rcases Nat.lt_or_ge g (full.take k).reverse.length with h' | h'
     ·exact h'
     ·rw [List.drop_of_length_le h'] at hd;cases hd
    have hgk:g < k:=by rw [List.length_reverse,List.length_take] at hl;omega
    rw [List.drop_eq_getElem_cons hl] at hd
    injection hd with h1 h2
    have e1:full[k - 1 - g]?=some (Fj,Wj):=by
     rw [<- h1,List.getElem_reverse,List.getElem_take,List.getElem?_eq_getElem (by omega)]
     simp only [List.length_take,Nat.min_eq_left hk]
    have e2:(full.take (k - 1 - g)).reverse=t:=by
     rw [<- h2,List.drop_reverse,List.length_take,Nat.min_eq_left hk,List.take_take,Nat.min_eq_left (by omega),show k - 1 - g=k - (g+1) by omega]
    have e3:full.drop (k - 1 - g)=(Fj,Wj) :: full.drop (k - 1 - g+1):=by
     have hlt:k - 1 - g < full.length:=by omega
     rw [List.drop_eq_getElem_cons hlt]
     rw [List.getElem?_eq_getElem hlt] at e1
     rw [Option.some.inj e1]
    split at h
    ·rename_i d1
     split at h
     ·rename_i d2
      show Jf_ full F W ((k - 1 - g) :: usA (k - 1 - g) r)=true
      unfold Jf_
      rw [e3]
      simp only []
      rw [d1];simp only []
      rw [d2];simp only []
      exact uH_ (by omega) (by rw [e2];exact h)
     ·cases h
    ·cases h
   ·cases h
theorem uG_ {hist:List (List Nat × List Nat)}:∀ {us:List Nat},(∀ j ∈ us,j < hist.length)->Jf_ hist [] [] us=true
 | [],_=>rfl
 | j :: r,h=>by
   have hj:=h j (List.mem_cons_self ..)
   unfold Jf_
   rw [List.drop_eq_getElem_cons hj]
   generalize hist[j]=x
   obtain ⟨Fj,Wj⟩:=x
   have d1:∀ l:List Nat,XJ_ l []=true:=fun l=>by induction l with
    | nil=>rfl
    | cons a t ih=>exact ih
   simp only [d1,XJ_]
   exact uG_ fun j hj=>h j (List.mem_cons_of_mem _ hj)
theorem bP_ {full:List (List Nat × List Nat)} {F W us:List Nat} {k:Nat} (hk:full.length=k) (hu:∀ j ∈ usA k us,j < k) (h:yP_ full.reverse F W us=true):Jf_ full F W (usA k us)=true:=by
 have key:yO_ full.reverse F W us=true->Jf_ full F W (usA k us)=true:=fun h=>uH_ (by omega) (by rw [List.take_of_length_le (by omega)];exact h)
 unfold yP_ at h
 split at h
 ·split at h
  ·exact uG_ fun j hj=>by rw [hk];exact hu j hj
  ·exact key h
 ·exact key h
def kQ_.block (id:Nat) (K:kQ_):kQ_:=fun e fr st nx=>match e with
 | .exit i=>match Nat.beq i id with | true=>K .normal fr st nx | false=>K (.exit i) fr st nx
 | .normal=>K .normal fr st nx
 | .ret=>K .ret fr st nx
def kQ_.seq (n:zd_->zc_->Nat->Prop) (K:kQ_):kQ_:=fun e fr st nx=>match e with
 | .normal=>n fr st nx
 | .exit i=>K (.exit i) fr st nx
 | .ret=>K .ret fr st nx
def b6_ (body:kQ_->zd_->zc_->Nat->Prop) (K:kQ_):Nat->zd_->zc_->Nat->Prop
 | 0,_,_,_=>False
 | n+1,fr,st,nx=>body (K.seq fun fr st nx=>b6_ body K n fr st nx) fr st nx
def KP_:Nat->List Obj->zc_
 | _,[]=>[]
 | i,o :: r=>(i,o) :: KP_ (i+1) r
def QX_:List Nat->List AV->zd_
 | i :: l,v :: r=>(i,v) :: QX_ l r
 | _,_=>[]
def H3_:Nat->List Nat:=fun k=>Q9_ 0 k
def U1_ (k0:Nat) (live:List Nat) (fr:zd_) (st:zc_) (K:List AV->List Obj->Prop):Prop:=
 Xr_ (live.map fr.get) fun vs=>XL_ vs (H3_ k0) fun vs ρ=>KH_ st 1000 0 ρ fun os _=>K vs os
def zeb_ (k0:Nat) (body:kQ_->zd_->zc_->Nat->Prop) (K:kQ_) (fr:zd_) (st:zc_) (nx:Nat):Prop:=∀ r:Prop,
 ((∃ n,b6_ body K n fr st nx)->r)->
 ((∃ (ss live:List Nat) (α:Type) (J:α->Prop) (V:α->List AV) (O:α->List Obj) (μ:α->Nat),U1_ k0 live fr st (fun vs os=>∃ a,J a/\vs=V a/\os=O a)/\
   ∀ a,J a->body (K.seq fun fr st _=>Ua_ ss st fun st=>U1_ k0 live fr st fun vs os=>post (∃ a',J a'/\μ a' < μ a/\vs=V a'/\os=O a')) (QX_ live (V a)) (KP_ 0 (O a)) (O a).length)->r)->r
def cutK (k0:Nat) (body:kQ_->zd_->zc_->Nat->Prop) (K:kQ_) (fr:zd_) (st:zc_) (nx:Nat):Prop:=∀ r:Prop,
 (body K fr st nx->r)->
 ((∃ (live:List Nat) (α:Type) (V:α->List AV) (O:α->List Obj),body (K.seq fun fr st _=>U1_ k0 live fr st fun vs os=>post (∃ a,vs=V a/\os=O a)) fr st nx/\
   ∀ a,K .normal (QX_ live (V a)) (KP_ 0 (O a)) (O a).length)->r)->r
def uv_ (c:Opd) (b:Bool) (fr:zd_):zd_:=match c with | .t i=>(i,.kb b) :: fr | _=>fr
def Vx_:Nat->List AV->zd_
 | _,[]=>[]
 | k,v :: r=>(k,v) :: Vx_ (k+1) r
abbrev Hd:=Nat->List Nat->List Opd->zd_->zc_->Nat->(Bool->zd_->zc_->Nat->Prop)->Prop
def hd0:Hd:=fun _ _ _ _ _ _ _=>False
def kS_:List Opd->List Nat
 | []=>[]
 | .t i :: r=>i :: kS_ r
 | .c _ :: r=>kS_ r
 | .f _ :: r=>kS_ r
def zae_:List Opd->List Nat->Bool
 | [],[]=>true
 | _ :: r,_ :: l=>zae_ r l
 | _,_=>false
theorem vT_:∀ {l:List Opd} {r:List Nat},zae_ l r=true->l.length=r.length
 | [],[],_=>rfl
 | _ :: l,_ :: r,h=>by
   have:=vT_ (l:=l) (r:=r) h
   simp [this]
 | [],_ :: _,h=>by cases h
 | _ :: _,[],h=>by cases h
def leB:List AV->Nat->Bool
 | [],_=>true
 | _ :: r,n+1=>leB r n
 | _ :: _,0=>false
theorem zaf_:∀ {l:List AV} {n:Nat},leB l n=true->l.length<=n
 | [],_,_=>Nat.zero_le _
 | _ :: r,n+1,h=>by
   have:=zaf_ (l:=r) (n:=n) h
   simp;omega
 | _ :: _,0,h=>by cases h
def lay (p:Prop):Prop:=p\/False
abbrev Wk:=Nat->Hd->kQ_->zd_->zc_->Nat->Prop
def Gs_ (n c:Nat) (st:zc_) (K:zc_->Prop):Prop:=match st.get n with
 | some (.lrec r _)=>st.setK n (.lrec r c) K
 | _=>False
def zer_ (n:Nat) (frc:zd_) (KY:Bool->zd_->zc_->Nat->Prop):kQ_:=fun e _ st nx=>match e with
 | .normal=>Gs_ n 0 st fun st=>KY true frc st nx
 | .ret=>Gs_ n 2 st fun st=>KY false frc st nx
 | .exit i=>Gs_ n (i+3) st fun st=>KY false frc st nx
def asgE (n nb:Nat) (frc:zd_) (body:Wk) (KY:Bool->zd_->zc_->Nat->Prop):kQ_:=fun e fr st nx=>match e with
 | .normal=>match st.get n with
   | some (.lrec r c)=>match c with
     | 0=>st.setK n (.lrec r 1) fun st=>body nb hd0 (zer_ n frc KY) fr st nx
     | _+1=>False
   | _=>False
 | _=>False
def hdR (n:Nat) (lr:Go.Loop) (l:Nat) (us:List AV) (ps lv:List Nat) (asg body:Wk):Hd:=fun l' lvg args fr st nx KY=>
 U1_ (n+1) (lvg++kS_ args) fr st fun vs os=>VZ_ os.length fun nb=>match (KP_ 0 os).get n with
  | some (.lrec r c)=>match c with
    | 0=>match zae_ args ps with
      | true=>need (l'=l/\r=lr) (asg nb hd0 (asgE n nb (QX_ (lvg++kS_ args) vs) body KY) (QX_ ps (args.map (·.ev (QX_ (lvg++kS_ args) vs)))++QX_ lv us) (KP_ 0 os) nb)
      | false=>False
    | _+1=>False
  | _=>False
def endR (n:Nat) (fr:zd_) (K:kQ_) (st:zc_) (nx:Nat):Prop:=match st.get n with
 | some (.lrec _ c)=>st.setK n .dead fun st=>match c with
   | 0=>K .normal fr st nx
   | 1=>False
   | 2=>K .ret fr st nx
   | c+3=>K (.exit c) fr st nx
 | _=>False
def KG (n:Nat) (fr:zd_) (K:kQ_):kQ_:=fun e _ st nx=>match e with
 | .normal=>endR n fr K st nx
 | .ret=>endR n fr K st nx
 | .exit _=>False
def rngK (f:Nat) (ps lv:List Nat) (g:Nat) (asg body gir:Wk) (k0:Nat) (K:kQ_) (fr:zd_) (st:zc_):Prop:=
 U1_ k0 (f :: lv) fr st fun vs os=>match vs with
  | []=>False
  | v :: us=>match v with
    | .fn f' first cap=>match first with
      | []=>match Nat.beq f' g with
        | true=>match leB cap 3 with
          | true=>VZ_ os.length fun n=>lay (∀ (lr:Go.Loop) (l:Nat),gir (n+1) (hdR n lr l us ps lv asg body) (KG n (QX_ lv us) K) (Vx_ 0 (.yv l :: cap)) (KP_ 0 (os++[.lrec lr 0])) (n+1))
          | false=>False
        | false=>False
      | _ :: _=>False
    | _=>False
def H2_ (Γ:Env) (pre:List IOper) (d:Option Nat) (y:Opd) (args:List Opd) (lv:List Nat) (suf:List IOper) (hd:Hd) (K:kQ_) (fr:zd_) (st:zc_) (nx:Nat):Prop:=
 Wu_ Γ pre fr st nx fun fr st nx=>match y.ev fr with
  | .yv l=>hd l lv args fr st nx fun b fr st nx=>w6_ d (.kb b) fr fun fr=>Wu_ Γ suf fr st nx fun fr st nx=>K .normal fr st nx
  | _=>False
def evC (Γ:Env) (ir:IR):Wk:=
 IR.rec (motive:=fun _=>Wk)
  (fun _ _ K fr st nx=>K .normal fr st nx)
  (fun ops _ _ K fr st nx=>Wu_ Γ ops fr st nx fun fr st nx=>K .normal fr st nx)
  (fun ops _ _ K fr st nx=>JW_ Γ ops [] fr st nx fun fr st nx=>K .normal fr st nx)
  (fun _ _ iha ihb k0 hd K fr st nx=>iha k0 hd (K.seq fun fr st nx=>ihb k0 hd K fr st nx) fr st nx)
  (fun c _ _ iha ihb k0 hd K fr st nx=>match c.ev fr with
    | .bool t=>cnd t (iha k0 hd K (uv_ c true fr) st nx) (ihb k0 hd K (uv_ c false fr) st nx)
    | .kb t=>match t with | true=>iha k0 hd K fr st nx | false=>ihb k0 hd K fr st nx
    | _=>False)
  (fun id _ ih k0 hd K fr st nx=>ih k0 hd (K.block id) fr st nx)
  (fun _ ih k0 hd K fr st nx=>zeb_ k0 (ih k0 hd) K fr st nx)
  (fun _ ih k0 hd K fr st nx=>cutK k0 (ih k0 hd) K fr st nx)
  (fun l _ ih k0 hd K fr st nx=>g5_ l fr fun fr=>Vu_ st fun st=>ih k0 hd K fr st nx)
  (fun i _ _ K fr st nx=>K (.exit i) fr st nx)
  (fun _ _ K fr st nx=>K .ret fr st nx)
  (fun _ ih k0 hd K fr st nx=>ih k0 hd K fr st nx)
  (fun f ps lv g _ _ _ iha ihb ihg k0 _ K fr st _=>rngK f ps lv g iha ihb ihg k0 K fr st)
  (fun pre d y args lv suf _ hd K fr st nx=>H2_ Γ pre d y args lv suf hd K fr st nx) ir
end Go.Eng
namespace Go.Eng
set_option linter.unusedVariables false
set_option linter.unusedSimpArgs false
open Go.RowKit
def wL_ (I:Nat->Prop) (w:World) (m:M) (φ:Nat->AV) (a:Act):Prop:=∀ i,RV I w m (φ i) (a.tmps.getD i undef)
def xm_ (I:Nat->Prop) (w0 w:World) (ds:List Deferred):Prop:=
 ds.Nodup/\∀ d ∈ ds,∃ D,d={target:=.collected D,args:=#[]}/\I D/\w0.heap.size<=D/\w.heap[D]?=some (.deferred (some []))
theorem xm_.nil (I:Nat->Prop) (w0 w:World):xm_ I w0 w []:=⟨List.nodup_nil,fun d hd=>by cases hd⟩
theorem xm_.evo {I I':Nat->Prop} {w0 w w':World} {ds:List Deferred} (h:xm_ I w0 w ds) (hI:∀ b,I b->I' b) (hs:qF_ I w w'):xm_ I' w0 w' ds:=
 ⟨h.1,fun d hd=>by
  obtain ⟨D,h1,h2,h3,h4⟩:=h.2 d hd
  exact ⟨D,h1,hI D h2,h3,(hs D h2).trans h4⟩⟩
structure Sta (n k0:Nat) (X0:Bool->Nat->Prop) (I0:Nat->Prop) (w0:World) (m0:M) (fr:zd_) (st:zc_) (nx:Nat) (I:Nat->Prop) (w:World) (m:M) (a:Act):Prop where
 size:a.tmps.size=n
 defers:xm_ I w0 w a.defers
 f:wL_ I w m fr.get a
 hs:HS X0 I0 w0 st.get I w m
 same:qF_ I0 w0 w
 kept:∀ i,i < k0->m.used i/\m0.same m i
 lt:∀ i,m.used i->i < nx
theorem Gi_ {a:Act} {d:Nat} {v:Value} {i:Nat} (hd:d < a.tmps.size):(a.put (some d) v).tmps.getD i undef=if i=d then v else a.tmps.getD i undef:=by
 simp only [Act.put,Array.getD_eq_getD_getElem?,Array.getElem?_setIfInBounds]
 by_cases h:i=d
 ·subst h;simp [hd]
 ·rw [if_neg (fun e=>h e.symm),if_neg h]
theorem wL_.put {I:Nat->Prop} {w:World} {m:M} {fr:zd_} {a:Act} {d:Nat} {v:AV} {cv:Value} (h:wL_ I w m fr.get a) (hd:d < a.tmps.size) (hv:RV I w m v cv):wL_ I w m (zd_.get ((d,v) :: fr)) (a.put (some d) cv):=fun i=>by
 rw [zd_.get_cons,Gi_ hd]
 split
 ·exact hv
 ·exact h i
theorem wL_.evo {I I':Nat->Prop} {w w':World} {m m':M} {φ:Nat->AV} {a:Act} (h:wL_ I w m φ a) (e:Evo I w m I' w' m'):wL_ I' w' m' φ a:=fun i=>e.rv (h i)
theorem wL_.know {I:Nat->Prop} {w:World} {m:M} {fr:zd_} {a:Act} {g:Nat} {b:Bool} (h:wL_ I w m fr.get a) (e:a.tmps.getD g undef=.bool b):wL_ I w m (zd_.get ((g,.kb b) :: fr)) a:=fun i=>by
 rw [zd_.get_cons]
 split
 ·subst_vars;rw [e];rfl
 ·exact h i
def XH_ (n:Nat):Option Nat->Option Nat->Bool
 | none,none=>true
 | some d,some e=>d == e && decide (d < n)
 | _,_=>false
def Y9_ (ops:Array Oper):Option (Nat × Bool)->Option (Nat × Bool)->Bool
 | none,none=>true
 | some (j,b),some (g,c)=>b == c && (match (ops[j]?).bind (·.dst) with | some d=>d == g | none=>false)
 | _,_=>false
def Uq_ (P:Program) (n:Nat) (ops:Array Oper) (o:Oper) (x:IOper):Bool:=XH_ n o.dst x.dst && zy_ P o.op x.op && x.op.sup && Y9_ ops o.guard x.guard
def Y4_ (P:Program) (n:Nat) (ops:Array Oper) (o:Oper) (x:IOper):Bool:=XH_ n o.dst x.dst && zy_ P o.op x.op && x.op.supS && Y9_ ops o.guard x.guard
def Xi_ (P:Program) (n:Nat) (ops:Array Oper):List Oper->List IOper->Bool
 | [],[]=>true
 | o :: r,x :: l=>Y4_ P n ops o x && Xi_ P n ops r l
 | _,_=>false
theorem vh_ {ops:Array Oper} {a:Act} {j g:Nat} (h:(match (ops[j]?).bind (·.dst) with | some d=>d == g | none=>false)=true):
 yielded ops a.tmps j=match a.tmps.getD g undef with | .bool b=>some b | _=>none:=by
 unfold yielded
 split at h
 ·rename_i d hd
  simp only [beq_iff_eq] at h;subst h
  rw [hd]
  simp only [Option.bind_some,Array.getD_eq_getD_getElem?]
  cases a.tmps[d]? with
  | none=>rfl
  | some v=>cases v<;>rfl
 ·cases h
theorem Ya_ {ops:Array Oper} {o:Oper} {g:Option (Nat × Bool)} {fr:zd_} {run skip:zd_->Prop} (hg:Y9_ ops o.guard g=true) (ev:kg_ g fr run skip):
 ∃ fr' t,(match t with | true=>run fr' | false=>skip fr')/\(fr'=fr\/∃ i v,g=some (i,v)/\∃ b,fr.get i=.bool b/\fr'=(i,.kb b) :: fr)/\
   ∀ (I:Nat->Prop) (w:World) (m:M) (a:Act),(∀ i v,g=some (i,v)->RV I w m (fr.get i) (a.tmps.getD i undef))->Region.wanted o (yielded ops a.tmps)=t:=by
 unfold kg_ at ev
 cases hog:o.guard with
 | none=>
   cases hxg:g with
   | some _=>rw [hog,hxg] at hg;cases hg
   | none=>
     rw [hxg] at ev
     exact ⟨fr,true,ev,.inl rfl,fun I w m a _=>by simp [Region.wanted,hog]⟩
 | some jb=>
   obtain ⟨j,b⟩:=jb
   cases hxg:g with
   | none=>rw [hog,hxg] at hg;cases hg
   | some gc=>
     obtain ⟨g,c⟩:=gc
     rw [hog,hxg] at hg
     simp only [Y9_,Bool.and_eq_true,beq_iff_eq] at hg
     obtain ⟨rfl,hy⟩:=hg
     rw [hxg] at ev
     have hw:∀ a:Act,Region.wanted o (yielded ops a.tmps)=(yielded ops a.tmps j == some b):=fun a=>by simp [Region.wanted,hog]
     have is:∀ {t:Bool},(∀ {I:Nat->Prop} {w:World} {m:M} {a:Act},RV I w m (fr.get g) (a.tmps.getD g undef)->a.tmps.getD g undef=.bool t)->∀ (I:Nat->Prop) (w:World) (m:M) (a:Act),(∀ i v,some (g,b)=some (i,v)->RV I w m (fr.get i) (a.tmps.getD i undef))->Region.wanted o (yielded ops a.tmps)=(t == b):=fun {t} h I w m a hv=>by
      rw [hw,vh_ hy,h (hv g b rfl)]
      cases t<;>cases b<;>rfl
     simp only at ev
     split at ev
     ·rename_i t ht
      have hb:=is (t:=t) fun {I w m a} h=>by rw [ht] at h;exact h
      rcases QT_ ev with ⟨rfl,ev'⟩ | ⟨rfl,ev'⟩
      ·cases b with
       | true=>exact ⟨_,true,ev',.inr ⟨_,_,rfl,_,ht,rfl⟩,hb⟩
       | false=>exact ⟨_,false,ev',.inr ⟨_,_,rfl,_,ht,rfl⟩,hb⟩
      ·cases b with
       | true=>exact ⟨_,false,ev',.inr ⟨_,_,rfl,_,ht,rfl⟩,hb⟩
       | false=>exact ⟨_,true,ev',.inr ⟨_,_,rfl,_,ht,rfl⟩,hb⟩
     ·rename_i t ht
      have hb:=is (t:=t) fun {I w m a} h=>by rw [ht] at h;exact h
      cases t<;>cases b
      ·exact ⟨_,true,ev,.inl rfl,hb⟩
      ·exact ⟨_,false,ev,.inl rfl,hb⟩
      ·exact ⟨_,false,ev,.inl rfl,hb⟩
      ·exact ⟨_,true,ev,.inl rfl,hb⟩
     ·rename_i ht
      refine ⟨_,false,ev,.inl rfl,fun I w m a hv=>?_⟩
      have h:=hv g b rfl
      rw [ht] at h
      rw [hw,vh_ hy,show a.tmps.getD g undef=undef from h]
      rfl
     ·exact ev.elim
section
variable {P:Program} {Γ:Env} {n k0:Nat} {X0:Bool->Nat->Prop} {I0:Nat->Prop} {w0:World} {m0:M}
theorem Sta.fr' {fr fr':zd_} {st:zc_} {nx:Nat} {I:Nat->Prop} {w:World} {m:M} {a:Act} {g:Option (Nat × Bool)} (h:Sta n k0 X0 I0 w0 m0 fr st nx I w m a) (e:fr'=fr\/∃ i v,g=some (i,v)/\∃ b,fr.get i=.bool b/\fr'=(i,.kb b) :: fr):
 Sta n k0 X0 I0 w0 m0 fr' st nx I w m a:=by
 rcases e with rfl | ⟨i,v,_,b,hb,rfl⟩
 ·exact h
 ·have:=h.f i
  rw [hb] at this
  exact ⟨h.size,h.defers,h.f.know this,h.hs,h.same,h.kept,h.lt⟩
theorem Sta.put {fr:zd_} {st:zc_} {nx:Nat} {I:Nat->Prop} {w:World} {m:M} {a:Act} {d d':Option Nat} {v:AV} {cv:Value}
 (h:Sta n k0 X0 I0 w0 m0 fr st nx I w m a) (hd:XH_ n d d'=true) (hv:RV I w m v cv):Sta n k0 X0 I0 w0 m0 (wn_ d' v fr) st nx I w m (a.put d cv):=by
 cases d with
 | none=>
   cases d' with
   | some _=>cases hd
   | none=>exact h
 | some d=>
   cases d' with
   | none=>cases hd
   | some e=>
     simp only [XH_,Bool.and_eq_true,beq_iff_eq,decide_eq_true_eq] at hd
     obtain ⟨rfl,hd⟩:=hd
     exact ⟨by simp only [Act.put,Array.size_setIfInBounds];exact h.size,h.defers,h.f.put (by rw [h.size];exact hd) hv,h.hs,h.same,h.kept,h.lt⟩
theorem wL_.on {I:Nat->Prop} {w:World} {m:M} {fr:zd_} {a:Act} (h:wL_ I w m fr.get a) (L:List Opd):FOn L fr I w m a:=fun i _=>h i
theorem Sta.st_lt {fr:zd_} {st:zc_} {nx:Nat} {I:Nat->Prop} {w:World} {m:M} {a:Act} (h:Sta n k0 X0 I0 w0 m0 fr st nx I w m a):∀ i,st.get i ≠ none->i < nx:=fun i hi=>h.lt i (h.hs.H.lt i hi)
theorem Sta.evo {fr:zd_} {st st':zc_} {nx nx':Nat} {I I':Nat->Prop} {w w':World} {m m':M} {a:Act} (h:Sta n k0 X0 I0 w0 m0 fr st nx I w m a) (hs':HS X0 I0 w0 st'.get I' w' m') (e:Evo I w m I' w' m') (hle:nx<=nx') (hu:∀ i,m'.used i->m.used i\/(nx<=i/\i < nx')):
 Sta n k0 X0 I0 w0 m0 fr st' nx' I' w' m' a:=
 ⟨h.size,h.defers.evo e.up e.same,h.f.evo e,hs',fun b hb=>(e.same b (h.hs.Isub b hb)).trans (h.same b hb),fun i hi=>⟨e.m.1 i (h.kept i hi).1,M.same_trans (h.kept i hi).2 (e.m.2 i (h.kept i hi).1)⟩,fun i hi=>by
  rcases hu i hi with h' | h'
  ·have:=h.lt i h';omega
  ·exact h'.2⟩
@[reducible] def xorB (neg b:Bool):Bool:=match neg with | true=>!b | false=>b
theorem bD_ {o:Oper} {neg:Bool} {x':Opd} {fr:zd_} {st:zc_} {nx:Nat} {I:Nat->Prop} {w:World} {m:M} {a:Act} {K:AV->zc_->Nat->Prop} (hok:zy_ P o.op (.isnil neg x')=true) (hf:FOn [x'] fr I w m a) (hH:HRel I w m st.get) (ev:zu_ Γ (.isnil neg x') fr st nx K):
 ∃ v cv,K v st nx/\RV I w m v cv/\(execOp a.eval o).run P w=.ok (.value cv) w:=by
 simp only [zy_] at hok
 split at hok
 ·rename_i op xt x y e ho
  simp only [Bool.and_eq_true,beq_iff_eq] at hok
  obtain ⟨⟨⟨hop,hx⟩,hy⟩,ht⟩:=hok
  obtain ⟨el,ht⟩:=JN_ ht
  have hy':a.eval y=.slice none 0 0:=by
   unfold hq_ at hy
   split at hy
   ·rfl
   ·cases hy
  have key:∀ {ao:Option Addr} {len cap:Nat},a.eval x=.slice ao len cap->(execOp a.eval o).run P w=.ok (.value (.bool (xorB neg ao.isNone))) w:=fun {ao len cap} h=>by
   have hr:=xO_ (P:=P) (w:=w) (neg:=neg) (xt:=xt) (x:=x) (y:=y) (r:=ao.isNone) (.inr (.inr (.inr ⟨_,_,_,_,_,_,h,hy'⟩))) (by rw [h,hy'];exact V6_ (d:=9999) ht)
   refine JV_ (S:=do eqGuard (if neg then .neq else .eql) xt x y (a.eval x) (a.eval y);binOp (if neg then .neq else .eql) xt (a.eval x) (a.eval y)) ?_ hr
   unfold execOp;rw [ho,hop]
  have hv:=hf.rv (List.mem_cons_self ..) hx
  simp only [zu_] at ev
  split at ev
  ·rename_i hb
   rw [hb] at hv
   have hv:a.eval x=.slice none 0 0:=hv
   refine ⟨_,_,ev,?_,key hv⟩
   cases neg<;>exact vQ_
  ·rename_i t l hb
   rw [hb] at hv
   obtain ⟨ao,len,cap,h1,h2⟩:=hv
   obtain ⟨k1,k2,k3,k4⟩:=h2
   refine ⟨_,_,ev ao.isNone fun h=>?_,?_,key h1⟩
   ·rw [Option.isNone_iff_eq_none] at h;subst h
    rcases Nat.eq_zero_or_pos len with h0 | h0
    ·exact List.eq_nil_of_length_eq_zero (by omega)
    ·obtain ⟨b,o,e,_⟩:=k4 h0;cases e
   ·cases neg<;>exact qB_
  ·rename_i i hb
   split at ev
   ·rename_i fz t l hl
    rw [hb] at hv
    obtain ⟨ao,len,cap,h1,q1,q2,q3,q4,q5,q6⟩:=hv
    refine ⟨_,_,ev ao.isNone fun h=>?_,?_,key h1⟩
    ·rw [Option.isNone_iff_eq_none] at h;subst h
     obtain ⟨_,r2,r3,_,_⟩:=hH.obj i _ hl
     rcases q6 with ⟨_,_,q6⟩ | ⟨b,_,e⟩
     ·exact List.eq_nil_of_length_eq_zero (by omega)
     ·cases e
    ·cases neg<;>exact qB_
   ·exact ev.elim
  ·rename_i i off n hb
   rw [hb] at hv
   obtain ⟨ao,len,cap,h1,q1,q2,q3,q4,q5,q6⟩:=hv
   refine ⟨_,_,ev ao.isNone fun h=>?_,?_,key h1⟩
   ·rw [Option.isNone_iff_eq_none] at h;subst h
    rcases q6 with ⟨_,_,q6⟩ | ⟨b,o,_,e,_⟩
    ·omega
    ·cases e
   ·cases neg<;>exact qB_
  ·rename_i i t l hb
   rw [hb] at hv
   obtain ⟨⟨ao,len,cap,h1,k1,k2,k3,k4⟩,_⟩:=hv
   refine ⟨_,_,ev ao.isNone fun h=>?_,?_,key h1⟩
   ·rw [Option.isNone_iff_eq_none] at h;subst h
    rcases Nat.eq_zero_or_pos len with h0 | h0
    ·exact List.eq_nil_of_length_eq_zero (by omega)
    ·obtain ⟨b,o,e,_⟩:=k4 h0;cases e
   ·cases neg<;>exact qB_
  ·exact ev.elim
 ·cases hok
theorem zbr_ (hΓ:qi_ P Γ) {o:Oper} {io:IOp} {fr:zd_} {st:zc_} {nx:Nat} {I:Nat->Prop} {w:World} {m:M} {a:Act} {K:AV->zc_->Nat->Prop} (hst:∀ i,st.get i ≠ none->i < nx) (hok:zy_ P o.op io=true) (hn:io.sup=false) (hS:io.supS=true)
 (hf:FOn io.opds fr I w m a) (hs:HS X0 I0 w0 st.get I w m) (hN:∀ i,nx<=i->¬ m.used i) (ev:zu_ Γ io fr st nx K):xl_ P o a w fun cv I' w' m'=>∃ v st1 nx',nx<=nx'/\K v st1 nx'/\V9_ X0 I0 w0 I w m st1.get v nx nx' cv I' w' m':=by
 have keep:(∃ v cv,K v st nx/\RV I w m v cv/\(execOp a.eval o).run P w=.ok (.value cv) w)->xl_ P o a w fun cv I' w' m'=>∃ v st1 nx',nx<=nx'/\K v st1 nx'/\V9_ X0 I0 w0 I w m st1.get v nx nx' cv I' w' m':=fun ⟨v,cv,hK,hv,hrun⟩=>
  jv_ (I':=I) (m':=m) hrun ⟨v,st,nx,Nat.le_refl _,hK,hv,hs,Evo.refl _ _ _,fun _ h=>.inl h⟩
 have one:(∃ v st1,K v st1 nx/\xl_ P o a w (V9_ X0 I0 w0 I w m st1.get v nx nx))->xl_ P o a w fun cv I' w' m'=>∃ v st1 nx',nx<=nx'/\K v st1 nx'/\V9_ X0 I0 w0 I w m st1.get v nx nx' cv I' w' m':=fun ⟨v,st1,hK,hrun⟩=>
  fun N Q k=>hrun N Q fun cv I' w' m' hg=>k cv I' w' m' ⟨v,st1,nx,Nat.le_refl _,hK,hg⟩
 cases io with
 | isnil=>exact keep (bD_ hok hf hs.H ev)
 | calln=>exact bU_ hΓ hst hok hf hs hN ev
 | _=>first | (cases hn;done) | (cases hS;done)
theorem vo_ (hΓ:qi_ P Γ) {ops:Array Oper} {Q:Exit->Act->World->Prop} {o:Oper} {x:IOper} {r:List Oper} {fr:zd_} {st:zc_} {nx:Nat} {I:Nat->Prop} {w:World} {m:M} {a:Act} {K:zd_->zc_->Nat->Prop}
 (hok:Y4_ P n ops o x=true) (h:Sta n k0 X0 I0 w0 m0 fr st nx I w m a)
 (ev:kg_ x.guard fr (fun fr=>zu_ Γ x.op fr st nx fun v st nx=>K (wn_ x.dst v fr) st nx) fun fr=>K (wn_ x.dst .skp fr) st nx)
 (rest:∀ fr' st' nx' I' w' m' a',K fr' st' nx'->Sta n k0 X0 I0 w0 m0 fr' st' nx' I' w' m' a'->wpList P ops Q r a' w'):
 wpList P ops Q (o :: r) a w:=by
 simp only [Y4_,Bool.and_eq_true] at hok
 obtain ⟨⟨⟨hd,hop⟩,hsup⟩,hg⟩:=hok
 obtain ⟨fr',t,ev',hfr,hw⟩:=Ya_ hg ev
 have h':=h.fr' hfr
 have hw:=hw I w m a fun i _ _=>h.f i
 unfold wpList
 cases t with
 | true=>
   rw [if_pos hw]
   by_cases hn:x.op.sup=true
   ·have hsup:=hn
    obtain ⟨v,st1,nx',T,hle,hK,h3,_,run⟩:=BM_ (F:=fun _=>True) hΓ h'.st_lt hsup hop (fun _ _ _ _ _ _ _=>trivial) (fun _ _=>trivial) ev'
    refine .inl (run (h'.f.on _) h'.hs (fun _ _=>rfl) (fun i h1 _ hu=>by have:=h'.lt i hu;omega) _ Q fun cv I' w' m' hgood=>?_)
    obtain ⟨q1,q2,q3,q4⟩:=hgood
    have hupd:upd st.get T st1=st1.get:=funext fun i=>by
     unfold upd
     split
     ·rfl
     ·rename_i hi;exact (h3 i hi).symm
    rw [hupd] at q2
    exact rest _ _ _ _ _ _ _ hK ((h'.evo q2 q3 hle q4).put hd q1)
   ·refine .inl (zbr_ hΓ h'.st_lt hop (by simpa using hn) hsup (h'.f.on _) h'.hs (fun i h1 hu=>by have:=h'.lt i hu;omega) ev' _ Q fun cv I' w' m' hgood=>?_)
    obtain ⟨v,st1,nx',hle,hK,q1,q2,q3,q4⟩:=hgood
    exact rest _ _ _ _ _ _ _ hK ((h'.evo q2 q3 hle q4).put hd q1)
 | false=>
   rw [if_neg (by rw [hw];simp)]
   exact rest _ _ _ _ _ _ _ ev' (h'.put hd (v:=.skp) (cv:=undef) rfl)
theorem ym_ (hΓ:qi_ P Γ) {ops:Array Oper} {Q:Exit->Act->World->Prop} {K:zd_->zc_->Nat->Prop}:∀ {os:List Oper} {ios:List IOper} {fr:zd_} {st:zc_} {nx:Nat} {I:Nat->Prop} {w:World} {m:M} {a:Act},
 Xi_ P n ops os ios=true->Sta n k0 X0 I0 w0 m0 fr st nx I w m a->Wu_ Γ ios fr st nx K->
 (∀ fr' st' nx' I' w' m' a',K fr' st' nx'->Sta n k0 X0 I0 w0 m0 fr' st' nx' I' w' m' a'->Q .normal a' w')->wpList P ops Q os a w
 | [],[],fr,st,nx,I,w,m,a,_,h,ev,fin=>fin _ _ _ _ _ _ _ ev h
 | o :: r,x :: l,fr,st,nx,I,w,m,a,hok,h,ev,fin=>by
   simp only [Xi_,Bool.and_eq_true] at hok
   rw [Vk_] at ev
   exact vo_ (K:=fun fr st nx=>Wu_ Γ l fr st nx K) hΓ hok.1 h ev fun fr' st' nx' I' w' m' a' hK hS=>ym_ hΓ hok.2 hS hK fin
 | [],_ :: _,_,_,_,_,_,_,_,hok,_,_,_=>by cases hok
 | _ :: _,[],_,_,_,_,_,_,_,hok,_,_,_=>by cases hok
theorem gX_:∀ (l:List Obj) (k i:Nat),(KP_ k l).get i=if k<=i then l[i - k]? else none
 | [],k,i=>by simp [KP_,zc_.get]
 | o :: r,k,i=>by
   show zc_.get ((k,o) :: KP_ (k+1) r) i=_
   rw [zc_.get_cons,gX_ r (k+1) i]
   by_cases h:i=k
   ·subst h;simp
   ·rw [if_neg h]
    by_cases h2:k<=i
    ·rw [if_pos (by omega),if_pos h2,show i - k=(i - (k+1))+1 by omega];rfl
    ·rw [if_neg (by omega),if_neg h2]
theorem z6_ (l:List Obj):(KP_ 0 l).get=ofL l:=funext fun i=>by rw [gX_,if_pos (Nat.zero_le _)];rfl
theorem vA_:∀ (n i j:Nat),(Q9_ i n)[j]?=if j < n then some (i+j) else none
 | 0,i,j=>by simp [Q9_]
 | n+1,i,j=>by
   unfold Q9_
   cases j with
   | zero=>simp
   | succ j=>rw [List.getElem?_cons_succ,vA_ n (i+1) j];by_cases h:j < n<;>simp [h,show i+1+j=i+(j+1) by omega]
theorem uk_:∀ {n i k:Nat},k ∈ Q9_ i n->i<=k
 | 0,i,k,h=>by cases h
 | n+1,i,k,h=>by
   unfold Q9_ at h
   rcases List.mem_cons.1 h with rfl | h
   ·exact Nat.le_refl _
   ·have:=uk_ h;omega
theorem Xh_:∀ (n i:Nat),(Q9_ i n).Nodup
 | 0,_=>List.nodup_nil
 | n+1,i=>by
   unfold Q9_
   exact List.nodup_cons.2 ⟨fun h=>by have:=uk_ h;omega,Xh_ n (i+1)⟩
theorem xx_:∀ (n i:Nat),(Q9_ i n).length=n
 | 0,_=>rfl
 | n+1,i=>by simp [Q9_,xx_ n (i+1)]
theorem xX_ {I:Nat->Prop} {w:World} {m:M} {a:Act}:∀ {live:List Nat} {vs:List AV},kn_ I w m vs (live.map fun i=>a.tmps.getD i undef)->wL_ I w m (QX_ live vs).get a
 | [],[],_=>fun _=>trivial
 | i :: l,v :: r,h=>fun j=>by
   show RV I w m (zd_.get ((i,v) :: QX_ l r) j) _
   rw [zd_.get_cons]
   split
   ·rename_i e;subst e;exact Jj_ h.1
   ·exact xX_ h.2 j
 | [],_ :: _,h=>h.elim
 | _ :: _,[],h=>h.elim
theorem kL_ {live:List Nat} {fr:zd_} {st:zc_} {nx:Nat} {I:Nat->Prop} {w:World} {m:M} {a:Act} {K:List AV->List Obj->Prop} (h:Sta n k0 X0 I0 w0 m0 fr st nx I w m a) (ev:U1_ k0 live fr st K):
 ∃ vs os,K vs os/\∃ m',Sta n k0 X0 I0 w0 m0 (QX_ live vs) (KP_ 0 os) os.length I w m' a/\kn_ I w m' vs (live.map fun i=>a.tmps.getD i undef):=by
 unfold U1_ at ev
 rcases jy_ (live.map fr.get) with h' | ⟨l',e1,e2,e3⟩
 ·exact absurd ev (h' _)
 ·rw [e1] at ev
  obtain ⟨vs,ρ1,c1,c2,c3,c4⟩:=Jh_ nx l' (H3_ k0)
  rw [c1] at ev
  rcases Kf_ st nx 1000 0 ρ1 (Nat.zero_le _) with h' | ⟨os,ρ,d1,d2,d3,d4⟩
  ·exact absurd ev (h' _)
  ·rw [d1] at ev
   rw [Nat.zero_add] at d3
   have d4:∀ k (h:k < os.length) (h':k < ρ.length),∃ o,st.get ρ[k]=some o/\Z6_ nx ρ o os[k]:=fun k h h'=>by
    have:=d4 k h (by omega)
    simpa only [Nat.zero_add] using this
   have hpre:=c2.trans d2
   have hnod:ρ.Nodup:=hpre.nodup (Xh_ k0 0)
   have hk0:∀ i,i < k0->∃ h:i < ρ.length,ρ[i]=i:=fun i hi=>by
    have hl:i < (H3_ k0).length:=by unfold H3_;rw [xx_];exact hi
    refine ⟨Nat.lt_of_lt_of_le hl hpre.len,?_⟩
    rw [<- hpre.pre.getElem hl]
    have:=vA_ k0 0 i
    rw [if_pos hi,List.getElem?_eq_getElem (by rw [xx_];exact hi)] at this
    have e:=Option.some.inj this
    simpa [H3_] using e
   have hl2:kn_ I w m l' (live.map fun i=>a.tmps.getD i undef):=e3 (by simp) fun i h1 h2=>by
    simp only [List.getElem_map];exact h.f _
   have huse:∀ j,j < ρ.length->Un (qc_ m ρ nx) m (un ρ nx) j:=fun j hj=>⟨hj,rfl,rfl,rfl,rfl,rfl⟩
   have hvs:vs.map (kF_ (un ρ nx))=l':=by
    rw [<- c3]
    exact List.map_congr_left fun v hv=>Jv_ fun j hj=>d2.un (c4 j (List.mem_flatMap.2 ⟨v,hv,hj⟩))
   rw [<- hvs] at hl2
   have hl3:=J4_ (fun j hj=>huse j (Nat.lt_of_lt_of_le (c4 j hj) d2.len)) hl2
   have hH:=yR_ (js:=[]) (nx:=nx) h.hs.H hnod d3 d4 (fun i hi=>(by cases hi)) (fun i hi=>(by cases hi))
   have hIb:Ib I m []=I:=funext fun b=>propext ⟨fun h=>h.elim id fun ⟨i,hi,_⟩=>(by cases hi),.inl⟩
   rw [hIb] at hH
   refine ⟨vs,os,ev,qc_ m ρ nx,⟨h.size,h.defers,xX_ hl3,⟨by rw [z6_];exact hH,h.hs.fr0,h.hs.Isub,h.hs.Inew,fun i o b e hm hb=>?_,fun i o b e hm hb=>?_,h.hs.Ifz,fun i kn b e hd=>?_⟩,h.same,fun i hi=>?_,fun i hi=>by rw [d3];exact hi⟩,hl3⟩
   ·rw [z6_] at e
    unfold ofL at e
    obtain ⟨hi,e⟩:=List.getElem?_eq_some_iff.1 e
    obtain ⟨o',g1,g2⟩:=d4 i hi (by omega)
    simp only [qc_,zP_ (show i < ρ.length by omega)] at hb
    exact h.hs.own _ o' b g1 (by rw [<- g2.same.1,e];exact hm) hb
   ·rw [z6_] at e
    unfold ofL at e
    obtain ⟨hi,e⟩:=List.getElem?_eq_some_iff.1 e
    obtain ⟨o',g1,g2⟩:=d4 i hi (by omega)
    simp only [qc_,zP_ (show i < ρ.length by omega)] at hb
    exact h.hs.ownL _ o' b g1 (by rw [<- g2.same.2,e];exact hm) hb
   ·rw [z6_] at e
    unfold ofL at e
    obtain ⟨hi,e⟩:=List.getElem?_eq_some_iff.1 e
    obtain ⟨o',g1,g2⟩:=d4 i hi (by omega)
    simp only [qc_,zP_ (show i < ρ.length by omega)] at hd
    rw [g2.reg e] at g1
    exact h.hs.regw _ kn b g1 hd
   ·obtain ⟨h1,h2⟩:=hk0 i hi
    refine ⟨h1,?_⟩
    have:=(h.kept i hi).2
    unfold M.same at this ⊢
    simp only [qc_,zP_ h1,h2];exact this
theorem jY_ {st:zc_}:∀ {l:List AV},gs_ st l=true->∀ i ∈ zH_ l,∃ f t x,st.get i=some (.row f t x)
 | [],_,i,hi=>by cases hi
 | v :: r,h,i,hi=>by
   have hids:zH_ (v :: r)=v.ids0++zH_ r:=by simp [zH_]
   rw [hids] at hi
   unfold gs_ at h
   split at h
   ·exact jY_ h i ((List.mem_append.1 hi).resolve_left fun e=>by cases e)
   ·exact jY_ h i ((List.mem_append.1 hi).resolve_left fun e=>by cases e)
   ·exact jY_ h i ((List.mem_append.1 hi).resolve_left fun e=>by cases e)
   ·exact jY_ h i ((List.mem_append.1 hi).resolve_left fun e=>by cases e)
   ·split at h
    ·rename_i j f t x hg
     rcases List.mem_append.1 hi with e | e
     ·simp only [AV.ids0,List.mem_singleton] at e;subst e;exact ⟨_,_,_,hg⟩
     ·exact jY_ h i e
    ·cases h
   ·cases h
theorem VN_ {fr:zd_} {st:zc_} {nx i:Nat} {I:Nat->Prop} {w:World} {m:M} {a:Act} {K:zc_->Prop} (h:Sta n k0 X0 I0 w0 m0 fr st nx I w m a) (ev:Ub_ st i K):
 ∃ st' I',K st'/\Sta n k0 X0 I0 w0 m0 fr st' nx I' w m a:=by
 unfold Ub_ at ev
 split at ev
 case h_2=>exact ⟨st,I,ev,h⟩
 rename_i t y k L hg
 split at ev
 case h_2=>exact ⟨st,I,ev,h⟩
 rename_i a0 cs
 split at ev
 case h_2=>exact ⟨st,I,ev,h⟩
 rename_i r t0 x0
 split at ev
 case h_2=>exact ⟨st,I,ev,h⟩
 rename_i hB
 obtain ⟨c',st1,T1,ev1,⟨g1,g2⟩,hF⟩:=Ke_ ev
 obtain ⟨I',k1,k2,k3⟩:=hF h.hs fun _ _=>rfl
 have hupd:upd st.get T1 st1=st1.get:=funext fun j=>by
  unfold upd
  split
  ·rfl
  ·rename_i hj;exact (g1 j hj).symm
 rw [hupd] at k1
 have hiT:i ∉ T1:=fun hi=>by
  obtain ⟨f,t',x,e⟩:=jY_ hB i (g2 i hi).1
  rw [hg] at e;cases e
 have hg1:st1.get i=some (.rowm t y k (.jsl r t0 x0 :: cs)):=(g1 i hiT).trans hg
 obtain ⟨q1,q2,q3,q4,hi,r',cl,b,vs,T,fz,k6,hus,hcl,q5,q6,q7,q8,q9⟩:=h.hs.H.obj i _ hg
 simp only [List.cons.injEq,AV.jsl.injEq] at k6
 obtain ⟨⟨rfl,_,_⟩,rfl⟩:=k6
 have hO:GV_ I' w m i r t y k c':=⟨q1,q2,q3,q4,hi,hus,b,vs,T,fz,q5,q6,q7,q8,fun j hj=>by
  obtain ⟨es,p1,p2,p3,p4,p5⟩:=q9 j hj
  exact ⟨es,p1,fun e=>Zm_ k2.up k2.same t _ _ (p2 e),p3,fun e=>k3 _ (p4 e),p5⟩⟩
 have main:∀ ob:Obj,ob.mut=true->zM_ I' w m i ob->K (st1.set i ob)->∃ st' I',K st'/\Sta n k0 X0 I0 w0 m0 fr st' nx I' w m a:=fun ob hmu hob hK=>by
  have hlv:ob.live=true:=by cases ob<;>first | rfl | cases hmu
  have hget:∀ j,(st1.set i ob).get j=if j=i then some ob else st1.get j:=fun j=>zc_.get_set st1 i ob j
  refine ⟨_,I',hK,h.evo ?_ k2 (Nat.le_refl _) fun _ h=>.inl h⟩
  refine k1.step (Evo.refl _ _ _) (· =i) (fun j hj=>by rw [hget,if_neg hj]) (Fr.refl _ _) (fun _ h=>.inl h) k1.H.Ilt ?_ ?_ ?_ ?_ ?_ ?_ (fun _ h=>.inl h)
  ·rintro j o rfl e
   rw [hget,if_pos rfl] at e;cases e
   exact ⟨k1.H.lt _ (by rw [hg1];intro h;cases h),hob⟩
  ·rintro j o b' rfl e _ hb'
   exact .inr ⟨_,_,rfl,hg1,rfl,fun _=>rfl,hb'⟩
  ·rintro j j' o o' b' rfl rfl _ _ _ _ _ _;rfl
  ·rintro j o b' rfl e _ hb'
   exact k1.H.notI _ _ b' hg1 rfl hb'
  ·rintro j t' x b' rfl e _
   rw [hget,if_pos rfl] at e;cases e;cases hmu
  ·rintro j wr kn rfl e
   rw [hget,if_pos rfl] at e;cases e;cases hmu
 obtain ⟨z,hz,ev2⟩:=JD_ ev1
 simp only [ZG_,zc_.setK_eq] at ev2
 rcases QT_ ev2 with ⟨hd,ev3⟩ | ⟨hd,ev3⟩
 ·exact main _ rfl (BL_ hO hz (of_decide_eq_true hd)) ev3
 ·exact main _ rfl (BK_ hO hz (of_decide_eq_false hd)) ev3
theorem xf_ {fr:zd_} {nx:Nat} {w:World} {m:M} {a:Act} {K:zc_->Prop}:∀ (ss:List Nat) {st:zc_} {I:Nat->Prop},Sta n k0 X0 I0 w0 m0 fr st nx I w m a->Ua_ ss st K->
 ∃ st' I',K st'/\Sta n k0 X0 I0 w0 m0 fr st' nx I' w m a
 | [],_,_,h,ev=>⟨_,_,ev,h⟩
 | i :: r,_,_,h,ev=>by
   obtain ⟨st1,I1,ev1,h1⟩:=VN_ h ev
   exact xf_ r h1 ev1
def u2_:Exit->Option Ex
 | .normal=>some .normal
 | .exit i=>some (.exit i)
 | .ret=>some .ret
 | _=>none
def QQ (n k0:Nat) (X0:Bool->Nat->Prop) (I0:Nat->Prop) (w0:World) (m0:M) (K:kQ_):Exit->Act->World->Prop:=fun e a w=>
 ∃ x,u2_ e=some x/\∃ fr st nx I m,K x fr st nx/\Sta n k0 X0 I0 w0 m0 fr st nx I w m a
end
end Go.Eng
