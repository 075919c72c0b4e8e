/- Parts of the proof: ECode. No condition. -/
import Derived.Test.YtodnkagabgglfaaGreatDoorWA06
import Derived.LoopN
namespace Go.Eng
set_option linter.unusedVariables false
set_option linter.unusedSimpArgs false
open Go.RowKit
inductive Ex where
 | normal
 | exit (i:Nat)
 | ret
abbrev QN_:=Ex->zg_->zc_->Nat->Prop
def Qg_ (g:Option (Nat × Bool)) (fr:zg_) (run skip:zg_->Prop):Prop:=match g with
 | none=>run fr
 | some (g,b)=>match fr.get g with
   | .bool t=>cnd t (match b with | true=>run ((g,.kb true) :: fr) | false=>skip ((g,.kb true) :: fr)) (match b with | true=>skip ((g,.kb false) :: fr) | false=>run ((g,.kb false) :: fr))
   | .kb t=>match t,b with
     | true,true=>run fr
     | false,false=>run fr
     | true,false=>skip fr
     | false,true=>skip fr
   | .skp=>skip fr
   | _=>False
def jY_ (d:Option Nat) (v:AV) (fr:zg_):zg_:=match d with | none=>fr | some d=>(d,v) :: fr
def JA_ (d:Option Nat) (v:AV) (fr:zg_) (K:zg_->Prop):Prop:=match d with | none=>K fr | some d=>K ((d,v) :: fr)
theorem Yi_ (d:Option Nat) (v:AV) (fr:zg_) (K:zg_->Prop):JA_ d v fr K=K (jY_ d v fr):=by cases d<;>rfl
def GM_:List Nat->zg_->(zg_->Prop)->Prop
 | [],_,K=>K []
 | i :: r,fr,K=>wW_ (fr.get i) fun v=>GM_ r fr fun t=>K ((i,v) :: t)
def YD_ (l:List Nat) (fr:zg_):zg_:=l.map fun i=>(i,fr.get i)
theorem GL_:∀ (l:List Nat) (fr:zg_) (K:zg_->Prop),GM_ l fr K=K (YD_ l fr)
 | [],_,_=>rfl
 | i :: r,fr,K=>by unfold GM_;rw [JW_];exact GL_ r fr _
def ve_:zc_->(zc_->Prop)->Prop
 | [],K=>K []
 | (i,o) :: r,K=>ve_ r fun r=>K ((i,o) :: r)
theorem uu_:∀ (st:zc_) (K:zc_->Prop),ve_ st K=K st
 | [],_=>rfl
 | (i,o) :: r,K=>by unfold ve_;exact uu_ r _
def JY_ (Γ:Env) (l:List IOper):zg_->zc_->Nat->(zg_->zc_->Nat->Prop)->Prop:=
 List.rec (motive:=fun _=>zg_->zc_->Nat->(zg_->zc_->Nat->Prop)->Prop) (fun fr st nx K=>K fr st nx)
  (fun x _ ih fr st nx K=>Qg_ x.guard fr (fun fr=>zu_ Γ x.op fr st nx fun v st nx=>Vk_ nx fun nx=>JA_ x.dst v fr fun fr=>ih fr st nx K) fun fr=>JA_ x.dst .skp fr fun fr=>ih fr st nx K) l
theorem Y3_ {Γ:Env} {x:IOper} {l:List IOper} {fr:zg_} {st:zc_} {nx:Nat} {K:zg_->zc_->Nat->Prop}:JY_ Γ (x :: l) fr st nx K=Qg_ x.guard fr (fun fr=>zu_ Γ x.op fr st nx fun v st nx=>JY_ Γ l (jY_ x.dst v fr) st nx K) fun fr=>JY_ Γ l (jY_ x.dst .skp fr) st nx K:=by
 show Qg_ x.guard fr (fun fr=>zu_ Γ x.op fr st nx fun v st nx=>Vk_ nx fun nx=>JA_ x.dst v fr fun fr=>JY_ Γ l fr st nx K) (fun fr=>JA_ x.dst .skp fr fun fr=>JY_ Γ l fr st nx K)=_
 simp only [ws_,Yi_]
def Up_ (io:IOp) (fr:zg_):List Nat:=match io with
 | .call _ f args=>gl_ f args fr
 | .box _ | .boxv _ | .mkmap _ _ | .slice0 _ | .mkrow _ _ _ _ _ | .nilrow _=>[]
 | .store _ x y=>kG_ x y fr
 | io=>match io.pure with | true=>[] | false=>Zt_ io.opds fr
def W5_ (Γ:Env) (io:IOp) (fr:zg_):Bool:=match io with
 | .call _ f _=>H3_ Γ (f.ev fr)
 | .store _ _ _ | .sliceAll _ _ _ | .append _ _ _ _ | .copy _ _ _ | .mput _ _ _ _ _=>true
 | _=>false
def UO_:IOp->Bool | .call _ _ _=>true | _=>false
def IOp.sup:IOp->Bool
 | .isnil _ _ | .nxtm _ | .entm _=>false
 | _=>true
def IOp.supS (o:IOp):Bool:=match o with | .isnil _ _=>true | .nxtm _=>true | .entm _=>true | o=>o.sup
theorem zaq_ {P:Program} {Γ:Env} {o:Oper} {io:IOp} {fr:zg_} {F:Nat->Prop} {st:zc_} {nx:Nat} {K:AV->zc_->Nat->Prop} (hΓ:q7_ P Γ) (hst:∀ i,st.get i ≠ none->i < nx) (hsup:io.sup=true) (hok:zw_ P o.op io=true)
 (hcl:UO_ io=true->Xz_ st F) (hfoot:∀ i ∈ Up_ io fr,F i) (ev:zu_ Γ io fr st nx K):km_ P o io.opds fr F (W5_ Γ io fr) st nx K:=by
 by_cases hp:io.pure=true
 ·exact km_.of (F:=[]) (wr:=false) (zaC_ (zam_ hp hok ev)) (fun i hi=>(by cases hi)) (fun h=>(by cases h))
 ·cases io with
  | len=>exact km_.of (wr:=false) (zck_ hok ev) hfoot (fun h=>(by cases h))
  | indexSl=>exact km_.of (wr:=false) (G9_ hok ev) hfoot (fun h=>(by cases h))
  | load=>exact km_.of (wr:=false) (zaJ_ hok ev) hfoot (fun h=>(by cases h))
  | loadI=>exact km_.of (wr:=false) (Bs_ hok ev) hfoot (fun h=>(by cases h))
  | slice=>exact km_.of (wr:=false) (Ba_ hok ev) hfoot (fun h=>(by cases h))
  | b2s=>exact km_.of (wr:=false) (zcz_ hok ev) hfoot (fun h=>(by cases h))
  | box=>exact km_.of (F:=[]) (wr:=false) (zcw_ hok ev) (fun i hi=>(by cases hi)) (fun h=>(by cases h))
  | boxv=>exact km_.of (F:=[]) (wr:=false) (zbr_ hok ev) (fun i hi=>(by cases hi)) (fun h=>(by cases h))
  | mkmap=>exact km_.of (F:=[]) (wr:=false) (Bq_ hok ev) (fun i hi=>(by cases hi)) (fun h=>(by cases h))
  | slice0=>exact km_.of (F:=[]) (wr:=false) (hT_ hok ev) (fun i hi=>(by cases hi)) (fun h=>(by cases h))
  | mkrow=>exact km_.of (F:=[]) (wr:=false) (Bp_ hok ev) (fun i hi=>(by cases hi)) (fun h=>(by cases h))
  | sliceAll=>exact km_.of (uW_ hok ev) hfoot (fun _=>rfl)
  | store=>exact km_.of (b6_ hok ev) hfoot (fun _=>rfl)
  | append=>exact km_.of (H9_ hok ev) hfoot (fun _=>rfl)
  | rngm=>exact km_.of (wr:=false) (zae_ hok ev) hfoot (fun h=>(by cases h))
  | mget=>exact km_.of (wr:=false) (zaG_ hok ev) hfoot (fun h=>(by cases h))
  | mput=>exact km_.of (zaB_ hok ev) hfoot (fun _=>rfl)
  | nilrow=>exact km_.of (F:=[]) (wr:=false) (Hw_ hok ev) (fun i hi=>(by cases hi)) (fun h=>(by cases h))
  | mlen=>exact km_.of (wr:=false) (zaE_ hok ev) hfoot (fun h=>(by cases h))
  | copy=>exact km_.of (zbh_ hok ev) hfoot (fun _=>rfl)
  | call=>exact zbo_ hΓ hst hok (hcl rfl) hfoot ev
  | _=>first | exact absurd rfl hp | cases hsup
def QD_:List Nat->(List Nat->Prop)->Prop
 | [],K=>K []
 | i :: r,K=>Vk_ i fun i=>QD_ r fun r=>K (i :: r)
theorem ww_:∀ (l:List Nat) (K:List Nat->Prop),QD_ l K=K l
 | [],_=>rfl
 | i :: r,K=>by unfold QD_;rw [ws_];exact ww_ r _
def qg_ (st:zc_):List Nat->List Nat
 | []=>[]
 | i :: r=>match st.get i with
   | some o=>o.ids++qg_ st r
   | none=>qg_ st r
def zbj_ (st:zc_) (l:List Nat):List Nat:=
 l++(qg_ st l++(qg_ st (qg_ st l)++qg_ st (qg_ st (qg_ st l))))
def H0_ (st:zc_) (l:List Nat) (K:List Nat->Prop):Prop:=
 QD_ l fun l=>QD_ (qg_ st l) fun a=>QD_ (qg_ st a) fun b=>QD_ (qg_ st b) fun c=>QD_ (l++(a++(b++c))) K
theorem BG_ (st:zc_) (l:List Nat) (K:List Nat->Prop):H0_ st l K=K (zbj_ st l):=by
 unfold H0_ zbj_;simp only [ww_]
def subB:List Nat->List Nat->Bool
 | [],_=>true
 | i :: r,l=>match Wi_ i l with | true=>subB r l | false=>false
def bR_ (st:zc_) (F:List Nat):Bool:=subB (qg_ st F) F
theorem bG_ {i:Nat}:∀ {l:List Nat},Wi_ i l=true->i ∈ l
 | [],h=>by cases h
 | j :: r,h=>by
   unfold Wi_ at h
   cases hb:Nat.beq j i with
   | true=>rw [Nat.eq_of_beq_eq_true hb];exact List.mem_cons_self ..
   | false=>rw [hb] at h;exact List.mem_cons_of_mem _ (bG_ h)
theorem bn_:∀ {l r:List Nat},subB l r=true->∀ i ∈ l,i ∈ r
 | [],_,_=>fun i hi=>by cases hi
 | j :: l,r,h=>fun i hi=>by
   unfold subB at h
   cases hb:Wi_ j r with
   | true=>
     rw [hb] at h
     rcases List.mem_cons.1 hi with rfl | hi
     ·exact bG_ hb
     ·exact bn_ h i hi
   | false=>rw [hb] at h;cases h
theorem XD_ {st:zc_}:∀ {F:List Nat} {i:Nat} {l:Obj},i ∈ F->st.get i=some l->∀ j ∈ l.ids,j ∈ qg_ st F
 | [],_,_,h,_=>by cases h
 | k :: r,i,l,h,hg=>fun j hj=>by
   unfold qg_
   rcases List.mem_cons.1 h with rfl | h
   ·rw [hg];exact List.mem_append.2 (.inl hj)
   ·have:=XD_ h hg j hj
    split
    ·exact List.mem_append.2 (.inr this)
    ·exact this
theorem HY_ {st:zc_} {F:List Nat} (h:bR_ st F=true):Xz_ st (· ∈ F):=fun i hi l hg j hj=>bn_ h j (XD_ hi hg j hj)
def ud_ (io:IOp) (fr:zg_) (st:zc_) (K:List Nat->Prop):Prop:=match UO_ io with
 | true=>H0_ st (Up_ io fr) fun F=>match bR_ st F with | true=>K F | false=>False
 | false=>QD_ (Up_ io fr) K
theorem he_ {io:IOp} {fr:zg_} {st:zc_} {K:List Nat->Prop} (h:ud_ io fr st K):∃ F,K F/\(UO_ io=true->Xz_ st (· ∈ F))/\∀ i ∈ Up_ io fr,i ∈ F:=by
 unfold ud_ at h
 cases hc:UO_ io with
 | true=>
   rw [hc] at h
   simp only [BG_] at h
   split at h
   ·rename_i hb;exact ⟨_,h,fun _=>HY_ hb,fun i hi=>List.mem_append.2 (.inl hi)⟩
   ·exact h.elim
 | false=>
   rw [hc] at h
   simp only [ww_] at h
   exact ⟨_,h,fun e=>(by cases e),fun i hi=>hi⟩
def hf_ (st st1:zc_):List Nat->List Nat
 | []=>[]
 | i :: r=>match hg_ st st1 i with | true=>i :: hf_ st st1 r | false=>hf_ st st1 r
theorem ue_ {st st1:zc_}:∀ {F:List Nat} {i:Nat},i ∈ F->hg_ st st1 i=true->i ∈ hf_ st st1 F
 | [],_,h,_=>by cases h
 | j :: r,i,h,hb=>by
   unfold hf_
   rcases List.mem_cons.1 h with rfl | h
   ·rw [hb];exact List.mem_cons_self ..
   ·have:=ue_ h hb
    split
    ·exact List.mem_cons_of_mem _ this
    ·exact this
def Qf_:Nat->Nat->List Nat
 | _,0=>[]
 | i,n+1=>i :: Qf_ (i+1) n
theorem Yf_:∀ {n i k:Nat},i<=k->k < i+n->k ∈ Qf_ i n
 | 0,i,k,h1,h2=>by omega
 | n+1,i,k,h1,h2=>by
   unfold Qf_
   by_cases e:k=i
   ·rw [e];exact List.mem_cons_self ..
   ·exact List.mem_cons_of_mem _ (Yf_ (by omega) (by omega))
def wrL (wr:Bool) (F:List Nat) (st st1:zc_) (nx nx1:Nat):List Nat:=(match wr with | true=>F | false=>hf_ st st1 F)++Qf_ nx (nx1 - nx)
def KE_ (hist:List (List Nat × List Nat)) (F W:List Nat):List Nat->Bool
 | []=>true
 | j :: r=>match hist.drop j with
   | (Fj,Wj) :: _=>match yp_ Wj F with
     | true=>match yp_ Fj W with
       | true=>KE_ hist F W r
       | false=>false
     | false=>false
   | []=>false
def x9_:List (List Nat × List Nat)->List Nat->List Nat->List Nat->Bool
 | _,_,_,[]=>true
 | h,F,W,g :: r=>match h.drop g with
   | (Fj,Wj) :: t=>match yp_ Wj F with
     | true=>match yp_ Fj W with
       | true=>x9_ t F W r
       | false=>false
     | false=>false
   | []=>false
def Xa_ (h:List (List Nat × List Nat)) (F W us:List Nat):Bool:=match F with
 | []=>match W with
   | []=>true
   | _ :: _=>x9_ h F W us
 | _ :: _=>x9_ h F W us
def je_ (Γ:Env) (l:List (IOper × List Nat)):List (List Nat × List Nat)->zg_->zc_->Nat->(zg_->zc_->Nat->Prop)->Prop:=
 List.rec (motive:=fun _=>List (List Nat × List Nat)->zg_->zc_->Nat->(zg_->zc_->Nat->Prop)->Prop) (fun _ fr st nx K=>K fr st nx)
  (fun x _ ih hist fr st nx K=>Qg_ x.1.guard fr
    (fun fr=>ud_ x.1.op fr st fun F=>zu_ Γ x.1.op fr st nx fun v st1 nx1=>Vk_ nx1 fun nx1=>QD_ (wrL (W5_ Γ x.1.op fr) F st st1 nx nx1) fun W=>match Xa_ hist F W x.2 with
      | true=>JA_ x.1.dst v fr fun fr=>ih ((F,W) :: hist) fr st1 nx1 K
      | false=>False)
    fun fr=>JA_ x.1.dst .skp fr fun fr=>ih (([],[]) :: hist) fr st nx K) l
def usA:Nat->List Nat->List Nat
 | _,[]=>[]
 | k,g :: r=>(k - 1 - g) :: usA (k - 1 - g) r
def wa_:Nat->List (IOper × List Nat)->List (IOper × List Nat)
 | _,[]=>[]
 | k,x :: r=>(x.1,usA k x.2) :: wa_ (k+1) r
theorem ul_ {full:List (List Nat × List Nat)} {F W:List Nat}:∀ {us:List Nat} {k:Nat},k<=full.length->x9_ (full.take k).reverse F W us=true->KE_ full F W (usA k us)=true
 | [],_,_,_=>rfl
 | g :: r,k,hk,h=>by
   unfold x9_ at h
   split at h
   ·rename_i Fj Wj t hd
    have hl:g < (full.take k).reverse.length:=by
     rcases Nat.lt_or_ge g (full.take k).reverse.length with h' | h'
     ·exact h'
     ·rw [List.drop_of_length_le h'] at hd;cases hd
    have hgk:g < k:=by rw [List.length_reverse,List.length_take] at hl;omega
    rw [List.drop_eq_getElem_cons hl] at hd
    injection hd with h1 h2
    have e1:full[k - 1 - g]?=some (Fj,Wj):=by
     rw [<- h1,List.getElem_reverse,List.getElem_take,List.getElem?_eq_getElem (by omega)]
     simp only [List.length_take,Nat.min_eq_left hk]
    have e2:(full.take (k - 1 - g)).reverse=t:=by
     rw [<- h2,List.drop_reverse,List.length_take,Nat.min_eq_left hk,List.take_take,Nat.min_eq_left (by omega),show k - 1 - g=k - (g+1) by omega]
    have e3:full.drop (k - 1 - g)=(Fj,Wj) :: full.drop (k - 1 - g+1):=by
     have hlt:k - 1 - g < full.length:=by omega
     rw [List.drop_eq_getElem_cons hlt]
     rw [List.getElem?_eq_getElem hlt] at e1
     rw [Option.some.inj e1]
    split at h
    ·rename_i d1
     split at h
     ·rename_i d2
      show KE_ full F W ((k - 1 - g) :: usA (k - 1 - g) r)=true
      unfold KE_
      rw [e3]
      simp only []
      rw [d1];simp only []
      rw [d2];simp only []
      exact ul_ (by omega) (by rw [e2];exact h)
     ·cases h
    ·cases h
   ·cases h
theorem uk_ {hist:List (List Nat × List Nat)}:∀ {us:List Nat},(∀ j ∈ us,j < hist.length)->KE_ hist [] [] us=true
 | [],_=>rfl
 | j :: r,h=>by
   have hj:=h j (List.mem_cons_self ..)
   unfold KE_
   rw [List.drop_eq_getElem_cons hj]
   generalize hist[j]=x
   obtain ⟨Fj,Wj⟩:=x
   have d1:∀ l:List Nat,yp_ l []=true:=fun l=>by induction l with
    | nil=>rfl
    | cons a t ih=>exact ih
   simp only [d1,yp_]
   exact uk_ fun j hj=>h j (List.mem_cons_of_mem _ hj)
theorem BF_ {full:List (List Nat × List Nat)} {F W us:List Nat} {k:Nat} (hk:full.length=k) (hu:∀ j ∈ usA k us,j < k) (h:Xa_ full.reverse F W us=true):KE_ full F W (usA k us)=true:=by
 have key:x9_ full.reverse F W us=true->KE_ full F W (usA k us)=true:=fun h=>ul_ (by omega) (by rw [List.take_of_length_le (by omega)];exact h)
 unfold Xa_ at h
 split at h
 ·split at h
  ·exact uk_ fun j hj=>by rw [hk];exact hu j hj
  ·exact key h
 ·exact key h
def QN_.block (id:Nat) (K:QN_):QN_:=fun e fr st nx=>match e with
 | .exit i=>match Nat.beq i id with | true=>K .normal fr st nx | false=>K (.exit i) fr st nx
 | .normal=>K .normal fr st nx
 | .ret=>K .ret fr st nx
def QN_.seq (n:zg_->zc_->Nat->Prop) (K:QN_):QN_:=fun e fr st nx=>match e with
 | .normal=>n fr st nx
 | .exit i=>K (.exit i) fr st nx
 | .ret=>K .ret fr st nx
def BU_ (body:QN_->zg_->zc_->Nat->Prop) (K:QN_):Nat->zg_->zc_->Nat->Prop
 | 0,_,_,_=>False
 | n+1,fr,st,nx=>body (K.seq fun fr st nx=>BU_ body K n fr st nx) fr st nx
def kx_:Nat->List Obj->zc_
 | _,[]=>[]
 | i,o :: r=>(i,o) :: kx_ (i+1) r
def q8_:List Nat->List AV->zg_
 | i :: l,v :: r=>(i,v) :: q8_ l r
 | _,_=>[]
def b2_:Nat->List Nat:=fun k=>Qf_ 0 k
def gj_ (k0:Nat) (live:List Nat) (fr:zg_) (st:zc_) (K:List AV->List Obj->Prop):Prop:=
 XN_ (live.map fr.get) fun vs=>XU_ vs (b2_ k0) fun vs ρ=>kT_ st 1000 0 ρ fun os _=>K vs os
def zdS_ (k0:Nat) (body:QN_->zg_->zc_->Nat->Prop) (K:QN_) (fr:zg_) (st:zc_) (nx:Nat):Prop:=∀ r:Prop,
 ((∃ n,BU_ body K n fr st nx)->r)->
 ((∃ (live:List Nat) (α:Type) (J:α->Prop) (V:α->List AV) (O:α->List Obj) (μ:α->Nat),gj_ k0 live fr st (fun vs os=>∃ a,J a/\vs=V a/\os=O a)/\
   ∀ a,J a->body (K.seq fun fr st _=>gj_ k0 live fr st fun vs os=>post (∃ a',J a'/\μ a' < μ a/\vs=V a'/\os=O a')) (q8_ live (V a)) (kx_ 0 (O a)) (O a).length)->r)->r
def cutK (k0:Nat) (body:QN_->zg_->zc_->Nat->Prop) (K:QN_) (fr:zg_) (st:zc_) (nx:Nat):Prop:=∀ r:Prop,
 (body K fr st nx->r)->
 ((∃ (live:List Nat) (α:Type) (V:α->List AV) (O:α->List Obj),body (K.seq fun fr st _=>gj_ k0 live fr st fun vs os=>post (∃ a,vs=V a/\os=O a)) fr st nx/\
   ∀ a,K .normal (q8_ live (V a)) (kx_ 0 (O a)) (O a).length)->r)->r
def V7_ (c:Opd) (b:Bool) (fr:zg_):zg_:=match c with | .t i=>(i,.kb b) :: fr | _=>fr
def vi_:Nat->List AV->zg_
 | _,[]=>[]
 | k,v :: r=>(k,v) :: vi_ (k+1) r
abbrev Hd:=Nat->List Nat->List Opd->zg_->zc_->Nat->(Bool->zg_->zc_->Nat->Prop)->Prop
def hd0:Hd:=fun _ _ _ _ _ _ _=>False
def QP_:List Opd->List Nat
 | []=>[]
 | .t i :: r=>i :: QP_ r
 | .c _ :: r=>QP_ r
 | .f _ :: r=>QP_ r
def zaL_:List Opd->List Nat->Bool
 | [],[]=>true
 | _ :: r,_ :: l=>zaL_ r l
 | _,_=>false
theorem YC_:∀ {l:List Opd} {r:List Nat},zaL_ l r=true->l.length=r.length
 | [],[],_=>rfl
 | _ :: l,_ :: r,h=>by
   have:=YC_ (l:=l) (r:=r) h
   simp [this]
 | [],_ :: _,h=>by cases h
 | _ :: _,[],h=>by cases h
def leB:List AV->Nat->Bool
 | [],_=>true
 | _ :: r,n+1=>leB r n
 | _ :: _,0=>false
theorem zaP_:∀ {l:List AV} {n:Nat},leB l n=true->l.length<=n
 | [],_,_=>Nat.zero_le _
 | _ :: r,n+1,h=>by
   have:=zaP_ (l:=r) (n:=n) h
   simp;omega
 | _ :: _,0,h=>by cases h
def lay (p:Prop):Prop:=p\/False
abbrev Wk:=Nat->Hd->QN_->zg_->zc_->Nat->Prop
def hp_ (n c:Nat) (st:zc_) (K:zc_->Prop):Prop:=match st.get n with
 | some (.lrec r _)=>st.setK n (.lrec r c) K
 | _=>False
def zd3_ (n:Nat) (frc:zg_) (KY:Bool->zg_->zc_->Nat->Prop):QN_:=fun e _ st nx=>match e with
 | .normal=>hp_ n 0 st fun st=>KY true frc st nx
 | .ret=>hp_ n 2 st fun st=>KY false frc st nx
 | .exit i=>hp_ n (i+3) st fun st=>KY false frc st nx
def asgE (n nb:Nat) (frc:zg_) (body:Wk) (KY:Bool->zg_->zc_->Nat->Prop):QN_:=fun e fr st nx=>match e with
 | .normal=>match st.get n with
   | some (.lrec r c)=>match c with
     | 0=>st.setK n (.lrec r 1) fun st=>body nb hd0 (zd3_ n frc KY) fr st nx
     | _+1=>False
   | _=>False
 | _=>False
def hdR (n:Nat) (lr:Go.Loop) (l:Nat) (us:List AV) (ps lv:List Nat) (asg body:Wk):Hd:=fun l' lvg args fr st nx KY=>
 gj_ (n+1) (lvg++QP_ args) fr st fun vs os=>Vk_ os.length fun nb=>match (kx_ 0 os).get n with
  | some (.lrec r c)=>match c with
    | 0=>match zaL_ args ps with
      | true=>need (l'=l/\r=lr) (asg nb hd0 (asgE n nb (q8_ (lvg++QP_ args) vs) body KY) (q8_ ps (args.map (·.ev (q8_ (lvg++QP_ args) vs)))++q8_ lv us) (kx_ 0 os) nb)
      | false=>False
    | _+1=>False
  | _=>False
def endR (n:Nat) (fr:zg_) (K:QN_) (st:zc_) (nx:Nat):Prop:=match st.get n with
 | some (.lrec _ c)=>st.setK n .dead fun st=>match c with
   | 0=>K .normal fr st nx
   | 1=>False
   | 2=>K .ret fr st nx
   | c+3=>K (.exit c) fr st nx
 | _=>False
def KG (n:Nat) (fr:zg_) (K:QN_):QN_:=fun e _ st nx=>match e with
 | .normal=>endR n fr K st nx
 | .ret=>endR n fr K st nx
 | .exit _=>False
def rngK (f:Nat) (ps lv:List Nat) (g:Nat) (asg body gir:Wk) (k0:Nat) (K:QN_) (fr:zg_) (st:zc_):Prop:=
 gj_ k0 (f :: lv) fr st fun vs os=>match vs with
  | []=>False
  | v :: us=>match v with
    | .fn f' first cap=>match first with
      | []=>match Nat.beq f' g with
        | true=>match leB cap 3 with
          | true=>Vk_ os.length fun n=>lay (∀ (lr:Go.Loop) (l:Nat),gir (n+1) (hdR n lr l us ps lv asg body) (KG n (q8_ lv us) K) (vi_ 0 (.yv l :: cap)) (kx_ 0 (os++[.lrec lr 0])) (n+1))
          | false=>False
        | false=>False
      | _ :: _=>False
    | _=>False
def b0_ (Γ:Env) (pre:List IOper) (d:Option Nat) (y:Opd) (args:List Opd) (lv:List Nat) (suf:List IOper) (hd:Hd) (K:QN_) (fr:zg_) (st:zc_) (nx:Nat):Prop:=
 JY_ Γ pre fr st nx fun fr st nx=>match y.ev fr with
  | .yv l=>hd l lv args fr st nx fun b fr st nx=>JA_ d (.kb b) fr fun fr=>JY_ Γ suf fr st nx fun fr st nx=>K .normal fr st nx
  | _=>False
def evC (Γ:Env) (ir:IR):Wk:=
 IR.rec (motive:=fun _=>Wk)
  (fun _ _ K fr st nx=>K .normal fr st nx)
  (fun ops _ _ K fr st nx=>JY_ Γ ops fr st nx fun fr st nx=>K .normal fr st nx)
  (fun ops _ _ K fr st nx=>je_ Γ ops [] fr st nx fun fr st nx=>K .normal fr st nx)
  (fun _ _ iha ihb k0 hd K fr st nx=>iha k0 hd (K.seq fun fr st nx=>ihb k0 hd K fr st nx) fr st nx)
  (fun c _ _ iha ihb k0 hd K fr st nx=>match c.ev fr with
    | .bool t=>cnd t (iha k0 hd K (V7_ c true fr) st nx) (ihb k0 hd K (V7_ c false fr) st nx)
    | .kb t=>match t with | true=>iha k0 hd K fr st nx | false=>ihb k0 hd K fr st nx
    | _=>False)
  (fun id _ ih k0 hd K fr st nx=>ih k0 hd (K.block id) fr st nx)
  (fun _ ih k0 hd K fr st nx=>zdS_ k0 (ih k0 hd) K fr st nx)
  (fun _ ih k0 hd K fr st nx=>cutK k0 (ih k0 hd) K fr st nx)
  (fun l _ ih k0 hd K fr st nx=>GM_ l fr fun fr=>ve_ st fun st=>ih k0 hd K fr st nx)
  (fun i _ _ K fr st nx=>K (.exit i) fr st nx)
  (fun _ _ K fr st nx=>K .ret fr st nx)
  (fun _ ih k0 hd K fr st nx=>ih k0 hd K fr st nx)
  (fun f ps lv g _ _ _ iha ihb ihg k0 _ K fr st _=>rngK f ps lv g iha ihb ihg k0 K fr st)
  (fun pre d y args lv suf _ hd K fr st nx=>b0_ Γ pre d y args lv suf hd K fr st nx) ir
end Go.Eng
namespace Go.Eng
set_option linter.unusedVariables false
set_option linter.unusedSimpArgs false
open Go.RowKit
def Jl_ (I:Nat->Prop) (w:World) (m:M) (φ:Nat->AV) (a:Act):Prop:=∀ i,RV I w m (φ i) (a.tmps.getD i undef)
def wY_ (I:Nat->Prop) (w0 w:World) (ds:List Deferred):Prop:=
 ds.Nodup/\∀ d ∈ ds,∃ D,d={target:=.collected D,args:=#[]}/\I D/\w0.heap.size<=D/\w.heap[D]?=some (.deferred (some []))
theorem wY_.nil (I:Nat->Prop) (w0 w:World):wY_ I w0 w []:=⟨List.nodup_nil,fun d hd=>by cases hd⟩
theorem wY_.evo {I I':Nat->Prop} {w0 w w':World} {ds:List Deferred} (h:wY_ I w0 w ds) (hI:∀ b,I b->I' b) (hs:Qk_ I w w'):wY_ I' w0 w' ds:=
 ⟨h.1,fun d hd=>by
  obtain ⟨D,h1,h2,h3,h4⟩:=h.2 d hd
  exact ⟨D,h1,hI D h2,h3,(hs D h2).trans h4⟩⟩
structure Sta (n k0:Nat) (X0:Bool->Nat->Prop) (I0:Nat->Prop) (w0:World) (m0:M) (fr:zg_) (st:zc_) (nx:Nat) (I:Nat->Prop) (w:World) (m:M) (a:Act):Prop where
 size:a.tmps.size=n
 defers:wY_ I w0 w a.defers
 f:Jl_ I w m fr.get a
 hs:HS X0 I0 w0 st.get I w m
 same:Qk_ I0 w0 w
 kept:∀ i,i < k0->m.used i/\m0.same m i
 lt:∀ i,m.used i->i < nx
theorem hb_ {a:Act} {d:Nat} {v:Value} {i:Nat} (hd:d < a.tmps.size):(a.put (some d) v).tmps.getD i undef=if i=d then v else a.tmps.getD i undef:=by
 simp only [Act.put,Array.getD_eq_getD_getElem?,Array.getElem?_setIfInBounds]
 by_cases h:i=d
 ·subst h;simp [hd]
 ·rw [if_neg (fun e=>h e.symm),if_neg h]
theorem Jl_.put {I:Nat->Prop} {w:World} {m:M} {fr:zg_} {a:Act} {d:Nat} {v:AV} {cv:Value} (h:Jl_ I w m fr.get a) (hd:d < a.tmps.size) (hv:RV I w m v cv):Jl_ I w m (zg_.get ((d,v) :: fr)) (a.put (some d) cv):=fun i=>by
 rw [zg_.get_cons,hb_ hd]
 split
 ·exact hv
 ·exact h i
theorem Jl_.evo {I I':Nat->Prop} {w w':World} {m m':M} {φ:Nat->AV} {a:Act} (h:Jl_ I w m φ a) (e:Evo I w m I' w' m'):Jl_ I' w' m' φ a:=fun i=>e.rv (h i)
theorem Jl_.know {I:Nat->Prop} {w:World} {m:M} {fr:zg_} {a:Act} {g:Nat} {b:Bool} (h:Jl_ I w m fr.get a) (e:a.tmps.getD g undef=.bool b):Jl_ I w m (zg_.get ((g,.kb b) :: fr)) a:=fun i=>by
 rw [zg_.get_cons]
 split
 ·subst_vars;rw [e];rfl
 ·exact h i
def xn_ (n:Nat):Option Nat->Option Nat->Bool
 | none,none=>true
 | some d,some e=>d == e && decide (d < n)
 | _,_=>false
def yz_ (ops:Array Oper):Option (Nat × Bool)->Option (Nat × Bool)->Bool
 | none,none=>true
 | some (j,b),some (g,c)=>b == c && (match (ops[j]?).bind (·.dst) with | some d=>d == g | none=>false)
 | _,_=>false
def Un_ (P:Program) (n:Nat) (ops:Array Oper) (o:Oper) (x:IOper):Bool:=xn_ n o.dst x.dst && zw_ P o.op x.op && x.op.sup && yz_ ops o.guard x.guard
def yy_ (P:Program) (n:Nat) (ops:Array Oper) (o:Oper) (x:IOper):Bool:=xn_ n o.dst x.dst && zw_ P o.op x.op && x.op.supS && yz_ ops o.guard x.guard
def W4_ (P:Program) (n:Nat) (ops:Array Oper):List Oper->List IOper->Bool
 | [],[]=>true
 | o :: r,x :: l=>yy_ P n ops o x && W4_ P n ops r l
 | _,_=>false
theorem yG_ {ops:Array Oper} {a:Act} {j g:Nat} (h:(match (ops[j]?).bind (·.dst) with | some d=>d == g | none=>false)=true):
 yielded ops a.tmps j=match a.tmps.getD g undef with | .bool b=>some b | _=>none:=by
 unfold yielded
 split at h
 ·rename_i d hd
  simp only [beq_iff_eq] at h;subst h
  rw [hd]
  simp only [Option.bind_some,Array.getD_eq_getD_getElem?]
  cases a.tmps[d]? with
  | none=>rfl
  | some v=>cases v<;>rfl
 ·cases h
theorem XP_ {ops:Array Oper} {o:Oper} {g:Option (Nat × Bool)} {fr:zg_} {run skip:zg_->Prop} (hg:yz_ ops o.guard g=true) (ev:Qg_ g fr run skip):
 ∃ fr' t,(match t with | true=>run fr' | false=>skip fr')/\(fr'=fr\/∃ i v,g=some (i,v)/\∃ b,fr.get i=.bool b/\fr'=(i,.kb b) :: fr)/\
   ∀ (I:Nat->Prop) (w:World) (m:M) (a:Act),(∀ i v,g=some (i,v)->RV I w m (fr.get i) (a.tmps.getD i undef))->Region.wanted o (yielded ops a.tmps)=t:=by
 unfold Qg_ at ev
 cases hog:o.guard with
 | none=>
   cases hxg:g with
   | some _=>rw [hog,hxg] at hg;cases hg
   | none=>
     rw [hxg] at ev
     exact ⟨fr,true,ev,.inl rfl,fun I w m a _=>by simp [Region.wanted,hog]⟩
 | some jb=>
   obtain ⟨j,b⟩:=jb
   cases hxg:g with
   | none=>rw [hog,hxg] at hg;cases hg
   | some gc=>
     obtain ⟨g,c⟩:=gc
     rw [hog,hxg] at hg
     simp only [yz_,Bool.and_eq_true,beq_iff_eq] at hg
     obtain ⟨rfl,hy⟩:=hg
     rw [hxg] at ev
     have hw:∀ a:Act,Region.wanted o (yielded ops a.tmps)=(yielded ops a.tmps j == some b):=fun a=>by simp [Region.wanted,hog]
     have is:∀ {t:Bool},(∀ {I:Nat->Prop} {w:World} {m:M} {a:Act},RV I w m (fr.get g) (a.tmps.getD g undef)->a.tmps.getD g undef=.bool t)->∀ (I:Nat->Prop) (w:World) (m:M) (a:Act),(∀ i v,some (g,b)=some (i,v)->RV I w m (fr.get i) (a.tmps.getD i undef))->Region.wanted o (yielded ops a.tmps)=(t == b):=fun {t} h I w m a hv=>by
      rw [hw,yG_ hy,h (hv g b rfl)]
      cases t<;>cases b<;>rfl
     simp only at ev
     split at ev
     ·rename_i t ht
      have hb:=is (t:=t) fun {I w m a} h=>by rw [ht] at h;exact h
      rcases Xc_ ev with ⟨rfl,ev'⟩ | ⟨rfl,ev'⟩
      ·cases b with
       | true=>exact ⟨_,true,ev',.inr ⟨_,_,rfl,_,ht,rfl⟩,hb⟩
       | false=>exact ⟨_,false,ev',.inr ⟨_,_,rfl,_,ht,rfl⟩,hb⟩
      ·cases b with
       | true=>exact ⟨_,false,ev',.inr ⟨_,_,rfl,_,ht,rfl⟩,hb⟩
       | false=>exact ⟨_,true,ev',.inr ⟨_,_,rfl,_,ht,rfl⟩,hb⟩
     ·rename_i t ht
      have hb:=is (t:=t) fun {I w m a} h=>by rw [ht] at h;exact h
      cases t<;>cases b
      ·exact ⟨_,true,ev,.inl rfl,hb⟩
      ·exact ⟨_,false,ev,.inl rfl,hb⟩
      ·exact ⟨_,false,ev,.inl rfl,hb⟩
      ·exact ⟨_,true,ev,.inl rfl,hb⟩
     ·rename_i ht
      refine ⟨_,false,ev,.inl rfl,fun I w m a hv=>?_⟩
      have h:=hv g b rfl
      rw [ht] at h
      rw [hw,yG_ hy,show a.tmps.getD g undef=undef from h]
      rfl
     ·exact ev.elim
section
variable {P:Program} {Γ:Env} {n k0:Nat} {X0:Bool->Nat->Prop} {I0:Nat->Prop} {w0:World} {m0:M}
theorem Sta.fr' {fr fr':zg_} {st:zc_} {nx:Nat} {I:Nat->Prop} {w:World} {m:M} {a:Act} {g:Option (Nat × Bool)} (h:Sta n k0 X0 I0 w0 m0 fr st nx I w m a) (e:fr'=fr\/∃ i v,g=some (i,v)/\∃ b,fr.get i=.bool b/\fr'=(i,.kb b) :: fr):
 Sta n k0 X0 I0 w0 m0 fr' st nx I w m a:=by
 rcases e with rfl | ⟨i,v,_,b,hb,rfl⟩
 ·exact h
 ·have:=h.f i
  rw [hb] at this
  exact ⟨h.size,h.defers,h.f.know this,h.hs,h.same,h.kept,h.lt⟩
theorem Sta.put {fr:zg_} {st:zc_} {nx:Nat} {I:Nat->Prop} {w:World} {m:M} {a:Act} {d d':Option Nat} {v:AV} {cv:Value}
 (h:Sta n k0 X0 I0 w0 m0 fr st nx I w m a) (hd:xn_ n d d'=true) (hv:RV I w m v cv):Sta n k0 X0 I0 w0 m0 (jY_ d' v fr) st nx I w m (a.put d cv):=by
 cases d with
 | none=>
   cases d' with
   | some _=>cases hd
   | none=>exact h
 | some d=>
   cases d' with
   | none=>cases hd
   | some e=>
     simp only [xn_,Bool.and_eq_true,beq_iff_eq,decide_eq_true_eq] at hd
     obtain ⟨rfl,hd⟩:=hd
     exact ⟨by simp only [Act.put,Array.size_setIfInBounds];exact h.size,h.defers,h.f.put (by rw [h.size];exact hd) hv,h.hs,h.same,h.kept,h.lt⟩
theorem Jl_.on {I:Nat->Prop} {w:World} {m:M} {fr:zg_} {a:Act} (h:Jl_ I w m fr.get a) (L:List Opd):FOn L fr I w m a:=fun i _=>h i
theorem Sta.st_lt {fr:zg_} {st:zc_} {nx:Nat} {I:Nat->Prop} {w:World} {m:M} {a:Act} (h:Sta n k0 X0 I0 w0 m0 fr st nx I w m a):∀ i,st.get i ≠ none->i < nx:=fun i hi=>h.lt i (h.hs.H.lt i hi)
theorem Sta.evo {fr:zg_} {st st':zc_} {nx nx':Nat} {I I':Nat->Prop} {w w':World} {m m':M} {a:Act} (h:Sta n k0 X0 I0 w0 m0 fr st nx I w m a) (hs':HS X0 I0 w0 st'.get I' w' m') (e:Evo I w m I' w' m') (hle:nx<=nx') (hu:∀ i,m'.used i->m.used i\/(nx<=i/\i < nx')):
 Sta n k0 X0 I0 w0 m0 fr st' nx' I' w' m' a:=
 ⟨h.size,h.defers.evo e.up e.same,h.f.evo e,hs',fun b hb=>(e.same b (h.hs.Isub b hb)).trans (h.same b hb),fun i hi=>⟨e.m.1 i (h.kept i hi).1,M.same_trans (h.kept i hi).2 (e.m.2 i (h.kept i hi).1)⟩,fun i hi=>by
  rcases hu i hi with h' | h'
  ·have:=h.lt i h';omega
  ·exact h'.2⟩
@[reducible] def xorB (neg b:Bool):Bool:=match neg with | true=>!b | false=>b
theorem Bu_ {o:Oper} {neg:Bool} {x':Opd} {fr:zg_} {st:zc_} {nx:Nat} {I:Nat->Prop} {w:World} {m:M} {a:Act} {K:AV->zc_->Nat->Prop} (hok:zw_ P o.op (.isnil neg x')=true) (hf:FOn [x'] fr I w m a) (hH:HRel I w m st.get) (ev:zu_ Γ (.isnil neg x') fr st nx K):
 ∃ v cv,K v st nx/\RV I w m v cv/\(execOp a.eval o).run P w=.ok (.value cv) w:=by
 simp only [zw_] at hok
 split at hok
 ·rename_i op xt x y e ho
  simp only [Bool.and_eq_true,beq_iff_eq] at hok
  obtain ⟨⟨⟨hop,hx⟩,hy⟩,ht⟩:=hok
  obtain ⟨el,ht⟩:=Wj_ ht
  have hy':a.eval y=.slice none 0 0:=by
   unfold Hy_ at hy
   split at hy
   ·rfl
   ·cases hy
  have key:∀ {ao:Option Addr} {len cap:Nat},a.eval x=.slice ao len cap->(execOp a.eval o).run P w=.ok (.value (.bool (xorB neg ao.isNone))) w:=fun {ao len cap} h=>by
   have hr:=Ws_ (P:=P) (w:=w) (neg:=neg) (xt:=xt) (x:=x) (y:=y) (r:=ao.isNone) (.inr (.inr (.inr ⟨_,_,_,_,_,_,h,hy'⟩))) (by rw [h,hy'];exact VE_ (d:=9999) ht)
   refine Ko_ (S:=do eqGuard (if neg then .neq else .eql) xt x y (a.eval x) (a.eval y);binOp (if neg then .neq else .eql) xt (a.eval x) (a.eval y)) ?_ hr
   unfold execOp;rw [ho,hop]
  have hv:=hf.rv (List.mem_cons_self ..) hx
  simp only [zu_] at ev
  split at ev
  ·rename_i hb
   rw [hb] at hv
   have hv:a.eval x=.slice none 0 0:=hv
   refine ⟨_,_,ev,?_,key hv⟩
   cases neg<;>exact YB_
  ·rename_i t l hb
   rw [hb] at hv
   obtain ⟨ao,len,cap,h1,h2⟩:=hv
   obtain ⟨k1,k2,k3,k4⟩:=h2
   refine ⟨_,_,ev ao.isNone fun h=>?_,?_,key h1⟩
   ·rw [Option.isNone_iff_eq_none] at h;subst h
    rcases Nat.eq_zero_or_pos len with h0 | h0
    ·exact List.eq_nil_of_length_eq_zero (by omega)
    ·obtain ⟨b,o,e,_⟩:=k4 h0;cases e
   ·cases neg<;>exact qD_
  ·rename_i i hb
   split at ev
   ·rename_i fz t l hl
    rw [hb] at hv
    obtain ⟨ao,len,cap,h1,q1,q2,q3,q4,q5,q6⟩:=hv
    refine ⟨_,_,ev ao.isNone fun h=>?_,?_,key h1⟩
    ·rw [Option.isNone_iff_eq_none] at h;subst h
     obtain ⟨_,r2,r3,_,_⟩:=hH.obj i _ hl
     rcases q6 with ⟨_,_,q6⟩ | ⟨b,_,e⟩
     ·exact List.eq_nil_of_length_eq_zero (by omega)
     ·cases e
    ·cases neg<;>exact qD_
   ·exact ev.elim
  ·rename_i i off n hb
   rw [hb] at hv
   obtain ⟨ao,len,cap,h1,q1,q2,q3,q4,q5,q6⟩:=hv
   refine ⟨_,_,ev ao.isNone fun h=>?_,?_,key h1⟩
   ·rw [Option.isNone_iff_eq_none] at h;subst h
    rcases q6 with ⟨_,_,q6⟩ | ⟨b,o,_,e,_⟩
    ·omega
    ·cases e
   ·cases neg<;>exact qD_
  ·exact ev.elim
 ·cases hok
theorem zbV_ (hΓ:q7_ P Γ) {o:Oper} {io:IOp} {fr:zg_} {st:zc_} {nx:Nat} {I:Nat->Prop} {w:World} {m:M} {a:Act} {K:AV->zc_->Nat->Prop} (hst:∀ i,st.get i ≠ none->i < nx) (hok:zw_ P o.op io=true) (hn:io.sup=false) (hS:io.supS=true)
 (hf:FOn io.opds fr I w m a) (hs:HS X0 I0 w0 st.get I w m) (hN:∀ i,nx<=i->¬ m.used i) (ev:zu_ Γ io fr st nx K):wo_ P o a w fun cv I' w' m'=>∃ v st1 nx',nx<=nx'/\K v st1 nx'/\vv_ X0 I0 w0 I w m st1.get v nx nx' cv I' w' m':=by
 have keep:(∃ v cv,K v st nx/\RV I w m v cv/\(execOp a.eval o).run P w=.ok (.value cv) w)->wo_ P o a w fun cv I' w' m'=>∃ v st1 nx',nx<=nx'/\K v st1 nx'/\vv_ X0 I0 w0 I w m st1.get v nx nx' cv I' w' m':=fun ⟨v,cv,hK,hv,hrun⟩=>
  kv_ (I':=I) (m':=m) hrun ⟨v,st,nx,Nat.le_refl _,hK,hv,hs,Evo.refl _ _ _,fun _ h=>.inl h⟩
 have one:(∃ v st1,K v st1 nx/\wo_ P o a w (vv_ X0 I0 w0 I w m st1.get v nx nx))->wo_ P o a w fun cv I' w' m'=>∃ v st1 nx',nx<=nx'/\K v st1 nx'/\vv_ X0 I0 w0 I w m st1.get v nx nx' cv I' w' m':=fun ⟨v,st1,hK,hrun⟩=>
  fun N Q k=>hrun N Q fun cv I' w' m' hg=>k cv I' w' m' ⟨v,st1,nx,Nat.le_refl _,hK,hg⟩
 cases io with
 | isnil=>exact keep (Bu_ hok hf hs.H ev)
 | nxtm=>exact one (zar_ hok hf hs ev)
 | entm=>exact one (zbd_ hok hf hs ev)
 | _=>first | (cases hn;done) | (cases hS;done)
theorem yJ_ (hΓ:q7_ P Γ) {ops:Array Oper} {Q:Exit->Act->World->Prop} {o:Oper} {x:IOper} {r:List Oper} {fr:zg_} {st:zc_} {nx:Nat} {I:Nat->Prop} {w:World} {m:M} {a:Act} {K:zg_->zc_->Nat->Prop}
 (hok:yy_ P n ops o x=true) (h:Sta n k0 X0 I0 w0 m0 fr st nx I w m a)
 (ev:Qg_ x.guard fr (fun fr=>zu_ Γ x.op fr st nx fun v st nx=>K (jY_ x.dst v fr) st nx) fun fr=>K (jY_ x.dst .skp fr) st nx)
 (rest:∀ fr' st' nx' I' w' m' a',K fr' st' nx'->Sta n k0 X0 I0 w0 m0 fr' st' nx' I' w' m' a'->wpList P ops Q r a' w'):
 wpList P ops Q (o :: r) a w:=by
 simp only [yy_,Bool.and_eq_true] at hok
 obtain ⟨⟨⟨hd,hop⟩,hsup⟩,hg⟩:=hok
 obtain ⟨fr',t,ev',hfr,hw⟩:=XP_ hg ev
 have h':=h.fr' hfr
 have hw:=hw I w m a fun i _ _=>h.f i
 unfold wpList
 cases t with
 | true=>
   rw [if_pos hw]
   by_cases hn:x.op.sup=true
   ·have hsup:=hn
    obtain ⟨v,st1,nx',T,hle,hK,h3,_,run⟩:=zaq_ (F:=fun _=>True) hΓ h'.st_lt hsup hop (fun _ _ _ _ _ _ _=>trivial) (fun _ _=>trivial) ev'
    refine .inl (run (h'.f.on _) h'.hs (fun _ _=>rfl) (fun i h1 _ hu=>by have:=h'.lt i hu;omega) _ Q fun cv I' w' m' hgood=>?_)
    obtain ⟨q1,q2,q3,q4⟩:=hgood
    have hupd:upd st.get T st1=st1.get:=funext fun i=>by
     unfold upd
     split
     ·rfl
     ·rename_i hi;exact (h3 i hi).symm
    rw [hupd] at q2
    exact rest _ _ _ _ _ _ _ hK ((h'.evo q2 q3 hle q4).put hd q1)
   ·refine .inl (zbV_ hΓ h'.st_lt hop (by simpa using hn) hsup (h'.f.on _) h'.hs (fun i h1 hu=>by have:=h'.lt i hu;omega) ev' _ Q fun cv I' w' m' hgood=>?_)
    obtain ⟨v,st1,nx',hle,hK,q1,q2,q3,q4⟩:=hgood
    exact rest _ _ _ _ _ _ _ hK ((h'.evo q2 q3 hle q4).put hd q1)
 | false=>
   rw [if_neg (by rw [hw];simp)]
   exact rest _ _ _ _ _ _ _ ev' (h'.put hd (v:=.skp) (cv:=undef) rfl)
theorem xO_ (hΓ:q7_ P Γ) {ops:Array Oper} {Q:Exit->Act->World->Prop} {K:zg_->zc_->Nat->Prop}:∀ {os:List Oper} {ios:List IOper} {fr:zg_} {st:zc_} {nx:Nat} {I:Nat->Prop} {w:World} {m:M} {a:Act},
 W4_ P n ops os ios=true->Sta n k0 X0 I0 w0 m0 fr st nx I w m a->JY_ Γ ios fr st nx K->
 (∀ fr' st' nx' I' w' m' a',K fr' st' nx'->Sta n k0 X0 I0 w0 m0 fr' st' nx' I' w' m' a'->Q .normal a' w')->wpList P ops Q os a w
 | [],[],fr,st,nx,I,w,m,a,_,h,ev,fin=>fin _ _ _ _ _ _ _ ev h
 | o :: r,x :: l,fr,st,nx,I,w,m,a,hok,h,ev,fin=>by
   simp only [W4_,Bool.and_eq_true] at hok
   rw [Y3_] at ev
   exact yJ_ (K:=fun fr st nx=>JY_ Γ l fr st nx K) hΓ hok.1 h ev fun fr' st' nx' I' w' m' a' hK hS=>xO_ hΓ hok.2 hS hK fin
 | [],_ :: _,_,_,_,_,_,_,_,hok,_,_,_=>by cases hok
 | _ :: _,[],_,_,_,_,_,_,_,hok,_,_,_=>by cases hok
theorem GH_:∀ (l:List Obj) (k i:Nat),(kx_ k l).get i=if k<=i then l[i - k]? else none
 | [],k,i=>by simp [kx_,zc_.get]
 | o :: r,k,i=>by
   show zc_.get ((k,o) :: kx_ (k+1) r) i=_
   rw [zc_.get_cons,GH_ r (k+1) i]
   by_cases h:i=k
   ·subst h;simp
   ·rw [if_neg h]
    by_cases h2:k<=i
    ·rw [if_pos (by omega),if_pos h2,show i - k=(i - (k+1))+1 by omega];rfl
    ·rw [if_neg (by omega),if_neg h2]
theorem Zd_ (l:List Obj):(kx_ 0 l).get=ofL l:=funext fun i=>by rw [GH_,if_pos (Nat.zero_le _)];rfl
theorem Yg_:∀ (n i j:Nat),(Qf_ i n)[j]?=if j < n then some (i+j) else none
 | 0,i,j=>by simp [Qf_]
 | n+1,i,j=>by
   unfold Qf_
   cases j with
   | zero=>simp
   | succ j=>rw [List.getElem?_cons_succ,Yg_ n (i+1) j];by_cases h:j < n<;>simp [h,show i+1+j=i+(j+1) by omega]
theorem VX_:∀ {n i k:Nat},k ∈ Qf_ i n->i<=k
 | 0,i,k,h=>by cases h
 | n+1,i,k,h=>by
   unfold Qf_ at h
   rcases List.mem_cons.1 h with rfl | h
   ·exact Nat.le_refl _
   ·have:=VX_ h;omega
theorem W2_:∀ (n i:Nat),(Qf_ i n).Nodup
 | 0,_=>List.nodup_nil
 | n+1,i=>by
   unfold Qf_
   exact List.nodup_cons.2 ⟨fun h=>by have:=VX_ h;omega,W2_ n (i+1)⟩
theorem Wb_:∀ (n i:Nat),(Qf_ i n).length=n
 | 0,_=>rfl
 | n+1,i=>by simp [Qf_,Wb_ n (i+1)]
theorem WL_ {I:Nat->Prop} {w:World} {m:M} {a:Act}:∀ {live:List Nat} {vs:List AV},kk_ I w m vs (live.map fun i=>a.tmps.getD i undef)->Jl_ I w m (q8_ live vs).get a
 | [],[],_=>fun _=>trivial
 | i :: l,v :: r,h=>fun j=>by
   show RV I w m (zg_.get ((i,v) :: q8_ l r) j) _
   rw [zg_.get_cons]
   split
   ·rename_i e;subst e;exact jH_ h.1
   ·exact WL_ h.2 j
 | [],_ :: _,h=>h.elim
 | _ :: _,[],h=>h.elim
theorem QG_ {live:List Nat} {fr:zg_} {st:zc_} {nx:Nat} {I:Nat->Prop} {w:World} {m:M} {a:Act} {K:List AV->List Obj->Prop} (h:Sta n k0 X0 I0 w0 m0 fr st nx I w m a) (ev:gj_ k0 live fr st K):
 ∃ vs os,K vs os/\∃ m',Sta n k0 X0 I0 w0 m0 (q8_ live vs) (kx_ 0 os) os.length I w m' a/\kk_ I w m' vs (live.map fun i=>a.tmps.getD i undef):=by
 unfold gj_ at ev
 rcases JI_ (live.map fr.get) with h' | ⟨l',e1,e2,e3⟩
 ·exact absurd ev (h' _)
 ·rw [e1] at ev
  obtain ⟨vs,ρ1,c1,c2,c3,c4⟩:=J3_ nx l' (b2_ k0)
  rw [c1] at ev
  rcases k9_ st nx 1000 0 ρ1 (Nat.zero_le _) with h' | ⟨os,ρ,d1,d2,d3,d4⟩
  ·exact absurd ev (h' _)
  ·rw [d1] at ev
   rw [Nat.zero_add] at d3
   have d4:∀ k (h:k < os.length) (h':k < ρ.length),∃ o,st.get ρ[k]=some o/\qx_ nx ρ o os[k]:=fun k h h'=>by
    have:=d4 k h (by omega)
    simpa only [Nat.zero_add] using this
   have hpre:=c2.trans d2
   have hnod:ρ.Nodup:=hpre.nodup (W2_ k0 0)
   have hk0:∀ i,i < k0->∃ h:i < ρ.length,ρ[i]=i:=fun i hi=>by
    have hl:i < (b2_ k0).length:=by unfold b2_;rw [Wb_];exact hi
    refine ⟨Nat.lt_of_lt_of_le hl hpre.len,?_⟩
    rw [<- hpre.pre.getElem hl]
    have:=Yg_ k0 0 i
    rw [if_pos hi,List.getElem?_eq_getElem (by rw [Wb_];exact hi)] at this
    have e:=Option.some.inj this
    simpa [b2_] using e
   have hl2:kk_ I w m l' (live.map fun i=>a.tmps.getD i undef):=e3 (by simp) fun i h1 h2=>by
    simp only [List.getElem_map];exact h.f _
   have huse:∀ j,j < ρ.length->Un (kz_ m ρ nx) m (un ρ nx) j:=fun j hj=>⟨hj,rfl,rfl,rfl,rfl⟩
   have hvs:vs.map (QY_ (un ρ nx))=l':=by
    rw [<- c3]
    exact List.map_congr_left fun v hv=>w2_ fun j hj=>d2.un (c4 j (List.mem_flatMap.2 ⟨v,hv,hj⟩))
   rw [<- hvs] at hl2
   have hl3:=WI_ (fun j hj=>huse j (Nat.lt_of_lt_of_le (c4 j hj) d2.len)) hl2
   have hH:=uo_ (js:=[]) (nx:=nx) h.hs.H hnod d3 d4 (fun i hi=>(by cases hi)) (fun i hi=>(by cases hi))
   have hIb:Ib I m []=I:=funext fun b=>propext ⟨fun h=>h.elim id fun ⟨i,hi,_⟩=>(by cases hi),.inl⟩
   rw [hIb] at hH
   refine ⟨vs,os,ev,kz_ m ρ nx,⟨h.size,h.defers,WL_ hl3,⟨by rw [Zd_];exact hH,h.hs.fr0,h.hs.Isub,h.hs.Inew,fun i o b e hm hb=>?_,fun i o b e hm hb=>?_⟩,h.same,fun i hi=>?_,fun i hi=>by rw [d3];exact hi⟩,hl3⟩
   ·rw [Zd_] at e
    unfold ofL at e
    obtain ⟨hi,e⟩:=List.getElem?_eq_some_iff.1 e
    obtain ⟨o',g1,g2⟩:=d4 i hi (by omega)
    simp only [kz_,ZP_ (show i < ρ.length by omega)] at hb
    exact h.hs.own _ o' b g1 (by rw [<- g2.same.1,e];exact hm) hb
   ·rw [Zd_] at e
    unfold ofL at e
    obtain ⟨hi,e⟩:=List.getElem?_eq_some_iff.1 e
    obtain ⟨o',g1,g2⟩:=d4 i hi (by omega)
    simp only [kz_,ZP_ (show i < ρ.length by omega)] at hb
    exact h.hs.ownL _ o' b g1 (by rw [<- g2.same.2,e];exact hm) hb
   ·obtain ⟨h1,h2⟩:=hk0 i hi
    refine ⟨h1,?_⟩
    have:=(h.kept i hi).2
    unfold M.same at this ⊢
    simp only [kz_,ZP_ h1,h2];exact this
def uI_:Exit->Option Ex
 | .normal=>some .normal
 | .exit i=>some (.exit i)
 | .ret=>some .ret
 | _=>none
def QQ (n k0:Nat) (X0:Bool->Nat->Prop) (I0:Nat->Prop) (w0:World) (m0:M) (K:QN_):Exit->Act->World->Prop:=fun e a w=>
 ∃ x,uI_ e=some x/\∃ fr st nx I m,K x fr st nx/\Sta n k0 X0 I0 w0 m0 fr st nx I w m a
end
end Go.Eng
