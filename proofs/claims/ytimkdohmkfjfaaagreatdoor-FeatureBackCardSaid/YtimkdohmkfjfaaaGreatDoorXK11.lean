/- Parts of the proof: EArg, TY, R1. No condition. -/
import Derived.Test.YtimkdohmkfjfaaaGreatDoorXK10
import Derived.WalkKit
import Derived.ProofKit
import Derived.OpenShut
import Derived.ShutString
import Derived.ChangeOld
import Derived.Carry
import Derived.Test.YtimkdohmkfjfaaaGreatDoorProg
import Derived.KernelRfl
namespace Go.Eng
set_option linter.unusedVariables false
set_option linter.unusedSimpArgs false
def QU_ {β:Type _} (t' t:Ty) (x:List t'.den) (F:List t.den->Option β):Option β:=match decEq t' t with | isTrue h=>F (h ▸ x) | isFalse _=>none
theorem ZX_ {β:Type _} {t' t:Ty} {x:List t'.den} {F:List t.den->Option β} {y:β} (h:QU_ t' t x F=some y):t'=t:=by
 unfold QU_ at h
 split at h
 ·assumption
 ·cases h
theorem hU_ {β:Type _} {t:Ty} {x:List t.den} {F:List t.den->Option β}:QU_ t t x F=F x:=by
 unfold QU_
 split
 ·rfl
 ·rename_i h _;exact absurd rfl h
theorem ZY_ {β:Type _} {t:Ty} {x:List t.den} {F:List t.den->Option β} {y:β} (h:QU_ t t x F=some y):F x=some y:=by rw [hU_] at h;exact h
def Ty.exact:(t:Ty)->List AV->Option (t.den × List AV)
 | .int k,.int k' n :: r=>match decEq k k' with | isTrue _=>some (n,r) | isFalse _=>none
 | .bool,.bool b :: r=>some (b,r)
 | .str,.str s :: r=>some (s,r)
 | .nil,r=>some ((),r)
 | .cons a b,l=>match a.exact l with
   | some (x,r)=>match b.exact r with
     | some (y,r)=>some ((x,y),r)
     | none=>none
   | none=>none
 | .sl t,.imm t' x :: r=>match decEq t' t with | isTrue h=>some (h ▸ x,r) | isFalse _=>none
 | _,_=>none
def RoF (f:List AV->List Obj->Option (Prop × AV)):SumK:=.ro fun args objs K=>match f args objs with
 | some (p,v)=>need p (K v)
 | none=>False
def RwF (f:List AV->List Obj->Option (Prop × AV × List Obj)):SumK:=.rw fun args objs K=>match f args objs with
 | some (p,v,o)=>need p (K v o)
 | none=>False
theorem zbX_:IntKind.i64.min=-9223372036854775808:=rfl
theorem zbY_:IntKind.i64.max=9223372036854775807:=rfl
theorem Y8_:IntKind.u64.min=0:=rfl
theorem UC_:IntKind.u64.max=18446744073709551615:=rfl
theorem zK_:(∀ a b:Bool,((!a)=b)=(a=!b))/\((!true)=false)/\((!false)=true)/\(∀ a b:Bool,((a && b)=true)=(a=true/\b=true))/\(∀ a b:Bool,((a && b)=false)=(a=false\/b=false))/\(∀ (p:Prop) [Decidable p],(decide p=true)=p)/\∀ (p:Prop) [Decidable p],(decide p=false)=¬ p:=
 ⟨fun _ _=>propext Bool.not_eq_eq_eq_not,rfl,rfl,fun _ _=>Bool.and_eq_true _ _,fun _ _=>propext Bool.and_eq_false_iff,fun _ _=>decide_eq_true_eq,fun _ _=>propext decide_eq_false_iff_not⟩
theorem zI_:(∀ n:Nat,((n:Int)).toNat=n)/\∀ k:IntKind,(Ty.int k).dflt=(0:Int):=⟨Int.toNat_natCast,fun _=>rfl⟩
theorem zh_:((∀ a b:Bool,((!a)=b)=(a=!b))/\((!true)=false)/\((!false)=true)/\(∀ a b:Bool,((a && b)=true)=(a=true/\b=true))/\(∀ a b:Bool,((a && b)=false)=(a=false\/b=false))/\(∀ (p:Prop) [Decidable p],(decide p=true)=p)/\∀ (p:Prop) [Decidable p],(decide p=false)=¬ p)/\(∀ n:Nat,((n:Int)).toNat=n)/\∀ k:IntKind,(Ty.int k).dflt=(0:Int):=⟨zK_,zI_⟩
theorem zn_:IntKind.i64.min=-9223372036854775808/\IntKind.i64.max=9223372036854775807/\IntKind.u64.min=0/\IntKind.u64.max=18446744073709551615/\IntKind.u32.min=0/\IntKind.u32.max=4294967295/\IntKind.u16.min=0/\IntKind.u16.max=65535/\IntKind.u8.min=0/\IntKind.u8.max=255:=⟨rfl,rfl,rfl,rfl,rfl,rfl,rfl,rfl,rfl,rfl⟩
theorem Qx_ {t:Ty} (h:t=t) (x:List t.den):(h ▸ x:List t.den)=x:=rfl
section
variable {P:Program} {Γ:Env} {id:FuncId} {fn:Func} {ir:IR} {rd:List RD}
theorem Bs_ (f:List AV->List Obj->Option (Prop × AV)):Det (RoF f).sum:=fun {args objs K} h=>by
 simp only [RoF,SumK.sum] at h ⊢
 split at h
 ·rename_i p v e
  obtain ⟨hp,hk⟩:=zj_ h
  exact ⟨v,objs,hk,kV_ hp fun _=>⟨rfl,rfl⟩⟩
 ·exact h.elim
theorem yc_ (f:List AV->List Obj->Option (Prop × AV × List Obj)):Det (RwF f).sum:=fun {args objs K} h=>by
 simp only [RwF,SumK.sum] at h ⊢
 split at h
 ·rename_i p v o e
  obtain ⟨hp,hk⟩:=zj_ h
  exact ⟨v,o,hk,kV_ hp fun _=>⟨rfl,rfl⟩⟩
 ·exact h.elim
structure NdR where
 p:Prop
 α:Type
 R:α->Prop
 V:α->AV
 O:α->List Obj
def NdF (f:List AV->List Obj->Option NdR):SumK:=.nd fun args objs K=>match f args objs with
 | some r=>need r.p (∀ x:r.α,r.R x->K (r.V x) (r.O x))
 | none=>False
theorem y8_ {f:List AV->List Obj->Option NdR} (hf:P.funcs[id]?=some fn) (hok:zo_ P fn ir rd=true) (hΓ:qi_ P Γ)
 (h:∀ args objs r,f args objs=some r->args.length=fn.params.size+fn.nfree/\((∀ v ∈ args,v.wf1)->(∀ o ∈ objs,o.wf)->r.p->UV_ Γ ir rd args objs fun v' o'=>∃ x,r.R x/\v'=r.V x/\o'=r.O x)):Ji_ P id (NdF f):=by
 have hc:Jm_ P id:=by
  unfold zo_ at hok
  split at hok
  ·rename_i c hb
   simp only [Bool.and_eq_true,decide_eq_true_eq,Bool.not_eq_true'] at hok
   exact ⟨fn,hf,hok.2,by rw [hb];rfl⟩
  ·cases hok
 refine ⟨hc,fun {I w m args cargs objs K} hH hA hu hS=>?_⟩
 simp only [] at hS
 split at hS
 ·rename_i r e
  obtain ⟨hp,hk⟩:=zj_ hS
  obtain ⟨hl,hev⟩:=h args objs r e
  have:=zaF_ (S:=fun a b K=>a=args/\b=objs/\((fun v' o'=>∃ x,r.R x/\v'=r.V x/\o'=r.O x)=K)) hf hok hΓ (fun a b K hk=>by rw [hk.1];exact hl) (fun a b K hw ho hk=>by
   obtain ⟨rfl,rfl,rfl⟩:=hk
   exact hev hw ho hp)
  refine (this.2 hH hA hu ⟨rfl,rfl,rfl⟩).mono ?_
  rintro e w' ⟨v',cv,objs',I',m',h1,⟨x,hx,rfl,rfl⟩,h3⟩
  exact ⟨_,cv,_,I',m',h1,hk x hx,h3⟩
 ·exact hS.elim
theorem yn_ (hf:P.funcs[id]?=some fn) (hok:zo_ P fn ir rd=true) (hΓ:qi_ P Γ) {args:List AV} {objs:List Obj} {v:AV} {o:List Obj} (hl:args.length=fn.params.size+fn.nfree)
 (h:(∀ v ∈ args,v.wf1)->(∀ o ∈ objs,o.wf)->UV_ Γ ir rd args objs fun v' o'=>v'=v/\o'=o):ze_ P id fun a b K=>a=args/\b=objs/\((fun v' o'=>v'=v/\o'=o)=K):=by
 refine zaE_ hf hok hΓ (fun {a b K} hk=>?_) (fun a b K hk=>by rw [hk.1];exact hl) (fun a b K hw ho hk=>?_)
 ·obtain ⟨rfl,rfl,rfl⟩:=hk
  exact ⟨v,o,⟨rfl,rfl⟩,rfl,rfl,rfl⟩
 ·obtain ⟨rfl,rfl,rfl⟩:=hk
  exact h hw ho
theorem zz_ {f:List AV->List Obj->Option (Prop × AV)} (hf:P.funcs[id]?=some fn) (hok:zo_ P fn ir rd=true) (hΓ:qi_ P Γ)
 (h:∀ args objs p v,f args objs=some (p,v)->args.length=fn.params.size+fn.nfree/\((∀ v ∈ args,v.wf1)->(∀ o ∈ objs,o.wf)->p->UV_ Γ ir rd args objs fun v' o'=>v'=v/\o'=objs)):ze_ P id (RoF f).sum:=by
 have hc:Jm_ P id:=by
  unfold zo_ at hok
  split at hok
  ·rename_i c hb
   simp only [Bool.and_eq_true,decide_eq_true_eq,Bool.not_eq_true'] at hok
   exact ⟨fn,hf,hok.2,by rw [hb];rfl⟩
  ·cases hok
 refine ⟨hc,Bs_ f,fun {I w m args cargs objs K} hH hA hu hS=>?_⟩
 simp only [RoF,SumK.sum] at hS
 split at hS
 ·rename_i p v e
  obtain ⟨hp,hk⟩:=zj_ hS
  obtain ⟨hl,hev⟩:=h args objs p v e
  have:=yn_ hf hok hΓ (v:=v) (o:=objs) hl fun hw ho=>hev hw ho hp
  refine (this.2.2 hH hA hu ⟨rfl,rfl,rfl⟩).mono ?_
  rintro e w' ⟨v',cv,objs',I',m',h1,⟨rfl,rfl⟩,h3⟩
  exact ⟨v',cv,objs',I',m',h1,hk,h3⟩
 ·exact hS.elim
theorem qh_ {f:List AV->List Obj->Option (Prop × AV × List Obj)} (hf:P.funcs[id]?=some fn) (hok:zo_ P fn ir rd=true) (hΓ:qi_ P Γ)
 (h:∀ args objs p v o,f args objs=some (p,v,o)->args.length=fn.params.size+fn.nfree/\((∀ v ∈ args,v.wf1)->(∀ o ∈ objs,o.wf)->p->UV_ Γ ir rd args objs fun v' o'=>v'=v/\o'=o)):ze_ P id (RwF f).sum:=by
 have hc:Jm_ P id:=by
  unfold zo_ at hok
  split at hok
  ·rename_i c hb
   simp only [Bool.and_eq_true,decide_eq_true_eq,Bool.not_eq_true'] at hok
   exact ⟨fn,hf,hok.2,by rw [hb];rfl⟩
  ·cases hok
 refine ⟨hc,yc_ f,fun {I w m args cargs objs K} hH hA hu hS=>?_⟩
 simp only [RwF,SumK.sum] at hS
 split at hS
 ·rename_i p v o e
  obtain ⟨hp,hk⟩:=zj_ hS
  obtain ⟨hl,hev⟩:=h args objs p v o e
  have:=yn_ hf hok hΓ (v:=v) (o:=o) hl fun hw ho=>hev hw ho hp
  refine (this.2.2 hH hA hu ⟨rfl,rfl,rfl⟩).mono ?_
  rintro e w' ⟨v',cv,objs',I',m',h1,⟨rfl,rfl⟩,h3⟩
  exact ⟨v',cv,objs',I',m',h1,hk,h3⟩
 ·exact hS.elim
def upW (f:List AV->List Obj->Option (Prop × AV × List Obj)) (μ:List AV->Nat) (N:Nat):List AV->List Obj->Option (Prop × AV × List Obj):=fun args objs=>match f args objs with
 | some (p,v,o)=>some (p/\μ args < N,v,o)
 | none=>none
theorem zbt_ (E:Nat->SumK) {f:List AV->List Obj->Option (Prop × AV × List Obj)} (μ:List AV->Nat) (hE:∀ M,ze_ P id (RwF (upW f μ M)).sum->Ji_ P id (E M)) (hf:P.funcs[id]?=some fn) (hok:zo_ P fn ir rd=true) (hΓ:qi_ P Γ)
 (h:∀ args objs p v o,f args objs=some (p,v,o)->args.length=fn.params.size+fn.nfree/\((∀ v ∈ args,v.wf1)->(∀ o ∈ objs,o.wf)->p->UV_ ((id,E (μ args)) :: Γ) ir rd args objs fun v' o'=>v'=v/\o'=o)):ze_ P id (RwF f).sum:=by
 have key:∀ N,∀ M ≤ N,ze_ P id (RwF (upW f μ M)).sum:=fun N=>by
  induction N with
  | zero=>
    intro M hM
    refine qh_ hf hok hΓ fun args objs p v o e=>?_
    unfold upW at e
    split at e
    ·rename_i p' v' o' e'
     cases e
     exact ⟨(h args objs _ _ _ e').1,fun _ _ hp=>absurd hp.2 (by omega)⟩
    ·cases e
  | succ N ih=>
    intro M hM
    rcases Nat.lt_or_ge N M with hlt | hge
    ·have hM':M=N+1:=by omega
     subst hM'
     have one:∀ args objs p v o,f args objs=some (p,v,o)->μ args < N+1->args.length=fn.params.size+fn.nfree/\((∀ v ∈ args,v.wf1)->(∀ o ∈ objs,o.wf)->p->ze_ P id fun a b K=>a=args/\b=objs/\((fun v' o'=>v'=v/\o'=o)=K)):=fun args objs p v o e hm=>by
      obtain ⟨hl,hev⟩:=h args objs p v o e
      refine ⟨hl,fun hw ho hp=>?_⟩
      exact yn_ hf hok (Γ:=(id,E (μ args)) :: Γ) (zb_ (hE _ (ih (μ args) (by omega))) hΓ) hl fun _ _=>hev hw ho hp
     have hc:=(ih 0 (Nat.zero_le _)).1
     refine ⟨hc,yc_ _,fun {I w m args cargs objs K} hH hA hu hS=>?_⟩
     simp only [RwF,SumK.sum,upW] at hS
     split at hS
     ·rename_i p v o e
      split at e
      ·rename_i p' v' o' e'
       cases e
       obtain ⟨hp,hk⟩:=zj_ hS
       obtain ⟨hl,hs⟩:=one args objs _ _ _ e' hp.2
       have hw:∀ v ∈ args,v.wf1:=vf_ hA
       have ho:∀ o ∈ objs,o.wf:=fun o ho=>by
        obtain ⟨i,hi,rfl⟩:=List.mem_iff_getElem.1 ho
        exact GW_ (hH.obj i _ (List.getElem?_eq_getElem hi))
       refine ((hs hw ho hp.1).2.2 hH hA hu ⟨rfl,rfl,rfl⟩).mono ?_
       rintro e w' ⟨v',cv,objs',I',m',h1,⟨rfl,rfl⟩,h3⟩
       exact ⟨v',cv,objs',I',m',h1,hk,h3⟩
      ·cases e
     ·exact hS.elim
    ·exact ih M hge
 refine ⟨(key 0 0 (Nat.le_refl _)).1,yc_ f,fun {I w m args cargs objs K} hH hA hu hS=>?_⟩
 simp only [RwF,SumK.sum] at hS
 split at hS
 ·rename_i p v o e
  obtain ⟨hp,hk⟩:=zj_ hS
  refine (key _ (μ args+1) (Nat.le_refl _)).2.2 hH hA hu ?_
  simp only [RwF,SumK.sum,upW,e]
  exact kV_ ⟨hp,Nat.lt_succ_self _⟩ fun _=>hk
 ·exact hS.elim
theorem zc5_ {f:List AV->List Obj->Option (Prop × AV × List Obj)} (μ:List AV->Nat) (hf:P.funcs[id]?=some fn) (hok:zo_ P fn ir rd=true) (hΓ:qi_ P Γ)
 (h:∀ args objs p v o,f args objs=some (p,v,o)->args.length=fn.params.size+fn.nfree/\((∀ v ∈ args,v.wf1)->(∀ o ∈ objs,o.wf)->p->UV_ ((id,RwF (upW f μ (μ args))) :: Γ) ir rd args objs fun v' o'=>v'=v/\o'=o)):ze_ P id (RwF f).sum:=
 zbt_ (fun M=>RwF (upW f μ M)) μ (fun _ h=>h) hf hok hΓ h
inductive Res where
 | one (v:AV) (o:List Obj)
 | br (b:Bool) (x y:Res)
def Res.pick:Res->AV × List Obj
 | .one v o=>(v,o)
 | .br b x y=>if b=true then x.pick else y.pick
def Res.run:Res->(AV->List Obj->Prop)->Prop
 | .one v o,K=>K v o
 | .br b x y,K=>cnd b (x.run K) (y.run K)
theorem Res.run_pick:∀ (r:Res) (K:AV->List Obj->Prop),r.run K ↔ K r.pick.1 r.pick.2
 | .one _ _,_=>Iff.rfl
 | .br b x y,K=>by
   unfold Res.run Res.pick
   cases b with
   | true=>rw [if_pos rfl,<- Res.run_pick x K];exact ⟨fun h=>h true rfl,fun h t e=>by subst e;exact h⟩
   | false=>rw [if_neg (by simp),<- Res.run_pick y K];exact ⟨fun h=>h false rfl,fun h t e=>by subst e;exact h⟩
def RcF (f:List AV->List Obj->Option (Prop × Res)):SumK:=.rw fun args objs K=>match f args objs with
 | some (p,r)=>need p (r.run K)
 | none=>False
def pkF (f:List AV->List Obj->Option (Prop × Res)):List AV->List Obj->Option (Prop × AV × List Obj):=fun args objs=>match f args objs with
 | some (p,r)=>some (p,r.pick.1,r.pick.2)
 | none=>none
theorem Bw_ {f:List AV->List Obj->Option (Prop × Res)}:(RcF f).sum=(RwF (pkF f)).sum:=funext fun args=>funext fun objs=>funext fun K=>propext (by
 simp only [RcF,RwF,SumK.sum,pkF]
 cases f args objs with
 | none=>exact Iff.rfl
 | some x=>exact ⟨fun h=>kV_ (zj_ h).1 fun _=>(Res.run_pick _ _).1 (zj_ h).2,fun h=>kV_ (zj_ h).1 fun _=>(Res.run_pick _ _).2 (zj_ h).2⟩)
theorem zbJ_ {f:List AV->List Obj->Option (Prop × Res)} {args:List AV} {objs:List Obj} {p:Prop} {v:AV} {o:List Obj} (h:pkF f args objs=some (p,v,o)):∃ r,f args objs=some (p,r)/\v=r.pick.1/\o=r.pick.2:=by
 unfold pkF at h
 split at h
 ·rename_i p r e;cases h;exact ⟨r,e,rfl,rfl⟩
 ·cases h
theorem gE_ {f:List AV->List Obj->Option (Prop × Res)} (hf:P.funcs[id]?=some fn) (hok:zo_ P fn ir rd=true) (hΓ:qi_ P Γ)
 (h:∀ args objs p r,f args objs=some (p,r)->args.length=fn.params.size+fn.nfree/\((∀ v ∈ args,v.wf1)->(∀ o ∈ objs,o.wf)->p->UV_ Γ ir rd args objs fun v' o'=>v'=r.pick.1/\o'=r.pick.2)):ze_ P id (RcF f).sum:=by
 rw [Bw_]
 refine qh_ hf hok hΓ fun args objs p v o e=>?_
 obtain ⟨r,e2,rfl,rfl⟩:=zbJ_ e
 exact h args objs p r e2
theorem GQ_ {I:Nat->Prop} {w:World} {m:M} {k:Nat} (hu:m.used k) (h1:m.blk k=none) (h2:m.cap k=0) (h3:m.len k=0):∀ (pre:List AV) {post:List AV} {r:List Value},z0_ I w m (pre++.nils :: post) r->z0_ I w m (pre++.own k :: post) r
 | [],post,v :: r,h=>⟨⟨none,0,0,h.1,hu,h3.symm,h2.symm,Nat.le_refl _,Nat.zero_le _,.inl ⟨h1,rfl,rfl⟩⟩,h.2⟩
 | a :: pre,post,v :: r,h=>⟨h.1,GQ_ hu h1 h2 h3 pre h.2⟩
 | [],_,[],h=>h.elim
 | _ :: _,_,[],h=>h.elim
theorem gH_ {t:Ty} {f g:List AV->List Obj->Option (Prop × AV × List Obj)} (hs:ze_ P id (RwF f).sum)
 (h:∀ args objs p v o,g args objs=some (p,v,o)->∃ i pre post l,f args objs=some (p,v,l)/\l[i]?=some (.box (pre++.nils :: post))/\o=l.set i (.box (pre++.own l.length :: post))++[.row false t []]):ze_ P id (RwF g).sum:=by
 refine ⟨hs.1,yc_ g,fun {I w m args cargs objs K} hH hA hu hS=>?_⟩
 simp only [RwF,SumK.sum] at hS
 split at hS
 ·rename_i p v o e0
  obtain ⟨hp,hk⟩:=zj_ hS
  obtain ⟨i,pre,post,l,hf,hi,ho⟩:=h args objs p v o e0
  clear e0
  subst ho
  have hS':(RwF f).sum args objs fun v' o'=>v'=v/\o'=l:=by
   unfold RwF SumK.sum;simp only;rw [hf];exact kV_ hp fun _=>⟨rfl,rfl⟩
  refine (hs.2.2 hH hA hu hS').mono ?_
  rintro e w' ⟨v',cv,objs',I',m',rfl,⟨rfl,rfl⟩,hL⟩
  have hnu:¬ m'.used objs'.length:=fun h=>absurd (hL.used _ h) (Nat.lt_irrefl _)
  have hle:m'.le (m'.push objs'.length none 0 0 t.size):=M.push_le hnu
  have hilt:i < objs'.length:=(List.getElem?_eq_some_iff.1 hi).1
  have hget:∀ j,ofL (objs'.set i (.box (pre++.own objs'.length :: post))++[.row false t []]) j=if j=objs'.length then some (.row false t []) else if j=i then some (.box (pre++.own objs'.length :: post)) else ofL objs' j:=fun j=>by
   unfold ofL
   by_cases h1:j=objs'.length
   ·subst h1;rw [if_pos rfl,List.getElem?_append_right (by simp)];simp
   ·rw [if_neg h1]
    by_cases h2:j=i
    ·subst h2;rw [if_pos rfl,List.getElem?_append_left (by simpa using hilt),List.getElem?_set_self (by simpa using hilt)]
    ·rw [if_neg h2]
     by_cases h3:j < objs'.length
     ·rw [List.getElem?_append_left (by simpa using h3),List.getElem?_set_ne (fun e=>h2 e.symm)]
     ·rw [List.getElem?_eq_none (by simp;omega),List.getElem?_eq_none (by omega)]
  have hsame:∀ j,j ≠ objs'.length->(m'.push objs'.length none 0 0 t.size).blk j=m'.blk j:=fun j hj=>if_neg hj
  have hold:∀ j o,j ≠ objs'.length->ofL (objs'.set i (.box (pre++.own objs'.length :: post))++[.row false t []]) j=some o->∃ o',ofL objs' j=some o'/\o'.live=o.live/\o'.mut=o.mut/\(∀ t x,o=.row true t x->o'=o):=fun j o hj e=>by
   rw [hget,if_neg hj] at e
   split at e
   ·rename_i h2;subst h2;cases e;exact ⟨_,hi,rfl,rfl,fun _ _ h=>by cases h⟩
   ·exact ⟨o,e,rfl,rfl,fun _ _ _=>rfl⟩
  have hregO:∀ j wr kn,ofL (objs'.set i (.box (pre++.own objs'.length :: post))++[.row false t []]) j=some (.reg wr kn)->ofL objs' j=some (.reg wr kn):=fun j wr kn e=>by
   have hj:j ≠ objs'.length:=fun h=>by subst h;rw [hget,if_pos rfl] at e;cases e
   rw [hget,if_neg hj] at e
   split at e
   ·cases e
   ·exact e
  have hrdj:∀ i1 j1 a k a' k' b,ofL (objs'.set i (.box (pre++.own objs'.length :: post))++[.row false t []]) i1=some (.reg a k)->ofL (objs'.set i (.box (pre++.own objs'.length :: post))++[.row false t []]) j1=some (.reg a' k')->(m'.rg i1).dp b->(m'.rg j1).dp b->i1=j1:=fun i1 j1 a k a' k' b e e'=>hL.H.rdj i1 j1 a k a' k' b (hregO _ _ _ e) (hregO _ _ _ e')
  have hgar:∀ j wr kn b,ofL (objs'.set i (.box (pre++.own objs'.length :: post))++[.row false t []]) j=some (.reg wr kn)->(m'.rg j).dp b->b < w'.heap.size/\¬ I' b/\(∀ k o',ofL (objs'.set i (.box (pre++.own objs'.length :: post))++[.row false t []]) k=some o'->o'.live=true->(m'.push objs'.length none 0 0 t.size).blk k ≠ some b)/\gd_ (m'.rg j).wc w' wr kn b:=fun j wr kn b e hd=>by
   have hj:j ≠ objs'.length:=fun h=>by subst h;rw [hget,if_pos rfl] at e;cases e
   have hji:ofL objs' j=some (.reg wr kn):=by
    rw [hget,if_neg hj] at e
    split at e
    ·cases e
    ·exact e
   obtain ⟨g1,g2,g3,g4⟩:=hL.H.gar j wr kn b hji hd
   refine ⟨g1,g2,fun k o' hk hl hb=>?_,g4⟩
   by_cases h1:k=objs'.length
   ·subst h1;rw [M.push_blk] at hb;cases hb
   ·rw [hsame _ h1] at hb
    obtain ⟨p1,k1,k2,_⟩:=hold k o' h1 hk
    exact g3 k p1 k1 (by rw [k2];exact hl) hb
  refine ⟨v',cv,_,I',m'.push objs'.length none 0 0 t.size,rfl,hk,⟨U8_ (fun _ h=>h) (fun _ _=>rfl) hle _ _ hL.rv,⟨fun j hj=>?_,fun j o e=>?_,fun j j' o o' b e e' hl hl' hb hb'=>?_,fun j o b e hm hb=>?_,fun j t' x b e hb=>?_,hL.H.Ilt,hgar,hrdj⟩,hL.E.trans ⟨fun _ h=>h,fun _ _=>rfl,hle⟩,fun j hj=>?_,?_,hL.fr,hL.new,fun j o b e hl hb=>?_,hL.fz⟩⟩
  ·by_cases h1:j=objs'.length
   ·exact .inr h1
   ·rw [hget,if_neg h1] at hj
    refine .inl (hL.H.lt j ?_)
    by_cases h2:j=i
    ·subst h2;intro h;have hi':ofL objs' j=_:=hi;rw [hi'] at h;cases h
    ·rwa [if_neg h2] at hj
  ·by_cases h1:j=objs'.length
   ·subst h1
    rw [hget,if_pos rfl] at e;cases e
    exact ⟨M.push_sz _ _ _ _ _ _,(M.push_len _ _ _ _ _ _).symm,Nat.zero_le _,by rw [M.push_cap];exact Nat.zero_le _,.inl ⟨M.push_blk _ _ _ _ _ _,M.push_cap _ _ _ _ _ _⟩⟩
   ·rw [hget,if_neg h1] at e
    by_cases h2:j=i
    ·subst h2
     rw [if_pos rfl] at e;cases e
     have hu':m'.used j:=hL.H.lt j (by have hi':ofL objs' j=_:=hi;rw [hi'];intro h;cases h)
     have:=(hL.H.obj j _ hi).mono (fun _ h=>h) (fun _ _=>rfl) hle hu' (fun _ _ _=>rfl)
     obtain ⟨b,cs,T,fz,q1,q2,q3,q4⟩:=this
     exact ⟨b,cs,T,fz,q1,q2,q3,GQ_ (by exact Or.inr rfl) (M.push_blk _ _ _ _ _ _) (M.push_cap _ _ _ _ _ _) (M.push_len _ _ _ _ _ _) pre q4⟩
    ·rw [if_neg h2] at e
     have hu':m'.used j:=hL.H.lt j (by rw [e];intro h;cases h)
     exact (hL.H.obj j _ e).mono (fun _ h=>h) (fun _ _=>rfl) hle hu' (fun _ _ _=>rfl)
  ·by_cases h1:j=objs'.length
   ·subst h1;rw [M.push_blk] at hb;cases hb
   ·by_cases h2:j'=objs'.length
    ·subst h2;rw [M.push_blk] at hb';cases hb'
    ·rw [hsame _ h1] at hb;rw [hsame _ h2] at hb'
     obtain ⟨p1,k1,k2,_⟩:=hold j o h1 e
     obtain ⟨p2,k4,k5,_⟩:=hold j' o' h2 e'
     exact hL.H.inj j j' p1 p2 b k1 k4 (by rw [k2];exact hl) (by rw [k5];exact hl') hb hb'
  ·by_cases h1:j=objs'.length
   ·subst h1;rw [M.push_blk] at hb;cases hb
   ·rw [hsame _ h1] at hb
    obtain ⟨p1,k1,_,k3,_⟩:=hold j o h1 e
    exact hL.H.notI j p1 b k1 (by rw [k3];exact hm) hb
  ·by_cases h1:j=objs'.length
   ·subst h1;rw [M.push_blk] at hb;cases hb
   ·rw [hsame _ h1] at hb
    obtain ⟨p1,k1,_,_,k4⟩:=hold j _ h1 e
    rw [k4 _ _ rfl] at k1
    exact hL.H.isI j t' x b k1 hb
  ·rcases hj with hj | hj
   ·have:=hL.used j hj;simp;omega
   ·subst hj;simp
  ·have:=hL.len;simp;omega
  ·by_cases h1:j=objs'.length
   ·subst h1;rw [M.push_blk] at hb;cases hb
   ·rw [hsame _ h1] at hb
    have e':ofL (objs'.set i (.box (pre++.own objs'.length :: post))++[.row false t []]) j=some o:=e
    obtain ⟨p1,k1,k2,k3,_⟩:=hold j o h1 e'
    rcases hL.own j p1 b k1 (by rw [k2];exact hl) hb with h | ⟨q,o',r1,r2,r3,r4⟩
    ·exact .inl h
    ·exact .inr ⟨q,o',r1,r2,fun hm=>r3 (by rw [k3];exact hm),r4⟩
 ·exact hS.elim
theorem uV_ {I:Nat->Prop} {w:World} {m m':M} {j k:Nat} (hle:m.le m') (hk:∀ ao len cap,RO m j ao len cap->RO m' k ao len cap):∀ (pre:List AV) {post:List AV} {r:List Value},z0_ I w m (pre++.own j :: post) r->z0_ I w m' (pre++.own k :: post) r
 | [],post,v :: r,h=>by
   obtain ⟨ao,len,cap,e,hO⟩:=h.1
   exact ⟨⟨ao,len,cap,e,hk _ _ _ hO⟩,ZS_ (fun _ h=>h) (fun _ _=>rfl) hle _ _ h.2⟩
 | a :: pre,post,v :: r,h=>⟨kp_ (fun _ h=>h) (fun _ _=>rfl) hle _ _ h.1,uV_ hle hk pre h.2⟩
 | [],_,[],h=>h.elim
 | _ :: _,_,[],h=>h.elim
def KG_ (l:List Obj) (i j:Nat) (pre post:List AV) (t:Ty) (x:List t.den):List Obj:=((l.set i (.box (pre++.own l.length :: post))).set j .dead)++[.row false t x]
theorem zbu_ {f g:List AV->List Obj->Option (Prop × AV × List Obj)} (hs:ze_ P id (RwF f).sum)
 (h:∀ args objs p v o,g args objs=some (p,v,o)->∃ l,f args objs=some (p,v,l)/\(o=l\/∃ i j pre post t x,l[i]?=some (.box (pre++.own j :: post))/\l[j]?=some (.row false t x)/\o=KG_ l i j pre post t x)):ze_ P id (RwF g).sum:=by
 refine ⟨hs.1,yc_ g,fun {I w m args cargs objs K} hH hA hu hS=>?_⟩
 simp only [RwF,SumK.sum] at hS
 split at hS
 ·rename_i p v o e0
  obtain ⟨hp,hk⟩:=zj_ hS
  obtain ⟨l,hf,hor⟩:=h args objs p v o e0
  clear e0
  have hS':(RwF f).sum args objs fun v' o'=>v'=v/\o'=l:=by
   unfold RwF SumK.sum;simp only;rw [hf];exact kV_ hp fun _=>⟨rfl,rfl⟩
  refine (hs.2.2 hH hA hu hS').mono ?_
  rintro e w' ⟨v',cv,objs',I',m',rfl,⟨rfl,rfl⟩,hL⟩
  rcases hor with rfl | ⟨i,j,pre,post,t,x,hi,hj,rfl⟩
  ·exact ⟨v',cv,_,I',m',rfl,hk,hL⟩
  have hnu:¬ m'.used objs'.length:=fun h=>absurd (hL.used _ h) (Nat.lt_irrefl _)
  have hle:m'.le (m'.push objs'.length (m'.blk j) (m'.cap j) (m'.len j) (m'.sz j)):=M.push_le hnu
  have hilt:i < objs'.length:=(List.getElem?_eq_some_iff.1 hi).1
  have hjlt:j < objs'.length:=(List.getElem?_eq_some_iff.1 hj).1
  have hij:i ≠ j:=fun e=>by subst e;rw [hi] at hj;cases hj
  have hget:∀ q,ofL (KG_ objs' i j pre post t x) q=if q=objs'.length then some (.row false t x) else if q=j then some .dead else if q=i then some (.box (pre++.own objs'.length :: post)) else ofL objs' q:=fun q=>by
   unfold ofL KG_
   by_cases h1:q=objs'.length
   ·subst h1;rw [if_pos rfl,List.getElem?_append_right (by simp)];simp
   ·rw [if_neg h1]
    by_cases h2:q=j
    ·subst h2;rw [if_pos rfl,List.getElem?_append_left (by simpa using hjlt),List.getElem?_set_self (by simpa using hjlt)]
    ·rw [if_neg h2]
     by_cases h3:q=i
     ·subst h3;rw [if_pos rfl,List.getElem?_append_left (by simpa using hilt),List.getElem?_set_ne (fun e=>h2 e.symm),List.getElem?_set_self (by simpa using hilt)]
     ·rw [if_neg h3]
      by_cases h4:q < objs'.length
      ·rw [List.getElem?_append_left (by simpa using h4),List.getElem?_set_ne (fun e=>h2 e.symm),List.getElem?_set_ne (fun e=>h3 e.symm)]
      ·rw [List.getElem?_eq_none (by simp;omega),List.getElem?_eq_none (by omega)]
  have hblk:∀ q,q ≠ objs'.length->(m'.push objs'.length (m'.blk j) (m'.cap j) (m'.len j) (m'.sz j)).blk q=m'.blk q:=fun q hq=>if_neg hq
  have hold:∀ q o,q ≠ objs'.length->ofL (KG_ objs' i j pre post t x) q=some o->o.live=true->q ≠ j/\∃ o',ofL objs' q=some o'/\o'.live=o.live/\o'.mut=o.mut/\(∀ t x,o=.row true t x->o'=o):=fun q o hq e hl=>by
   rw [hget,if_neg hq] at e
   split at e
   ·cases e;cases hl
   ·rename_i h2
    split at e
    ·rename_i h3;subst h3;cases e;exact ⟨h2,_,hi,rfl,rfl,fun _ _ h=>by cases h⟩
    ·exact ⟨h2,o,e,rfl,rfl,fun _ _ _=>rfl⟩
  have hRO:∀ ao len cap,RO m' j ao len cap->RO (m'.push objs'.length (m'.blk j) (m'.cap j) (m'.len j) (m'.sz j)) objs'.length ao len cap:=fun ao len cap ⟨_,r2,r3,r4,r5,r6⟩=>
   ⟨by exact Or.inr rfl,by rw [M.push_len];exact r2,by rw [M.push_cap];exact r3,r4,r5,by rw [M.push_blk];exact r6⟩
  have ml:∀ {o:Obj},o.mut=true->o.live=true:=fun {o} h=>by cases o<;>first | rfl | cases h
  have hj':ofL objs' j=some (.row false t x):=hj
  have hregO:∀ q wr kn,ofL (KG_ objs' i j pre post t x) q=some (.reg wr kn)->ofL objs' q=some (.reg wr kn):=fun q wr kn e=>by
   have hq:q ≠ objs'.length:=fun h=>by subst h;rw [hget,if_pos rfl] at e;cases e
   rw [hget,if_neg hq] at e
   split at e
   ·cases e
   ·split at e
    ·cases e
    ·exact e
  have hrdj:∀ i1 j1 a k a' k' b,ofL (KG_ objs' i j pre post t x) i1=some (.reg a k)->ofL (KG_ objs' i j pre post t x) j1=some (.reg a' k')->(m'.rg i1).dp b->(m'.rg j1).dp b->i1=j1:=fun i1 j1 a k a' k' b e e'=>hL.H.rdj i1 j1 a k a' k' b (hregO _ _ _ e) (hregO _ _ _ e')
  have hgar:∀ q wr kn b,ofL (KG_ objs' i j pre post t x) q=some (.reg wr kn)->(m'.rg q).dp b->b < w'.heap.size/\¬ I' b/\(∀ k o',ofL (KG_ objs' i j pre post t x) k=some o'->o'.live=true->(m'.push objs'.length (m'.blk j) (m'.cap j) (m'.len j) (m'.sz j)).blk k ≠ some b)/\gd_ (m'.rg q).wc w' wr kn b:=fun q wr kn b e hd=>by
   have hq:q ≠ objs'.length:=fun h=>by subst h;rw [hget,if_pos rfl] at e;cases e
   have hqi:ofL objs' q=some (.reg wr kn):=by
    rw [hget,if_neg hq] at e
    split at e
    ·cases e
    ·split at e
     ·cases e
     ·exact e
   obtain ⟨g1,g2,g3,g4⟩:=hL.H.gar q wr kn b hqi hd
   refine ⟨g1,g2,fun k o' hk hl hb=>?_,g4⟩
   by_cases h1:k=objs'.length
   ·subst h1;rw [M.push_blk] at hb;exact g3 j _ hj' rfl hb
   ·rw [hblk _ h1] at hb
    obtain ⟨_,p1,k1,k2,_⟩:=hold k o' h1 hk hl
    exact g3 k p1 k1 (by rw [k2];exact hl) hb
  refine ⟨v',cv,_,I',m'.push objs'.length (m'.blk j) (m'.cap j) (m'.len j) (m'.sz j),rfl,hk,⟨U8_ (fun _ h=>h) (fun _ _=>rfl) hle _ _ hL.rv,⟨fun q hq=>?_,fun q o e=>?_,fun q q' o o' b e e' hl hl' hb hb'=>?_,fun q o b e hm hb=>?_,fun q t' x' b e hb=>?_,hL.H.Ilt,hgar,hrdj⟩,hL.E.trans ⟨fun _ h=>h,fun _ _=>rfl,hle⟩,fun q hq=>?_,?_,hL.fr,hL.new,fun q o b e hl hb=>?_,hL.fz⟩⟩
  ·by_cases h1:q=objs'.length
   ·exact .inr h1
   ·refine .inl ?_
    by_cases h2:q=j
    ·subst h2;exact hL.H.lt q (by rw [hj'];intro h;cases h)
    ·by_cases h3:q=i
     ·subst h3;exact hL.H.lt q (by have hi':ofL objs' q=_:=hi;rw [hi'];intro h;cases h)
     ·rw [hget,if_neg h1,if_neg h2,if_neg h3] at hq
      exact hL.H.lt q hq
  ·by_cases h1:q=objs'.length
   ·subst h1
    rw [hget,if_pos rfl] at e;cases e
    obtain ⟨q1,q2,q3,q4,q5⟩:=hL.H.obj j _ hj'
    exact ⟨by rw [M.push_sz];exact q1,by rw [M.push_len];exact q2,by rw [M.push_cap];exact q3,by rw [M.push_cap];exact q4,by rw [M.push_blk,M.push_cap];exact q5⟩
   ·rw [hget,if_neg h1] at e
    by_cases h2:q=j
    ·subst h2;rw [if_pos rfl] at e;cases e;trivial
    ·rw [if_neg h2] at e
     by_cases h3:q=i
     ·subst h3
      rw [if_pos rfl] at e;cases e
      obtain ⟨b,cs,T,fz,q1,q2,q3,q4⟩:=hL.H.obj q _ hi
      exact ⟨b,cs,T,fz,by rw [hblk _ h1];exact q1,q2,q3,uV_ hle hRO pre q4⟩
     ·rw [if_neg h3] at e
      have hu':m'.used q:=hL.H.lt q (by rw [e];intro h;cases h)
      exact (hL.H.obj q _ e).mono (fun _ h=>h) (fun _ _=>rfl) hle hu' (fun _ _ _=>rfl)
  ·by_cases h1:q=objs'.length
   ·subst h1
    rw [M.push_blk] at hb
    by_cases h2:q'=objs'.length
    ·exact h2.symm
    ·rw [hblk _ h2] at hb'
     obtain ⟨n1,p1,k1,k2,_⟩:=hold q' o' h2 e' hl'
     exact absurd (hL.H.inj j q' _ p1 b hj' k1 rfl (by rw [k2];exact hl') hb hb').symm n1
   ·rw [hblk _ h1] at hb
    obtain ⟨n1,p1,k1,k2,_⟩:=hold q o h1 e hl
    by_cases h2:q'=objs'.length
    ·subst h2
     rw [M.push_blk] at hb'
     exact absurd (hL.H.inj q j p1 _ b k1 hj' (by rw [k2];exact hl) rfl hb hb') n1
    ·rw [hblk _ h2] at hb'
     obtain ⟨_,p2,k4,k5,_⟩:=hold q' o' h2 e' hl'
     exact hL.H.inj q q' p1 p2 b k1 k4 (by rw [k2];exact hl) (by rw [k5];exact hl') hb hb'
  ·by_cases h1:q=objs'.length
   ·subst h1;rw [M.push_blk] at hb
    exact hL.H.notI j _ b hj' rfl hb
   ·rw [hblk _ h1] at hb
    obtain ⟨_,p1,k1,_,k3,_⟩:=hold q o h1 e (ml hm)
    exact hL.H.notI q p1 b k1 (by rw [k3];exact hm) hb
  ·by_cases h1:q=objs'.length
   ·subst h1;rw [hget,if_pos rfl] at e;cases e
   ·rw [hblk _ h1] at hb
    obtain ⟨_,p1,k1,_,_,k4⟩:=hold q _ h1 e rfl
    rw [k4 _ _ rfl] at k1
    exact hL.H.isI q t' x' b k1 hb
  ·have hlm:(KG_ objs' i j pre post t x).length=objs'.length+1:=by unfold KG_;simp
   rw [hlm]
   rcases hq with hq | hq
   ·have:=hL.used q hq;omega
   ·omega
  ·have:=hL.len
   have hlm:(KG_ objs' i j pre post t x).length=objs'.length+1:=by unfold KG_;simp
   omega
  ·by_cases h1:q=objs'.length
   ·subst h1;rw [M.push_blk] at hb
    have e':ofL (KG_ objs' i j pre post t x) objs'.length=some o:=e
    rw [hget,if_pos rfl] at e';cases e'
    rcases hL.own j _ b hj' rfl hb with h | ⟨s,o',r1,r2,r3,r4⟩
    ·exact .inl h
    ·exact .inr ⟨s,o',r1,r2,fun hm=>r3 rfl,r4⟩
   ·rw [hblk _ h1] at hb
    have e':ofL (KG_ objs' i j pre post t x) q=some o:=e
    obtain ⟨_,p1,k1,k2,k3,_⟩:=hold q o h1 e' hl
    rcases hL.own q p1 b k1 (by rw [k2];exact hl) hb with h | ⟨s,o',r1,r2,r3,r4⟩
    ·exact .inl h
    ·exact .inr ⟨s,o',r1,r2,fun hm=>r3 (by rw [k3];exact hm),r4⟩
 ·exact hS.elim
theorem zbv_ {f g:List AV->List Obj->Option (Prop × AV × List Obj)} (hs:ze_ P id (RwF f).sum)
 (h:∀ args objs p v o,g args objs=some (p,v,o)->∃ l j,f args objs=some (p,v,l)/\j < l.length/\o=l.set j .dead):ze_ P id (RwF g).sum:=by
 refine ⟨hs.1,yc_ g,fun {I w m args cargs objs K} hH hA hu hS=>?_⟩
 simp only [RwF,SumK.sum] at hS
 split at hS
 ·rename_i p v o e0
  obtain ⟨hp,hk⟩:=zj_ hS
  obtain ⟨l,j,hf,hjl,ho⟩:=h args objs p v o e0
  clear e0
  subst ho
  have hS':(RwF f).sum args objs fun v' o'=>v'=v/\o'=l:=by
   unfold RwF SumK.sum;simp only;rw [hf];exact kV_ hp fun _=>⟨rfl,rfl⟩
  refine (hs.2.2 hH hA hu hS').mono ?_
  rintro e w' ⟨v',cv,objs',I',m',rfl,⟨rfl,rfl⟩,hL⟩
  have hget:∀ q,ofL (objs'.set j .dead) q=if q=j then some .dead else ofL objs' q:=fun q=>by
   unfold ofL
   by_cases h1:q=j
   ·subst h1;rw [if_pos rfl,List.getElem?_set_self hjl]
   ·rw [if_neg h1,List.getElem?_set_ne (fun e=>h1 e.symm)]
  have hold:∀ q o,ofL (objs'.set j .dead) q=some o->o.live=true->ofL objs' q=some o:=fun q o e hl=>by
   rw [hget] at e
   split at e
   ·cases e;cases hl
   ·exact e
  have ml:∀ {o:Obj},o.mut=true->o.live=true:=fun {o} h=>by cases o<;>first | rfl | cases h
  have hregK:∀ q a k,ofL (objs'.set j .dead) q=some (.reg a k)->ofL objs' q=some (.reg a k):=fun q a k e=>by
   rw [hget] at e
   split at e
   ·cases e
   ·exact e
  refine ⟨v',cv,_,I',m',rfl,hk,⟨hL.rv,⟨fun q hq=>?_,fun q o e=>?_,fun q q' o o' b e e' hl hl' hb hb'=>hL.H.inj q q' o o' b (hold _ _ e hl) (hold _ _ e' hl') hl hl' hb hb',fun q o b e hm hb=>hL.H.notI q o b (hold _ _ e (ml hm)) hm hb,fun q t x b e hb=>hL.H.isI q t x b (hold _ _ e rfl) hb,hL.H.Ilt,fun q wr kn b e hd=>by
   have hqi:ofL objs' q=some (.reg wr kn):=by
    rw [hget] at e
    split at e
    ·cases e
    ·exact e
   obtain ⟨g1,g2,g3,g4⟩:=hL.H.gar q wr kn b hqi hd
   exact ⟨g1,g2,fun k o' hk hl hb=>g3 k o' (hold k o' hk hl) hl hb,g4⟩,fun i1 j1 a k a' k' b e e'=>hL.H.rdj i1 j1 a k a' k' b (hregK _ _ _ e) (hregK _ _ _ e')⟩,hL.E,fun q hq=>by rw [List.length_set];exact hL.used q hq,by rw [List.length_set];exact hL.len,hL.fr,hL.new,fun q o b e hl hb=>hL.own q o b (hold q o e hl) hl hb,hL.fz⟩⟩
  ·by_cases h1:q=j
   ·subst h1;exact hL.H.lt q (by unfold ofL;rw [List.getElem?_eq_getElem hjl];intro h;cases h)
   ·rw [hget,if_neg h1] at hq;exact hL.H.lt q hq
  ·rw [hget] at e
   split at e
   ·cases e;trivial
   ·exact hL.H.obj q o e
 ·exact hS.elim
theorem zcC_ {W:List AV->List Obj->Option (Prop × Res)} (hs:ze_ P id (RcF W).sum):ze_ P id (RwF (pkF W)).sum:=by rw [<- Bw_];exact hs
theorem jH_ {b:Bool} {x y:Res} (h:b=true):(Res.br b x y).pick=x.pick:=if_pos h
theorem jI_ {b:Bool} {x y:Res} (h:b=false):(Res.br b x y).pick=y.pick:=if_neg (by rw [h];simp)
theorem Y0_ {W:List AV->List Obj->Option (Prop × Res)} {g:List AV->List Obj->Option (Prop × AV × List Obj)} (hs:ze_ P id (RcF W).sum)
 (h:∀ args objs p v o,g args objs=some (p,v,o)->∃ r l,W args objs=some (p,r)/\r.pick=(v,l)/\(o=l\/∃ i j pre post t x,l[i]?=some (.box (pre++.own j :: post))/\l[j]?=some (.row false t x)/\o=KG_ l i j pre post t x)):ze_ P id (RwF g).sum:=
 zbu_ (zcC_ hs) fun args objs p v o e=>by
  obtain ⟨r,l,h1,h2,h3⟩:=h args objs p v o e
  refine ⟨l,?_,h3⟩
  unfold pkF;rw [h1];simp only;rw [h2]
theorem zbB_ {W:List AV->List Obj->Option (Prop × Res)} {g:List AV->List Obj->Option (Prop × AV × List Obj)} (hs:ze_ P id (RcF W).sum)
 (h:∀ args objs p v o,g args objs=some (p,v,o)->∃ r l j,W args objs=some (p,r)/\r.pick=(v,l)/\j < l.length/\o=l.set j .dead):ze_ P id (RwF g).sum:=
 zbv_ (zcC_ hs) fun args objs p v o e=>by
  obtain ⟨r,l,j,h1,h2,h3,h4⟩:=h args objs p v o e
  refine ⟨l,j,?_,h3,h4⟩
  unfold pkF;rw [h1];simp only;rw [h2]
end
end Go.Eng
namespace Go.Eng
set_option linter.unusedVariables false
set_option linter.unusedSimpArgs false
open Go.RowKit
def xi_ (w:World):Nat->Prop:=fun b=>b < w.heap.size
def noM:M:=⟨fun _=>none,fun _=>0,fun _=>0,fun _=>0,fun _=>False,noR⟩
theorem bB_ {P:Program} {id:FuncId} {f:List AV->List Obj->Option (Prop × AV)} (h:ze_ P id (RoF f).sum) {w:World} {args:List AV} {cargs:Array Value} (hA:kn_ (xi_ w) w noM args cargs.toList) (hf:f args []=some (True,.bool true)):
 Calls P id cargs w fun e w'=>e=.returned (.bool true)/\Below w.heap.size w w':=by
 have hH:HRel (xi_ w) w noM (ofL []):=⟨fun i hi=>absurd rfl hi,fun i o e=>(by cases e),fun i j o o' b e=>(by cases e),fun i o b e=>(by cases e),fun i t x b e=>(by cases e),fun b hb=>hb,fun i wr kn b e=>(by cases e),fun i j a k a' k' b e=>(by cases e)⟩
 have hS:(RoF f).sum args [] (fun v _=>v=.bool true):=by
  simp only [RoF,SumK.sum,hf]
  exact kV_ trivial fun _=>trivial
 refine (h.2.2 hH hA (fun i hi=>hi.elim) hS).mono ?_
 rintro e w' ⟨v,cv,objs',I',m',rfl,rfl,hL⟩
 have hv:cv=.bool true:=hL.rv
 subst hv
 exact ⟨rfl,hL.fr.below fun b _ hb=>by rcases hb with ⟨i,o,e,_⟩ | ⟨i,kn,e,_⟩<;>cases e⟩
end Go.Eng
namespace Go.Eng
set_option linter.unusedVariables false
set_option linter.unusedSimpArgs false
open Go.RowKit Go.ChangeShapes Go.WideShapes
def tyB (P:Program):Ty->(TypeId->Bool) × (List (TypeId × Nat)->Nat->Bool)
 | .int k=>(fun t=>match P.underlying t with | some (.int k')=>k' == k | _=>false,fun _ _=>false)
 | .bool=>(fun t=>match P.underlying t with | some .bool=>true | _=>false,fun _ _=>false)
 | .str=>(fun t=>match P.underlying t with | some .string=>true | _=>false,fun _ _=>false)
 | .sl a=>(fun t=>match P.underlying t with | some (.slice e)=>P.cellsOf e == a.size && decide (0 < a.size) && (tyB P a).1 e | _=>false,fun _ _=>false)
 | .nil=>(fun t=>match P.underlying t with | some (.struct fs)=>fs.isEmpty && P.cellsOf t == 0 | _=>false,fun l _=>l.isEmpty)
 | .cons a b=>
   let p:List (TypeId × Nat)->Nat->Bool:=fun l off=>match l with
    | (t,o) :: r=>o == off && P.cellsOf t == a.size && (tyB P a).1 t && (tyB P b).2 r (off+a.size)
    | []=>false
   (fun t=>P.cellsOf t == a.size+b.size && (match P.underlying t with
     | some (.struct fs)=>p (fs.toList.map fun f=>(f.type,f.offset)) 0
     | some (.array n e)=>p ((List.range n).map fun i=>(e,i*P.cellsOf e)) 0
     | _=>false),p)
theorem zcU_ {k:IntKind} {n:Int} (h:(Lit.int k n).wf=true):inK k n:=by
 simpa [Lit.wf,inK] using h
section
variable {H:Type} {enc:TypeId × Value->H} {P:Program} {W:World}
theorem YZ_:∀ (ty:Ty),(∀ (fuel:Nat) (t:TypeId) (cs:List Value) (x:DataW H × List MemPlace),(tyB P ty).1 t=true->DataW.trod enc P W 0 (fun _=>true) true fuel t cs=some x->∃ y:ty.den,RC (xi_ W) W ty y cs)/\
 (∀ (fuel:Nat) (l:List (TypeId × Nat)) (off:Nat) (cs:List Value),(tyB P ty).2 l off=true->cs.length=off+ty.size->(∀ (i:Nat) t o,l[i]?=some (t,o)->∃ x,DataW.trod enc P W 0 (fun _=>true) true fuel t ((cs.drop o).take (P.cellsOf t))=some x)->∃ y:ty.den,RC (xi_ W) W ty y (cs.drop off))
 | .int k=>by
   refine ⟨fun fuel t cs x ht h=>?_,fun fuel l off cs h=>by cases h⟩
   simp only [tyB] at ht
   split at ht
   ·rename_i k' hu
    simp only [beq_iff_eq] at ht
    subst ht
    obtain ⟨n,rfl,_,hw⟩:=DataW.trod_int hu h
    exact ⟨n,rfl,zcU_ hw⟩
   ·cases ht
 | .bool=>by
   refine ⟨fun fuel t cs x ht h=>?_,fun fuel l off cs h=>by cases h⟩
   simp only [tyB] at ht
   split at ht
   ·rename_i hu
    obtain ⟨b,rfl,_⟩:=DataW.trod_bool hu h
    exact ⟨b,rfl⟩
   ·cases ht
 | .str=>by
   refine ⟨fun fuel t cs x ht h=>?_,fun fuel l off cs h=>by cases h⟩
   simp only [tyB] at ht
   split at ht
   ·rename_i hu
    obtain ⟨s,rfl,_,hs⟩:=DataW.trod_string hu h
    exact ⟨zO_ s,s,rfl,rfl,hs⟩
   ·cases ht
 | .sl a=>by
   refine ⟨fun fuel t cs x ht h=>?_,fun fuel l off cs h=>by cases h⟩
   simp only [tyB] at ht
   split at ht
   ·rename_i e hu
    simp only [Bool.and_eq_true,beq_iff_eq,decide_eq_true_eq] at ht
    obtain ⟨⟨hc,hpos0⟩,ha⟩:=ht
    rcases DataW.trod_slice hu h with ⟨rfl,_⟩ | ⟨ad,len,cap,elems,rest,n,_,rfl,_,hb,hl,hm,hlen,hel,_,_⟩
    ·exact ⟨([]:List a.den),none,0,0,rfl,rfl,Nat.le_refl _,Nat.zero_le _,fun h=>absurd h (by omega)⟩
    ·have each:∀ i,i < len->∃ (y:a.den) (es:List Value),RC (xi_ W) W a y es/\es.length=a.size/\∀ j (hj:j < es.length),W.cell? ((ad.add (i*a.size)).add j)=some es[j]:=fun i hi=>by
      have h1:=hel i hi
      rw [hc] at h1
      have hi':i < elems.length:=by omega
      rw [List.getElem?_eq_getElem hi'] at h1
      obtain ⟨es,e1,e2⟩:=Option.bind_eq_some_iff.1 h1
      obtain ⟨y,hy⟩:=(YZ_ a).1 n e es _ ha e2
      obtain ⟨_,k2,k3⟩:=World.cells?_some e1
      exact ⟨y,es,hy,k2,fun j hj=>by rw [k3 j (by omega),List.getElem?_eq_getElem hj]⟩
     have build:∀ m,m<=len->∃ l:List a.den,l.length=m/\∀ i (h:i < l.length),∃ es,RC (xi_ W) W a l[i] es/\∀ j (hj:j < es.length),W.cell? ((ad.add (i*a.size)).add j)=some es[j]:=fun m=>by
      induction m with
      | zero=>intro _;exact ⟨[],rfl,fun i h=>by simp at h⟩
      | succ m ih=>
        intro hm
        obtain ⟨l,h1,h2⟩:=ih (by omega)
        obtain ⟨y,es,h3,_,h4⟩:=each m (by omega)
        refine ⟨l++[y],by simp [h1],fun i hi=>?_⟩
        by_cases hlt:i < l.length
        ·rw [List.getElem_append_left hlt];exact h2 i hlt
        ·have:i=m:=by simp at hi;omega
         subst this
         rw [List.getElem_append_right (by omega)]
         simp only [List.getElem_singleton]
         exact ⟨es,h3,h4⟩
     obtain ⟨l,h1,h2⟩:=build len (Nat.le_refl _)
     refine ⟨l,some ad,len,cap,rfl,h1.symm,hl,hm,fun hpos=>?_⟩
     obtain ⟨es,q1,q2⟩:=h2 0 (by omega)
     have hes:=Zi_ a _ _ q1
     have hc0:=q2 0 (by omega)
     rw [Nat.zero_mul] at hc0
     obtain ⟨b,off,spot⟩:=ad
     have hspot:spot=none:=by simpa [Addr.add] using World.cell?_spot hc0
     subst hspot
     refine ⟨b,off,rfl,?_,fun i hi=>?_⟩
     ·unfold xi_
      simp only [qd_] at hc0
      unfold World.cell? at hc0
      cases hb:W.heap[b]? with
      | none=>simp [hb] at hc0
      | some o=>exact ZR_ hb
     ·obtain ⟨es,q1,q2⟩:=h2 i hi
      exact ⟨es,q1,fun j hj=>by have:=q2 j hj;rw [qd_,qd_] at this;exact this⟩
   ·cases ht
 | .nil=>by
   refine ⟨fun fuel t cs x ht h=>?_,fun fuel l off cs h hl _=>⟨(),by simp only [RC];exact List.drop_eq_nil_of_le (by simp [Ty.size] at hl;omega)⟩⟩
   simp only [tyB] at ht
   split at ht
   ·rename_i fs hu
    simp only [Bool.and_eq_true,beq_iff_eq] at ht
    obtain ⟨xs,n,_,_,hl,_⟩:=DataW.trod_struct hu h
    rw [ht.2] at hl
    exact ⟨(),List.eq_nil_of_length_eq_zero hl⟩
   ·cases ht
 | .cons a b=>by
   have key:∀ (fuel:Nat) (l:List (TypeId × Nat)) (off:Nat) (cs:List Value),(tyB P (.cons a b)).2 l off=true->cs.length=off+(a.size+b.size)->(∀ (i:Nat) t o,l[i]?=some (t,o)->∃ x,DataW.trod enc P W 0 (fun _=>true) true fuel t ((cs.drop o).take (P.cellsOf t))=some x)->∃ y:(Ty.cons a b).den,RC (xi_ W) W (.cons a b) y (cs.drop off):=fun fuel l off cs h hl hx=>by
    simp only [tyB] at h
    split at h
    ·rename_i t o r
     simp only [Bool.and_eq_true,beq_iff_eq] at h
     obtain ⟨⟨⟨rfl,hc⟩,ha⟩,hr⟩:=h
     obtain ⟨x,h1⟩:=hx 0 t o rfl
     obtain ⟨y,hy⟩:=(YZ_ a).1 fuel t _ x ha h1
     obtain ⟨z,hz⟩:=(YZ_ b).2 fuel r (o+a.size) cs hr (by omega) fun i t' o' hi=>hx (i+1) t' o' (by simpa using hi)
     refine ⟨(y,z),?_⟩
     simp only [RC]
     refine ⟨_,_,?_,hy,hz⟩
     rw [hc,<- List.drop_drop,List.take_append_drop]
    ·cases h
   refine ⟨fun fuel t cs x ht h=>?_,fun fuel l off cs h hl hx=>key fuel l off cs h (by simpa [Ty.size] using hl) hx⟩
   have ht':P.cellsOf t == a.size+b.size/\(match P.underlying t with
    | some (.struct fs)=>(tyB P (.cons a b)).2 (fs.toList.map fun f=>(f.type,f.offset)) 0
    | some (.array n e)=>(tyB P (.cons a b)).2 ((List.range n).map fun i=>(e,i*P.cellsOf e)) 0
    | _=>false)=true:=by
    simp only [tyB,Bool.and_eq_true] at ht ⊢
    exact ht
   obtain ⟨hc,hm⟩:=ht'
   simp only [beq_iff_eq] at hc
   split at hm
   ·rename_i fs hu
    obtain ⟨xs,n,_,_,hl,hn,hf⟩:=DataW.trod_struct hu h
    have:=key n _ 0 cs hm (by omega) fun i t o hi=>by
     rw [List.getElem?_map,Option.map_eq_some_iff] at hi
     obtain ⟨f,h1,h2⟩:=hi
     cases h2
     have h1':fs[i]?=some f:=by rw [<- Array.getElem?_toList];exact h1
     have hlt:i < xs.length:=by rw [hn];exact (Array.getElem?_eq_some_iff.1 h1').1
     exact ⟨xs[i],by rw [hf i f h1',List.getElem?_eq_getElem hlt]⟩
    rwa [List.drop_zero] at this
   ·rename_i k e hu
    obtain ⟨xs,n,_,_,hl,hn,hf⟩:=DataW.trod_array hu h
    have:=key n _ 0 cs hm (by omega) fun i t o hi=>by
     rw [List.getElem?_map,Option.map_eq_some_iff] at hi
     obtain ⟨j,h1,h2⟩:=hi
     cases h2
     obtain ⟨hlt,rfl⟩:=List.getElem?_eq_some_iff.1 h1
     simp only [List.length_range] at hlt
     simp only [List.getElem_range]
     exact ⟨xs[i],by rw [hf i hlt,List.getElem?_eq_getElem (by omega)]⟩
    rwa [List.drop_zero] at this
   ·cases hm
def GH_ (ty:Ty) (y:ty.den):AV:=match ty with
 | .nil=>.agg (Ty.cells .nil y)
 | .cons a b=>.agg (Ty.cells (.cons a b) y)
 | .int k=>.int k y
 | .bool=>.bool y
 | .str=>.str y
 | .sl t=>.imm t y
def ge_:List Ty->List AV->Prop
 | [],[]=>True
 | ty :: r,a :: l=>(∃ y:ty.den,a=GH_ ty y)/\ge_ r l
 | _,_=>False
def tysB (P:Program):List Ty->List TypeId->Bool
 | [],[]=>true
 | ty :: r,t :: l=>(tyB P ty).1 t && tysB P r l
 | _,_=>false
theorem zdL_ {r:Reach} {b0:Nat} {ty:Ty} {t:TypeId} {v:Value} {d:DataW H} {ps:List MemPlace} (ht:(tyB P ty).1 t=true) (hval:Value.okWide P W r b0 t v) (h:DataW.Trod enc P W 0 (fun _=>true) true t v d ps):
 ∃ y:ty.den,RV2 (xi_ W) W noM (GH_ ty y) v:=by
 obtain ⟨fuel,hf⟩:=h
 obtain ⟨y,hy⟩:=(YZ_ ty).1 fuel t _ _ ht hf
 refine ⟨y,?_⟩
 have hcells:=qS_ (m:=noM) ty y _ hy
 cases ty with
 | int k=>
   simp only [tyB] at ht
   split at ht
   ·rename_i k' hu
    obtain ⟨n,rfl⟩:=okWide_int hu hval
    exact qz_ (KC_ hcells.1)
   ·cases ht
 | bool=>
   simp only [tyB] at ht
   split at ht
   ·rename_i hu
    obtain ⟨n,rfl⟩:=okWide_bool hu hval
    exact qz_ (KC_ hcells.1)
   ·cases ht
 | str=>
   simp only [tyB] at ht
   split at ht
   ·rename_i hu
    obtain ⟨n,rfl⟩:=okWide_string hu hval
    exact qz_ (KC_ hcells.1)
   ·cases ht
 | sl a=>
   simp only [tyB] at ht
   split at ht
   ·rename_i e hu
    obtain ⟨ao,n,c,rfl⟩:=okWide_slice hu hval
    exact qz_ (KC_ hcells.1)
   ·cases ht
 | nil=>
   simp only [tyB] at ht
   split at ht
   ·rename_i fs hu
    obtain ⟨cs,rfl,_⟩:=okWide_struct hu hval
    exact qz_ ⟨cs,rfl,hcells⟩
   ·cases ht
 | cons a b=>
   have ha:∃ cs,v=.agg cs:=by
    simp only [tyB,Bool.and_eq_true] at ht
    obtain ⟨_,ht⟩:=ht
    split at ht
    ·rename_i fs hu
     obtain ⟨cs,rfl,_⟩:=okWide_struct hu hval;exact ⟨cs,rfl⟩
    ·rename_i n e hu
     simp only [Value.okWide,hu] at hval
     obtain ⟨cs,h1,_⟩:=hval;exact ⟨cs,h1⟩
    ·cases ht
   obtain ⟨cs,rfl⟩:=ha
   exact qz_ ⟨cs,rfl,hcells⟩
theorem uS_ {r:Reach} {b0:Nat}:∀ {tys:List Ty} {ts:List TypeId} {vs:List Value} {ds:List (DataW H)} {ps:List MemPlace},tysB P tys ts=true->(∀ (j:Nat) t v,ts[j]?=some t->vs[j]?=some v->Value.okWide P W r b0 t v)->
 DataW.TrodAll enc P W 0 (fun _=>true) true ts vs ds ps->∃ avs,kn_ (xi_ W) W noM avs vs/\ge_ tys avs
 | [],[],[],[],_,_,_,_=>⟨[],trivial,trivial⟩
 | ty :: r,t :: ts,v :: vs,d :: ds,ps,ht,hv,h=>by
   simp only [tysB,Bool.and_eq_true] at ht
   obtain ⟨p,q,h1,h2,rfl⟩:=h
   obtain ⟨y,hy⟩:=zdL_ ht.1 (hv 0 t v rfl rfl) h1
   obtain ⟨avs,h3,h4⟩:=uS_ ht.2 (fun j t v h h'=>hv (j+1) t v (by simpa using h) (by simpa using h')) h2
   exact ⟨_ :: avs,⟨hy,h3⟩,⟨y,rfl⟩,h4⟩
 | [],_ :: _,_,_,_,ht,_,_=>by cases ht
 | _ :: _,[],_,_,_,ht,_,_=>by cases ht
 | [],[],_ :: _,_,_,_,_,h=>h.elim
 | [],[],[],_ :: _,_,_,_,h=>h.elim
 | _ :: _,_ :: _,[],_,_,_,_,h=>h.elim
 | _ :: _,_ :: _,_ :: _,[],_,_,_,h=>h.elim
theorem y2_:∀ {ts:List TypeId} {vs:List Value} {ds:List (DataW H)} {ps:List MemPlace},DataW.TrodAll enc P W 0 (fun _=>true) true ts vs ds ps->ds.length=ts.length
 | [],[],[],_,_=>rfl
 | _ :: _,_ :: _,_ :: _,_,⟨_,_,_,h,_⟩=>by rw [List.length_cons,List.length_cons,y2_ h]
 | [],_ :: _,_,_,h=>h.elim
 | [],[],_ :: _,_,h=>h.elim
 | _ :: _,[],_,_,h=>h.elim
 | _ :: _,_ :: _,[],_,h=>h.elim
def tsB (P:Program):List TypeId->Bool
 | []=>true
 | t :: r=>P.readableRec t && decide (t < P.types.size) && tsB P r
theorem len2 {α:Type}:∀ {l:List α},l.length=2->∃ a b,l=[a,b]
 | [a,b],_=>⟨a,b,rfl⟩
theorem len3 {α:Type}:∀ {l:List α},l.length=3->∃ a b c,l=[a,b,c]
 | [a,b,c],_=>⟨a,b,c,rfl⟩
theorem Vw_ (hl:laidOutB P=true) {W':World} (hb:Below W.heap.size W W'):∀ {ts:List TypeId} {vs:List Value} {ds:List (DataW H)} {ps:List MemPlace},tsB P ts=true->
 DataW.TrodAll enc P W 0 (fun _=>true) true ts vs ds ps->DataW.TrodAll enc P W' 0 (fun b=>decide (b < W.heap.size)) true ts vs ds ps
 | [],[],[],_,_,h=>h
 | t :: ts,v :: vs,d :: ds,ps,ht,h=>by
   simp only [tsB,Bool.and_eq_true,decide_eq_true_eq] at ht
   obtain ⟨p,q,h1,h2,rfl⟩:=h
   have lt:∀ x ∈ p,x.block < W.heap.size:=by obtain ⟨m,hm⟩:=h1;exact DataW.trod_lt m _ _ _ hm
   exact trodAll_cons_mk (Below.trod hl ht.1.1 ht.1.2 h1 hb lt) (Vw_ hl hb ht.2 h2)
 | [],_ :: _,_,_,_,h=>h.elim
 | [],[],_ :: _,_,_,h=>h.elim
 | _ :: _,[],_,_,_,h=>h.elim
 | _ :: _,_ :: _,[],_,_,h=>h.elim
end
end Go.Eng
namespace Go.Eng
abbrev YA:Ty:=(.cons (.int .u64) (.cons .str (.cons (.int .u64) (.cons (.int .u64) (.cons (.int .u64) (.cons (.int .u64) (.cons (.sl (.cons (.int .i64) (.cons (.sl (.int .u64)) (.cons (.sl (.int .u8)) .nil)))) .nil)))))))
abbrev YB:Ty:=(.cons (.int .i64) (.cons (.sl (.int .u8)) .nil))
end Go.Eng
namespace Go.Eng
open Go.Proofs
set_option linter.unusedVariables false
set_option linter.unusedSimpArgs false
set_option maxRecDepth 100000
set_option maxHeartbeats 1000000
theorem zJ_ {α:Type} {l:List α} {i:Nat} (h:i < l.length) (d:α):l.drop i=l.getD i d :: l.drop (i+1):=by
 rw [List.drop_eq_getElem_cons h,List.getD_eq_getElem?_getD,List.getElem?_eq_getElem h];rfl
theorem zv_ {α:Type} {l:List α} {j:Nat} (h:j < l.length) (d:α):l.getD j d ∈ l:=by
 rw [List.getD_eq_getElem?_getD,List.getElem?_eq_getElem h];exact List.getElem_mem h
def okW (n:Int):Bool:=!(decide (n=0) || decide (8 < n) || decide (n < -64))
theorem BO_ {n:Int}:okW n=true ↔ n ≠ 0/\n<=8/\-64<=n:=by unfold okW;simp;omega
theorem zd5_ {n:Int}:okW n=false ↔ ¬ (n ≠ 0/\n<=8/\-64<=n):=by rw [<- BO_];simp
def Zr_ (w:List Int):Bool:=decide (w.length<=64) && w.all okW
theorem Zu_ {w:List Int}:Zr_ w=true ↔ w.length<=64/\∀ n ∈ w,n ≠ 0/\n<=8/\-64<=n:=by
 unfold Zr_;simp only [Bool.and_eq_true,decide_eq_true_eq,List.all_eq_true,BO_]
def UJ_:IR:=
(sq (kr [0] [oD 2 (.mov cF)])
(sq (sq (.reg [oM 5 0,
oE 6 5,
oB 7 .gtr 6 (cI 64)])
(.cond 7
(sq (.reg [oD 2 (.mov cF)])
.ret)
.skip))
(sq (sq (.reg [oM 8 0,
oE 9 8,
oD 10 (.mov (cI 0))])
(.block 0
(.loop
(sq (kr [8,9,10] [oB 11 .lss 10 9])
(sq (.cond 11
.skip
(.exit 0))
(sq (.block 1
(sq (.reg [oI 12 1 8 10,
oL 13 12,
oM 4 13])
(sq (kr [4,8,9,10] [oM 14 4,
oB 15 .eql 14 (cI 0),
oM 16 15,
oF 16 17 (.mov 4),
oF 16 18 (.bin .gtr 17 (cI 8)),
oP 19 16 cT 18,
oM 20 19,
oF 20 21 (.mov 4),
oF 20 22 (.bin .lss 21 (cI (-64))),
oP 23 20 cT 22])
(.cond 23
(sq (kr [] [oD 2 (.mov cF)])
.ret)
.skip))))
(kr [8,9,10] [oB 24 .add 10 (cI 1),
oM 10 24])))))))
(sq (kr [] [oD 2 (.mov cT)])
.ret))))
def Uf_:List RD:=[.tmp 2 true none]
theorem Us_:zo_ Tryz.prog Tryz.f164 UJ_ Uf_=true:=by kernel_rfl
def qN_:List AV->List Obj->Option (Prop × AV)
 | [.imm (.int .i64) w],[]=>some ((True,.bool (Zr_ w)))
 | _,_=>none
theorem Qk_:ze_ Tryz.prog 164 (RoF qN_).sum:=by
 refine zz_ Tryz.func164 Us_ (zf_ _) fun args objs p v e=>?_
 unfold qN_ at e
 split at e
 ·rename_i w
  cases e
  refine ⟨rfl,fun hw ho hp=>?_⟩
  change List Int at w
  repeat'(intro t ht;first|(cases t<;>first|(cases ht;done)|(try simp only[zh_]at ht))|((first|refine za_ ht ?_|refine ht ?_ ?_|refine ht.1 ?_ ?_|refine ht ?_)<;>clear ht))
  all_goals first
   | (have h64:¬ w.length<=64:=by omega
      refine ⟨?_,rfl⟩;unfold Zr_;rw [decide_eq_false h64];rfl)
   | (intro r h1 h2;clear h1;refine h2 ⟨[],[8,9,10],Nat,(fun i=>i<=w.length/\w.all okW=(w.drop i).all okW),fun i=>[.imm (.int .i64) w,.int .i64 w.length,.int .i64 i],fun _=>[],fun i=>w.length - i,⟨0,⟨Nat.zero_le _,rfl⟩,rfl,rfl⟩,?_⟩;clear h2)
  rintro i ⟨hi,he⟩
  repeat'(intro t ht;first|(cases t<;>first|(cases ht;done)|(try simp only[zh_]at ht))|((first|refine za_ ht ?_|refine ht ?_ ?_|refine ht.1 ?_ ?_|refine ht ?_)<;>clear ht))
  all_goals first
   | ((try simp only [zI_,zK_,zn_] at*);omega)
   | (have h64:w.length<=64:=by omega
      have hge:w.length<=i:=by omega
      refine ⟨?_,rfl⟩;unfold Zr_;rw [he,decide_eq_true h64,List.drop_of_length_le hge];rfl)
   | (have hlt:i < w.length:=by omega
      rw [zJ_ hlt 0,List.all_cons] at he
      first
       | (have hk:okW (w.getD i 0)=false:=zd5_.2 (by omega)
          refine ⟨?_,rfl⟩;unfold Zr_;rw [he,hk];simp;done)
       | (have hk:okW (w.getD i 0)=true:=BO_.2 (by omega)
          rw [hk,Bool.true_and] at he
          exact ⟨i+1,⟨hlt,he⟩,by (try simp only [zI_,zK_,zn_] at*);omega,rfl,rfl⟩))
 ·cases e
def zp_ (n:Int):Int:=if 0 - n > n then 0 - n else n
theorem jd_ {n:Int} (h:n < 0):zp_ n=-n:=by unfold zp_;split<;>omega
theorem J0_ {n:Int} (h:¬ n < 0):zp_ n=n:=by unfold zp_;split<;>omega
theorem J1_ {n:Int}:0<=zp_ n/\n<=zp_ n/\-n<=zp_ n/\(zp_ n=n\/zp_ n=-n):=by unfold zp_;split<;>omega
def qL_ (n:Int):Int:=if 0 < n then 1 else 0
def jU_ (f:Int->Int) (w:List Int) (i:Nat):Int:=((w.take i).map f).sum
theorem QQ_ (f:Int->Int) {l:List Int} {i:Nat} (h:i < l.length):jU_ f l (i+1)=jU_ f l i+f (l.getD i 0):=by
 unfold jU_
 rw [List.take_succ_eq_append_getElem h,List.map_append,List.sum_append]
 have:l.getD i 0=l[i]:=by rw [List.getD_eq_getElem?_getD,List.getElem?_eq_getElem h];rfl
 rw [this];simp
theorem jT_ (f:Int->Int) {l:List Int} {i:Nat} (h:l.length<=i):jU_ f l i=(l.map f).sum:=by
 unfold jU_;rw [List.take_of_length_le h]
theorem G0_:∀ {l:List Int} {c:Int},(∀ x ∈ l,0<=x/\x<=c)->0<=l.sum/\l.sum<=c*l.length
 | [],c,_=>by simp
 | x :: l,c,h=>by
   have h1:=h x (by simp)
   have h2:=G0_ (l:=l) (c:=c) fun y hy=>h y (by simp [hy])
   rw [List.sum_cons,List.length_cons,Int.natCast_add,Int.mul_add]
   omega
theorem vm_ {w:List Int} (h:Zr_ w=true) (i:Nat):0<=jU_ zp_ w i/\jU_ zp_ w i<=4096:=by
 obtain ⟨h1,h2⟩:=Zu_.1 h
 unfold jU_
 have:=G0_ (l:=(w.take i).map zp_) (c:=64) fun x hx=>by
  obtain ⟨y,hy,rfl⟩:=List.mem_map.1 hx
  have:=h2 y (List.mem_of_mem_take hy)
  have:=J1_ (n:=y);omega
 rw [List.length_map,List.length_take] at this
 omega
theorem gl_ {w:List Int} (h:Zr_ w=true) (i:Nat):0<=jU_ qL_ w i/\jU_ qL_ w i<=64:=by
 obtain ⟨h1,h2⟩:=Zu_.1 h
 unfold jU_
 have:=G0_ (l:=(w.take i).map qL_) (c:=1) fun x hx=>by
  obtain ⟨y,hy,rfl⟩:=List.mem_map.1 hx
  unfold qL_;split<;>omega
 rw [List.length_map,List.length_take] at this
 omega
def ZT_ (w:List Int):Int:=if Zr_ w then (w.map zp_).sum else 0
def ki_ (w:List Int):Int:=if Zr_ w then (w.map qL_).sum else 0
theorem wS_ (w:List Int):0<=ZT_ w/\ZT_ w<=4096:=by
 unfold ZT_;split
 ·rename_i h;have:=vm_ h w.length;rwa [jT_ zp_ (Nat.le_refl _)] at this
 ·omega
def Ga_:IR:=
(sq (kr [0] [oD 2 (.mov (cI 0))])
(sq (sq (.reg [oM 5 0,
oC 6 164 [5],
oD 7 (.un .not 6)])
(.cond 7
(sq (.reg [oD 2 (.mov (cI 0))])
.ret)
.skip))
(sq (sq (.reg [oM 8 0,
oE 9 8,
oD 10 (.mov (cI 0))])
(.block 0
(.loop
(sq (kr [2,8,9,10] [oB 11 .lss 10 9])
(sq (.cond 11
.skip
(.exit 0))
(sq (.block 1
(sq (.reg [oI 12 1 8 10,
oL 13 12,
oM 4 13])
(kr [2,4,8,9,10] [oM 14 2,
oM 15 4,
oM 16 4,
oD 17 (.un .neg 16),
oD 18 (.minmax true 15 17),
oB 19 .add 14 18,
oM 2 19])))
(kr [2,8,9,10] [oB 20 .add 10 (cI 1),
oM 10 20])))))))
(sq (kr [2] [oM 21 2,
oM 2 21])
.ret))))
def gz_:List RD:=[.tmp 2 true none]
theorem gL_:zo_ Tryz.prog Tryz.f141 Ga_ gz_=true:=by kernel_rfl
def je_:List AV->List Obj->Option (Prop × AV)
 | [.imm (.int .i64) w],[]=>some ((True,.int .i64 (ZT_ w)))
 | _,_=>none
theorem Jq_:ze_ Tryz.prog 141 (RoF je_).sum:=by
 refine zz_ Tryz.func141 gL_ (zb_ (s:=RoF qN_) Qk_ (zf_ _)) fun args objs p v e=>?_
 unfold je_ at e
 split at e
 ·rename_i w
  cases e
  refine ⟨rfl,fun hw ho hp=>?_⟩
  change List Int at w
  repeat'(intro t ht;first|(cases t<;>first|(cases ht;done)|(try simp only[zh_]at ht))|((first|refine za_ ht ?_|refine ht ?_ ?_|refine ht.1 ?_ ?_|refine ht ?_)<;>clear ht))
  all_goals first
   | exact True.intro
   | (refine ⟨?_,rfl⟩;unfold ZT_;simp_all;done)
   | (intro r h1 h2;clear h1;refine h2 ⟨[],[2,8,9,10],Nat,(fun i=>i<=w.length),fun i=>[.int .i64 (jU_ zp_ w i),.imm (.int .i64) w,.int .i64 w.length,.int .i64 i],fun _=>[],fun i=>w.length - i,⟨0,Nat.zero_le _,rfl,rfl⟩,?_⟩;clear h2)
  intro i hi
  have hr:Zr_ w=true:=by assumption
  have hl:=(Zu_.1 hr).1
  have hs:=vm_ hr i
  repeat'(intro t ht;first|(cases t<;>first|(cases ht;done)|(try simp only[zh_]at ht))|((first|refine za_ ht ?_|refine ht ?_ ?_|refine ht.1 ?_ ?_|refine ht ?_)<;>clear ht))
  all_goals first
   | ((try simp only [zI_,zK_,zn_] at*);omega)
   | (have hge:w.length<=i:=by omega
      refine ⟨?_,rfl⟩;unfold ZT_;rw [if_pos hr,jT_ zp_ hge];done)
   | (have hlt:i < w.length:=by omega
      have hk:=(Zu_.1 hr).2 _ (zv_ hlt 0)
      have ha:=J1_ (n:=w.getD i 0)
      first
       | ((try simp only [zI_,zK_,zn_] at*);omega)
       | (show IntKind.i64.min<=jU_ zp_ w i+zp_ (w.getD i 0)/\jU_ zp_ w i+zp_ (w.getD i 0)<=IntKind.i64.max;(try simp only [zI_,zK_,zn_] at*);omega)
       | (refine ⟨i+1,hlt,by (try simp only [zI_,zK_,zn_] at*);omega,?_,rfl⟩
          dsimp only
          rw [QQ_ zp_ hlt];rfl))
 ·cases e
def UL_:IR:=
(sq (kr [0] [oD 2 (.mov (cI 0))])
(sq (sq (.reg [oM 5 0,
oC 6 164 [5],
oD 7 (.un .not 6)])
(.cond 7
(sq (.reg [oD 2 (.mov (cI 0))])
.ret)
.skip))
(sq (sq (.reg [oM 8 0,
oE 9 8,
oD 10 (.mov (cI 0))])
(.block 0
(.loop
(sq (kr [2,8,9,10] [oB 11 .lss 10 9])
(sq (.cond 11
.skip
(.exit 0))
(sq (.block 1
(sq (.reg [oI 12 1 8 10,
oL 13 12,
oM 4 13])
(sq (.reg [oM 14 4,
oB 15 .gtr 14 (cI 0)])
(.cond 15
(kr [2,8,9,10] [oM 16 2,
oB 17 .add 16 (cI 1),
oM 2 17])
.skip))))
(kr [2,8,9,10] [oB 18 .add 10 (cI 1),
oM 10 18])))))))
(sq (kr [2] [oM 19 2,
oM 2 19])
.ret))))
def Uh_:List RD:=[.tmp 2 true none]
theorem Uu_:zo_ Tryz.prog Tryz.f151 UL_ Uh_=true:=by kernel_rfl
def WF_:List AV->List Obj->Option (Prop × AV)
 | [.imm (.int .i64) w],[]=>some ((True,.int .i64 (ki_ w)))
 | _,_=>none
theorem VK_:ze_ Tryz.prog 151 (RoF WF_).sum:=by
 refine zz_ Tryz.func151 Uu_ (zb_ (s:=RoF qN_) Qk_ (zf_ _)) fun args objs p v e=>?_
 unfold WF_ at e
 split at e
 ·rename_i w
  cases e
  refine ⟨rfl,fun hw ho hp=>?_⟩
  change List Int at w
  repeat'(intro t ht;first|(cases t<;>first|(cases ht;done)|(try simp only[zh_]at ht))|((first|refine za_ ht ?_|refine ht ?_ ?_|refine ht.1 ?_ ?_|refine ht ?_)<;>clear ht))
  all_goals first
   | exact True.intro
   | (refine ⟨?_,rfl⟩;unfold ki_;simp_all;done)
   | (intro r h1 h2;clear h1;refine h2 ⟨[],[2,8,9,10],Nat,(fun i=>i<=w.length),fun i=>[.int .i64 (jU_ qL_ w i),.imm (.int .i64) w,.int .i64 w.length,.int .i64 i],fun _=>[],fun i=>w.length - i,⟨0,Nat.zero_le _,rfl,rfl⟩,?_⟩;clear h2)
  intro i hi
  have hr:Zr_ w=true:=by assumption
  have hl:=(Zu_.1 hr).1
  have hs:=gl_ hr i
  repeat'(intro t ht;first|(cases t<;>first|(cases ht;done)|(try simp only[zh_]at ht))|((first|refine za_ ht ?_|refine ht ?_ ?_|refine ht.1 ?_ ?_|refine ht ?_)<;>clear ht))
  all_goals first
   | ((try simp only [zI_,zK_,zn_] at*);omega)
   | (have hge:w.length<=i:=by omega
      refine ⟨?_,rfl⟩;unfold ki_;rw [if_pos hr,jT_ qL_ hge];done)
   | (have hlt:i < w.length:=by omega
      refine ⟨i+1,hlt,by (try simp only [zI_,zK_,zn_] at*);omega,?_,rfl⟩
      dsimp only
      rw [QQ_ qL_ hlt]
      first
       | (have e:qL_ (w.getD i 0)=1:=if_pos (by assumption)
          rw [e];rfl)
       | (have e:qL_ (w.getD i 0)=0:=if_neg (by assumption)
          rw [e,Int.add_zero];rfl))
 ·cases e
theorem zdd_ {a b:Nat} {n:Nat} (h:b < 2 ^ n):(a*2 ^ n) ||| b=a*2 ^ n+b:=by
 have:=Nat.shiftLeft_add_eq_or_of_lt h a
 rw [Nat.shiftLeft_eq] at this;exact this.symm
theorem zbL_ {n c:Int} (hn:0<=n) (hm:n*256+c<=18446744073709551615) (h0:0<=c) (h1:c<=255):kz_ .or .u64 (n*256) c=n*256+c:=by
 obtain ⟨a,rfl⟩:=Int.eq_ofNat_of_zero_le hn
 obtain ⟨b,rfl⟩:=Int.eq_ofNat_of_zero_le h0
 have hb:b < 2 ^ 8:=by omega
 have hlt:a*256+b < 2 ^ 64:=by omega
 have e1:(BitVec.ofInt 64 ((a:Int)*256)).toNat=a*256:=by
  have:((a:Int)*256)=((a*256:Nat):Int):=by simp
  rw [this,BitVec.ofInt_natCast,BitVec.toNat_ofNat];exact Nat.mod_eq_of_lt (by omega)
 have e2:(BitVec.ofInt 64 (b:Int)).toNat=b:=by
  rw [BitVec.ofInt_natCast,BitVec.toNat_ofNat];exact Nat.mod_eq_of_lt (by omega)
 have e3:(BitVec.ofInt 64 ((a:Int)*256) ||| BitVec.ofInt 64 (b:Int)).toNat=a*256+b:=by
  rw [BitVec.toNat_or,e1,e2];exact zdd_ (n:=8) hb
 show IntKind.u64.wrap ((BitVec.ofInt 64 ((a:Int)*256) ||| BitVec.ofInt 64 (b:Int)).toNat:Int)=_
 rw [e3,WL_ ⟨by rw [Y8_];omega,by rw [UC_];omega⟩]
 simp
def zs_ (b:List Int):Int:=b.foldl (fun n c=>n*256+c) 0
theorem yz_ (l:List Int) (c:Int):zs_ (l++[c])=zs_ l*256+c:=by simp [zs_]
theorem HA_:∀ (l:List Int) (a:Int),(∀ x ∈ l,0<=x/\x<=255)->0<=a->0<=l.foldl (fun n c=>n*256+c) a/\l.foldl (fun n c=>n*256+c) a < (a+1)*256 ^ l.length
 | [],a,_,ha=>by simp;omega
 | c :: l,a,h,ha=>by
   have hc:=h c (by simp)
   have ih:=HA_ l (a*256+c) (fun x hx=>h x (by simp [hx])) (by omega)
   rw [List.foldl_cons,List.length_cons,Int.pow_succ,Int.mul_comm (256 ^ l.length) 256,<- Int.mul_assoc]
   have hp:(0:Int)<=256 ^ l.length:=Int.le_of_lt (Int.pow_pos (by decide))
   have hm:=Int.mul_le_mul_of_nonneg_right (show a*256+c+1<=(a+1)*256 by omega) hp
   omega
theorem Y6_ (l:List Int) (h:∀ x ∈ l,0<=x/\x<=255):0<=zs_ l/\zs_ l < 256 ^ l.length:=by
 have:=HA_ l 0 h (Int.le_refl _)
 rwa [Int.zero_add,Int.one_mul] at this
def yy_ (b:List Int) (i:Nat):Int:=zs_ (b.take i)
theorem bs_ {b:List Int} {i:Nat} (h:i < b.length):yy_ b (i+1)=yy_ b i*256+b.getD i 0:=by
 unfold yy_
 rw [List.take_succ_eq_append_getElem h,yz_,List.getD_eq_getElem?_getD,List.getElem?_eq_getElem h];rfl
theorem BR_ {b:List Int} {i:Nat} (h:b.length<=i):yy_ b i=zs_ b:=by unfold yy_;rw [List.take_of_length_le h]
theorem zbF_:∀ k ≤ 7,(256:Int) ^ k<=72057594037927936:=by decide
theorem zbO_ {b:List Int} (hb:∀ x ∈ b,0<=x/\x<=255) (i:Nat) (hi:i<=7):0<=yy_ b i/\yy_ b i < 72057594037927936:=by
 have h1:=Y6_ (b.take i) fun x hx=>hb x (List.mem_of_mem_take hx)
 have h2:(256:Int) ^ (b.take i).length<=72057594037927936:=zbF_ _ (by rw [List.length_take];omega)
 unfold yy_;omega
def V0_:IR:=
(sq (kr [0] [oD 2 (.mov (.c (.int .u64 0)))])
(sq (sq (.reg [oM 5 0,
oE 6 5,
oD 7 (.mov (cI 0))])
(.block 0
(.loop
(sq (kr [2,5,6,7] [oB 8 .lss 7 6])
(sq (.cond 8
.skip
(.exit 0))
(sq (.block 1
(sq (.reg [oI 9 1 5 7,
oL 10 9,
oM 4 10])
(kr [2,4,5,6,7] [oM 11 2,
oB 12 .shl 11 (.c (.int .u64 8)),
oM 13 4,
oD 14 (.conv .u64 13),
oB 15 .or 12 14,
oM 2 15])))
(kr [2,5,6,7] [oB 16 .add 7 (cI 1),
oM 7 16])))))))
(sq (kr [2] [oM 17 2,
oM 2 17])
.ret)))
def VP_:List RD:=[.tmp 2 true none]
theorem VU_:zo_ Tryz.prog Tryz.f165 V0_ VP_=true:=by kernel_rfl
def KX_:List AV->List Obj->Option (Prop × AV)
 | [.imm (.int .u8) b],[]=>some ((b.length<=8,.int .u64 (zs_ b)))
 | _,_=>none
theorem wQ_:ze_ Tryz.prog 165 (RoF KX_).sum:=by
 refine zz_ Tryz.func165 VU_ (zf_ _) fun args objs p v e=>?_
 unfold KX_ at e
 split at e
 ·rename_i b
  cases e
  refine ⟨rfl,fun hw ho hp=>?_⟩
  change List Int at b
  have hb:∀ x ∈ (b:List Int),(0:Int)<=x/\x<=255:=fun x hx=>(hw (.imm (.int .u8) b) (by simp)).1 x hx
  repeat'(intro t ht;first|(cases t<;>first|(cases ht;done)|(try simp only[zh_]at ht))|((first|refine za_ ht ?_|refine ht ?_ ?_|refine ht.1 ?_ ?_|refine ht ?_)<;>clear ht))
  all_goals first
   | (intro r h1 h2;clear h1;refine h2 ⟨[],[2,5,6,7],Nat,(fun i=>i<=b.length),fun i=>[.int .u64 (yy_ b i),.imm (.int .u8) b,.int .i64 b.length,.int .i64 i],fun _=>[],fun i=>b.length - i,⟨0,Nat.zero_le _,rfl,rfl⟩,?_⟩;clear h2)
  intro i hi
  repeat'(intro t ht;first|(cases t<;>first|(cases ht;done)|(try simp only[zh_]at ht))|((first|refine za_ ht ?_|refine ht ?_ ?_|refine ht.1 ?_ ?_|refine ht ?_)<;>clear ht))
  all_goals first
   | ((try simp only [zI_,zK_,zn_] at*);omega)
   | (have hge:b.length<=i:=by omega
      refine ⟨?_,rfl⟩;rw [BR_ hge];done)
   | exact (by decide)
   | (have hlt:i < b.length:=by omega
      have hk:=hb _ (zv_ (α:=Int) hlt 0)
      have hn:=zbO_ hb i (by omega)
      first
       | (show IntKind.u64.min<=yy_ b i*256/\yy_ b i*256<=IntKind.u64.max;(try simp only [zI_,zK_,zn_] at*);omega)
       | ((try simp only [zI_,zK_,zn_] at*);omega)
       | (refine ⟨i+1,hlt,by (try simp only [zI_,zK_,zn_] at*);omega,?_,rfl⟩
          dsimp only
          rw [bs_ hlt]
          have e:kz_ .or .u64 (yy_ b i*256) (b.getD i 0)=yy_ b i*256+b.getD i 0:=zbL_ hn.1 (by omega) hk.1 hk.2
          rw [<- e];rfl))
 ·cases e
def zY_ (b:List Int):Bool:=b.all fun c=>decide (c=0)
def g9_:IR:=
(sq (kr [0] [oD 2 (.mov cF)])
(sq (sq (.reg [oM 5 0,
oE 6 5,
oD 7 (.mov (cI 0))])
(.block 0
(.loop
(sq (kr [5,6,7] [oB 8 .lss 7 6])
(sq (.cond 8
.skip
(.exit 0))
(sq (.block 1
(sq (.reg [oI 9 1 5 7,
oL 10 9,
oM 4 10])
(sq (.reg [oM 11 4,
oB 12 .neq 11 (.c (.int .u8 0))])
(.cond 12
(sq (kr [] [oD 2 (.mov cF)])
.ret)
.skip))))
(kr [5,6,7] [oB 13 .add 7 (cI 1),
oM 7 13])))))))
(sq (kr [] [oD 2 (.mov cT)])
.ret)))
def gy_:List RD:=[.tmp 2 true none]
theorem gK_:zo_ Tryz.prog Tryz.f166 g9_ gy_=true:=by kernel_rfl
def J2_:List AV->List Obj->Option (Prop × AV)
 | [.imm (.int .u8) b],[]=>some ((True,.bool (zY_ b)))
 | _,_=>none
theorem x4_:ze_ Tryz.prog 166 (RoF J2_).sum:=by
 refine zz_ Tryz.func166 gK_ (zf_ _) fun args objs p v e=>?_
 unfold J2_ at e
 split at e
 ·rename_i b
  cases e
  refine ⟨rfl,fun hw ho hp=>?_⟩
  change List Int at b
  have hl:b.length<=maxLen:=(hw (.imm (.int .u8) b) (by simp)).2
  unfold maxLen at hl
  repeat'(intro t ht;first|(cases t<;>first|(cases ht;done)|(try simp only[zh_]at ht))|((first|refine za_ ht ?_|refine ht ?_ ?_|refine ht.1 ?_ ?_|refine ht ?_)<;>clear ht))
  all_goals first
   | (intro r h1 h2;clear h1;refine h2 ⟨[],[5,6,7],Nat,(fun i=>i<=b.length/\zY_ b=zY_ (b.drop i)),fun i=>[.imm (.int .u8) b,.int .i64 b.length,.int .i64 i],fun _=>[],fun i=>b.length - i,⟨0,⟨Nat.zero_le _,rfl⟩,rfl,rfl⟩,?_⟩;clear h2)
  rintro i ⟨hi,he⟩
  repeat'(intro t ht;first|(cases t<;>first|(cases ht;done)|(try simp only[zh_]at ht))|((first|refine za_ ht ?_|refine ht ?_ ?_|refine ht.1 ?_ ?_|refine ht ?_)<;>clear ht))
  all_goals first
   | ((try simp only [zI_,zK_,zn_] at*);omega)
   | (have hge:b.length<=i:=by omega
      refine ⟨?_,rfl⟩;rw [he,List.drop_of_length_le hge];rfl)
   | (have hlt:i < b.length:=by omega
      rw [zJ_ hlt 0] at he
      unfold zY_ at he
      rw [List.all_cons] at he
      first
       | (have hk:decide (b.getD i 0=0)=false:=decide_eq_false (by assumption)
          refine ⟨?_,rfl⟩;unfold zY_;rw [he,hk];rfl)
       | (have hk:decide (b.getD i 0=0)=true:=decide_eq_true (by assumption)
          rw [hk,Bool.true_and] at he
          exact ⟨i+1,⟨hlt,he⟩,by (try simp only [zI_,zK_,zn_] at*);omega,rfl,rfl⟩))
 ·cases e
theorem YX_ (x:Int):IntKind.u8.wrap x=x % 256:=by simp [IntKind.wrap,IntKind.signed,IntKind.bits]
def Ku_ (n w j:Int):Int:=(n.fdiv (2 ^ (min (8*(w - 1 - j)).toNat 64))) % 256
def kM_ (n w:Int) (i:Nat):List Int:=(List.range i).map fun j:Nat=>Ku_ n w j
def zi_ (n w:Int):List Int:=kM_ n w w.toNat
theorem Yj_ (n w:Int) (i:Nat):kM_ n w (i+1)=kM_ n w i++[Ku_ n w i]:=by
 unfold kM_;rw [List.range_succ,List.map_append];rfl
theorem Vp_ (n w:Int) (i:Nat):(kM_ n w i).length=i:=by unfold kM_;simp
theorem bX_ (n w j:Int):0<=Ku_ n w j/\Ku_ n w j<=255:=by unfold Ku_;omega
theorem z1_ {n w:Int} (h:0<=w):((zi_ n w).length:Int)=w:=by unfold zi_;rw [Vp_];omega
def hE_:IR:=
(sq (kr [0,1,2] [oD 6 (.mov (.c (.imm (.int .u8) [])))])
(sq (sq (.reg [oM 8 2,
oD 9 (.mov (cI 0))])
(.block 0
(.loop
(sq (kr [0,1,2,8,9] [oB 10 .lss 9 8])
(sq (.cond 10
.skip
(.exit 0))
(sq (.block 1
(sq (.reg [oM 11 9,
oM 7 11])
(kr [0,1,2,7,8,9] [oM 12 0,
oM 13 1,
oM 14 2,
oB 15 .sub 14 (cI 1),
oM 16 7,
oB 17 .sub 15 16,
oB 18 .mul (cI 8) 17,
oB 19 .shr 13 18,
oD 20 (.conv .u8 19),
oD 21 (.sliceAll (.int .u8) 1 [(0,1,20)]),
oD 22 (.append (.int .u8) 1 12 21),
oM 0 22])))
(kr [0,1,2,8,9] [oB 23 .add 9 (cI 1),
oM 9 23])))))))
(sq (kr [0] [oM 24 0,
oM 6 24])
.ret)))
def G8_:List RD:=[.tmp 6 false none]
theorem hh_:zo_ Tryz.prog Tryz.f176 hE_ G8_=true:=by kernel_rfl
def yW_:List AV->List Obj->Option (Prop × AV × List Obj)
 | [.own 0,.int .u64 n,.int .i64 w],[.row false (.int .u8) l]=>some ((1<=w/\w<=64/\l.length<=100000000,.own 1,[.dead,.row false (.int .u8) (l++zi_ n w)]))
 | _,_=>none
theorem gn_:ze_ Tryz.prog 176 (RwF yW_).sum:=by
 refine qh_ Tryz.func176 hh_ (zf_ _) fun args objs p v o e=>?_
 unfold yW_ at e
 split at e
 ·rename_i n w l
  cases e
  refine ⟨rfl,fun hw ho hp=>?_⟩
  change List Int at l
  repeat'(intro t ht;first|(cases t<;>first|(cases ht;done)|(try simp only[zh_]at ht))|((first|refine za_ ht ?_|refine ht ?_ ?_|refine ht.1 ?_ ?_|refine ht ?_)<;>clear ht))
  all_goals first
   | (intro r h1 h2;clear h1;refine h2 ⟨[],[0,1,2,8,9],Nat,(fun i=>(i:Int)<=w),fun i=>[match i with | 0=>.own 0 | _+1=>.own 1,.int .u64 n,.int .i64 w,.int .i64 w,.int .i64 i],fun i=>match i with | 0=>[.row false (.int .u8) l] | i+1=>[.dead,.row false (.int .u8) (l++kM_ n w (i+1))],fun i=>w.toNat - i,⟨0,by omega,rfl,rfl⟩,?_⟩;clear h2)
  rintro (_ | i) hi
  all_goals repeat'(intro t ht;first|(cases t<;>first|(cases ht;done)|(try simp only[zh_]at ht))|((first|refine za_ ht ?_|refine ht ?_ ?_)<;>clear ht)|(refine ht.1 (by simp only[zn_];omega) ?_;clear ht)|(refine ht.2 ?_;clear ht)|(refine ht ?_;clear ht))
  all_goals first
   | (exfalso;omega)
   | omega
   | (simp only [Qx_,List.length_append,List.length_cons,List.length_nil,Vp_];omega)
   | (refine ⟨1,by omega,by dsimp only;omega,rfl,?_⟩
      show [Obj.dead,Obj.row false (.int .u8) (l++[IntKind.u8.wrap (n.fdiv (2 ^ min (8*(w - 1 - ((0:Nat):Int))).toNat 64))])]=[Obj.dead,Obj.row false (.int .u8) (l++kM_ n w (0+1))]
      rw [Yj_,YX_];rfl)
   | (have e:w.toNat=i+1:=by omega
      refine ⟨rfl,?_⟩;unfold zi_;rw [e])
   | (refine ⟨i+1+1,by omega,by dsimp only;omega,rfl,?_⟩
      show [Obj.dead,Obj.row false (.int .u8) ((l++kM_ n w (i+1))++[IntKind.u8.wrap (n.fdiv (2 ^ min (8*(w - 1 - ((i+1:Nat):Int))).toNat 64))])]=[Obj.dead,Obj.row false (.int .u8) (l++kM_ n w (i+1+1))]
      rw [Yj_ n w (i+1),YX_,List.append_assoc];rfl)
 ·cases e
end Go.Eng
