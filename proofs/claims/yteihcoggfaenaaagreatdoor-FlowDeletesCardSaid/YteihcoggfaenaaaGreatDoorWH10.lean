/- Parts of the proof: EArg, TY, R1. No condition. -/
import Derived.Test.YteihcoggfaenaaaGreatDoorWH09
import Derived.WalkKit
import Derived.ProofKit
import Derived.OpenShut
import Derived.ShutString
import Derived.ChangeOld
import Derived.Carry
import Derived.Test.YteihcoggfaenaaaGreatDoorProg
import Derived.KernelRfl
namespace Go.Eng
set_option linter.unusedVariables false
set_option linter.unusedSimpArgs false
def ZM_ {β:Type _} (t' t:Ty) (x:List t'.den) (F:List t.den->Option β):Option β:=match decEq t' t with | isTrue h=>F (h ▸ x) | isFalse _=>none
theorem zN_ {β:Type _} {t' t:Ty} {x:List t'.den} {F:List t.den->Option β} {y:β} (h:ZM_ t' t x F=some y):t'=t:=by
 unfold ZM_ at h
 split at h
 ·assumption
 ·cases h
theorem zdb_ {β:Type _} {t:Ty} {x:List t.den} {F:List t.den->Option β}:ZM_ t t x F=F x:=by
 unfold ZM_
 split
 ·rfl
 ·rename_i h _;exact absurd rfl h
theorem zO_ {β:Type _} {t:Ty} {x:List t.den} {F:List t.den->Option β} {y:β} (h:ZM_ t t x F=some y):F x=some y:=by rw [zdb_] at h;exact h
def Ty.exact:(t:Ty)->List AV->Option (t.den × List AV)
 | .int k,.int k' n :: r=>match decEq k k' with | isTrue _=>some (n,r) | isFalse _=>none
 | .bool,.bool b :: r=>some (b,r)
 | .str,.str s :: r=>some (s,r)
 | .nil,r=>some ((),r)
 | .cons a b,l=>match a.exact l with
   | some (x,r)=>match b.exact r with
     | some (y,r)=>some ((x,y),r)
     | none=>none
   | none=>none
 | .sl t,.imm t' x :: r=>match decEq t' t with | isTrue h=>some (h ▸ x,r) | isFalse _=>none
 | _,_=>none
theorem zbh_:∀ {t:Ty} {l:List AV} {x:t.den} {r:List AV},t.exact l=some (x,r)->l=t.cells x++r:=fun {t}=>by
 induction t with
 | cons a b iha ihb=>
   intro l x r h
   unfold Ty.exact at h
   split at h
   ·rename_i y s e1
    split at h
    ·rename_i z q e2
     cases h
     rw [iha e1,ihb e2]
     show _=(a.cells y++b.cells z)++r
     rw [List.append_assoc]
    ·cases h
   ·cases h
 | int k=>
   intro l x r h
   cases l with
   | nil=>cases h
   | cons v q=>
     cases v with
     | int k' n=>
       unfold Ty.exact at h
       split at h
       ·rename_i hk _;subst hk;cases h;rfl
       ·cases h
     | _=>cases h
 | bool=>
   intro l x r h
   cases l with
   | nil=>cases h
   | cons v q=>
     cases v with
     | bool b=>cases h;rfl
     | _=>cases h
 | str=>
   intro l x r h
   cases l with
   | nil=>cases h
   | cons v q=>
     cases v with
     | str b=>cases h;rfl
     | _=>cases h
 | nil=>intro l x r h;unfold Ty.exact at h;cases h;rfl
 | sl t _=>
   intro l x r h
   cases l with
   | nil=>cases h
   | cons v q=>
     cases v with
     | imm t' z=>
       unfold Ty.exact at h
       split at h
       ·rename_i ht _;subst ht;cases h;rfl
       ·cases h
     | _=>cases h
def Jn_ {β:Type _} (t:Ty) (l:List AV) (F:t.den->Option β):Option β:=match t.exact l with | some (x,[])=>F x | _=>none
theorem qR_ {β:Type _} {t:Ty} {l:List AV} {F:t.den->Option β} {y:β} (h:Jn_ t l F=some y):∃ x,l=t.cells x/\F x=some y:=by
 unfold Jn_ at h
 split at h
 ·rename_i x e
  exact ⟨x,by rw [zbh_ e,List.append_nil],h⟩
 ·cases h
def RoF (f:List AV->List Obj->Option (Prop × AV)):SumK:=.ro fun args objs K=>match f args objs with
 | some (p,v)=>need p (K v)
 | none=>False
def RwF (f:List AV->List Obj->Option (Prop × AV × List Obj)):SumK:=.rw fun args objs K=>match f args objs with
 | some (p,v,o)=>need p (K v o)
 | none=>False
theorem zdX_:IntKind.i64.min=-9223372036854775808:=rfl
theorem zd0_:IntKind.i64.max=9223372036854775807:=rfl
theorem V7_:IntKind.u64.min=0:=rfl
theorem H5_:IntKind.u64.max=18446744073709551615:=rfl
theorem zcD_:IntKind.u8.min=0:=rfl
theorem zcH_:IntKind.u8.max=255:=rfl
theorem zn_:(∀ a b:Bool,((!a)=b)=(a=!b))/\((!true)=false)/\((!false)=true)/\(∀ a b:Bool,((a && b)=true)=(a=true/\b=true))/\(∀ a b:Bool,((a && b)=false)=(a=false\/b=false))/\(∀ (p:Prop) [Decidable p],(decide p=true)=p)/\∀ (p:Prop) [Decidable p],(decide p=false)=¬ p:=
 ⟨fun _ _=>propext Bool.not_eq_eq_eq_not,rfl,rfl,fun _ _=>Bool.and_eq_true _ _,fun _ _=>propext Bool.and_eq_false_iff,fun _ _=>decide_eq_true_eq,fun _ _=>propext decide_eq_false_iff_not⟩
theorem zm_:(∀ n:Nat,((n:Int)).toNat=n)/\∀ k:IntKind,(Ty.int k).dflt=(0:Int):=⟨Int.toNat_natCast,fun _=>rfl⟩
theorem zg_:((∀ a b:Bool,((!a)=b)=(a=!b))/\((!true)=false)/\((!false)=true)/\(∀ a b:Bool,((a && b)=true)=(a=true/\b=true))/\(∀ a b:Bool,((a && b)=false)=(a=false\/b=false))/\(∀ (p:Prop) [Decidable p],(decide p=true)=p)/\∀ (p:Prop) [Decidable p],(decide p=false)=¬ p)/\(∀ n:Nat,((n:Int)).toNat=n)/\∀ k:IntKind,(Ty.int k).dflt=(0:Int):=⟨zn_,zm_⟩
theorem zl_:IntKind.i64.min=-9223372036854775808/\IntKind.i64.max=9223372036854775807/\IntKind.u64.min=0/\IntKind.u64.max=18446744073709551615/\IntKind.u32.min=0/\IntKind.u32.max=4294967295/\IntKind.u16.min=0/\IntKind.u16.max=65535/\IntKind.u8.min=0/\IntKind.u8.max=255:=⟨rfl,rfl,rfl,rfl,rfl,rfl,rfl,rfl,rfl,rfl⟩
theorem qd_ {t:Ty} (h:t=t) (x:List t.den):(h ▸ x:List t.den)=x:=rfl
theorem yu_ {a b:Int} (h:0<=a):a.tmod b=a % b:=Int.tmod_eq_emod_of_nonneg h
theorem kI_ {a b:Int} (h:0<=a):a.tdiv b=a / b:=Int.tdiv_eq_ediv_of_nonneg h
section
variable {P:Program} {Γ:Env} {id:FuncId} {fn:Func} {ir:IR} {rd:List RD}
theorem zjn_ (f:List AV->List Obj->Option (Prop × AV)):Det (RoF f).sum:=fun {args objs K} h=>by
 simp only [RoF,SumK.sum] at h ⊢
 split at h
 ·rename_i p v e
  obtain ⟨hp,hk⟩:=zo_ h
  exact ⟨v,objs,hk,kP_ hp fun _=>⟨rfl,rfl⟩⟩
 ·exact h.elim
theorem uK_ (f:List AV->List Obj->Option (Prop × AV × List Obj)):Det (RwF f).sum:=fun {args objs K} h=>by
 simp only [RwF,SumK.sum] at h ⊢
 split at h
 ·rename_i p v o e
  obtain ⟨hp,hk⟩:=zo_ h
  exact ⟨v,o,hk,kP_ hp fun _=>⟨rfl,rfl⟩⟩
 ·exact h.elim
structure NdR where
 p:Prop
 α:Type
 R:α->Prop
 V:α->AV
 O:α->List Obj
theorem hl_ (hf:P.funcs[id]?=some fn) (hok:zj_ P fn ir rd=true) (hΓ:QN_ P Γ) {args:List AV} {objs:List Obj} {v:AV} {o:List Obj} (hl:args.length=fn.params.size+fn.nfree)
 (h:(∀ v ∈ args,v.wf1)->(∀ o ∈ objs,o.wf)->evFn Γ ir rd args objs fun v' o'=>v'=v/\o'=o):zd_ P id fun a b K=>a=args/\b=objs/\((fun v' o'=>v'=v/\o'=o)=K):=by
 refine zgL_ hf hok hΓ (fun {a b K} hk=>?_) (fun a b K hk=>by rw [hk.1];exact hl) (fun a b K hw ho hk=>?_)
 ·obtain ⟨rfl,rfl,rfl⟩:=hk
  exact ⟨v,o,⟨rfl,rfl⟩,rfl,rfl,rfl⟩
 ·obtain ⟨rfl,rfl,rfl⟩:=hk
  exact h hw ho
theorem zi_ {f:List AV->List Obj->Option (Prop × AV)} (hf:P.funcs[id]?=some fn) (hok:zj_ P fn ir rd=true) (hΓ:QN_ P Γ)
 (h:∀ args objs p v,f args objs=some (p,v)->args.length=fn.params.size+fn.nfree/\((∀ v ∈ args,v.wf1)->(∀ o ∈ objs,o.wf)->p->evFn Γ ir rd args objs fun v' o'=>v'=v/\o'=objs)):zd_ P id (RoF f).sum:=by
 have hc:xX_ P id:=by
  unfold zj_ at hok
  split at hok
  ·rename_i c hb
   simp only [Bool.and_eq_true,decide_eq_true_eq,Bool.not_eq_true'] at hok
   exact ⟨fn,hf,hok.2,by rw [hb];rfl⟩
  ·cases hok
 refine ⟨hc,zjn_ f,fun {I w m args cargs objs K} hH hA hu hS=>?_⟩
 simp only [RoF,SumK.sum] at hS
 split at hS
 ·rename_i p v e
  obtain ⟨hp,hk⟩:=zo_ hS
  obtain ⟨hl,hev⟩:=h args objs p v e
  have:=hl_ hf hok hΓ (v:=v) (o:=objs) hl fun hw ho=>hev hw ho hp
  refine (this.2.2 hH hA hu ⟨rfl,rfl,rfl⟩).mono ?_
  rintro e w' ⟨v',cv,objs',I',m',h1,⟨rfl,rfl⟩,h3⟩
  exact ⟨v',cv,objs',I',m',h1,hk,h3⟩
 ·exact hS.elim
theorem qg_ {f:List AV->List Obj->Option (Prop × AV × List Obj)} (hf:P.funcs[id]?=some fn) (hok:zj_ P fn ir rd=true) (hΓ:QN_ P Γ)
 (h:∀ args objs p v o,f args objs=some (p,v,o)->args.length=fn.params.size+fn.nfree/\((∀ v ∈ args,v.wf1)->(∀ o ∈ objs,o.wf)->p->evFn Γ ir rd args objs fun v' o'=>v'=v/\o'=o)):zd_ P id (RwF f).sum:=by
 have hc:xX_ P id:=by
  unfold zj_ at hok
  split at hok
  ·rename_i c hb
   simp only [Bool.and_eq_true,decide_eq_true_eq,Bool.not_eq_true'] at hok
   exact ⟨fn,hf,hok.2,by rw [hb];rfl⟩
  ·cases hok
 refine ⟨hc,uK_ f,fun {I w m args cargs objs K} hH hA hu hS=>?_⟩
 simp only [RwF,SumK.sum] at hS
 split at hS
 ·rename_i p v o e
  obtain ⟨hp,hk⟩:=zo_ hS
  obtain ⟨hl,hev⟩:=h args objs p v o e
  have:=hl_ hf hok hΓ (v:=v) (o:=o) hl fun hw ho=>hev hw ho hp
  refine (this.2.2 hH hA hu ⟨rfl,rfl,rfl⟩).mono ?_
  rintro e w' ⟨v',cv,objs',I',m',h1,⟨rfl,rfl⟩,h3⟩
  exact ⟨v',cv,objs',I',m',h1,hk,h3⟩
 ·exact hS.elim
inductive Res where
 | one (v:AV) (o:List Obj)
 | br (b:Bool) (x y:Res)
def Res.pick:Res->AV × List Obj
 | .one v o=>(v,o)
 | .br b x y=>if b=true then x.pick else y.pick
def Res.run:Res->(AV->List Obj->Prop)->Prop
 | .one v o,K=>K v o
 | .br b x y,K=>cnd b (x.run K) (y.run K)
theorem Res.run_pick:∀ (r:Res) (K:AV->List Obj->Prop),r.run K ↔ K r.pick.1 r.pick.2
 | .one _ _,_=>Iff.rfl
 | .br b x y,K=>by
   unfold Res.run Res.pick
   cases b with
   | true=>rw [if_pos rfl,<- Res.run_pick x K];exact ⟨fun h=>h true rfl,fun h t e=>by subst e;exact h⟩
   | false=>rw [if_neg (by simp),<- Res.run_pick y K];exact ⟨fun h=>h false rfl,fun h t e=>by subst e;exact h⟩
def RcF (f:List AV->List Obj->Option (Prop × Res)):SumK:=.rw fun args objs K=>match f args objs with
 | some (p,r)=>need p (r.run K)
 | none=>False
def pkF (f:List AV->List Obj->Option (Prop × Res)):List AV->List Obj->Option (Prop × AV × List Obj):=fun args objs=>match f args objs with
 | some (p,r)=>some (p,r.pick.1,r.pick.2)
 | none=>none
theorem zca_ {f:List AV->List Obj->Option (Prop × Res)}:(RcF f).sum=(RwF (pkF f)).sum:=funext fun args=>funext fun objs=>funext fun K=>propext (by
 simp only [RcF,RwF,SumK.sum,pkF]
 cases f args objs with
 | none=>exact Iff.rfl
 | some x=>exact ⟨fun h=>kP_ (zo_ h).1 fun _=>(Res.run_pick _ _).1 (zo_ h).2,fun h=>kP_ (zo_ h).1 fun _=>(Res.run_pick _ _).2 (zo_ h).2⟩)
theorem zdL_ {f:List AV->List Obj->Option (Prop × Res)} {args:List AV} {objs:List Obj} {p:Prop} {v:AV} {o:List Obj} (h:pkF f args objs=some (p,v,o)):∃ r,f args objs=some (p,r)/\v=r.pick.1/\o=r.pick.2:=by
 unfold pkF at h
 split at h
 ·rename_i p r e;cases h;exact ⟨r,e,rfl,rfl⟩
 ·cases h
theorem u5_ {f:List AV->List Obj->Option (Prop × Res)} (hf:P.funcs[id]?=some fn) (hok:zj_ P fn ir rd=true) (hΓ:QN_ P Γ)
 (h:∀ args objs p r,f args objs=some (p,r)->args.length=fn.params.size+fn.nfree/\((∀ v ∈ args,v.wf1)->(∀ o ∈ objs,o.wf)->p->evFn Γ ir rd args objs fun v' o'=>v'=r.pick.1/\o'=r.pick.2)):zd_ P id (RcF f).sum:=by
 rw [zca_]
 refine qg_ hf hok hΓ fun args objs p v o e=>?_
 obtain ⟨r,e2,rfl,rfl⟩:=zdL_ e
 exact h args objs p r e2
theorem zbB_ {I:Nat->Prop} {w:World} {m:M} {k:Nat} (hu:m.used k) (h1:m.blk k=none) (h2:m.cap k=0) (h3:m.len k=0):∀ (pre:List AV) {post:List AV} {r:List Value},Zf_ I w m (pre++.nils :: post) r->Zf_ I w m (pre++.own k :: post) r
 | [],post,v :: r,h=>⟨⟨none,0,0,h.1,hu,h3.symm,h2.symm,Nat.le_refl _,Nat.zero_le _,.inl ⟨h1,rfl,rfl⟩⟩,h.2⟩
 | a :: pre,post,v :: r,h=>⟨h.1,zbB_ hu h1 h2 h3 pre h.2⟩
 | [],_,[],h=>h.elim
 | _ :: _,_,[],h=>h.elim
theorem BJ_ {t:Ty} {f g:List AV->List Obj->Option (Prop × AV × List Obj)} (hs:zd_ P id (RwF f).sum)
 (h:∀ args objs p v o,g args objs=some (p,v,o)->∃ i pre post l,f args objs=some (p,v,l)/\l[i]?=some (.box (pre++.nils :: post))/\o=l.set i (.box (pre++.own l.length :: post))++[.row false t []]):zd_ P id (RwF g).sum:=by
 refine ⟨hs.1,uK_ g,fun {I w m args cargs objs K} hH hA hu hS=>?_⟩
 simp only [RwF,SumK.sum] at hS
 split at hS
 ·rename_i p v o e0
  obtain ⟨hp,hk⟩:=zo_ hS
  obtain ⟨i,pre,post,l,hf,hi,ho⟩:=h args objs p v o e0
  clear e0
  subst ho
  have hS':(RwF f).sum args objs fun v' o'=>v'=v/\o'=l:=by
   unfold RwF SumK.sum;simp only;rw [hf];exact kP_ hp fun _=>⟨rfl,rfl⟩
  refine (hs.2.2 hH hA hu hS').mono ?_
  rintro e w' ⟨v',cv,objs',I',m',rfl,⟨rfl,rfl⟩,hL⟩
  have hnu:¬ m'.used objs'.length:=fun h=>absurd (hL.used _ h) (Nat.lt_irrefl _)
  have hle:m'.le (m'.push objs'.length none 0 0 t.size):=M.push_le hnu
  have hilt:i < objs'.length:=(List.getElem?_eq_some_iff.1 hi).1
  have hget:∀ j,ofL (objs'.set i (.box (pre++.own objs'.length :: post))++[.row false t []]) j=if j=objs'.length then some (.row false t []) else if j=i then some (.box (pre++.own objs'.length :: post)) else ofL objs' j:=fun j=>by
   unfold ofL
   by_cases h1:j=objs'.length
   ·subst h1;rw [if_pos rfl,List.getElem?_append_right (by simp)];simp
   ·rw [if_neg h1]
    by_cases h2:j=i
    ·subst h2;rw [if_pos rfl,List.getElem?_append_left (by simpa using hilt),List.getElem?_set_self (by simpa using hilt)]
    ·rw [if_neg h2]
     by_cases h3:j < objs'.length
     ·rw [List.getElem?_append_left (by simpa using h3),List.getElem?_set_ne (fun e=>h2 e.symm)]
     ·rw [List.getElem?_eq_none (by simp;omega),List.getElem?_eq_none (by omega)]
  have hsame:∀ j,j ≠ objs'.length->(m'.push objs'.length none 0 0 t.size).blk j=m'.blk j:=fun j hj=>if_neg hj
  have hold:∀ j o,j ≠ objs'.length->ofL (objs'.set i (.box (pre++.own objs'.length :: post))++[.row false t []]) j=some o->∃ o',ofL objs' j=some o'/\o'.live=o.live/\o'.mut=o.mut/\(∀ t x,o=.row true t x->o'=o):=fun j o hj e=>by
   rw [hget,if_neg hj] at e
   split at e
   ·rename_i h2;subst h2;cases e;exact ⟨_,hi,rfl,rfl,fun _ _ h=>by cases h⟩
   ·exact ⟨o,e,rfl,rfl,fun _ _ _=>rfl⟩
  refine ⟨v',cv,_,I',m'.push objs'.length none 0 0 t.size,rfl,hk,⟨bR_ (fun _ h=>h) (fun _ _=>rfl) hle _ _ hL.rv,⟨fun j hj=>?_,fun j o e=>?_,fun j j' o o' b e e' hl hl' hb hb'=>?_,fun j o b e hm hb=>?_,fun j t' x b e hb=>?_,hL.H.Ilt⟩,hL.E.trans ⟨fun _ h=>h,fun _ _=>rfl,hle⟩,fun j hj=>?_,?_,hL.fr,hL.new,fun j o b e hl hb=>?_⟩⟩
  ·by_cases h1:j=objs'.length
   ·exact .inr h1
   ·rw [hget,if_neg h1] at hj
    refine .inl (hL.H.lt j ?_)
    by_cases h2:j=i
    ·subst h2;intro h;have hi':ofL objs' j=_:=hi;rw [hi'] at h;cases h
    ·rwa [if_neg h2] at hj
  ·by_cases h1:j=objs'.length
   ·subst h1
    rw [hget,if_pos rfl] at e;cases e
    exact ⟨M.push_sz _ _ _ _ _ _,(M.push_len _ _ _ _ _ _).symm,Nat.zero_le _,by rw [M.push_cap];exact Nat.zero_le _,.inl ⟨M.push_blk _ _ _ _ _ _,M.push_cap _ _ _ _ _ _⟩⟩
   ·rw [hget,if_neg h1] at e
    by_cases h2:j=i
    ·subst h2
     rw [if_pos rfl] at e;cases e
     have hu':m'.used j:=hL.H.lt j (by have hi':ofL objs' j=_:=hi;rw [hi'];intro h;cases h)
     have:=(hL.H.obj j _ hi).mono (fun _ h=>h) (fun _ _=>rfl) hle hu' (fun _ _ _=>rfl)
     obtain ⟨b,cs,T,fz,q1,q2,q3,q4⟩:=this
     exact ⟨b,cs,T,fz,q1,q2,q3,zbB_ (by exact Or.inr rfl) (M.push_blk _ _ _ _ _ _) (M.push_cap _ _ _ _ _ _) (M.push_len _ _ _ _ _ _) pre q4⟩
    ·rw [if_neg h2] at e
     have hu':m'.used j:=hL.H.lt j (by rw [e];intro h;cases h)
     exact (hL.H.obj j _ e).mono (fun _ h=>h) (fun _ _=>rfl) hle hu' (fun _ _ _=>rfl)
  ·by_cases h1:j=objs'.length
   ·subst h1;rw [M.push_blk] at hb;cases hb
   ·by_cases h2:j'=objs'.length
    ·subst h2;rw [M.push_blk] at hb';cases hb'
    ·rw [hsame _ h1] at hb;rw [hsame _ h2] at hb'
     obtain ⟨p1,k1,k2,_⟩:=hold j o h1 e
     obtain ⟨p2,k4,k5,_⟩:=hold j' o' h2 e'
     exact hL.H.inj j j' p1 p2 b k1 k4 (by rw [k2];exact hl) (by rw [k5];exact hl') hb hb'
  ·by_cases h1:j=objs'.length
   ·subst h1;rw [M.push_blk] at hb;cases hb
   ·rw [hsame _ h1] at hb
    obtain ⟨p1,k1,_,k3,_⟩:=hold j o h1 e
    exact hL.H.notI j p1 b k1 (by rw [k3];exact hm) hb
  ·by_cases h1:j=objs'.length
   ·subst h1;rw [M.push_blk] at hb;cases hb
   ·rw [hsame _ h1] at hb
    obtain ⟨p1,k1,_,_,k4⟩:=hold j _ h1 e
    rw [k4 _ _ rfl] at k1
    exact hL.H.isI j t' x b k1 hb
  ·rcases hj with hj | hj
   ·have:=hL.used j hj;simp;omega
   ·subst hj;simp
  ·have:=hL.len;simp;omega
  ·by_cases h1:j=objs'.length
   ·subst h1;rw [M.push_blk] at hb;cases hb
   ·rw [hsame _ h1] at hb
    have e':ofL (objs'.set i (.box (pre++.own objs'.length :: post))++[.row false t []]) j=some o:=e
    obtain ⟨p1,k1,k2,k3,_⟩:=hold j o h1 e'
    rcases hL.own j p1 b k1 (by rw [k2];exact hl) hb with h | ⟨q,o',r1,r2,r3,r4⟩
    ·exact .inl h
    ·exact .inr ⟨q,o',r1,r2,fun hm=>r3 (by rw [k3];exact hm),r4⟩
 ·exact hS.elim
theorem hL_ {I:Nat->Prop} {w:World} {m m':M} {j k:Nat} (hle:m.le m') (hk:∀ ao len cap,RO m j ao len cap->RO m' k ao len cap):∀ (pre:List AV) {post:List AV} {r:List Value},Zf_ I w m (pre++.own j :: post) r->Zf_ I w m' (pre++.own k :: post) r
 | [],post,v :: r,h=>by
   obtain ⟨ao,len,cap,e,hO⟩:=h.1
   exact ⟨⟨ao,len,cap,e,hk _ _ _ hO⟩,Qb_ (fun _ h=>h) (fun _ _=>rfl) hle _ _ h.2⟩
 | a :: pre,post,v :: r,h=>⟨kh_ (fun _ h=>h) (fun _ _=>rfl) hle _ _ h.1,hL_ hle hk pre h.2⟩
 | [],_,[],h=>h.elim
 | _ :: _,_,[],h=>h.elim
def xi_ (l:List Obj) (i j:Nat) (pre post:List AV) (t:Ty) (x:List t.den):List Obj:=((l.set i (.box (pre++.own l.length :: post))).set j .dead)++[.row false t x]
theorem zhE_ {f g:List AV->List Obj->Option (Prop × AV × List Obj)} (hs:zd_ P id (RwF f).sum)
 (h:∀ args objs p v o,g args objs=some (p,v,o)->∃ l,f args objs=some (p,v,l)/\(o=l\/∃ i j pre post t x,l[i]?=some (.box (pre++.own j :: post))/\l[j]?=some (.row false t x)/\o=xi_ l i j pre post t x)):zd_ P id (RwF g).sum:=by
 refine ⟨hs.1,uK_ g,fun {I w m args cargs objs K} hH hA hu hS=>?_⟩
 simp only [RwF,SumK.sum] at hS
 split at hS
 ·rename_i p v o e0
  obtain ⟨hp,hk⟩:=zo_ hS
  obtain ⟨l,hf,hor⟩:=h args objs p v o e0
  clear e0
  have hS':(RwF f).sum args objs fun v' o'=>v'=v/\o'=l:=by
   unfold RwF SumK.sum;simp only;rw [hf];exact kP_ hp fun _=>⟨rfl,rfl⟩
  refine (hs.2.2 hH hA hu hS').mono ?_
  rintro e w' ⟨v',cv,objs',I',m',rfl,⟨rfl,rfl⟩,hL⟩
  rcases hor with rfl | ⟨i,j,pre,post,t,x,hi,hj,rfl⟩
  ·exact ⟨v',cv,_,I',m',rfl,hk,hL⟩
  have hnu:¬ m'.used objs'.length:=fun h=>absurd (hL.used _ h) (Nat.lt_irrefl _)
  have hle:m'.le (m'.push objs'.length (m'.blk j) (m'.cap j) (m'.len j) (m'.sz j)):=M.push_le hnu
  have hilt:i < objs'.length:=(List.getElem?_eq_some_iff.1 hi).1
  have hjlt:j < objs'.length:=(List.getElem?_eq_some_iff.1 hj).1
  have hij:i ≠ j:=fun e=>by subst e;rw [hi] at hj;cases hj
  have hget:∀ q,ofL (xi_ objs' i j pre post t x) q=if q=objs'.length then some (.row false t x) else if q=j then some .dead else if q=i then some (.box (pre++.own objs'.length :: post)) else ofL objs' q:=fun q=>by
   unfold ofL xi_
   by_cases h1:q=objs'.length
   ·subst h1;rw [if_pos rfl,List.getElem?_append_right (by simp)];simp
   ·rw [if_neg h1]
    by_cases h2:q=j
    ·subst h2;rw [if_pos rfl,List.getElem?_append_left (by simpa using hjlt),List.getElem?_set_self (by simpa using hjlt)]
    ·rw [if_neg h2]
     by_cases h3:q=i
     ·subst h3;rw [if_pos rfl,List.getElem?_append_left (by simpa using hilt),List.getElem?_set_ne (fun e=>h2 e.symm),List.getElem?_set_self (by simpa using hilt)]
     ·rw [if_neg h3]
      by_cases h4:q < objs'.length
      ·rw [List.getElem?_append_left (by simpa using h4),List.getElem?_set_ne (fun e=>h2 e.symm),List.getElem?_set_ne (fun e=>h3 e.symm)]
      ·rw [List.getElem?_eq_none (by simp;omega),List.getElem?_eq_none (by omega)]
  have hblk:∀ q,q ≠ objs'.length->(m'.push objs'.length (m'.blk j) (m'.cap j) (m'.len j) (m'.sz j)).blk q=m'.blk q:=fun q hq=>if_neg hq
  have hold:∀ q o,q ≠ objs'.length->ofL (xi_ objs' i j pre post t x) q=some o->o.live=true->q ≠ j/\∃ o',ofL objs' q=some o'/\o'.live=o.live/\o'.mut=o.mut/\(∀ t x,o=.row true t x->o'=o):=fun q o hq e hl=>by
   rw [hget,if_neg hq] at e
   split at e
   ·cases e;cases hl
   ·rename_i h2
    split at e
    ·rename_i h3;subst h3;cases e;exact ⟨h2,_,hi,rfl,rfl,fun _ _ h=>by cases h⟩
    ·exact ⟨h2,o,e,rfl,rfl,fun _ _ _=>rfl⟩
  have hRO:∀ ao len cap,RO m' j ao len cap->RO (m'.push objs'.length (m'.blk j) (m'.cap j) (m'.len j) (m'.sz j)) objs'.length ao len cap:=fun ao len cap ⟨_,r2,r3,r4,r5,r6⟩=>
   ⟨by exact Or.inr rfl,by rw [M.push_len];exact r2,by rw [M.push_cap];exact r3,r4,r5,by rw [M.push_blk];exact r6⟩
  have ml:∀ {o:Obj},o.mut=true->o.live=true:=fun {o} h=>by cases o<;>first | rfl | cases h
  have hj':ofL objs' j=some (.row false t x):=hj
  refine ⟨v',cv,_,I',m'.push objs'.length (m'.blk j) (m'.cap j) (m'.len j) (m'.sz j),rfl,hk,⟨bR_ (fun _ h=>h) (fun _ _=>rfl) hle _ _ hL.rv,⟨fun q hq=>?_,fun q o e=>?_,fun q q' o o' b e e' hl hl' hb hb'=>?_,fun q o b e hm hb=>?_,fun q t' x' b e hb=>?_,hL.H.Ilt⟩,hL.E.trans ⟨fun _ h=>h,fun _ _=>rfl,hle⟩,fun q hq=>?_,?_,hL.fr,hL.new,fun q o b e hl hb=>?_⟩⟩
  ·by_cases h1:q=objs'.length
   ·exact .inr h1
   ·refine .inl ?_
    by_cases h2:q=j
    ·subst h2;exact hL.H.lt q (by rw [hj'];intro h;cases h)
    ·by_cases h3:q=i
     ·subst h3;exact hL.H.lt q (by have hi':ofL objs' q=_:=hi;rw [hi'];intro h;cases h)
     ·rw [hget,if_neg h1,if_neg h2,if_neg h3] at hq
      exact hL.H.lt q hq
  ·by_cases h1:q=objs'.length
   ·subst h1
    rw [hget,if_pos rfl] at e;cases e
    obtain ⟨q1,q2,q3,q4,q5⟩:=hL.H.obj j _ hj'
    exact ⟨by rw [M.push_sz];exact q1,by rw [M.push_len];exact q2,by rw [M.push_cap];exact q3,by rw [M.push_cap];exact q4,by rw [M.push_blk,M.push_cap];exact q5⟩
   ·rw [hget,if_neg h1] at e
    by_cases h2:q=j
    ·subst h2;rw [if_pos rfl] at e;cases e;trivial
    ·rw [if_neg h2] at e
     by_cases h3:q=i
     ·subst h3
      rw [if_pos rfl] at e;cases e
      obtain ⟨b,cs,T,fz,q1,q2,q3,q4⟩:=hL.H.obj q _ hi
      exact ⟨b,cs,T,fz,by rw [hblk _ h1];exact q1,q2,q3,hL_ hle hRO pre q4⟩
     ·rw [if_neg h3] at e
      have hu':m'.used q:=hL.H.lt q (by rw [e];intro h;cases h)
      exact (hL.H.obj q _ e).mono (fun _ h=>h) (fun _ _=>rfl) hle hu' (fun _ _ _=>rfl)
  ·by_cases h1:q=objs'.length
   ·subst h1
    rw [M.push_blk] at hb
    by_cases h2:q'=objs'.length
    ·exact h2.symm
    ·rw [hblk _ h2] at hb'
     obtain ⟨n1,p1,k1,k2,_⟩:=hold q' o' h2 e' hl'
     exact absurd (hL.H.inj j q' _ p1 b hj' k1 rfl (by rw [k2];exact hl') hb hb').symm n1
   ·rw [hblk _ h1] at hb
    obtain ⟨n1,p1,k1,k2,_⟩:=hold q o h1 e hl
    by_cases h2:q'=objs'.length
    ·subst h2
     rw [M.push_blk] at hb'
     exact absurd (hL.H.inj q j p1 _ b k1 hj' (by rw [k2];exact hl) rfl hb hb') n1
    ·rw [hblk _ h2] at hb'
     obtain ⟨_,p2,k4,k5,_⟩:=hold q' o' h2 e' hl'
     exact hL.H.inj q q' p1 p2 b k1 k4 (by rw [k2];exact hl) (by rw [k5];exact hl') hb hb'
  ·by_cases h1:q=objs'.length
   ·subst h1;rw [M.push_blk] at hb
    exact hL.H.notI j _ b hj' rfl hb
   ·rw [hblk _ h1] at hb
    obtain ⟨_,p1,k1,_,k3,_⟩:=hold q o h1 e (ml hm)
    exact hL.H.notI q p1 b k1 (by rw [k3];exact hm) hb
  ·by_cases h1:q=objs'.length
   ·subst h1;rw [hget,if_pos rfl] at e;cases e
   ·rw [hblk _ h1] at hb
    obtain ⟨_,p1,k1,_,_,k4⟩:=hold q _ h1 e rfl
    rw [k4 _ _ rfl] at k1
    exact hL.H.isI q t' x' b k1 hb
  ·have hlm:(xi_ objs' i j pre post t x).length=objs'.length+1:=by unfold xi_;simp
   rw [hlm]
   rcases hq with hq | hq
   ·have:=hL.used q hq;omega
   ·omega
  ·have:=hL.len
   have hlm:(xi_ objs' i j pre post t x).length=objs'.length+1:=by unfold xi_;simp
   omega
  ·by_cases h1:q=objs'.length
   ·subst h1;rw [M.push_blk] at hb
    have e':ofL (xi_ objs' i j pre post t x) objs'.length=some o:=e
    rw [hget,if_pos rfl] at e';cases e'
    rcases hL.own j _ b hj' rfl hb with h | ⟨s,o',r1,r2,r3,r4⟩
    ·exact .inl h
    ·exact .inr ⟨s,o',r1,r2,fun hm=>r3 rfl,r4⟩
   ·rw [hblk _ h1] at hb
    have e':ofL (xi_ objs' i j pre post t x) q=some o:=e
    obtain ⟨_,p1,k1,k2,k3,_⟩:=hold q o h1 e' hl
    rcases hL.own q p1 b k1 (by rw [k2];exact hl) hb with h | ⟨s,o',r1,r2,r3,r4⟩
    ·exact .inl h
    ·exact .inr ⟨s,o',r1,r2,fun hm=>r3 (by rw [k3];exact hm),r4⟩
 ·exact hS.elim
theorem zhF_ {f g:List AV->List Obj->Option (Prop × AV × List Obj)} (hs:zd_ P id (RwF f).sum)
 (h:∀ args objs p v o,g args objs=some (p,v,o)->∃ l j,f args objs=some (p,v,l)/\j < l.length/\o=l.set j .dead):zd_ P id (RwF g).sum:=by
 refine ⟨hs.1,uK_ g,fun {I w m args cargs objs K} hH hA hu hS=>?_⟩
 simp only [RwF,SumK.sum] at hS
 split at hS
 ·rename_i p v o e0
  obtain ⟨hp,hk⟩:=zo_ hS
  obtain ⟨l,j,hf,hjl,ho⟩:=h args objs p v o e0
  clear e0
  subst ho
  have hS':(RwF f).sum args objs fun v' o'=>v'=v/\o'=l:=by
   unfold RwF SumK.sum;simp only;rw [hf];exact kP_ hp fun _=>⟨rfl,rfl⟩
  refine (hs.2.2 hH hA hu hS').mono ?_
  rintro e w' ⟨v',cv,objs',I',m',rfl,⟨rfl,rfl⟩,hL⟩
  have hget:∀ q,ofL (objs'.set j .dead) q=if q=j then some .dead else ofL objs' q:=fun q=>by
   unfold ofL
   by_cases h1:q=j
   ·subst h1;rw [if_pos rfl,List.getElem?_set_self hjl]
   ·rw [if_neg h1,List.getElem?_set_ne (fun e=>h1 e.symm)]
  have hold:∀ q o,ofL (objs'.set j .dead) q=some o->o.live=true->ofL objs' q=some o:=fun q o e hl=>by
   rw [hget] at e
   split at e
   ·cases e;cases hl
   ·exact e
  have ml:∀ {o:Obj},o.mut=true->o.live=true:=fun {o} h=>by cases o<;>first | rfl | cases h
  refine ⟨v',cv,_,I',m',rfl,hk,⟨hL.rv,⟨fun q hq=>?_,fun q o e=>?_,fun q q' o o' b e e' hl hl' hb hb'=>hL.H.inj q q' o o' b (hold _ _ e hl) (hold _ _ e' hl') hl hl' hb hb',fun q o b e hm hb=>hL.H.notI q o b (hold _ _ e (ml hm)) hm hb,fun q t x b e hb=>hL.H.isI q t x b (hold _ _ e rfl) hb,hL.H.Ilt⟩,hL.E,fun q hq=>by rw [List.length_set];exact hL.used q hq,by rw [List.length_set];exact hL.len,hL.fr,hL.new,fun q o b e hl hb=>hL.own q o b (hold q o e hl) hl hb⟩⟩
  ·by_cases h1:q=j
   ·subst h1;exact hL.H.lt q (by unfold ofL;rw [List.getElem?_eq_getElem hjl];intro h;cases h)
   ·rw [hget,if_neg h1] at hq;exact hL.H.lt q hq
  ·rw [hget] at e
   split at e
   ·cases e;trivial
   ·exact hL.H.obj q o e
 ·exact hS.elim
theorem zfT_ {W:List AV->List Obj->Option (Prop × Res)} (hs:zd_ P id (RcF W).sum):zd_ P id (RwF (pkF W)).sum:=by rw [<- zca_];exact hs
theorem KY_ {b:Bool} {x y:Res} (h:b=true):(Res.br b x y).pick=x.pick:=if_pos h
theorem QZ_ {b:Bool} {x y:Res} (h:b=false):(Res.br b x y).pick=y.pick:=if_neg (by rw [h];simp)
theorem yO_ {W:List AV->List Obj->Option (Prop × Res)} {g:List AV->List Obj->Option (Prop × AV × List Obj)} (hs:zd_ P id (RcF W).sum)
 (h:∀ args objs p v o,g args objs=some (p,v,o)->∃ r l,W args objs=some (p,r)/\r.pick=(v,l)/\(o=l\/∃ i j pre post t x,l[i]?=some (.box (pre++.own j :: post))/\l[j]?=some (.row false t x)/\o=xi_ l i j pre post t x)):zd_ P id (RwF g).sum:=
 zhE_ (zfT_ hs) fun args objs p v o e=>by
  obtain ⟨r,l,h1,h2,h3⟩:=h args objs p v o e
  refine ⟨l,?_,h3⟩
  unfold pkF;rw [h1];simp only;rw [h2]
theorem zhQ_ {W:List AV->List Obj->Option (Prop × Res)} {g:List AV->List Obj->Option (Prop × AV × List Obj)} (hs:zd_ P id (RcF W).sum)
 (h:∀ args objs p v o,g args objs=some (p,v,o)->∃ r l j,W args objs=some (p,r)/\r.pick=(v,l)/\j < l.length/\o=l.set j .dead):zd_ P id (RwF g).sum:=
 zhF_ (zfT_ hs) fun args objs p v o e=>by
  obtain ⟨r,l,j,h1,h2,h3,h4⟩:=h args objs p v o e
  refine ⟨l,j,?_,h3,h4⟩
  unfold pkF;rw [h1];simp only;rw [h2]
end
end Go.Eng
namespace Go.Eng
set_option linter.unusedVariables false
set_option linter.unusedSimpArgs false
open Go.RowKit
def XH_ (w:World):Nat->Prop:=fun b=>b < w.heap.size
def noM:M:=⟨fun _=>none,fun _=>0,fun _=>0,fun _=>0,fun _=>False⟩
theorem ho_ {P:Program} {id:FuncId} {f:List AV->List Obj->Option (Prop × AV)} (h:zd_ P id (RoF f).sum) {w:World} {args:List AV} {cargs:Array Value} (hA:Kk_ (XH_ w) w noM args cargs.toList) (hf:f args []=some (True,.bool true)):
 Calls P id cargs w fun e w'=>e=.returned (.bool true)/\Below w.heap.size w w':=by
 have hH:HRel (XH_ w) w noM (ofL []):=⟨fun i hi=>absurd rfl hi,fun i o e=>(by cases e),fun i j o o' b e=>(by cases e),fun i o b e=>(by cases e),fun i t x b e=>(by cases e),fun b hb=>hb⟩
 have hS:(RoF f).sum args [] (fun v _=>v=.bool true):=by
  simp only [RoF,SumK.sum,hf]
  exact kP_ trivial fun _=>trivial
 refine (h.2.2 hH hA (fun i hi=>hi.elim) hS).mono ?_
 rintro e w' ⟨v,cv,objs',I',m',rfl,rfl,hL⟩
 have hv:cv=.bool true:=hL.rv
 subst hv
 exact ⟨rfl,hL.fr.below fun b _ ⟨i,o,e,_⟩=>by cases e⟩
end Go.Eng
namespace Go.Eng
set_option linter.unusedVariables false
set_option linter.unusedSimpArgs false
open Go.RowKit Go.ChangeShapes Go.WideShapes
def tyB (P:Program):Ty->(TypeId->Bool) × (List (TypeId × Nat)->Nat->Bool)
 | .int k=>(fun t=>match P.underlying t with | some (.int k')=>k' == k | _=>false,fun _ _=>false)
 | .bool=>(fun t=>match P.underlying t with | some .bool=>true | _=>false,fun _ _=>false)
 | .str=>(fun t=>match P.underlying t with | some .string=>true | _=>false,fun _ _=>false)
 | .sl a=>(fun t=>match P.underlying t with | some (.slice e)=>P.cellsOf e == a.size && decide (0 < a.size) && (tyB P a).1 e | _=>false,fun _ _=>false)
 | .nil=>(fun t=>match P.underlying t with | some (.struct fs)=>fs.isEmpty && P.cellsOf t == 0 | _=>false,fun l _=>l.isEmpty)
 | .cons a b=>
   let p:List (TypeId × Nat)->Nat->Bool:=fun l off=>match l with
    | (t,o) :: r=>o == off && P.cellsOf t == a.size && (tyB P a).1 t && (tyB P b).2 r (off+a.size)
    | []=>false
   (fun t=>P.cellsOf t == a.size+b.size && (match P.underlying t with
     | some (.struct fs)=>p (fs.toList.map fun f=>(f.type,f.offset)) 0
     | some (.array n e)=>p ((List.range n).map fun i=>(e,i*P.cellsOf e)) 0
     | _=>false),p)
theorem zja_ {k:IntKind} {n:Int} (h:(Lit.int k n).wf=true):inK k n:=by
 simpa [Lit.wf,inK] using h
section
variable {H:Type} {enc:TypeId × Value->H} {P:Program} {W:World}
theorem V2_:∀ (ty:Ty),(∀ (fuel:Nat) (t:TypeId) (cs:List Value) (x:DataW H × List MemPlace),(tyB P ty).1 t=true->DataW.trod enc P W 0 (fun _=>true) true fuel t cs=some x->∃ y:ty.den,RC (XH_ W) W ty y cs)/\
 (∀ (fuel:Nat) (l:List (TypeId × Nat)) (off:Nat) (cs:List Value),(tyB P ty).2 l off=true->cs.length=off+ty.size->(∀ (i:Nat) t o,l[i]?=some (t,o)->∃ x,DataW.trod enc P W 0 (fun _=>true) true fuel t ((cs.drop o).take (P.cellsOf t))=some x)->∃ y:ty.den,RC (XH_ W) W ty y (cs.drop off))
 | .int k=>by
   refine ⟨fun fuel t cs x ht h=>?_,fun fuel l off cs h=>by cases h⟩
   simp only [tyB] at ht
   split at ht
   ·rename_i k' hu
    simp only [beq_iff_eq] at ht
    subst ht
    obtain ⟨n,rfl,_,hw⟩:=DataW.trod_int hu h
    exact ⟨n,rfl,zja_ hw⟩
   ·cases ht
 | .bool=>by
   refine ⟨fun fuel t cs x ht h=>?_,fun fuel l off cs h=>by cases h⟩
   simp only [tyB] at ht
   split at ht
   ·rename_i hu
    obtain ⟨b,rfl,_⟩:=DataW.trod_bool hu h
    exact ⟨b,rfl⟩
   ·cases ht
 | .str=>by
   refine ⟨fun fuel t cs x ht h=>?_,fun fuel l off cs h=>by cases h⟩
   simp only [tyB] at ht
   split at ht
   ·rename_i hu
    obtain ⟨s,rfl,_,hs⟩:=DataW.trod_string hu h
    exact ⟨Zj_ s,s,rfl,rfl,hs⟩
   ·cases ht
 | .sl a=>by
   refine ⟨fun fuel t cs x ht h=>?_,fun fuel l off cs h=>by cases h⟩
   simp only [tyB] at ht
   split at ht
   ·rename_i e hu
    simp only [Bool.and_eq_true,beq_iff_eq,decide_eq_true_eq] at ht
    obtain ⟨⟨hc,hpos0⟩,ha⟩:=ht
    rcases DataW.trod_slice hu h with ⟨rfl,_⟩ | ⟨ad,len,cap,elems,rest,n,_,rfl,_,hb,hl,hm,hlen,hel,_,_⟩
    ·exact ⟨([]:List a.den),none,0,0,rfl,rfl,Nat.le_refl _,Nat.zero_le _,fun h=>absurd h (by omega)⟩
    ·have each:∀ i,i < len->∃ (y:a.den) (es:List Value),RC (XH_ W) W a y es/\es.length=a.size/\∀ j (hj:j < es.length),W.cell? ((ad.add (i*a.size)).add j)=some es[j]:=fun i hi=>by
      have h1:=hel i hi
      rw [hc] at h1
      have hi':i < elems.length:=by omega
      rw [List.getElem?_eq_getElem hi'] at h1
      obtain ⟨es,e1,e2⟩:=Option.bind_eq_some_iff.1 h1
      obtain ⟨y,hy⟩:=(V2_ a).1 n e es _ ha e2
      obtain ⟨_,k2,k3⟩:=World.cells?_some e1
      exact ⟨y,es,hy,k2,fun j hj=>by rw [k3 j (by omega),List.getElem?_eq_getElem hj]⟩
     have build:∀ m,m<=len->∃ l:List a.den,l.length=m/\∀ i (h:i < l.length),∃ es,RC (XH_ W) W a l[i] es/\∀ j (hj:j < es.length),W.cell? ((ad.add (i*a.size)).add j)=some es[j]:=fun m=>by
      induction m with
      | zero=>intro _;exact ⟨[],rfl,fun i h=>by simp at h⟩
      | succ m ih=>
        intro hm
        obtain ⟨l,h1,h2⟩:=ih (by omega)
        obtain ⟨y,es,h3,_,h4⟩:=each m (by omega)
        refine ⟨l++[y],by simp [h1],fun i hi=>?_⟩
        by_cases hlt:i < l.length
        ·rw [List.getElem_append_left hlt];exact h2 i hlt
        ·have:i=m:=by simp at hi;omega
         subst this
         rw [List.getElem_append_right (by omega)]
         simp only [List.getElem_singleton]
         exact ⟨es,h3,h4⟩
     obtain ⟨l,h1,h2⟩:=build len (Nat.le_refl _)
     refine ⟨l,some ad,len,cap,rfl,h1.symm,hl,hm,fun hpos=>?_⟩
     obtain ⟨es,q1,q2⟩:=h2 0 (by omega)
     have hes:=ZU_ a _ _ q1
     have hc0:=q2 0 (by omega)
     rw [Nat.zero_mul] at hc0
     obtain ⟨b,off,spot⟩:=ad
     have hspot:spot=none:=by simpa [Addr.add] using World.cell?_spot hc0
     subst hspot
     refine ⟨b,off,rfl,?_,fun i hi=>?_⟩
     ·unfold XH_
      simp only [qr_] at hc0
      unfold World.cell? at hc0
      cases hb:W.heap[b]? with
      | none=>simp [hb] at hc0
      | some o=>exact q5_ hb
     ·obtain ⟨es,q1,q2⟩:=h2 i hi
      exact ⟨es,q1,fun j hj=>by have:=q2 j hj;rw [qr_,qr_] at this;exact this⟩
   ·cases ht
 | .nil=>by
   refine ⟨fun fuel t cs x ht h=>?_,fun fuel l off cs h hl _=>⟨(),by simp only [RC];exact List.drop_eq_nil_of_le (by simp [Ty.size] at hl;omega)⟩⟩
   simp only [tyB] at ht
   split at ht
   ·rename_i fs hu
    simp only [Bool.and_eq_true,beq_iff_eq] at ht
    obtain ⟨xs,n,_,_,hl,_⟩:=DataW.trod_struct hu h
    rw [ht.2] at hl
    exact ⟨(),List.eq_nil_of_length_eq_zero hl⟩
   ·cases ht
 | .cons a b=>by
   have key:∀ (fuel:Nat) (l:List (TypeId × Nat)) (off:Nat) (cs:List Value),(tyB P (.cons a b)).2 l off=true->cs.length=off+(a.size+b.size)->(∀ (i:Nat) t o,l[i]?=some (t,o)->∃ x,DataW.trod enc P W 0 (fun _=>true) true fuel t ((cs.drop o).take (P.cellsOf t))=some x)->∃ y:(Ty.cons a b).den,RC (XH_ W) W (.cons a b) y (cs.drop off):=fun fuel l off cs h hl hx=>by
    simp only [tyB] at h
    split at h
    ·rename_i t o r
     simp only [Bool.and_eq_true,beq_iff_eq] at h
     obtain ⟨⟨⟨rfl,hc⟩,ha⟩,hr⟩:=h
     obtain ⟨x,h1⟩:=hx 0 t o rfl
     obtain ⟨y,hy⟩:=(V2_ a).1 fuel t _ x ha h1
     obtain ⟨z,hz⟩:=(V2_ b).2 fuel r (o+a.size) cs hr (by omega) fun i t' o' hi=>hx (i+1) t' o' (by simpa using hi)
     refine ⟨(y,z),?_⟩
     simp only [RC]
     refine ⟨_,_,?_,hy,hz⟩
     rw [hc,<- List.drop_drop,List.take_append_drop]
    ·cases h
   refine ⟨fun fuel t cs x ht h=>?_,fun fuel l off cs h hl hx=>key fuel l off cs h (by simpa [Ty.size] using hl) hx⟩
   have ht':P.cellsOf t == a.size+b.size/\(match P.underlying t with
    | some (.struct fs)=>(tyB P (.cons a b)).2 (fs.toList.map fun f=>(f.type,f.offset)) 0
    | some (.array n e)=>(tyB P (.cons a b)).2 ((List.range n).map fun i=>(e,i*P.cellsOf e)) 0
    | _=>false)=true:=by
    simp only [tyB,Bool.and_eq_true] at ht ⊢
    exact ht
   obtain ⟨hc,hm⟩:=ht'
   simp only [beq_iff_eq] at hc
   split at hm
   ·rename_i fs hu
    obtain ⟨xs,n,_,_,hl,hn,hf⟩:=DataW.trod_struct hu h
    have:=key n _ 0 cs hm (by omega) fun i t o hi=>by
     rw [List.getElem?_map,Option.map_eq_some_iff] at hi
     obtain ⟨f,h1,h2⟩:=hi
     cases h2
     have h1':fs[i]?=some f:=by rw [<- Array.getElem?_toList];exact h1
     have hlt:i < xs.length:=by rw [hn];exact (Array.getElem?_eq_some_iff.1 h1').1
     exact ⟨xs[i],by rw [hf i f h1',List.getElem?_eq_getElem hlt]⟩
    rwa [List.drop_zero] at this
   ·rename_i k e hu
    obtain ⟨xs,n,_,_,hl,hn,hf⟩:=DataW.trod_array hu h
    have:=key n _ 0 cs hm (by omega) fun i t o hi=>by
     rw [List.getElem?_map,Option.map_eq_some_iff] at hi
     obtain ⟨j,h1,h2⟩:=hi
     cases h2
     obtain ⟨hlt,rfl⟩:=List.getElem?_eq_some_iff.1 h1
     simp only [List.length_range] at hlt
     simp only [List.getElem_range]
     exact ⟨xs[i],by rw [hf i hlt,List.getElem?_eq_getElem (by omega)]⟩
    rwa [List.drop_zero] at this
   ·cases hm
def v8_ (ty:Ty) (y:ty.den):AV:=match ty with
 | .nil=>.agg (Ty.cells .nil y)
 | .cons a b=>.agg (Ty.cells (.cons a b) y)
 | .int k=>.int k y
 | .bool=>.bool y
 | .str=>.str y
 | .sl t=>.imm t y
def vy_:List Ty->List AV->Prop
 | [],[]=>True
 | ty :: r,a :: l=>(∃ y:ty.den,a=v8_ ty y)/\vy_ r l
 | _,_=>False
def tysB (P:Program):List Ty->List TypeId->Bool
 | [],[]=>true
 | ty :: r,t :: l=>(tyB P ty).1 t && tysB P r l
 | _,_=>false
theorem zki_ {r:Reach} {b0:Nat} {ty:Ty} {t:TypeId} {v:Value} {d:DataW H} {ps:List MemPlace} (ht:(tyB P ty).1 t=true) (hval:Value.okWide P W r b0 t v) (h:DataW.Trod enc P W 0 (fun _=>true) true t v d ps):
 ∃ y:ty.den,RV2 (XH_ W) W noM (v8_ ty y) v:=by
 obtain ⟨fuel,hf⟩:=h
 obtain ⟨y,hy⟩:=(V2_ ty).1 fuel t _ _ ht hf
 refine ⟨y,?_⟩
 have hcells:=ki_ (m:=noM) ty y _ hy
 cases ty with
 | int k=>
   simp only [tyB] at ht
   split at ht
   ·rename_i k' hu
    obtain ⟨n,rfl⟩:=okWide_int hu hval
    exact q3_ (Kl_ hcells.1)
   ·cases ht
 | bool=>
   simp only [tyB] at ht
   split at ht
   ·rename_i hu
    obtain ⟨n,rfl⟩:=okWide_bool hu hval
    exact q3_ (Kl_ hcells.1)
   ·cases ht
 | str=>
   simp only [tyB] at ht
   split at ht
   ·rename_i hu
    obtain ⟨n,rfl⟩:=okWide_string hu hval
    exact q3_ (Kl_ hcells.1)
   ·cases ht
 | sl a=>
   simp only [tyB] at ht
   split at ht
   ·rename_i e hu
    obtain ⟨ao,n,c,rfl⟩:=okWide_slice hu hval
    exact q3_ (Kl_ hcells.1)
   ·cases ht
 | nil=>
   simp only [tyB] at ht
   split at ht
   ·rename_i fs hu
    obtain ⟨cs,rfl,_⟩:=okWide_struct hu hval
    exact q3_ ⟨cs,rfl,hcells⟩
   ·cases ht
 | cons a b=>
   have ha:∃ cs,v=.agg cs:=by
    simp only [tyB,Bool.and_eq_true] at ht
    obtain ⟨_,ht⟩:=ht
    split at ht
    ·rename_i fs hu
     obtain ⟨cs,rfl,_⟩:=okWide_struct hu hval;exact ⟨cs,rfl⟩
    ·rename_i n e hu
     simp only [Value.okWide,hu] at hval
     obtain ⟨cs,h1,_⟩:=hval;exact ⟨cs,h1⟩
    ·cases ht
   obtain ⟨cs,rfl⟩:=ha
   exact q3_ ⟨cs,rfl,hcells⟩
theorem vk_ {r:Reach} {b0:Nat}:∀ {tys:List Ty} {ts:List TypeId} {vs:List Value} {ds:List (DataW H)} {ps:List MemPlace},tysB P tys ts=true->(∀ (j:Nat) t v,ts[j]?=some t->vs[j]?=some v->Value.okWide P W r b0 t v)->
 DataW.TrodAll enc P W 0 (fun _=>true) true ts vs ds ps->∃ avs,Kk_ (XH_ W) W noM avs vs/\vy_ tys avs
 | [],[],[],[],_,_,_,_=>⟨[],trivial,trivial⟩
 | ty :: r,t :: ts,v :: vs,d :: ds,ps,ht,hv,h=>by
   simp only [tysB,Bool.and_eq_true] at ht
   obtain ⟨p,q,h1,h2,rfl⟩:=h
   obtain ⟨y,hy⟩:=zki_ ht.1 (hv 0 t v rfl rfl) h1
   obtain ⟨avs,h3,h4⟩:=vk_ ht.2 (fun j t v h h'=>hv (j+1) t v (by simpa using h) (by simpa using h')) h2
   exact ⟨_ :: avs,⟨hy,h3⟩,⟨y,rfl⟩,h4⟩
 | [],_ :: _,_,_,_,ht,_,_=>by cases ht
 | _ :: _,[],_,_,_,ht,_,_=>by cases ht
 | [],[],_ :: _,_,_,_,_,h=>h.elim
 | [],[],[],_ :: _,_,_,_,h=>h.elim
 | _ :: _,_ :: _,[],_,_,_,_,h=>h.elim
 | _ :: _,_ :: _,_ :: _,[],_,_,_,h=>h.elim
theorem WH_:∀ {ts:List TypeId} {vs:List Value} {ds:List (DataW H)} {ps:List MemPlace},DataW.TrodAll enc P W 0 (fun _=>true) true ts vs ds ps->ds.length=ts.length
 | [],[],[],_,_=>rfl
 | _ :: _,_ :: _,_ :: _,_,⟨_,_,_,h,_⟩=>by rw [List.length_cons,List.length_cons,WH_ h]
 | [],_ :: _,_,_,h=>h.elim
 | [],[],_ :: _,_,h=>h.elim
 | _ :: _,[],_,_,h=>h.elim
 | _ :: _,_ :: _,[],_,h=>h.elim
def tsB (P:Program):List TypeId->Bool
 | []=>true
 | t :: r=>P.readableRec t && decide (t < P.types.size) && tsB P r
theorem len3 {α:Type}:∀ {l:List α},l.length=3->∃ a b c,l=[a,b,c]
 | [a,b,c],_=>⟨a,b,c,rfl⟩
theorem yc_ (hl:laidOutB P=true) {W':World} (hb:Below W.heap.size W W'):∀ {ts:List TypeId} {vs:List Value} {ds:List (DataW H)} {ps:List MemPlace},tsB P ts=true->
 DataW.TrodAll enc P W 0 (fun _=>true) true ts vs ds ps->DataW.TrodAll enc P W' 0 (fun b=>decide (b < W.heap.size)) true ts vs ds ps
 | [],[],[],_,_,h=>h
 | t :: ts,v :: vs,d :: ds,ps,ht,h=>by
   simp only [tsB,Bool.and_eq_true,decide_eq_true_eq] at ht
   obtain ⟨p,q,h1,h2,rfl⟩:=h
   have lt:∀ x ∈ p,x.block < W.heap.size:=by obtain ⟨m,hm⟩:=h1;exact DataW.trod_lt m _ _ _ hm
   exact trodAll_cons_mk (Below.trod hl ht.1.1 ht.1.2 h1 hb lt) (yc_ hl hb ht.2 h2)
 | [],_ :: _,_,_,_,h=>h.elim
 | [],[],_ :: _,_,_,h=>h.elim
 | _ :: _,[],_,_,_,h=>h.elim
 | _ :: _,_ :: _,[],_,_,h=>h.elim
end
end Go.Eng
namespace Go.Eng
abbrev Y1:Ty:=(.cons (.int .i64) (.cons (.int .i64) (.cons .bool (.cons (.int .u64) (.cons (.sl (.int .u8)) (.cons (.sl (.int .u8)) .nil))))))
abbrev Y2:Ty:=(.cons (.int .i64) (.cons (.int .u64) (.cons (.int .u64) (.cons Y1 (.cons (.sl (.int .u8)) .nil)))))
abbrev Y3:Ty:=(.cons (.int .i64) (.cons (.int .u64) (.cons (.int .u64) (.cons (.sl Y2) (.cons (.sl (.int .u8)) .nil)))))
abbrev Y4:Ty:=(.cons (.int .u64) (.cons (.int .u64) (.cons (.int .u64) (.cons (.sl Y2) .nil))))
abbrev Y5:Ty:=(.cons (.int .i64) (.cons (.int .u64) (.cons (.int .u64) (.cons (.int .u64) (.cons (.sl (.int .u8)) .nil)))))
abbrev Y6:Ty:=(.cons (.int .i64) (.cons (.int .u64) (.cons (.sl (.int .u8)) .nil)))
abbrev Y7:Ty:=(.cons (.int .u64) (.cons (.int .u64) (.cons (.sl Y6) .nil)))
abbrev Y8:Ty:=(.cons (.int .u64) (.cons (.int .u64) (.cons .str (.cons (.cons (.int .u64) (.cons (.int .u64) (.cons (.int .u64) (.cons (.int .u64) (.cons (.int .u64) (.cons (.int .u64) (.cons (.int .u64) (.cons (.int .u64) .nil)))))))) .nil))))
abbrev Y9:Ty:=(.cons (.int .i64) (.cons (.sl (.int .u64)) (.cons (.sl (.int .u8)) .nil)))
abbrev YA:Ty:=(.cons (.int .u64) (.cons .str (.cons (.int .u64) (.cons (.int .u64) (.cons (.int .u64) (.cons (.int .u64) (.cons (.sl Y9) .nil)))))))
abbrev YB:Ty:=(.cons (.int .i64) (.cons (.sl (.int .u8)) .nil))
abbrev YC:Ty:=(.cons (.sl (.int .u64)) (.cons (.sl .str) (.cons (.sl Y1) (.cons (.sl Y3) (.cons (.sl Y4) (.cons (.sl Y5) (.cons (.sl (.sl (.int .u64))) (.cons (.sl Y8) (.cons (.sl YA) (.cons (.sl (.int .u8)) .nil))))))))))
abbrev YD:Ty:=(.cons (.int .i64) (.cons (.int .u32) (.cons (.sl (.int .u64)) (.cons (.sl (.int .u8)) (.cons (.sl YB) (.cons (.sl Y1) (.cons (.sl Y2) (.cons (.sl Y3) (.cons (.sl Y4) (.cons (.sl Y5) (.cons (.sl Y7) (.cons (.sl Y8) (.cons (.int .i64) (.cons (.int .i64) (.cons (.sl YC) .nil)))))))))))))))
end Go.Eng
namespace Go.Eng
open Go.Proofs
set_option linter.unusedVariables false
set_option linter.unusedSimpArgs false
set_option maxRecDepth 100000
set_option maxHeartbeats 1000000
theorem zI_ {α:Type} {l:List α} {i:Nat} (h:i < l.length) (d:α):l.drop i=l.getD i d :: l.drop (i+1):=by
 rw [List.drop_eq_getElem_cons h,List.getD_eq_getElem?_getD,List.getElem?_eq_getElem h];rfl
theorem zU_ {α:Type} {l:List α} {j:Nat} (h:j < l.length) (d:α):l.getD j d ∈ l:=by
 rw [List.getD_eq_getElem?_getD,List.getElem?_eq_getElem h];exact List.getElem_mem h
def okW (n:Int):Bool:=!(decide (n=0) || decide (8 < n) || decide (n < -64))
theorem zf3_ {n:Int}:okW n=true ↔ n ≠ 0/\n<=8/\-64<=n:=by unfold okW;simp;omega
theorem zkM_ {n:Int}:okW n=false ↔ ¬ (n ≠ 0/\n<=8/\-64<=n):=by rw [<- zf3_];simp
def Zw_ (w:List Int):Bool:=decide (w.length<=64) && w.all okW
theorem ZD_ {w:List Int}:Zw_ w=true ↔ w.length<=64/\∀ n ∈ w,n ≠ 0/\n<=8/\-64<=n:=by
 unfold Zw_;simp only [Bool.and_eq_true,decide_eq_true_eq,List.all_eq_true,zf3_]
def bd_:IR:=
(sq (kr [0] [oD 2 (.mov cF)])
(sq (sq (.reg [oM 5 0,
oE 6 5,
oB 7 .gtr 6 (cI 64)])
(.cond 7
(sq (.reg [oD 2 (.mov cF)])
.ret)
.skip))
(sq (sq (.reg [oM 8 0,
oE 9 8,
oD 10 (.mov (cI 0))])
(.block 0
(.loop
(sq (kr [8,9,10] [oB 11 .lss 10 9])
(sq (.cond 11
.skip
(.exit 0))
(sq (.block 1
(sq (.reg [oI 12 1 8 10,
oL 13 12,
oM 4 13])
(sq (kr [4,8,9,10] [oM 14 4,
oB 15 .eql 14 (cI 0),
oM 16 15,
oF 16 17 (.mov 4),
oF 16 18 (.bin .gtr 17 (cI 8)),
oP 19 16 cT 18,
oM 20 19,
oF 20 21 (.mov 4),
oF 20 22 (.bin .lss 21 (cI (-64))),
oP 23 20 cT 22])
(.cond 23
(sq (kr [] [oD 2 (.mov cF)])
.ret)
.skip))))
(kr [8,9,10] [oB 24 .add 10 (cI 1),
oM 10 24])))))))
(sq (kr [] [oD 2 (.mov cT)])
.ret))))
def Hg_:List RD:=[.tmp 2 true none]
theorem HF_:zj_ Tryz.prog Tryz.f113 bd_ Hg_=true:=by kernel_rfl
def qS_:List AV->List Obj->Option (Prop × AV)
 | [.imm (.int .i64) w],[]=>some ((True,.bool (Zw_ w)))
 | _,_=>none
theorem Qm_:zd_ Tryz.prog 113 (RoF qS_).sum:=by
 refine zi_ Tryz.func113 HF_ (zc_ _) fun args objs p v e=>?_
 unfold qS_ at e
 split at e
 ·rename_i w
  cases e
  refine ⟨rfl,fun hw ho hp=>?_⟩
  change List Int at w
  repeat'(intro t ht;first|(cases t<;>first|(cases ht;done)|(try simp only[zg_]at ht))|((first|refine zb_ ht ?_|refine ht ?_ ?_|refine ht.1 ?_ ?_|refine ht ?_)<;>clear ht))
  all_goals first
   | (have h64:¬ w.length<=64:=by omega
      refine ⟨?_,rfl⟩;unfold Zw_;rw [decide_eq_false h64];rfl)
   | (intro r h1 h2;clear h1;refine h2 ⟨[8,9,10],Nat,(fun i=>i<=w.length/\w.all okW=(w.drop i).all okW),fun i=>[.imm (.int .i64) w,.int .i64 w.length,.int .i64 i],fun _=>[],fun i=>w.length - i,⟨0,⟨Nat.zero_le _,rfl⟩,rfl,rfl⟩,?_⟩;clear h2)
  rintro i ⟨hi,he⟩
  repeat'(intro t ht;first|(cases t<;>first|(cases ht;done)|(try simp only[zg_]at ht))|((first|refine zb_ ht ?_|refine ht ?_ ?_|refine ht.1 ?_ ?_|refine ht ?_)<;>clear ht))
  all_goals first
   | ((try simp only [zm_,zn_,zl_] at*);omega)
   | (have h64:w.length<=64:=by omega
      have hge:w.length<=i:=by omega
      refine ⟨?_,rfl⟩;unfold Zw_;rw [he,decide_eq_true h64,List.drop_of_length_le hge];rfl)
   | (have hlt:i < w.length:=by omega
      rw [zI_ hlt 0,List.all_cons] at he
      first
       | (have hk:okW (w.getD i 0)=false:=zkM_.2 (by omega)
          refine ⟨?_,rfl⟩;unfold Zw_;rw [he,hk];simp;done)
       | (have hk:okW (w.getD i 0)=true:=zf3_.2 (by omega)
          rw [hk,Bool.true_and] at he
          exact ⟨i+1,⟨hlt,he⟩,by (try simp only [zm_,zn_,zl_] at*);omega,rfl,rfl⟩))
 ·cases e
def zv_ (n:Int):Int:=if 0 - n > n then 0 - n else n
theorem xI_ {n:Int} (h:n < 0):zv_ n=-n:=by unfold zv_;split<;>omega
theorem Yj_ {n:Int} (h:¬ n < 0):zv_ n=n:=by unfold zv_;split<;>omega
theorem wq_ {n:Int}:0<=zv_ n/\n<=zv_ n/\-n<=zv_ n/\(zv_ n=n\/zv_ n=-n):=by unfold zv_;split<;>omega
def qM_ (n:Int):Int:=if 0 < n then 1 else 0
def jY_ (f:Int->Int) (w:List Int) (i:Nat):Int:=((w.take i).map f).sum
theorem QE_ (f:Int->Int) {l:List Int} {i:Nat} (h:i < l.length):jY_ f l (i+1)=jY_ f l i+f (l.getD i 0):=by
 unfold jY_
 rw [List.take_succ_eq_append_getElem h,List.map_append,List.sum_append]
 have:l.getD i 0=l[i]:=by rw [List.getD_eq_getElem?_getD,List.getElem?_eq_getElem h];rfl
 rw [this];simp
theorem jX_ (f:Int->Int) {l:List Int} {i:Nat} (h:l.length<=i):jY_ f l i=(l.map f).sum:=by
 unfold jY_;rw [List.take_of_length_le h]
theorem zbM_:∀ {l:List Int} {c:Int},(∀ x ∈ l,0<=x/\x<=c)->0<=l.sum/\l.sum<=c*l.length
 | [],c,_=>by simp
 | x :: l,c,h=>by
   have h1:=h x (by simp)
   have h2:=zbM_ (l:=l) (c:=c) fun y hy=>h y (by simp [hy])
   rw [List.sum_cons,List.length_cons,Int.natCast_add,Int.mul_add]
   omega
theorem ut_ {w:List Int} (h:Zw_ w=true) (i:Nat):0<=jY_ zv_ w i/\jY_ zv_ w i<=4096:=by
 obtain ⟨h1,h2⟩:=ZD_.1 h
 unfold jY_
 have:=zbM_ (l:=(w.take i).map zv_) (c:=64) fun x hx=>by
  obtain ⟨y,hy,rfl⟩:=List.mem_map.1 hx
  have:=h2 y (List.mem_of_mem_take hy)
  have:=wq_ (n:=y);omega
 rw [List.length_map,List.length_take] at this
 omega
theorem b3_ {w:List Int} (h:Zw_ w=true) (i:Nat):0<=jY_ qM_ w i/\jY_ qM_ w i<=64:=by
 obtain ⟨h1,h2⟩:=ZD_.1 h
 unfold jY_
 have:=zbM_ (l:=(w.take i).map qM_) (c:=1) fun x hx=>by
  obtain ⟨y,hy,rfl⟩:=List.mem_map.1 hx
  unfold qM_;split<;>omega
 rw [List.length_map,List.length_take] at this
 omega
def zG_ (w:List Int):Int:=if Zw_ w then (w.map zv_).sum else 0
def zB_ (w:List Int):Int:=if Zw_ w then (w.map qM_).sum else 0
theorem WX_ (w:List Int):0<=zG_ w/\zG_ w<=4096:=by
 unfold zG_;split
 ·rename_i h;have:=ut_ h w.length;rwa [jX_ zv_ (Nat.le_refl _)] at this
 ·omega
def zax_:IR:=
(sq (kr [0] [oD 2 (.mov (cI 0))])
(sq (sq (.reg [oM 5 0,
oC 6 113 [5],
oD 7 (.un .not 6)])
(.cond 7
(sq (.reg [oD 2 (.mov (cI 0))])
.ret)
.skip))
(sq (sq (.reg [oM 8 0,
oE 9 8,
oD 10 (.mov (cI 0))])
(.block 0
(.loop
(sq (kr [2,8,9,10] [oB 11 .lss 10 9])
(sq (.cond 11
.skip
(.exit 0))
(sq (.block 1
(sq (.reg [oI 12 1 8 10,
oL 13 12,
oM 4 13])
(kr [2,4,8,9,10] [oM 14 2,
oM 15 4,
oM 16 4,
oD 17 (.un .neg 16),
oD 18 (.minmax true 15 17),
oB 19 .add 14 18,
oM 2 19])))
(kr [2,8,9,10] [oB 20 .add 10 (cI 1),
oM 10 20])))))))
(sq (kr [2] [oM 21 2,
oM 2 21])
.ret))))
def Bh_:List RD:=[.tmp 2 true none]
theorem BO_:zj_ Tryz.prog Tryz.f94 zax_ Bh_=true:=by kernel_rfl
def QD_:List AV->List Obj->Option (Prop × AV)
 | [.imm (.int .i64) w],[]=>some ((True,.int .i64 (zG_ w)))
 | _,_=>none
theorem QU_:zd_ Tryz.prog 94 (RoF QD_).sum:=by
 refine zi_ Tryz.func94 BO_ (za_ (s:=RoF qS_) Qm_ (zc_ _)) fun args objs p v e=>?_
 unfold QD_ at e
 split at e
 ·rename_i w
  cases e
  refine ⟨rfl,fun hw ho hp=>?_⟩
  change List Int at w
  repeat'(intro t ht;first|(cases t<;>first|(cases ht;done)|(try simp only[zg_]at ht))|((first|refine zb_ ht ?_|refine ht ?_ ?_|refine ht.1 ?_ ?_|refine ht ?_)<;>clear ht))
  all_goals first
   | exact True.intro
   | (refine ⟨?_,rfl⟩;unfold zG_;simp_all;done)
   | (intro r h1 h2;clear h1;refine h2 ⟨[2,8,9,10],Nat,(fun i=>i<=w.length),fun i=>[.int .i64 (jY_ zv_ w i),.imm (.int .i64) w,.int .i64 w.length,.int .i64 i],fun _=>[],fun i=>w.length - i,⟨0,Nat.zero_le _,rfl,rfl⟩,?_⟩;clear h2)
  intro i hi
  have hr:Zw_ w=true:=by assumption
  have hl:=(ZD_.1 hr).1
  have hs:=ut_ hr i
  repeat'(intro t ht;first|(cases t<;>first|(cases ht;done)|(try simp only[zg_]at ht))|((first|refine zb_ ht ?_|refine ht ?_ ?_|refine ht.1 ?_ ?_|refine ht ?_)<;>clear ht))
  all_goals first
   | ((try simp only [zm_,zn_,zl_] at*);omega)
   | (have hge:w.length<=i:=by omega
      refine ⟨?_,rfl⟩;unfold zG_;rw [if_pos hr,jX_ zv_ hge];done)
   | (have hlt:i < w.length:=by omega
      have hk:=(ZD_.1 hr).2 _ (zU_ hlt 0)
      have ha:=wq_ (n:=w.getD i 0)
      first
       | ((try simp only [zm_,zn_,zl_] at*);omega)
       | (show IntKind.i64.min<=jY_ zv_ w i+zv_ (w.getD i 0)/\jY_ zv_ w i+zv_ (w.getD i 0)<=IntKind.i64.max;(try simp only [zm_,zn_,zl_] at*);omega)
       | (refine ⟨i+1,hlt,by (try simp only [zm_,zn_,zl_] at*);omega,?_,rfl⟩
          dsimp only
          rw [QE_ zv_ hlt];rfl))
 ·cases e
def bf_:IR:=
(sq (kr [0] [oD 2 (.mov (cI 0))])
(sq (sq (.reg [oM 5 0,
oC 6 113 [5],
oD 7 (.un .not 6)])
(.cond 7
(sq (.reg [oD 2 (.mov (cI 0))])
.ret)
.skip))
(sq (sq (.reg [oM 8 0,
oE 9 8,
oD 10 (.mov (cI 0))])
(.block 0
(.loop
(sq (kr [2,8,9,10] [oB 11 .lss 10 9])
(sq (.cond 11
.skip
(.exit 0))
(sq (.block 1
(sq (.reg [oI 12 1 8 10,
oL 13 12,
oM 4 13])
(sq (.reg [oM 14 4,
oB 15 .gtr 14 (cI 0)])
(.cond 15
(kr [2,8,9,10] [oM 16 2,
oB 17 .add 16 (cI 1),
oM 2 17])
.skip))))
(kr [2,8,9,10] [oB 18 .add 10 (cI 1),
oM 10 18])))))))
(sq (kr [2] [oM 19 2,
oM 2 19])
.ret))))
def Hi_:List RD:=[.tmp 2 true none]
theorem HH_:zj_ Tryz.prog Tryz.f114 bf_ Hi_=true:=by kernel_rfl
def QK_:List AV->List Obj->Option (Prop × AV)
 | [.imm (.int .i64) w],[]=>some ((True,.int .i64 (zB_ w)))
 | _,_=>none
theorem kJ_:zd_ Tryz.prog 114 (RoF QK_).sum:=by
 refine zi_ Tryz.func114 HH_ (za_ (s:=RoF qS_) Qm_ (zc_ _)) fun args objs p v e=>?_
 unfold QK_ at e
 split at e
 ·rename_i w
  cases e
  refine ⟨rfl,fun hw ho hp=>?_⟩
  change List Int at w
  repeat'(intro t ht;first|(cases t<;>first|(cases ht;done)|(try simp only[zg_]at ht))|((first|refine zb_ ht ?_|refine ht ?_ ?_|refine ht.1 ?_ ?_|refine ht ?_)<;>clear ht))
  all_goals first
   | exact True.intro
   | (refine ⟨?_,rfl⟩;unfold zB_;simp_all;done)
   | (intro r h1 h2;clear h1;refine h2 ⟨[2,8,9,10],Nat,(fun i=>i<=w.length),fun i=>[.int .i64 (jY_ qM_ w i),.imm (.int .i64) w,.int .i64 w.length,.int .i64 i],fun _=>[],fun i=>w.length - i,⟨0,Nat.zero_le _,rfl,rfl⟩,?_⟩;clear h2)
  intro i hi
  have hr:Zw_ w=true:=by assumption
  have hl:=(ZD_.1 hr).1
  have hs:=b3_ hr i
  repeat'(intro t ht;first|(cases t<;>first|(cases ht;done)|(try simp only[zg_]at ht))|((first|refine zb_ ht ?_|refine ht ?_ ?_|refine ht.1 ?_ ?_|refine ht ?_)<;>clear ht))
  all_goals first
   | ((try simp only [zm_,zn_,zl_] at*);omega)
   | (have hge:w.length<=i:=by omega
      refine ⟨?_,rfl⟩;unfold zB_;rw [if_pos hr,jX_ qM_ hge];done)
   | (have hlt:i < w.length:=by omega
      refine ⟨i+1,hlt,by (try simp only [zm_,zn_,zl_] at*);omega,?_,rfl⟩
      dsimp only
      rw [QE_ qM_ hlt]
      first
       | (have e:qM_ (w.getD i 0)=1:=if_pos (by assumption)
          rw [e];rfl)
       | (have e:qM_ (w.getD i 0)=0:=if_neg (by assumption)
          rw [e,Int.add_zero];rfl))
 ·cases e
theorem zjx_ {a b:Nat} {n:Nat} (h:b < 2 ^ n):(a*2 ^ n) ||| b=a*2 ^ n+b:=by
 have:=Nat.shiftLeft_add_eq_or_of_lt h a
 rw [Nat.shiftLeft_eq] at this;exact this.symm
theorem zhU_ {n c:Int} (hn:0<=n) (hm:n*256+c<=18446744073709551615) (h0:0<=c) (h1:c<=255):Qe_ .or .u64 (n*256) c=n*256+c:=by
 obtain ⟨a,rfl⟩:=Int.eq_ofNat_of_zero_le hn
 obtain ⟨b,rfl⟩:=Int.eq_ofNat_of_zero_le h0
 have hb:b < 2 ^ 8:=by omega
 have hlt:a*256+b < 2 ^ 64:=by omega
 have e1:(BitVec.ofInt 64 ((a:Int)*256)).toNat=a*256:=by
  have:((a:Int)*256)=((a*256:Nat):Int):=by simp
  rw [this,BitVec.ofInt_natCast,BitVec.toNat_ofNat];exact Nat.mod_eq_of_lt (by omega)
 have e2:(BitVec.ofInt 64 (b:Int)).toNat=b:=by
  rw [BitVec.ofInt_natCast,BitVec.toNat_ofNat];exact Nat.mod_eq_of_lt (by omega)
 have e3:(BitVec.ofInt 64 ((a:Int)*256) ||| BitVec.ofInt 64 (b:Int)).toNat=a*256+b:=by
  rw [BitVec.toNat_or,e1,e2];exact zjx_ (n:=8) hb
 show IntKind.u64.wrap ((BitVec.ofInt 64 ((a:Int)*256) ||| BitVec.ofInt 64 (b:Int)).toNat:Int)=_
 rw [e3,V1_ ⟨by rw [V7_];omega,by rw [H5_];omega⟩]
 simp
def Zx_ (b:List Int):Int:=b.foldl (fun n c=>n*256+c) 0
theorem YU_ (l:List Int) (c:Int):Zx_ (l++[c])=Zx_ l*256+c:=by simp [Zx_]
theorem zdQ_:∀ (l:List Int) (a:Int),(∀ x ∈ l,0<=x/\x<=255)->0<=a->0<=l.foldl (fun n c=>n*256+c) a/\l.foldl (fun n c=>n*256+c) a < (a+1)*256 ^ l.length
 | [],a,_,ha=>by simp;omega
 | c :: l,a,h,ha=>by
   have hc:=h c (by simp)
   have ih:=zdQ_ l (a*256+c) (fun x hx=>h x (by simp [hx])) (by omega)
   rw [List.foldl_cons,List.length_cons,Int.pow_succ,Int.mul_comm (256 ^ l.length) 256,<- Int.mul_assoc]
   have hp:(0:Int)<=256 ^ l.length:=Int.le_of_lt (Int.pow_pos (by decide))
   have hm:=Int.mul_le_mul_of_nonneg_right (show a*256+c+1<=(a+1)*256 by omega) hp
   omega
theorem yZ_ (l:List Int) (h:∀ x ∈ l,0<=x/\x<=255):0<=Zx_ l/\Zx_ l < 256 ^ l.length:=by
 have:=zdQ_ l 0 h (Int.le_refl _)
 rwa [Int.zero_add,Int.one_mul] at this
def YT_ (b:List Int) (i:Nat):Int:=Zx_ (b.take i)
theorem zeM_ {b:List Int} {i:Nat} (h:i < b.length):YT_ b (i+1)=YT_ b i*256+b.getD i 0:=by
 unfold YT_
 rw [List.take_succ_eq_append_getElem h,YU_,List.getD_eq_getElem?_getD,List.getElem?_eq_getElem h];rfl
theorem zf5_ {b:List Int} {i:Nat} (h:b.length<=i):YT_ b i=Zx_ b:=by unfold YT_;rw [List.take_of_length_le h]
theorem zhS_:∀ k ≤ 7,(256:Int) ^ k<=72057594037927936:=by decide
theorem zhW_ {b:List Int} (hb:∀ x ∈ b,0<=x/\x<=255) (i:Nat) (hi:i<=7):0<=YT_ b i/\YT_ b i < 72057594037927936:=by
 have h1:=yZ_ (b.take i) fun x hx=>hb x (List.mem_of_mem_take hx)
 have h2:(256:Int) ^ (b.take i).length<=72057594037927936:=zhS_ _ (by rw [List.length_take];omega)
 unfold YT_;omega
def GE_:IR:=
(sq (kr [0] [oD 2 (.mov (.c (.int .u64 0)))])
(sq (sq (.reg [oM 5 0,
oE 6 5,
oD 7 (.mov (cI 0))])
(.block 0
(.loop
(sq (kr [2,5,6,7] [oB 8 .lss 7 6])
(sq (.cond 8
.skip
(.exit 0))
(sq (.block 1
(sq (.reg [oI 9 1 5 7,
oL 10 9,
oM 4 10])
(kr [2,4,5,6,7] [oM 11 2,
oB 12 .shl 11 (.c (.int .u64 8)),
oM 13 4,
oD 14 (.conv .u64 13),
oB 15 .or 12 14,
oM 2 15])))
(kr [2,5,6,7] [oB 16 .add 7 (cI 1),
oM 7 16])))))))
(sq (kr [2] [oM 17 2,
oM 2 17])
.ret)))
def gL_:List RD:=[.tmp 2 true none]
theorem Gb_:zj_ Tryz.prog Tryz.f129 GE_ gL_=true:=by kernel_rfl
def Kz_:List AV->List Obj->Option (Prop × AV)
 | [.imm (.int .u8) b],[]=>some ((b.length<=8,.int .u64 (Zx_ b)))
 | _,_=>none
theorem WJ_:zd_ Tryz.prog 129 (RoF Kz_).sum:=by
 refine zi_ Tryz.func129 Gb_ (zc_ _) fun args objs p v e=>?_
 unfold Kz_ at e
 split at e
 ·rename_i b
  cases e
  refine ⟨rfl,fun hw ho hp=>?_⟩
  change List Int at b
  have hb:∀ x ∈ (b:List Int),(0:Int)<=x/\x<=255:=fun x hx=>(hw (.imm (.int .u8) b) (by simp)).1 x hx
  repeat'(intro t ht;first|(cases t<;>first|(cases ht;done)|(try simp only[zg_]at ht))|((first|refine zb_ ht ?_|refine ht ?_ ?_|refine ht.1 ?_ ?_|refine ht ?_)<;>clear ht))
  all_goals first
   | (intro r h1 h2;clear h1;refine h2 ⟨[2,5,6,7],Nat,(fun i=>i<=b.length),fun i=>[.int .u64 (YT_ b i),.imm (.int .u8) b,.int .i64 b.length,.int .i64 i],fun _=>[],fun i=>b.length - i,⟨0,Nat.zero_le _,rfl,rfl⟩,?_⟩;clear h2)
  intro i hi
  repeat'(intro t ht;first|(cases t<;>first|(cases ht;done)|(try simp only[zg_]at ht))|((first|refine zb_ ht ?_|refine ht ?_ ?_|refine ht.1 ?_ ?_|refine ht ?_)<;>clear ht))
  all_goals first
   | ((try simp only [zm_,zn_,zl_] at*);omega)
   | (have hge:b.length<=i:=by omega
      refine ⟨?_,rfl⟩;rw [zf5_ hge];done)
   | exact (by decide)
   | (have hlt:i < b.length:=by omega
      have hk:=hb _ (zU_ (α:=Int) hlt 0)
      have hn:=zhW_ hb i (by omega)
      first
       | (show IntKind.u64.min<=YT_ b i*256/\YT_ b i*256<=IntKind.u64.max;(try simp only [zm_,zn_,zl_] at*);omega)
       | ((try simp only [zm_,zn_,zl_] at*);omega)
       | (refine ⟨i+1,hlt,by (try simp only [zm_,zn_,zl_] at*);omega,?_,rfl⟩
          dsimp only
          rw [zeM_ hlt]
          have e:Qe_ .or .u64 (YT_ b i*256) (b.getD i 0)=YT_ b i*256+b.getD i 0:=zhU_ hn.1 (by omega) hk.1 hk.2
          rw [<- e];rfl))
 ·cases e
def ZB_ (b:List Int):Bool:=b.all fun c=>decide (c=0)
def zaw_:IR:=
(sq (kr [0] [oD 2 (.mov cF)])
(sq (sq (.reg [oM 5 0,
oE 6 5,
oD 7 (.mov (cI 0))])
(.block 0
(.loop
(sq (kr [5,6,7] [oB 8 .lss 7 6])
(sq (.cond 8
.skip
(.exit 0))
(sq (.block 1
(sq (.reg [oI 9 1 5 7,
oL 10 9,
oM 4 10])
(sq (.reg [oM 11 4,
oB 12 .neq 11 (.c (.int .u8 0))])
(.cond 12
(sq (kr [] [oD 2 (.mov cF)])
.ret)
.skip))))
(kr [5,6,7] [oB 13 .add 7 (cI 1),
oM 7 13])))))))
(sq (kr [] [oD 2 (.mov cT)])
.ret)))
def Bg_:List RD:=[.tmp 2 true none]
theorem BN_:zj_ Tryz.prog Tryz.f130 zaw_ Bg_=true:=by kernel_rfl
def wr_:List AV->List Obj->Option (Prop × AV)
 | [.imm (.int .u8) b],[]=>some ((True,.bool (ZB_ b)))
 | _,_=>none
theorem yw_:zd_ Tryz.prog 130 (RoF wr_).sum:=by
 refine zi_ Tryz.func130 BN_ (zc_ _) fun args objs p v e=>?_
 unfold wr_ at e
 split at e
 ·rename_i b
  cases e
  refine ⟨rfl,fun hw ho hp=>?_⟩
  change List Int at b
  have hl:b.length<=maxLen:=(hw (.imm (.int .u8) b) (by simp)).2
  unfold maxLen at hl
  repeat'(intro t ht;first|(cases t<;>first|(cases ht;done)|(try simp only[zg_]at ht))|((first|refine zb_ ht ?_|refine ht ?_ ?_|refine ht.1 ?_ ?_|refine ht ?_)<;>clear ht))
  all_goals first
   | (intro r h1 h2;clear h1;refine h2 ⟨[5,6,7],Nat,(fun i=>i<=b.length/\ZB_ b=ZB_ (b.drop i)),fun i=>[.imm (.int .u8) b,.int .i64 b.length,.int .i64 i],fun _=>[],fun i=>b.length - i,⟨0,⟨Nat.zero_le _,rfl⟩,rfl,rfl⟩,?_⟩;clear h2)
  rintro i ⟨hi,he⟩
  repeat'(intro t ht;first|(cases t<;>first|(cases ht;done)|(try simp only[zg_]at ht))|((first|refine zb_ ht ?_|refine ht ?_ ?_|refine ht.1 ?_ ?_|refine ht ?_)<;>clear ht))
  all_goals first
   | ((try simp only [zm_,zn_,zl_] at*);omega)
   | (have hge:b.length<=i:=by omega
      refine ⟨?_,rfl⟩;rw [he,List.drop_of_length_le hge];rfl)
   | (have hlt:i < b.length:=by omega
      rw [zI_ hlt 0] at he
      unfold ZB_ at he
      rw [List.all_cons] at he
      first
       | (have hk:decide (b.getD i 0=0)=false:=decide_eq_false (by assumption)
          refine ⟨?_,rfl⟩;unfold ZB_;rw [he,hk];rfl)
       | (have hk:decide (b.getD i 0=0)=true:=decide_eq_true (by assumption)
          rw [hk,Bool.true_and] at he
          exact ⟨i+1,⟨hlt,he⟩,by (try simp only [zm_,zn_,zl_] at*);omega,rfl,rfl⟩))
 ·cases e
theorem zdv_ (x:Int):IntKind.u8.wrap x=x % 256:=by simp [IntKind.wrap,IntKind.signed,IntKind.bits]
def Kf_ (n w j:Int):Int:=(n.fdiv (2 ^ (min (8*(w - 1 - j)).toNat 64))) % 256
def Ke_ (n w:Int) (i:Nat):List Int:=(List.range i).map fun j:Nat=>Kf_ n w j
def ze_ (n w:Int):List Int:=Ke_ n w w.toNat
theorem v4_ (n w:Int) (i:Nat):Ke_ n w (i+1)=Ke_ n w i++[Kf_ n w i]:=by
 unfold Ke_;rw [List.range_succ,List.map_append];rfl
theorem gj_ (n w:Int) (i:Nat):(Ke_ n w i).length=i:=by unfold Ke_;simp
theorem zk_ {n w:Int} (h:0<=w):((ze_ n w).length:Int)=w:=by unfold ze_;rw [gj_];omega
def zcN_:IR:=
(sq (kr [0,1,2] [oD 6 (.mov (.c (.imm (.int .u8) [])))])
(sq (sq (.reg [oM 8 2,
oD 9 (.mov (cI 0))])
(.block 0
(.loop
(sq (kr [0,1,2,8,9] [oB 10 .lss 9 8])
(sq (.cond 10
.skip
(.exit 0))
(sq (.block 1
(sq (.reg [oM 11 9,
oM 7 11])
(kr [0,1,2,7,8,9] [oM 12 0,
oM 13 1,
oM 14 2,
oB 15 .sub 14 (cI 1),
oM 16 7,
oB 17 .sub 15 16,
oB 18 .mul (cI 8) 17,
oB 19 .shr 13 18,
oD 20 (.conv .u8 19),
oD 21 (.sliceAll (.int .u8) 1 [(0,1,20)]),
oD 22 (.append (.int .u8) 1 12 21),
oM 0 22])))
(kr [0,1,2,8,9] [oB 23 .add 9 (cI 1),
oM 9 23])))))))
(sq (kr [0] [oM 24 0,
oM 6 24])
.ret)))
def zbW_:List RD:=[.tmp 6 false none]
theorem zcg_:zj_ Tryz.prog Tryz.f115 zcN_ zbW_=true:=by kernel_rfl
def vo_:List AV->List Obj->Option (Prop × AV × List Obj)
 | [.own 0,.int .u64 n,.int .i64 w],[.row false (.int .u8) l]=>some ((1<=w/\w<=64/\l.length<=100000000,.own 1,[.dead,.row false (.int .u8) (l++ze_ n w)]))
 | _,_=>none
theorem b4_:zd_ Tryz.prog 115 (RwF vo_).sum:=by
 refine qg_ Tryz.func115 zcg_ (zc_ _) fun args objs p v o e=>?_
 unfold vo_ at e
 split at e
 ·rename_i n w l
  cases e
  refine ⟨rfl,fun hw ho hp=>?_⟩
  change List Int at l
  repeat'(intro t ht;first|(cases t<;>first|(cases ht;done)|(try simp only[zg_]at ht))|((first|refine zb_ ht ?_|refine ht ?_ ?_|refine ht.1 ?_ ?_|refine ht ?_)<;>clear ht))
  all_goals first
   | (intro r h1 h2;clear h1;refine h2 ⟨[0,1,2,8,9],Nat,(fun i=>(i:Int)<=w),fun i=>[match i with | 0=>.own 0 | _+1=>.own 1,.int .u64 n,.int .i64 w,.int .i64 w,.int .i64 i],fun i=>match i with | 0=>[.row false (.int .u8) l] | i+1=>[.dead,.row false (.int .u8) (l++Ke_ n w (i+1))],fun i=>w.toNat - i,⟨0,by omega,rfl,rfl⟩,?_⟩;clear h2)
  rintro (_ | i) hi
  all_goals repeat'(intro t ht;first|(cases t<;>first|(cases ht;done)|(try simp only[zg_]at ht))|((first|refine zb_ ht ?_|refine ht ?_ ?_)<;>clear ht)|(refine ht.1 (by simp only[zl_];omega) ?_;clear ht)|(refine ht.2 ?_;clear ht)|(refine ht ?_;clear ht))
  all_goals first
   | (exfalso;omega)
   | omega
   | (simp only [qd_,List.length_append,List.length_cons,List.length_nil,gj_];omega)
   | (refine ⟨1,by omega,by dsimp only;omega,rfl,?_⟩
      show [Obj.dead,Obj.row false (.int .u8) (l++[IntKind.u8.wrap (n.fdiv (2 ^ min (8*(w - 1 - ((0:Nat):Int))).toNat 64))])]=[Obj.dead,Obj.row false (.int .u8) (l++Ke_ n w (0+1))]
      rw [v4_,zdv_];rfl)
   | (have e:w.toNat=i+1:=by omega
      refine ⟨rfl,?_⟩;unfold ze_;rw [e])
   | (refine ⟨i+1+1,by omega,by dsimp only;omega,rfl,?_⟩
      show [Obj.dead,Obj.row false (.int .u8) ((l++Ke_ n w (i+1))++[IntKind.u8.wrap (n.fdiv (2 ^ min (8*(w - 1 - ((i+1:Nat):Int))).toNat 64))])]=[Obj.dead,Obj.row false (.int .u8) (l++Ke_ n w (i+1+1))]
      rw [v4_ n w (i+1),zdv_,List.append_assoc];rfl)
 ·cases e
end Go.Eng
