/- Parts of the proof: EArg, TY, R1, R4, T1, C1, B1. No condition. -/
import Derived.Test.YtjajlkddpekdjaaGreatDoorXD09
import Derived.WalkKit
import Derived.ProofKit
import Derived.OpenShut
import Derived.ShutString
import Derived.ChangeOld
import Derived.Carry
import Derived.Test.YtjajlkddpekdjaaGreatDoorProg
import Derived.KernelRfl
namespace Go.Eng
set_option linter.unusedVariables false
set_option linter.unusedSimpArgs false
def Ty.exact:(t:Ty)->List AV->Option (t.den × List AV)
 | .int k,.int k' n :: r=>match decEq k k' with | isTrue _=>some (n,r) | isFalse _=>none
 | .bool,.bool b :: r=>some (b,r)
 | .str,.str s :: r=>some (s,r)
 | .nil,r=>some ((),r)
 | .cons a b,l=>match a.exact l with
   | some (x,r)=>match b.exact r with
     | some (y,r)=>some ((x,y),r)
     | none=>none
   | none=>none
 | .sl t,.imm t' x :: r=>match decEq t' t with | isTrue h=>some (h ▸ x,r) | isFalse _=>none
 | _,_=>none
def RoF (f:List AV->List Obj->Option (Prop × AV)):SumK:=.ro fun args objs K=>match f args objs with
 | some (p,v)=>need p (K v)
 | none=>False
def RwF (f:List AV->List Obj->Option (Prop × AV × List Obj)):SumK:=.rw fun args objs K=>match f args objs with
 | some (p,v,o)=>need p (K v o)
 | none=>False
theorem he_:IntKind.i64.min=-9223372036854775808:=rfl
theorem hg_:IntKind.i64.max=9223372036854775807:=rfl
theorem Xa_:IntKind.u64.min=0:=rfl
theorem V7_:IntKind.u64.max=18446744073709551615:=rfl
theorem bz_:IntKind.u8.min=0:=rfl
theorem bE_:IntKind.u8.max=255:=rfl
theorem zr_:(∀ a b:Bool,((!a)=b)=(a=!b))/\((!true)=false)/\((!false)=true)/\(∀ a b:Bool,((a && b)=true)=(a=true/\b=true))/\(∀ a b:Bool,((a && b)=false)=(a=false\/b=false))/\(∀ (p:Prop) [Decidable p],(decide p=true)=p)/\∀ (p:Prop) [Decidable p],(decide p=false)=¬ p:=
 ⟨fun _ _=>propext Bool.not_eq_eq_eq_not,rfl,rfl,fun _ _=>Bool.and_eq_true _ _,fun _ _=>propext Bool.and_eq_false_iff,fun _ _=>decide_eq_true_eq,fun _ _=>propext decide_eq_false_iff_not⟩
theorem zq_:(∀ n:Nat,((n:Int)).toNat=n)/\∀ k:IntKind,(Ty.int k).dflt=(0:Int):=⟨Int.toNat_natCast,fun _=>rfl⟩
theorem zg_:((∀ a b:Bool,((!a)=b)=(a=!b))/\((!true)=false)/\((!false)=true)/\(∀ a b:Bool,((a && b)=true)=(a=true/\b=true))/\(∀ a b:Bool,((a && b)=false)=(a=false\/b=false))/\(∀ (p:Prop) [Decidable p],(decide p=true)=p)/\∀ (p:Prop) [Decidable p],(decide p=false)=¬ p)/\(∀ n:Nat,((n:Int)).toNat=n)/\∀ k:IntKind,(Ty.int k).dflt=(0:Int):=⟨zr_,zq_⟩
theorem zj_:IntKind.i64.min=-9223372036854775808/\IntKind.i64.max=9223372036854775807/\IntKind.u64.min=0/\IntKind.u64.max=18446744073709551615/\IntKind.u32.min=0/\IntKind.u32.max=4294967295/\IntKind.u16.min=0/\IntKind.u16.max=65535/\IntKind.u8.min=0/\IntKind.u8.max=255:=⟨rfl,rfl,rfl,rfl,rfl,rfl,rfl,rfl,rfl,rfl⟩
theorem yM_ {t:Ty} (h:t=t) (x:List t.den):(h ▸ x:List t.den)=x:=rfl
theorem Jf_ {a b:Int} (h:0<=a):a.tmod b=a % b:=Int.tmod_eq_emod_of_nonneg h
theorem ku_ {a b:Int} (h:0<=a):a.tdiv b=a / b:=Int.tdiv_eq_ediv_of_nonneg h
section
variable {P:Program} {Γ:Env} {id:FuncId} {fn:Func} {ir:IR} {rd:List RD}
theorem zbs_ (f:List AV->List Obj->Option (Prop × AV)):Det (RoF f).sum:=fun {args objs K} h=>by
 simp only [RoF,SumK.sum] at h ⊢
 split at h
 ·rename_i p v e
  obtain ⟨hp,hk⟩:=zi_ h
  exact ⟨v,objs,hk,wM_ hp fun _=>⟨rfl,rfl⟩⟩
 ·exact h.elim
theorem gQ_ (f:List AV->List Obj->Option (Prop × AV × List Obj)):Det (RwF f).sum:=fun {args objs K} h=>by
 simp only [RwF,SumK.sum] at h ⊢
 split at h
 ·rename_i p v o e
  obtain ⟨hp,hk⟩:=zi_ h
  exact ⟨v,o,hk,wM_ hp fun _=>⟨rfl,rfl⟩⟩
 ·exact h.elim
structure NdR where
 p:Prop
 α:Type
 R:α->Prop
 V:α->AV
 O:α->List Obj
theorem Ww_ (hf:P.funcs[id]?=some fn) (hok:zl_ P fn ir rd=true) (hΓ:qK_ P Γ) {args:List AV} {objs:List Obj} {v:AV} {o:List Obj} (hl:args.length=fn.params.size+fn.nfree)
 (h:(∀ v ∈ args,v.wf1)->(∀ o ∈ objs,o.wf)->Gs_ Γ ir rd args objs fun v' o'=>v'=v/\o'=o):zf_ P id fun a b K=>a=args/\b=objs/\((fun v' o'=>v'=v/\o'=o)=K):=by
 refine b1_ hf hok hΓ (fun {a b K} hk=>?_) (fun a b K hk=>by rw [hk.1];exact hl) (fun a b K hw ho hk=>?_)
 ·obtain ⟨rfl,rfl,rfl⟩:=hk
  exact ⟨v,o,⟨rfl,rfl⟩,rfl,rfl,rfl⟩
 ·obtain ⟨rfl,rfl,rfl⟩:=hk
  exact h hw ho
theorem zh_ {f:List AV->List Obj->Option (Prop × AV)} (hf:P.funcs[id]?=some fn) (hok:zl_ P fn ir rd=true) (hΓ:qK_ P Γ)
 (h:∀ args objs p v,f args objs=some (p,v)->args.length=fn.params.size+fn.nfree/\((∀ v ∈ args,v.wf1)->(∀ o ∈ objs,o.wf)->p->Gs_ Γ ir rd args objs fun v' o'=>v'=v/\o'=objs)):zf_ P id (RoF f).sum:=by
 have hc:Je_ P id:=by
  unfold zl_ at hok
  split at hok
  ·rename_i c hb
   simp only [Bool.and_eq_true,decide_eq_true_eq,Bool.not_eq_true'] at hok
   exact ⟨fn,hf,hok.2,by rw [hb];rfl⟩
  ·cases hok
 refine ⟨hc,zbs_ f,fun {I w m args cargs objs K} hH hA hu hS=>?_⟩
 simp only [RoF,SumK.sum] at hS
 split at hS
 ·rename_i p v e
  obtain ⟨hp,hk⟩:=zi_ hS
  obtain ⟨hl,hev⟩:=h args objs p v e
  have:=Ww_ hf hok hΓ (v:=v) (o:=objs) hl fun hw ho=>hev hw ho hp
  refine (this.2.2 hH hA hu ⟨rfl,rfl,rfl⟩).mono ?_
  rintro e w' ⟨v',cv,objs',I',m',h1,⟨rfl,rfl⟩,h3⟩
  exact ⟨v',cv,objs',I',m',h1,hk,h3⟩
 ·exact hS.elim
theorem wu_ {f:List AV->List Obj->Option (Prop × AV × List Obj)} (hf:P.funcs[id]?=some fn) (hok:zl_ P fn ir rd=true) (hΓ:qK_ P Γ)
 (h:∀ args objs p v o,f args objs=some (p,v,o)->args.length=fn.params.size+fn.nfree/\((∀ v ∈ args,v.wf1)->(∀ o ∈ objs,o.wf)->p->Gs_ Γ ir rd args objs fun v' o'=>v'=v/\o'=o)):zf_ P id (RwF f).sum:=by
 have hc:Je_ P id:=by
  unfold zl_ at hok
  split at hok
  ·rename_i c hb
   simp only [Bool.and_eq_true,decide_eq_true_eq,Bool.not_eq_true'] at hok
   exact ⟨fn,hf,hok.2,by rw [hb];rfl⟩
  ·cases hok
 refine ⟨hc,gQ_ f,fun {I w m args cargs objs K} hH hA hu hS=>?_⟩
 simp only [RwF,SumK.sum] at hS
 split at hS
 ·rename_i p v o e
  obtain ⟨hp,hk⟩:=zi_ hS
  obtain ⟨hl,hev⟩:=h args objs p v o e
  have:=Ww_ hf hok hΓ (v:=v) (o:=o) hl fun hw ho=>hev hw ho hp
  refine (this.2.2 hH hA hu ⟨rfl,rfl,rfl⟩).mono ?_
  rintro e w' ⟨v',cv,objs',I',m',h1,⟨rfl,rfl⟩,h3⟩
  exact ⟨v',cv,objs',I',m',h1,hk,h3⟩
 ·exact hS.elim
def upW (f:List AV->List Obj->Option (Prop × AV × List Obj)) (μ:List AV->Nat) (N:Nat):List AV->List Obj->Option (Prop × AV × List Obj):=fun args objs=>match f args objs with
 | some (p,v,o)=>some (p/\μ args < N,v,o)
 | none=>none
theorem BW_ (E:Nat->SumK) {f:List AV->List Obj->Option (Prop × AV × List Obj)} (μ:List AV->Nat) (hE:∀ M,zf_ P id (RwF (upW f μ M)).sum->hB_ P id (E M)) (hf:P.funcs[id]?=some fn) (hok:zl_ P fn ir rd=true) (hΓ:qK_ P Γ)
 (h:∀ args objs p v o,f args objs=some (p,v,o)->args.length=fn.params.size+fn.nfree/\((∀ v ∈ args,v.wf1)->(∀ o ∈ objs,o.wf)->p->Gs_ ((id,E (μ args)) :: Γ) ir rd args objs fun v' o'=>v'=v/\o'=o)):zf_ P id (RwF f).sum:=by
 have key:∀ N,∀ M ≤ N,zf_ P id (RwF (upW f μ M)).sum:=fun N=>by
  induction N with
  | zero=>
    intro M hM
    refine wu_ hf hok hΓ fun args objs p v o e=>?_
    unfold upW at e
    split at e
    ·rename_i p' v' o' e'
     cases e
     exact ⟨(h args objs _ _ _ e').1,fun _ _ hp=>absurd hp.2 (by omega)⟩
    ·cases e
  | succ N ih=>
    intro M hM
    rcases Nat.lt_or_ge N M with hlt | hge
    ·have hM':M=N+1:=by omega
     subst hM'
     have one:∀ args objs p v o,f args objs=some (p,v,o)->μ args < N+1->args.length=fn.params.size+fn.nfree/\((∀ v ∈ args,v.wf1)->(∀ o ∈ objs,o.wf)->p->zf_ P id fun a b K=>a=args/\b=objs/\((fun v' o'=>v'=v/\o'=o)=K)):=fun args objs p v o e hm=>by
      obtain ⟨hl,hev⟩:=h args objs p v o e
      refine ⟨hl,fun hw ho hp=>?_⟩
      exact Ww_ hf hok (Γ:=(id,E (μ args)) :: Γ) (zb_ (hE _ (ih (μ args) (by omega))) hΓ) hl fun _ _=>hev hw ho hp
     have hc:=(ih 0 (Nat.zero_le _)).1
     refine ⟨hc,gQ_ _,fun {I w m args cargs objs K} hH hA hu hS=>?_⟩
     simp only [RwF,SumK.sum,upW] at hS
     split at hS
     ·rename_i p v o e
      split at e
      ·rename_i p' v' o' e'
       cases e
       obtain ⟨hp,hk⟩:=zi_ hS
       obtain ⟨hl,hs⟩:=one args objs _ _ _ e' hp.2
       have hw:∀ v ∈ args,v.wf1:=uK_ hA
       have ho:∀ o ∈ objs,o.wf:=fun o ho=>by
        obtain ⟨i,hi,rfl⟩:=List.mem_iff_getElem.1 ho
        exact gD_ (hH.obj i _ (List.getElem?_eq_getElem hi))
       refine ((hs hw ho hp.1).2.2 hH hA hu ⟨rfl,rfl,rfl⟩).mono ?_
       rintro e w' ⟨v',cv,objs',I',m',h1,⟨rfl,rfl⟩,h3⟩
       exact ⟨v',cv,objs',I',m',h1,hk,h3⟩
      ·cases e
     ·exact hS.elim
    ·exact ih M hge
 refine ⟨(key 0 0 (Nat.le_refl _)).1,gQ_ f,fun {I w m args cargs objs K} hH hA hu hS=>?_⟩
 simp only [RwF,SumK.sum] at hS
 split at hS
 ·rename_i p v o e
  obtain ⟨hp,hk⟩:=zi_ hS
  refine (key _ (μ args+1) (Nat.le_refl _)).2.2 hH hA hu ?_
  simp only [RwF,SumK.sum,upW,e]
  exact wM_ ⟨hp,Nat.lt_succ_self _⟩ fun _=>hk
 ·exact hS.elim
theorem zbo_ {f:List AV->List Obj->Option (Prop × AV × List Obj)} (μ:List AV->Nat) (hf:P.funcs[id]?=some fn) (hok:zl_ P fn ir rd=true) (hΓ:qK_ P Γ)
 (h:∀ args objs p v o,f args objs=some (p,v,o)->args.length=fn.params.size+fn.nfree/\((∀ v ∈ args,v.wf1)->(∀ o ∈ objs,o.wf)->p->Gs_ ((id,RwF (upW f μ (μ args))) :: Γ) ir rd args objs fun v' o'=>v'=v/\o'=o)):zf_ P id (RwF f).sum:=
 BW_ (fun M=>RwF (upW f μ M)) μ (fun _ h=>h) hf hok hΓ h
inductive Res where
 | one (v:AV) (o:List Obj)
 | br (b:Bool) (x y:Res)
def Res.pick:Res->AV × List Obj
 | .one v o=>(v,o)
 | .br b x y=>if b=true then x.pick else y.pick
def Res.run:Res->(AV->List Obj->Prop)->Prop
 | .one v o,K=>K v o
 | .br b x y,K=>cnd b (x.run K) (y.run K)
end
end Go.Eng
namespace Go.Eng
set_option linter.unusedVariables false
set_option linter.unusedSimpArgs false
open Go.RowKit
def JF_ (w:World):Nat->Prop:=fun b=>b < w.heap.size
def noM:M:=⟨fun _=>none,fun _=>0,fun _=>0,fun _=>0,fun _=>False⟩
theorem Hd_ {P:Program} {id:FuncId} {f:List AV->List Obj->Option (Prop × AV)} (h:zf_ P id (RoF f).sum) {w:World} {args:List AV} {cargs:Array Value} (hA:kq_ (JF_ w) w noM args cargs.toList) (hf:f args []=some (True,.bool true)):
 Calls P id cargs w fun e w'=>e=.returned (.bool true)/\Below w.heap.size w w':=by
 have hH:HRel (JF_ w) w noM (ofL []):=⟨fun i hi=>absurd rfl hi,fun i o e=>(by cases e),fun i j o o' b e=>(by cases e),fun i o b e=>(by cases e),fun i t x b e=>(by cases e),fun b hb=>hb⟩
 have hS:(RoF f).sum args [] (fun v _=>v=.bool true):=by
  simp only [RoF,SumK.sum,hf]
  exact wM_ trivial fun _=>trivial
 refine (h.2.2 hH hA (fun i hi=>hi.elim) hS).mono ?_
 rintro e w' ⟨v,cv,objs',I',m',rfl,rfl,hL⟩
 have hv:cv=.bool true:=hL.rv
 subst hv
 exact ⟨rfl,hL.fr.below fun b _ ⟨i,o,e,_⟩=>by cases e⟩
end Go.Eng
namespace Go.Eng
set_option linter.unusedVariables false
set_option linter.unusedSimpArgs false
open Go.RowKit Go.ChangeShapes Go.WideShapes
def tyB (P:Program):Ty->(TypeId->Bool) × (List (TypeId × Nat)->Nat->Bool)
 | .int k=>(fun t=>match P.underlying t with | some (.int k')=>k' == k | _=>false,fun _ _=>false)
 | .bool=>(fun t=>match P.underlying t with | some .bool=>true | _=>false,fun _ _=>false)
 | .str=>(fun t=>match P.underlying t with | some .string=>true | _=>false,fun _ _=>false)
 | .sl a=>(fun t=>match P.underlying t with | some (.slice e)=>P.cellsOf e == a.size && decide (0 < a.size) && (tyB P a).1 e | _=>false,fun _ _=>false)
 | .nil=>(fun t=>match P.underlying t with | some (.struct fs)=>fs.isEmpty && P.cellsOf t == 0 | _=>false,fun l _=>l.isEmpty)
 | .cons a b=>
   let p:List (TypeId × Nat)->Nat->Bool:=fun l off=>match l with
    | (t,o) :: r=>o == off && P.cellsOf t == a.size && (tyB P a).1 t && (tyB P b).2 r (off+a.size)
    | []=>false
   (fun t=>P.cellsOf t == a.size+b.size && (match P.underlying t with
     | some (.struct fs)=>p (fs.toList.map fun f=>(f.type,f.offset)) 0
     | some (.array n e)=>p ((List.range n).map fun i=>(e,i*P.cellsOf e)) 0
     | _=>false),p)
theorem zbb_ {k:IntKind} {n:Int} (h:(Lit.int k n).wf=true):inK k n:=by
 simpa [Lit.wf,inK] using h
section
variable {H:Type} {enc:TypeId × Value->H} {P:Program} {W:World}
theorem x3_:∀ (ty:Ty),(∀ (fuel:Nat) (t:TypeId) (cs:List Value) (x:DataW H × List MemPlace),(tyB P ty).1 t=true->DataW.trod enc P W 0 (fun _=>true) true fuel t cs=some x->∃ y:ty.den,RC (JF_ W) W ty y cs)/\
 (∀ (fuel:Nat) (l:List (TypeId × Nat)) (off:Nat) (cs:List Value),(tyB P ty).2 l off=true->cs.length=off+ty.size->(∀ (i:Nat) t o,l[i]?=some (t,o)->∃ x,DataW.trod enc P W 0 (fun _=>true) true fuel t ((cs.drop o).take (P.cellsOf t))=some x)->∃ y:ty.den,RC (JF_ W) W ty y (cs.drop off))
 | .int k=>by
   refine ⟨fun fuel t cs x ht h=>?_,fun fuel l off cs h=>by cases h⟩
   simp only [tyB] at ht
   split at ht
   ·rename_i k' hu
    simp only [beq_iff_eq] at ht
    subst ht
    obtain ⟨n,rfl,_,hw⟩:=DataW.trod_int hu h
    exact ⟨n,rfl,zbb_ hw⟩
   ·cases ht
 | .bool=>by
   refine ⟨fun fuel t cs x ht h=>?_,fun fuel l off cs h=>by cases h⟩
   simp only [tyB] at ht
   split at ht
   ·rename_i hu
    obtain ⟨b,rfl,_⟩:=DataW.trod_bool hu h
    exact ⟨b,rfl⟩
   ·cases ht
 | .str=>by
   refine ⟨fun fuel t cs x ht h=>?_,fun fuel l off cs h=>by cases h⟩
   simp only [tyB] at ht
   split at ht
   ·rename_i hu
    obtain ⟨s,rfl,_,hs⟩:=DataW.trod_string hu h
    exact ⟨zI_ s,s,rfl,rfl,hs⟩
   ·cases ht
 | .sl a=>by
   refine ⟨fun fuel t cs x ht h=>?_,fun fuel l off cs h=>by cases h⟩
   simp only [tyB] at ht
   split at ht
   ·rename_i e hu
    simp only [Bool.and_eq_true,beq_iff_eq,decide_eq_true_eq] at ht
    obtain ⟨⟨hc,hpos0⟩,ha⟩:=ht
    rcases DataW.trod_slice hu h with ⟨rfl,_⟩ | ⟨ad,len,cap,elems,rest,n,_,rfl,_,hb,hl,hm,hlen,hel,_,_⟩
    ·exact ⟨([]:List a.den),none,0,0,rfl,rfl,Nat.le_refl _,Nat.zero_le _,fun h=>absurd h (by omega)⟩
    ·have each:∀ i,i < len->∃ (y:a.den) (es:List Value),RC (JF_ W) W a y es/\es.length=a.size/\∀ j (hj:j < es.length),W.cell? ((ad.add (i*a.size)).add j)=some es[j]:=fun i hi=>by
      have h1:=hel i hi
      rw [hc] at h1
      have hi':i < elems.length:=by omega
      rw [List.getElem?_eq_getElem hi'] at h1
      obtain ⟨es,e1,e2⟩:=Option.bind_eq_some_iff.1 h1
      obtain ⟨y,hy⟩:=(x3_ a).1 n e es _ ha e2
      obtain ⟨_,k2,k3⟩:=World.cells?_some e1
      exact ⟨y,es,hy,k2,fun j hj=>by rw [k3 j (by omega),List.getElem?_eq_getElem hj]⟩
     have build:∀ m,m<=len->∃ l:List a.den,l.length=m/\∀ i (h:i < l.length),∃ es,RC (JF_ W) W a l[i] es/\∀ j (hj:j < es.length),W.cell? ((ad.add (i*a.size)).add j)=some es[j]:=fun m=>by
      induction m with
      | zero=>intro _;exact ⟨[],rfl,fun i h=>by simp at h⟩
      | succ m ih=>
        intro hm
        obtain ⟨l,h1,h2⟩:=ih (by omega)
        obtain ⟨y,es,h3,_,h4⟩:=each m (by omega)
        refine ⟨l++[y],by simp [h1],fun i hi=>?_⟩
        by_cases hlt:i < l.length
        ·rw [List.getElem_append_left hlt];exact h2 i hlt
        ·have:i=m:=by simp at hi;omega
         subst this
         rw [List.getElem_append_right (by omega)]
         simp only [List.getElem_singleton]
         exact ⟨es,h3,h4⟩
     obtain ⟨l,h1,h2⟩:=build len (Nat.le_refl _)
     refine ⟨l,some ad,len,cap,rfl,h1.symm,hl,hm,fun hpos=>?_⟩
     obtain ⟨es,q1,q2⟩:=h2 0 (by omega)
     have hes:=Zl_ a _ _ q1
     have hc0:=q2 0 (by omega)
     rw [Nat.zero_mul] at hc0
     obtain ⟨b,off,spot⟩:=ad
     have hspot:spot=none:=by simpa [Addr.add] using World.cell?_spot hc0
     subst hspot
     refine ⟨b,off,rfl,?_,fun i hi=>?_⟩
     ·unfold JF_
      simp only [ZH_] at hc0
      unfold World.cell? at hc0
      cases hb:W.heap[b]? with
      | none=>simp [hb] at hc0
      | some o=>exact ql_ hb
     ·obtain ⟨es,q1,q2⟩:=h2 i hi
      exact ⟨es,q1,fun j hj=>by have:=q2 j hj;rw [ZH_,ZH_] at this;exact this⟩
   ·cases ht
 | .nil=>by
   refine ⟨fun fuel t cs x ht h=>?_,fun fuel l off cs h hl _=>⟨(),by simp only [RC];exact List.drop_eq_nil_of_le (by simp [Ty.size] at hl;omega)⟩⟩
   simp only [tyB] at ht
   split at ht
   ·rename_i fs hu
    simp only [Bool.and_eq_true,beq_iff_eq] at ht
    obtain ⟨xs,n,_,_,hl,_⟩:=DataW.trod_struct hu h
    rw [ht.2] at hl
    exact ⟨(),List.eq_nil_of_length_eq_zero hl⟩
   ·cases ht
 | .cons a b=>by
   have key:∀ (fuel:Nat) (l:List (TypeId × Nat)) (off:Nat) (cs:List Value),(tyB P (.cons a b)).2 l off=true->cs.length=off+(a.size+b.size)->(∀ (i:Nat) t o,l[i]?=some (t,o)->∃ x,DataW.trod enc P W 0 (fun _=>true) true fuel t ((cs.drop o).take (P.cellsOf t))=some x)->∃ y:(Ty.cons a b).den,RC (JF_ W) W (.cons a b) y (cs.drop off):=fun fuel l off cs h hl hx=>by
    simp only [tyB] at h
    split at h
    ·rename_i t o r
     simp only [Bool.and_eq_true,beq_iff_eq] at h
     obtain ⟨⟨⟨rfl,hc⟩,ha⟩,hr⟩:=h
     obtain ⟨x,h1⟩:=hx 0 t o rfl
     obtain ⟨y,hy⟩:=(x3_ a).1 fuel t _ x ha h1
     obtain ⟨z,hz⟩:=(x3_ b).2 fuel r (o+a.size) cs hr (by omega) fun i t' o' hi=>hx (i+1) t' o' (by simpa using hi)
     refine ⟨(y,z),?_⟩
     simp only [RC]
     refine ⟨_,_,?_,hy,hz⟩
     rw [hc,<- List.drop_drop,List.take_append_drop]
    ·cases h
   refine ⟨fun fuel t cs x ht h=>?_,fun fuel l off cs h hl hx=>key fuel l off cs h (by simpa [Ty.size] using hl) hx⟩
   have ht':P.cellsOf t == a.size+b.size/\(match P.underlying t with
    | some (.struct fs)=>(tyB P (.cons a b)).2 (fs.toList.map fun f=>(f.type,f.offset)) 0
    | some (.array n e)=>(tyB P (.cons a b)).2 ((List.range n).map fun i=>(e,i*P.cellsOf e)) 0
    | _=>false)=true:=by
    simp only [tyB,Bool.and_eq_true] at ht ⊢
    exact ht
   obtain ⟨hc,hm⟩:=ht'
   simp only [beq_iff_eq] at hc
   split at hm
   ·rename_i fs hu
    obtain ⟨xs,n,_,_,hl,hn,hf⟩:=DataW.trod_struct hu h
    have:=key n _ 0 cs hm (by omega) fun i t o hi=>by
     rw [List.getElem?_map,Option.map_eq_some_iff] at hi
     obtain ⟨f,h1,h2⟩:=hi
     cases h2
     have h1':fs[i]?=some f:=by rw [<- Array.getElem?_toList];exact h1
     have hlt:i < xs.length:=by rw [hn];exact (Array.getElem?_eq_some_iff.1 h1').1
     exact ⟨xs[i],by rw [hf i f h1',List.getElem?_eq_getElem hlt]⟩
    rwa [List.drop_zero] at this
   ·rename_i k e hu
    obtain ⟨xs,n,_,_,hl,hn,hf⟩:=DataW.trod_array hu h
    have:=key n _ 0 cs hm (by omega) fun i t o hi=>by
     rw [List.getElem?_map,Option.map_eq_some_iff] at hi
     obtain ⟨j,h1,h2⟩:=hi
     cases h2
     obtain ⟨hlt,rfl⟩:=List.getElem?_eq_some_iff.1 h1
     simp only [List.length_range] at hlt
     simp only [List.getElem_range]
     exact ⟨xs[i],by rw [hf i hlt,List.getElem?_eq_getElem (by omega)]⟩
    rwa [List.drop_zero] at this
   ·cases hm
def hy_ (ty:Ty) (y:ty.den):AV:=match ty with
 | .nil=>.agg (Ty.cells .nil y)
 | .cons a b=>.agg (Ty.cells (.cons a b) y)
 | .int k=>.int k y
 | .bool=>.bool y
 | .str=>.str y
 | .sl t=>.imm t y
def uQ_:List Ty->List AV->Prop
 | [],[]=>True
 | ty :: r,a :: l=>(∃ y:ty.den,a=hy_ ty y)/\uQ_ r l
 | _,_=>False
def tysB (P:Program):List Ty->List TypeId->Bool
 | [],[]=>true
 | ty :: r,t :: l=>(tyB P ty).1 t && tysB P r l
 | _,_=>false
theorem zbU_ {r:Reach} {b0:Nat} {ty:Ty} {t:TypeId} {v:Value} {d:DataW H} {ps:List MemPlace} (ht:(tyB P ty).1 t=true) (hval:Value.okWide P W r b0 t v) (h:DataW.Trod enc P W 0 (fun _=>true) true t v d ps):
 ∃ y:ty.den,RV2 (JF_ W) W noM (hy_ ty y) v:=by
 obtain ⟨fuel,hf⟩:=h
 obtain ⟨y,hy⟩:=(x3_ ty).1 fuel t _ _ ht hf
 refine ⟨y,?_⟩
 have hcells:=Qt_ (m:=noM) ty y _ hy
 cases ty with
 | int k=>
   simp only [tyB] at ht
   split at ht
   ·rename_i k' hu
    obtain ⟨n,rfl⟩:=okWide_int hu hval
    exact qa_ (kr_ hcells.1)
   ·cases ht
 | bool=>
   simp only [tyB] at ht
   split at ht
   ·rename_i hu
    obtain ⟨n,rfl⟩:=okWide_bool hu hval
    exact qa_ (kr_ hcells.1)
   ·cases ht
 | str=>
   simp only [tyB] at ht
   split at ht
   ·rename_i hu
    obtain ⟨n,rfl⟩:=okWide_string hu hval
    exact qa_ (kr_ hcells.1)
   ·cases ht
 | sl a=>
   simp only [tyB] at ht
   split at ht
   ·rename_i e hu
    obtain ⟨ao,n,c,rfl⟩:=okWide_slice hu hval
    exact qa_ (kr_ hcells.1)
   ·cases ht
 | nil=>
   simp only [tyB] at ht
   split at ht
   ·rename_i fs hu
    obtain ⟨cs,rfl,_⟩:=okWide_struct hu hval
    exact qa_ ⟨cs,rfl,hcells⟩
   ·cases ht
 | cons a b=>
   have ha:∃ cs,v=.agg cs:=by
    simp only [tyB,Bool.and_eq_true] at ht
    obtain ⟨_,ht⟩:=ht
    split at ht
    ·rename_i fs hu
     obtain ⟨cs,rfl,_⟩:=okWide_struct hu hval;exact ⟨cs,rfl⟩
    ·rename_i n e hu
     simp only [Value.okWide,hu] at hval
     obtain ⟨cs,h1,_⟩:=hval;exact ⟨cs,h1⟩
    ·cases ht
   obtain ⟨cs,rfl⟩:=ha
   exact qa_ ⟨cs,rfl,hcells⟩
theorem v0_ {r:Reach} {b0:Nat}:∀ {tys:List Ty} {ts:List TypeId} {vs:List Value} {ds:List (DataW H)} {ps:List MemPlace},tysB P tys ts=true->(∀ (j:Nat) t v,ts[j]?=some t->vs[j]?=some v->Value.okWide P W r b0 t v)->
 DataW.TrodAll enc P W 0 (fun _=>true) true ts vs ds ps->∃ avs,kq_ (JF_ W) W noM avs vs/\uQ_ tys avs
 | [],[],[],[],_,_,_,_=>⟨[],trivial,trivial⟩
 | ty :: r,t :: ts,v :: vs,d :: ds,ps,ht,hv,h=>by
   simp only [tysB,Bool.and_eq_true] at ht
   obtain ⟨p,q,h1,h2,rfl⟩:=h
   obtain ⟨y,hy⟩:=zbU_ ht.1 (hv 0 t v rfl rfl) h1
   obtain ⟨avs,h3,h4⟩:=v0_ ht.2 (fun j t v h h'=>hv (j+1) t v (by simpa using h) (by simpa using h')) h2
   exact ⟨_ :: avs,⟨hy,h3⟩,⟨y,rfl⟩,h4⟩
 | [],_ :: _,_,_,_,ht,_,_=>by cases ht
 | _ :: _,[],_,_,_,ht,_,_=>by cases ht
 | [],[],_ :: _,_,_,_,_,h=>h.elim
 | [],[],[],_ :: _,_,_,_,h=>h.elim
 | _ :: _,_ :: _,[],_,_,_,_,h=>h.elim
 | _ :: _,_ :: _,_ :: _,[],_,_,_,h=>h.elim
theorem xb_:∀ {ts:List TypeId} {vs:List Value} {ds:List (DataW H)} {ps:List MemPlace},DataW.TrodAll enc P W 0 (fun _=>true) true ts vs ds ps->ds.length=ts.length
 | [],[],[],_,_=>rfl
 | _ :: _,_ :: _,_ :: _,_,⟨_,_,_,h,_⟩=>by rw [List.length_cons,List.length_cons,xb_ h]
 | [],_ :: _,_,_,h=>h.elim
 | [],[],_ :: _,_,h=>h.elim
 | _ :: _,[],_,_,h=>h.elim
 | _ :: _,_ :: _,[],_,h=>h.elim
def tsB (P:Program):List TypeId->Bool
 | []=>true
 | t :: r=>P.readableRec t && decide (t < P.types.size) && tsB P r
theorem len2 {α:Type}:∀ {l:List α},l.length=2->∃ a b,l=[a,b]
 | [a,b],_=>⟨a,b,rfl⟩
theorem yZ_ (hl:laidOutB P=true) {W':World} (hb:Below W.heap.size W W'):∀ {ts:List TypeId} {vs:List Value} {ds:List (DataW H)} {ps:List MemPlace},tsB P ts=true->
 DataW.TrodAll enc P W 0 (fun _=>true) true ts vs ds ps->DataW.TrodAll enc P W' 0 (fun b=>decide (b < W.heap.size)) true ts vs ds ps
 | [],[],[],_,_,h=>h
 | t :: ts,v :: vs,d :: ds,ps,ht,h=>by
   simp only [tsB,Bool.and_eq_true,decide_eq_true_eq] at ht
   obtain ⟨p,q,h1,h2,rfl⟩:=h
   have lt:∀ x ∈ p,x.block < W.heap.size:=by obtain ⟨m,hm⟩:=h1;exact DataW.trod_lt m _ _ _ hm
   exact trodAll_cons_mk (Below.trod hl ht.1.1 ht.1.2 h1 hb lt) (yZ_ hl hb ht.2 h2)
 | [],_ :: _,_,_,_,h=>h.elim
 | [],[],_ :: _,_,_,h=>h.elim
 | _ :: _,[],_,_,_,h=>h.elim
 | _ :: _,_ :: _,[],_,_,h=>h.elim
end
end Go.Eng
namespace Go.Eng
abbrev Y1:Ty:=(.cons (.int .i64) (.cons (.int .i64) (.cons .bool (.cons (.int .u64) (.cons (.sl (.int .u8)) (.cons (.sl (.int .u8)) .nil))))))
end Go.Eng
namespace Go.Eng
open Go.Proofs
set_option linter.unusedVariables false
set_option linter.unusedSimpArgs false
set_option maxRecDepth 100000
set_option maxHeartbeats 1000000
theorem z2_ {α:Type} {l:List α} {i:Nat} (h:i < l.length) (d:α):l.drop i=l.getD i d :: l.drop (i+1):=by
 rw [List.drop_eq_getElem_cons h,List.getD_eq_getElem?_getD,List.getElem?_eq_getElem h];rfl
theorem zu_ {α:Type} {l:List α} {j:Nat} (h:j < l.length) (d:α):l.getD j d ∈ l:=by
 rw [List.getD_eq_getElem?_getD,List.getElem?_eq_getElem h];exact List.getElem_mem h
theorem zbw_ {a b:Nat} {n:Nat} (h:b < 2 ^ n):(a*2 ^ n) ||| b=a*2 ^ n+b:=by
 have:=Nat.shiftLeft_add_eq_or_of_lt h a
 rw [Nat.shiftLeft_eq] at this;exact this.symm
theorem zaa_ {n c:Int} (hn:0<=n) (hm:n*256+c<=18446744073709551615) (h0:0<=c) (h1:c<=255):zk_ .or .u64 (n*256) c=n*256+c:=by
 obtain ⟨a,rfl⟩:=Int.eq_ofNat_of_zero_le hn
 obtain ⟨b,rfl⟩:=Int.eq_ofNat_of_zero_le h0
 have hb:b < 2 ^ 8:=by omega
 have hlt:a*256+b < 2 ^ 64:=by omega
 have e1:(BitVec.ofInt 64 ((a:Int)*256)).toNat=a*256:=by
  have:((a:Int)*256)=((a*256:Nat):Int):=by simp
  rw [this,BitVec.ofInt_natCast,BitVec.toNat_ofNat];exact Nat.mod_eq_of_lt (by omega)
 have e2:(BitVec.ofInt 64 (b:Int)).toNat=b:=by
  rw [BitVec.ofInt_natCast,BitVec.toNat_ofNat];exact Nat.mod_eq_of_lt (by omega)
 have e3:(BitVec.ofInt 64 ((a:Int)*256) ||| BitVec.ofInt 64 (b:Int)).toNat=a*256+b:=by
  rw [BitVec.toNat_or,e1,e2];exact zbw_ (n:=8) hb
 show IntKind.u64.wrap ((BitVec.ofInt 64 ((a:Int)*256) ||| BitVec.ofInt 64 (b:Int)).toNat:Int)=_
 rw [e3,KF_ ⟨by rw [Xa_];omega,by rw [V7_];omega⟩]
 simp
def Jy_ (b:List Int):Int:=b.foldl (fun n c=>n*256+c) 0
theorem vw_ (l:List Int) (c:Int):Jy_ (l++[c])=Jy_ l*256+c:=by simp [Jy_]
theorem G9_:∀ (l:List Int) (a:Int),(∀ x ∈ l,0<=x/\x<=255)->0<=a->0<=l.foldl (fun n c=>n*256+c) a/\l.foldl (fun n c=>n*256+c) a < (a+1)*256 ^ l.length
 | [],a,_,ha=>by simp;omega
 | c :: l,a,h,ha=>by
   have hc:=h c (by simp)
   have ih:=G9_ l (a*256+c) (fun x hx=>h x (by simp [hx])) (by omega)
   rw [List.foldl_cons,List.length_cons,Int.pow_succ,Int.mul_comm (256 ^ l.length) 256,<- Int.mul_assoc]
   have hp:(0:Int)<=256 ^ l.length:=Int.le_of_lt (Int.pow_pos (by decide))
   have hm:=Int.mul_le_mul_of_nonneg_right (show a*256+c+1<=(a+1)*256 by omega) hp
   omega
theorem zag_ (l:List Int) (h:∀ x ∈ l,0<=x/\x<=255):0<=Jy_ l/\Jy_ l < 256 ^ l.length:=by
 have:=G9_ l 0 h (Int.le_refl _)
 rwa [Int.zero_add,Int.one_mul] at this
def V1_ (b:List Int) (i:Nat):Int:=Jy_ (b.take i)
theorem h4_ {b:List Int} {i:Nat} (h:i < b.length):V1_ b (i+1)=V1_ b i*256+b.getD i 0:=by
 unfold V1_
 rw [List.take_succ_eq_append_getElem h,vw_,List.getD_eq_getElem?_getD,List.getElem?_eq_getElem h];rfl
theorem bm_ {b:List Int} {i:Nat} (h:b.length<=i):V1_ b i=Jy_ b:=by unfold V1_;rw [List.take_of_length_le h]
theorem B5_:∀ k ≤ 7,(256:Int) ^ k<=72057594037927936:=by decide
theorem zaf_ {b:List Int} (hb:∀ x ∈ b,0<=x/\x<=255) (i:Nat) (hi:i<=7):0<=V1_ b i/\V1_ b i < 72057594037927936:=by
 have h1:=zag_ (b.take i) fun x hx=>hb x (List.mem_of_mem_take hx)
 have h2:(256:Int) ^ (b.take i).length<=72057594037927936:=B5_ _ (by rw [List.length_take];omega)
 unfold V1_;omega
def jx_ (b:List Int):Bool:=b.all fun c=>decide (c=0)
theorem GO_ (x:Int):IntKind.u8.wrap x=x % 256:=by simp [IntKind.wrap,IntKind.signed,IntKind.bits]
def Km_ (n w j:Int):Int:=(n.fdiv (2 ^ (min (8*(w - 1 - j)).toNat 64))) % 256
def yQ_ (n w:Int) (i:Nat):List Int:=(List.range i).map fun j:Nat=>Km_ n w j
def zA_ (n w:Int):List Int:=yQ_ n w w.toNat
theorem K5_ (n w:Int) (i:Nat):(yQ_ n w i).length=i:=by unfold yQ_;simp
theorem QU_ {n w:Int} (h:0<=w):((zA_ n w).length:Int)=w:=by unfold zA_;rw [K5_];omega
theorem yz_ {α:Type} {l:List α} {k:Nat} {d:α}:(l.drop k).getD 0 d=l.getD k d:=by
 rw [List.getD_eq_getElem?_getD,List.getElem?_drop,Nat.add_zero,<- List.getD_eq_getElem?_getD]
theorem HS_ {α:Type} {a b:List α} {d:α} {i:Nat} (h:a.take i=b.take i) (hi:i < a.length) (hl:a.length=b.length) (e:a.getD i d=b.getD i d):a.take (i+1)=b.take (i+1):=by
 have hb:i < b.length:=by omega
 rw [List.getD_eq_getElem?_getD,List.getD_eq_getElem?_getD,List.getElem?_eq_getElem hi,List.getElem?_eq_getElem hb] at e
 rw [List.take_succ_eq_append_getElem hi,List.take_succ_eq_append_getElem hb,h,show a[i]=b[i] from e]
theorem za2_ {α:Type} {a b:List α} {i:Nat} (h:a.take i=b.take i) (hi:a.length<=i) (hl:a.length=b.length):a=b:=by
 rwa [List.take_of_length_le hi,List.take_of_length_le (by omega)] at h
theorem tkNe {α:Type} {a b:List α} {d:α} {i:Nat} (e:¬ a.getD i d=b.getD i d):a ≠ b:=fun h=>e (by rw [h])
def uo_:IR:=
(sq (kr [0,1] [oD 4 (.mov cF)])
(sq (sq (kr [0,1] [oM 6 0,
oE 7 6,
oM 8 1,
oE 9 8,
oB 10 .neq 7 9])
(.cond 10
(sq (.reg [oD 4 (.mov cF)])
.ret)
.skip))
(sq (sq (kr [0,1] [oD 5 (.mov (cI 0))])
(.block 0
(.loop
(sq (sq (kr [0,1,5] [oM 11 5,
oM 12 0,
oE 13 12,
oB 14 .lss 11 13])
(.cond 14
.skip
(.exit 0)))
(sq (.block 1
(sq (kd [0,1,5] [(oM 17 0,[]),
(oM 18 5,[0]),
(oI 19 1 17 18,[]),
(oL 20 19,[]),
(oM 21 1,[0,0,0,0]),
(oM 22 5,[0,0,0,0,0]),
(oI 23 1 21 22,[2,0,0,0]),
(oL 24 23,[3,0,0,0]),
(oB 25 .neq 20 24,[])])
(.cond 25
(sq (kr [] [oD 4 (.mov cF)])
.ret)
.skip)))
(kr [0,1,5] [oM 15 5,
oB 16 .add 15 (cI 1),
oM 5 16]))))))
(sq (kr [] [oD 4 (.mov cT)])
.ret))))
def VB_:List RD:=[.tmp 4 true none]
theorem VU_:zl_ Tryz.prog Tryz.f55 uo_ VB_=true:=by kernel_rfl
def Ke_:List AV->List Obj->Option (Prop × AV)
 | [.imm (.int .u8) a,.imm (.int .u8) b],[]=>some ((True,.bool (decide (a=b))))
 | _,_=>none
theorem JB_:zf_ Tryz.prog 55 (RoF Ke_).sum:=by
 refine zh_ Tryz.func55 VU_ (zd_ _) fun args objs p v e=>?_
 unfold Ke_ at e
 split at e
 ·rename_i a b
  cases e
  refine ⟨rfl,fun hw ho hp=>?_⟩
  change List Int at a
  change List Int at b
  have hl:a.length<=maxLen:=(hw (.imm (.int .u8) a) (by simp)).2
  unfold maxLen at hl
  repeat'(intro t ht;first|(cases t<;>first|(cases ht;done)|(try simp only[zg_]at ht))|((first|refine za_ ht ?_|refine ht ?_ ?_|refine ht.1 ?_ ?_|refine ht ?_)<;>clear ht))
  all_goals first
   | (have hne:a ≠ b:=fun h=>(by assumption:¬ (a.length:Int)=b.length) (by rw [h])
      refine ⟨?_,rfl⟩;rw [decide_eq_false hne];done)
   | (intro r h1 h2;clear h1;refine h2 ⟨[0,1,5],Nat,(fun i=>i<=a.length/\a.take i=b.take i),fun i=>[.imm (.int .u8) a,.imm (.int .u8) b,.int .i64 i],fun _=>[],fun i=>a.length - i,⟨0,⟨Nat.zero_le _,rfl⟩,rfl,rfl⟩,?_⟩;clear h2)
  rintro i ⟨hi,he⟩
  have hl2:a.length=b.length:=by omega
  repeat'(intro t ht;first|(cases t<;>first|(cases ht;done)|(try simp only[zg_]at ht))|((first|refine za_ ht ?_|refine ht ?_ ?_|refine ht.1 ?_ ?_|refine ht ?_)<;>clear ht))
  all_goals first
   | ((try simp only [zq_,zr_,zj_] at*);omega)
   | (have hge:a.length<=i:=by omega
      have e:=za2_ he hge hl2
      refine ⟨?_,rfl⟩;rw [decide_eq_true e];done)
   | (have hne:a ≠ b:=tkNe (d:=0) (i:=i) (by assumption)
      refine ⟨?_,rfl⟩;rw [decide_eq_false hne];done)
   | (have hlt:i < a.length:=by omega
      exact ⟨i+1,⟨hlt,HS_ he hlt hl2 (d:=0) (by assumption)⟩,by (try simp only [zq_,zr_,zj_] at*);omega,rfl,rfl⟩)
 ·cases e
def V2_ (n w:Int) (i:Nat):List Int:=List.replicate (w.toNat - i) 0++(zA_ n w).drop (w.toNat - i)
theorem h5_ {n w:Int}:V2_ n w 0=List.replicate w.toNat 0:=by
 unfold V2_ zA_;rw [List.drop_of_length_le (by rw [K5_];omega)];simp
theorem bn_ {n w:Int} {i:Nat} (h:i<=w.toNat):(V2_ n w i).length=w.toNat:=by
 unfold V2_ zA_;rw [List.length_append,List.length_replicate,List.length_drop,K5_];omega
theorem gs_ {n w:Int} {j:Nat} (h:j < w.toNat):(zA_ n w).getD j 0=Km_ n w j:=by
 unfold zA_ yQ_
 rw [List.getD_eq_getElem?_getD,List.getElem?_map,List.getElem?_range h];rfl
theorem h6_ {n w:Int} {i:Nat} (h:i < w.toNat):(V2_ n w i).set (w.toNat - 1 - i) (Km_ n w (w.toNat - 1 - i:Nat))=V2_ n w (i+1):=by
 have h1:w.toNat - i=(w.toNat - (i+1))+1:=by omega
 have hbl:(zA_ n w).length=w.toNat:=by unfold zA_;rw [K5_]
 unfold V2_
 rw [h1,List.replicate_succ',List.append_assoc,List.set_append_right _ _ (by rw [List.length_replicate];omega),List.length_replicate,show w.toNat - 1 - i - (w.toNat - (i+1))=0 by omega]
 rw [z2_ (l:=zA_ n w) (i:=w.toNat - (i+1)) (by omega) 0,gs_ (by omega),show w.toNat - (i+1)=w.toNat - 1 - i by omega]
 rfl
def Gl_:IR:=
(sq (kr [0,1] [oD 4 (.mov (.c (.imm (.int .u8) [])))])
(sq (.reg [oM 7 1,
oD 8 (.mkrow (.int .u8) 1 (0:Int) 7 7),
oM 5 8])
(sq (sq (.reg [oD 6 (.mov (cI 0))])
(.block 0
(.loop
(sq (sq (kr [0,1,5,6] [oM 9 6,
oM 10 1,
oB 11 .lss 9 10])
(.cond 11
.skip
(.exit 0)))
(sq (.block 1
(kr [0,1,5,6] [oM 14 5,
oM 15 1,
oB 16 .sub 15 (cI 1),
oM 17 6,
oB 18 .sub 16 17,
oM 19 0,
oM 20 6,
oB 21 .mul (cI 8) 20,
oB 22 .shr 19 21,
oD 23 (.conv .u8 22),
oI 24 1 14 18,
oS 1 24 23]))
(kr [0,1,5,6] [oM 12 6,
oB 13 .add 12 (cI 1),
oM 6 13]))))))
(sq (kr [5] [oM 25 5,
oM 4 25])
.ret))))
def gZ_:List RD:=[.tmp 4 false none]
theorem g6_:zl_ Tryz.prog Tryz.f73 Gl_ gZ_=true:=by kernel_rfl
def Jr_:List AV->List Obj->Option (Prop × AV × List Obj)
 | [.int .u64 n,.int .i64 w],[]=>some ((0<=w/\w<=100,.own 0,[.row false (.int .u8) (zA_ n w)]))
 | _,_=>none
theorem xf_:zf_ Tryz.prog 73 (RwF Jr_).sum:=by
 refine wu_ Tryz.func73 g6_ (zd_ _) fun args objs p v o e=>?_
 unfold Jr_ at e
 split at e
 ·rename_i n w
  cases e
  refine ⟨rfl,fun hw ho hp=>?_⟩
  repeat'(intro t ht;first|(cases t<;>first|(cases ht;done)|(try simp only[zg_]at ht))|((first|refine za_ ht ?_|refine ht ?_ ?_|refine ht.1 ?_ ?_|refine ht ?_)<;>clear ht))
  all_goals first
   | ((try simp only [zq_,zr_,zj_] at*);omega)
   | (intro r h1 h2;clear h1;refine h2 ⟨[0,1,5,6],Nat,(fun i=>(i:Int)<=w),fun i=>[.int .u64 n,.int .i64 w,.own 0,.int .i64 i],fun i=>[.row false (.int .u8) (V2_ n w i)],fun i=>w.toNat - i,⟨0,hp.1,rfl,by simp only [h5_]⟩,?_⟩;clear h2)
  intro i hi
  repeat'(intro t ht;first|(cases t<;>first|(cases ht;done)|(try simp only[zg_]at ht))|((first|refine za_ ht ?_|refine ht ?_ ?_)<;>clear ht)|(refine ht.1 (by simp only[zj_];omega) ?_;clear ht)|(refine ht.2 ?_;clear ht)|(refine ht ?_;clear ht))
  all_goals first
   | omega
   | (simp only [bn_ (show i<=w.toNat by omega)];omega)
   | (have e:w.toNat - i=0:=by omega
      refine ⟨rfl,?_⟩;unfold V2_;rw [e];rfl)
   | (have hlt:i < w.toNat:=by omega
      refine ⟨i+1,by dsimp only;omega,by dsimp only;omega,rfl,?_⟩
      dsimp only
      rw [<- h6_ hlt]
      have e1:(w - 1 - (i:Int)).toNat=w.toNat - 1 - i:=by omega
      have e2:Km_ n w ((w.toNat - 1 - i:Nat):Int)=IntKind.u8.wrap (n.fdiv (2 ^ min (8*(i:Int)).toNat IntKind.u64.bits)):=by
       rw [GO_];unfold Km_
       rw [show w - 1 - ((w.toNat - 1 - i:Nat):Int)=i by omega];rfl
      rw [e1,e2])
 ·cases e
def KI_ (b:List Int) (c:Int):Nat->Nat
 | 0=>0
 | k+1=>if b.getD k 0=c then KI_ b c k else k+1
def xc_ (b:List Int) (c:Int):List Int:=b.take (KI_ b c b.length)
def jy_ (b:List Int) (c:Int):List Int:=b.dropWhile fun x=>decide (x=c)
theorem vl_ {b:List Int} {k j:Nat} (h:j < k):(b.take k).getD j 0=b.getD j 0:=by
 rw [List.getD_eq_getElem?_getD,List.getElem?_take,if_pos h,<- List.getD_eq_getElem?_getD]
def K0_:IR:=
(sq (kr [0,1] [oD 4 (.mov (.c (.imm (.int .u8) [])))])
(sq (.block 0
(.loop
(sq (sq (kr [0,1] [oM 5 0,
oE 6 5,
oB 7 .gtr 6 (cI 0),
oM 8 7,
oT 8 9 (.mov 0),
oT 8 10 (.mov 0),
oT 8 11 (.len 10),
oT 8 12 (.bin .sub 11 (cI 1)),
oT 8 13 (.indexSl 1 9 12),
oT 8 14 (.load none 13),
oT 8 15 (.mov 1),
oT 8 16 (.bin .eql 14 15),
oP 17 8 16 cF])
(.cond 17
.skip
(.exit 0)))
(.block 1
(kr [0,1] [oM 18 0,
oM 19 0,
oE 20 19,
oB 21 .sub 20 (cI 1),
oD 22 (.slice 1 18 none (some 21) none),
oM 0 22])))))
(sq (kr [0] [oM 23 0,
oM 4 23])
.ret)))
def KR_:List RD:=[.tmp 4 true (some (.int .u8))]
theorem KS_:zl_ Tryz.prog Tryz.f103 K0_ KR_=true:=by kernel_rfl
def ZS_:List AV->List Obj->Option (Prop × AV)
 | [.imm (.int .u8) b,.int .u8 c],[]=>some ((b.length<=140737488355328,.imm (.int .u8) (xc_ b c)))
 | _,_=>none
theorem Kt_:zf_ Tryz.prog 103 (RoF ZS_).sum:=by
 refine zh_ Tryz.func103 KS_ (zd_ _) fun args objs p v e=>?_
 unfold ZS_ at e
 split at e
 ·rename_i b c
  cases e
  refine ⟨rfl,fun hw ho hp=>?_⟩
  change List Int at b
  repeat'(intro t ht;first|(cases t<;>first|(cases ht;done)|(try simp only[zg_]at ht))|((first|refine za_ ht ?_|refine ht ?_ ?_|refine ht.1 ?_ ?_|refine ht ?_)<;>clear ht))
  all_goals first
   | (intro r h1 h2;clear h1;refine h2 ⟨[0,1],Nat,(fun k=>k<=b.length/\KI_ b c b.length=KI_ b c k),fun k=>[.imm (.int .u8) (b.take k),.int .u8 c],fun _=>[],fun k=>k,⟨b.length,⟨Nat.le_refl _,rfl⟩,by simp only [List.take_length],rfl⟩,?_⟩;clear h2)
  rintro k ⟨hk,he⟩
  have hl:(b.take k).length=k:=by rw [List.length_take];omega
  repeat'(intro t ht;first|(cases t<;>first|(cases ht;done)|(try simp only[zg_]at ht))|((first|refine za_ ht ?_|refine ht ?_ ?_|refine ht.1 ?_ ?_|refine ht ?_)<;>clear ht))
  all_goals first
   | ((try simp only [zq_,zr_,zj_] at*);omega)
   | (have h0:k=0:=by omega
      refine ⟨?_,rfl⟩;unfold xc_;rw [he,h0];rfl)
   | (obtain ⟨j,rfl⟩:∃ j,k=j+1:=⟨k - 1,by omega⟩
      have e:(((b.take (j+1)).length:Int) - 1).toNat=j:=by omega
      first
       | (have hx:¬ (b.take (j+1)).getD (((b.take (j+1)).length:Int) - 1).toNat 0=c:=by assumption
          rw [e,vl_ (Nat.lt_succ_self j)] at hx
          have h1:KI_ b c (j+1)=j+1:=if_neg hx
          refine ⟨?_,rfl⟩;unfold xc_;rw [he,h1])
       | (have hx:(b.take (j+1)).getD (((b.take (j+1)).length:Int) - 1).toNat 0=c:=by assumption
          rw [e,vl_ (Nat.lt_succ_self j)] at hx
          have h1:KI_ b c (j+1)=KI_ b c j:=if_pos hx
          refine ⟨j,⟨by omega,by rw [he,h1]⟩,Nat.lt_succ_self j,?_,rfl⟩
          dsimp only;rw [e,List.take_take,Nat.min_eq_left (Nat.le_succ j)]))
 ·cases e
def jv_:IR:=
(sq (kr [0,1] [oD 4 (.mov (.c (.imm (.int .u8) [])))])
(sq (.block 0
(.loop
(sq (sq (kr [0,1] [oM 5 0,
oE 6 5,
oB 7 .gtr 6 (cI 0),
oM 8 7,
oT 8 9 (.mov 0),
oT 8 10 (.indexSl 1 9 (cI 0)),
oT 8 11 (.load none 10),
oT 8 12 (.mov 1),
oT 8 13 (.bin .eql 11 12),
oP 14 8 13 cF])
(.cond 14
.skip
(.exit 0)))
(.block 1
(kr [0,1] [oM 15 0,
oD 16 (.slice 1 15 (some (cI 1)) none none),
oM 0 16])))))
(sq (sq (kr [0] [oM 17 0,
oE 18 17,
oB 19 .eql 18 (cI 0)])
(.cond 19
(sq (.reg [oD 4 (.mov (.c (.imm (.int .u8) [])))])
.ret)
.skip))
(sq (.reg [oM 20 0,
oM 4 20])
.ret))))
def jq_:List RD:=[.tmp 4 true (some (.int .u8))]
theorem jt_:zl_ Tryz.prog Tryz.f102 jv_ jq_=true:=by kernel_rfl
def Z9_:List AV->List Obj->Option (Prop × AV)
 | [.imm (.int .u8) b,.int .u8 c],[]=>some ((b.length<=140737488355328,.imm (.int .u8) (jy_ b c)))
 | _,_=>none
theorem KM_:zf_ Tryz.prog 102 (RoF Z9_).sum:=by
 refine zh_ Tryz.func102 jt_ (zd_ _) fun args objs p v e=>?_
 unfold Z9_ at e
 split at e
 ·rename_i b c
  cases e
  refine ⟨rfl,fun hw ho hp=>?_⟩
  change List Int at b
  repeat'(intro t ht;first|(cases t<;>first|(cases ht;done)|(try simp only[zg_]at ht))|((first|refine za_ ht ?_|refine ht ?_ ?_|refine ht.1 ?_ ?_|refine ht ?_)<;>clear ht))
  all_goals first
   | (intro r h1 h2;clear h1;refine h2 ⟨[0,1],Nat,(fun k=>k<=b.length/\jy_ b c=jy_ (b.drop k) c),fun k=>[.imm (.int .u8) (b.drop k),.int .u8 c],fun _=>[],fun k=>b.length - k,⟨0,⟨Nat.zero_le _,rfl⟩,rfl,rfl⟩,?_⟩;clear h2)
  rintro k ⟨hk,he⟩
  have hl:(b.drop k).length=b.length - k:=List.length_drop
  repeat'(intro t ht;first|(cases t<;>first|(cases ht;done)|(try simp only[zg_]at ht))|((first|refine za_ ht ?_|refine ht ?_ ?_|refine ht.1 ?_ ?_|refine ht ?_)<;>clear ht))
  all_goals first
   | ((try simp only [zq_,zr_,zj_] at*);omega)
   | (exfalso;omega)
   | (have h0:b.drop k=[]:=List.eq_nil_of_length_eq_zero (by omega)
      refine ⟨?_,rfl⟩;rw [he,h0];rfl)
   | (have hlt:k < b.length:=by omega
      first
       | (have hx:¬ (b.drop k).getD 0 0=c:=by assumption
          rw [yz_] at hx
          have h1:jy_ (b.drop k) c=b.drop k:=by
           unfold jy_;rw [z2_ hlt 0,List.dropWhile_cons_of_neg (by simpa using hx)]
          refine ⟨?_,rfl⟩;rw [he,h1])
       | (have hx:(b.drop k).getD 0 0=c:=by assumption
          rw [yz_] at hx
          have h1:jy_ (b.drop k) c=jy_ (b.drop (k+1)) c:=by
           unfold jy_;rw [z2_ hlt 0,List.dropWhile_cons_of_pos (by simpa using hx)]
          refine ⟨k+1,⟨hlt,by rw [he,h1]⟩,by dsimp only;omega,?_,rfl⟩
          dsimp only;rw [<- List.drop_drop];rfl))
 ·cases e
theorem hI_:∀ (b:List Int),decide ((jy_ (xc_ b 0) 0).length=0)=jx_ b:=by
 intro b
 have hR:∀ k ≤ b.length,(b.take (KI_ b 0 k)).all (fun c=>decide (c=0))=(b.take k).all fun c=>decide (c=0):=by
  intro k
  induction k with
  | zero=>intro _;rfl
  | succ k ih=>
    intro hk
    unfold KI_
    split
    ·rename_i h
     rw [ih (by omega),List.take_succ_eq_append_getElem (by omega),List.all_append]
     have:b[k]=0:=by rw [List.getD_eq_getElem?_getD,List.getElem?_eq_getElem (by omega)] at h;exact h
     simp [this]
    ·rfl
 have hL:∀ l:List Int,decide ((l.dropWhile fun x=>decide (x=0)).length=0)=l.all fun c=>decide (c=0):=by
  intro l
  induction l with
  | nil=>rfl
  | cons a l ih=>
    by_cases h:a=0
    ·rw [List.dropWhile_cons_of_pos (by simpa using h),ih];simp [h]
    ·rw [List.dropWhile_cons_of_neg (by simpa using h)];simp [h]
 unfold jy_ xc_ jx_
 rw [hL,hR _ (Nat.le_refl _),List.take_length]
def vb_:IR:=
(sq (kr [0,1] [oD 4 (.mov (.c (.imm (.int .u8) [])))])
(sq (sq (.reg [oM 7 0,
oE 8 7,
oB 9 .eql 8 (cI 0)])
(.cond 9
(sq (.reg [oD 4 (.mov (.c (.imm (.int .u8) [])))])
.ret)
.skip))
(sq (sq (.reg [oM 10 1,
oB 11 .eql 10 (.c (.str []))])
(.cond 11
(sq (kr [0] [oM 12 0,
oM 4 12])
.ret)
.skip))
(sq (sq (kr [0,1] [oM 13 1,
oD 14 (.slen 13),
oB 15 .eql 14 (cI 1),
oM 16 15,
oT 16 17 (.mov 1),
oT 16 18 (.sindex 17 (cI 0)),
oT 16 19 (.bin .lss 18 (.c (.int .u8 128))),
oP 20 16 19 cF])
(.cond 20
(sq (kd [0,1] [(oM 21 0,[]),
(oM 22 1,[0]),
(oD 23 (.sindex 22 (cI 0)),[1]),
(oC 24 103 [21,23],[]),
(oM 25 1,[0,0,0,0]),
(oD 26 (.sindex 25 (cI 0)),[1,0,0,0]),
(oC 27 102 [24,26],[]),
(oM 4 27,[])])
.ret)
.skip))
(sq (sq (kr [0,1] [oM 29 1,
oC 30 104 [29],
oM 28 30,
oX 31 28 0,
oX 32 28 1,
oD 5 (.box [.kb false,.kb false,.kb false,.kb false,.kb false,.kb false,.kb false,.kb false,.kb false,.kb false,.kb false,.kb false,.kb false,.kb false,.kb false,.kb false,.kb false,.kb false,.kb false,.kb false,.kb false,.kb false,.kb false,.kb false,.kb false,.kb false,.kb false,.kb false,.kb false,.kb false,.kb false,.kb false,.kb false,.kb false,.kb false,.kb false,.kb false,.kb false,.kb false,.kb false,.kb false,.kb false,.kb false,.kb false,.kb false,.kb false,.kb false,.kb false,.kb false,.kb false,.kb false,.kb false,.kb false,.kb false,.kb false,.kb false,.kb false,.kb false,.kb false,.kb false,.kb false,.kb false,.kb false,.kb false,.kb false,.kb false,.kb false,.kb false,.kb false,.kb false,.kb false,.kb false,.kb false,.kb false,.kb false,.kb false,.kb false,.kb false,.kb false,.kb false,.kb false,.kb false,.kb false,.kb false,.kb false,.kb false,.kb false,.kb false,.kb false,.kb false,.kb false,.kb false,.kb false,.kb false,.kb false,.kb false,.kb false,.kb false,.kb false,.kb false,.kb false,.kb false,.kb false,.kb false,.kb false,.kb false,.kb false,.kb false,.kb false,.kb false,.kb false,.kb false,.kb false,.kb false,.kb false,.kb false,.kb false,.kb false,.kb false,.kb false,.kb false,.kb false,.kb false,.kb false,.kb false,.kb false,.kb false,.kb false,.kb false,.kb false,.kb false,.kb false,.kb false,.kb false,.kb false,.kb false,.kb false,.kb false,.kb false,.kb false,.kb false,.kb false,.kb false,.kb false,.kb false,.kb false,.kb false,.kb false,.kb false,.kb false,.kb false,.kb false,.kb false,.kb false,.kb false,.kb false,.kb false,.kb false,.kb false,.kb false,.kb false,.kb false,.kb false,.kb false,.kb false,.kb false,.kb false,.kb false,.kb false,.kb false,.kb false,.kb false,.kb false,.kb false,.kb false,.kb false,.kb false,.kb false,.kb false,.kb false,.kb false,.kb false,.kb false,.kb false,.kb false,.kb false,.kb false,.kb false,.kb false,.kb false,.kb false,.kb false,.kb false,.kb false,.kb false,.kb false,.kb false,.kb false,.kb false,.kb false,.kb false,.kb false,.kb false,.kb false,.kb false,.kb false,.kb false,.kb false,.kb false,.kb false,.kb false,.kb false,.kb false,.kb false,.kb false,.kb false,.kb false,.kb false,.kb false,.kb false,.kb false,.kb false,.kb false,.kb false,.kb false,.kb false,.kb false,.kb false,.kb false,.kb false,.kb false,.kb false,.kb false,.kb false,.kb false,.kb false,.kb false,.kb false,.kb false,.kb false,.kb false,.kb false,.kb false,.kb false,.kb false,.kb false,.kb false,.kb false,.kb false,.kb false,.kb false,.kb false,.kb false,.kb false,.kb false,.kb false]),
oS 256 5 31,
oM 6 32])
(sq (kr [0,1,5,6] [oM 33 6])
(.cond 33
(sq (.reg [oM 34 0,
oC 35 106 [34,5],
oC 36 105 [35,5],
oM 4 36])
.ret)
.skip)))
(sq (kr [0,1] [oM 37 0,
oM 38 1,
oC 39 108 [37,38],
oM 40 1,
oC 41 107 [39,40],
oM 4 41])
.ret))))))
def YD_:List RD:=[.tmp 4 true (some (.int .u8))]
theorem YT_:zl_ Tryz.prog Tryz.f95 vb_ YD_=true:=by kernel_rfl
def jl_:List AV->List Obj->Option (Prop × AV)
 | [.imm (.int .u8) b,.str [0]],[]=>some ((b.length<=140737488355328,.imm (.int .u8) (jy_ (xc_ b 0) 0)))
 | _,_=>none
theorem XF_:zf_ Tryz.prog 95 (RoF jl_).sum:=by
 refine zh_ Tryz.func95 YT_ (zb_ (s:=RoF ZS_) Kt_ (zb_ (s:=RoF Z9_) KM_ (zd_ _))) fun args objs p v e=>?_
 unfold jl_ at e
 split at e
 ·rename_i b
  cases e
  refine ⟨rfl,fun hw ho hp=>?_⟩
  change List Int at b
  have hl:(xc_ b 0).length<=b.length:=by unfold xc_;rw [List.length_take];omega
  repeat'(intro t ht;first|(cases t<;>first|(cases ht;done)|(try simp only[zg_]at ht))|((first|refine za_ ht ?_|refine ht ?_ ?_|refine ht.1 ?_ ?_|refine ht ?_)<;>clear ht))
  all_goals first
   | exact hp
   | exact ⟨by decide,by decide⟩
   | exact Nat.le_trans hl hp
   | exact ⟨rfl,rfl⟩
   | (have hb:b=[]:=List.eq_nil_of_length_eq_zero (by omega)
      refine ⟨?_,rfl⟩;rw [hb];rfl)
 ·cases e
end Go.Eng
