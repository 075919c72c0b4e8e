/- Parts of the proof: EArg, TY, R1, R4, T1, C1, B1, F2, F4. No condition. -/
import Derived.Test.YtjajlkddpekdjaaDoorXC09
import Derived.WalkKit
import Derived.ProofKit
import Derived.OpenShut
import Derived.ShutString
import Derived.ChangeOld
import Derived.Carry
import Derived.Test.YtjajlkddpekdjaaDoorProg
import Derived.KernelRfl
namespace Go.Eng
set_option linter.unusedVariables false
set_option linter.unusedSimpArgs false
def Ty.exact:(t:Ty)->List AV->Option (t.den × List AV)
 | .int k,.int k' n :: r=>match decEq k k' with | isTrue _=>some (n,r) | isFalse _=>none
 | .bool,.bool b :: r=>some (b,r)
 | .str,.str s :: r=>some (s,r)
 | .nil,r=>some ((),r)
 | .cons a b,l=>match a.exact l with
   | some (x,r)=>match b.exact r with
     | some (y,r)=>some ((x,y),r)
     | none=>none
   | none=>none
 | .sl t,.imm t' x :: r=>match decEq t' t with | isTrue h=>some (h ▸ x,r) | isFalse _=>none
 | _,_=>none
def RoF (f:List AV->List Obj->Option (Prop × AV)):SumK:=.ro fun args objs K=>match f args objs with
 | some (p,v)=>need p (K v)
 | none=>False
def RwF (f:List AV->List Obj->Option (Prop × AV × List Obj)):SumK:=.rw fun args objs K=>match f args objs with
 | some (p,v,o)=>need p (K v o)
 | none=>False
theorem HM_:IntKind.i64.min=-9223372036854775808:=rfl
theorem HN_:IntKind.i64.max=9223372036854775807:=rfl
theorem HL_:IntKind.u64.min=0:=rfl
theorem G6_:IntKind.u8.min=0:=rfl
theorem hb_:IntKind.u8.max=255:=rfl
theorem z0_:(∀ a b:Bool,((!a)=b)=(a=!b))/\((!true)=false)/\((!false)=true)/\(∀ a b:Bool,((a && b)=true)=(a=true/\b=true))/\(∀ a b:Bool,((a && b)=false)=(a=false\/b=false))/\(∀ (p:Prop) [Decidable p],(decide p=true)=p)/\∀ (p:Prop) [Decidable p],(decide p=false)=¬ p:=
 ⟨fun _ _=>propext Bool.not_eq_eq_eq_not,rfl,rfl,fun _ _=>Bool.and_eq_true _ _,fun _ _=>propext Bool.and_eq_false_iff,fun _ _=>decide_eq_true_eq,fun _ _=>propext decide_eq_false_iff_not⟩
theorem zZ_:(∀ n:Nat,((n:Int)).toNat=n)/\∀ k:IntKind,(Ty.int k).dflt=(0:Int):=⟨Int.toNat_natCast,fun _=>rfl⟩
theorem zg_:((∀ a b:Bool,((!a)=b)=(a=!b))/\((!true)=false)/\((!false)=true)/\(∀ a b:Bool,((a && b)=true)=(a=true/\b=true))/\(∀ a b:Bool,((a && b)=false)=(a=false\/b=false))/\(∀ (p:Prop) [Decidable p],(decide p=true)=p)/\∀ (p:Prop) [Decidable p],(decide p=false)=¬ p)/\(∀ n:Nat,((n:Int)).toNat=n)/\∀ k:IntKind,(Ty.int k).dflt=(0:Int):=⟨z0_,zZ_⟩
theorem zp_:IntKind.i64.min=-9223372036854775808/\IntKind.i64.max=9223372036854775807/\IntKind.u64.min=0/\IntKind.u64.max=18446744073709551615/\IntKind.u32.min=0/\IntKind.u32.max=4294967295/\IntKind.u16.min=0/\IntKind.u16.max=65535/\IntKind.u8.min=0/\IntKind.u8.max=255:=⟨rfl,rfl,rfl,rfl,rfl,rfl,rfl,rfl,rfl,rfl⟩
theorem us_ {t:Ty} (h:t=t) (x:List t.den):(h ▸ x:List t.den)=x:=rfl
theorem UP_ {a b:Int} (h:0<=a):a.tdiv b=a / b:=Int.tdiv_eq_ediv_of_nonneg h
section
variable {P:Program} {Γ:Env} {id:FuncId} {fn:Func} {ir:IR} {rd:List RD}
theorem bI_ (f:List AV->List Obj->Option (Prop × AV)):Det (RoF f).sum:=fun {args objs K} h=>by
 simp only [RoF,SumK.sum] at h ⊢
 split at h
 ·rename_i p v e
  obtain ⟨hp,hk⟩:=zh_ h
  exact ⟨v,objs,hk,J0_ hp fun _=>⟨rfl,rfl⟩⟩
 ·exact h.elim
theorem uS_ (f:List AV->List Obj->Option (Prop × AV × List Obj)):Det (RwF f).sum:=fun {args objs K} h=>by
 simp only [RwF,SumK.sum] at h ⊢
 split at h
 ·rename_i p v o e
  obtain ⟨hp,hk⟩:=zh_ h
  exact ⟨v,o,hk,J0_ hp fun _=>⟨rfl,rfl⟩⟩
 ·exact h.elim
structure NdR where
 p:Prop
 α:Type
 R:α->Prop
 V:α->AV
 O:α->List Obj
theorem wH_ (hf:P.funcs[id]?=some fn) (hok:zm_ P fn ir rd=true) (hΓ:qD_ P Γ) {args:List AV} {objs:List Obj} {v:AV} {o:List Obj} (hl:args.length=fn.params.size+fn.nfree)
 (h:(∀ v ∈ args,v.wf1)->(∀ o ∈ objs,o.wf)->Um_ Γ ir rd args objs fun v' o'=>v'=v/\o'=o):zf_ P id fun a b K=>a=args/\b=objs/\((fun v' o'=>v'=v/\o'=o)=K):=by
 refine hw_ hf hok hΓ (fun {a b K} hk=>?_) (fun a b K hk=>by rw [hk.1];exact hl) (fun a b K hw ho hk=>?_)
 ·obtain ⟨rfl,rfl,rfl⟩:=hk
  exact ⟨v,o,⟨rfl,rfl⟩,rfl,rfl,rfl⟩
 ·obtain ⟨rfl,rfl,rfl⟩:=hk
  exact h hw ho
theorem zi_ {f:List AV->List Obj->Option (Prop × AV)} (hf:P.funcs[id]?=some fn) (hok:zm_ P fn ir rd=true) (hΓ:qD_ P Γ)
 (h:∀ args objs p v,f args objs=some (p,v)->args.length=fn.params.size+fn.nfree/\((∀ v ∈ args,v.wf1)->(∀ o ∈ objs,o.wf)->p->Um_ Γ ir rd args objs fun v' o'=>v'=v/\o'=objs)):zf_ P id (RoF f).sum:=by
 have hc:jL_ P id:=by
  unfold zm_ at hok
  split at hok
  ·rename_i c hb
   simp only [Bool.and_eq_true,decide_eq_true_eq,Bool.not_eq_true'] at hok
   exact ⟨fn,hf,hok.2,by rw [hb];rfl⟩
  ·cases hok
 refine ⟨hc,bI_ f,fun {I w m args cargs objs K} hH hA hu hS=>?_⟩
 simp only [RoF,SumK.sum] at hS
 split at hS
 ·rename_i p v e
  obtain ⟨hp,hk⟩:=zh_ hS
  obtain ⟨hl,hev⟩:=h args objs p v e
  have:=wH_ hf hok hΓ (v:=v) (o:=objs) hl fun hw ho=>hev hw ho hp
  refine (this.2.2 hH hA hu ⟨rfl,rfl,rfl⟩).mono ?_
  rintro e w' ⟨v',cv,objs',I',m',h1,⟨rfl,rfl⟩,h3⟩
  exact ⟨v',cv,objs',I',m',h1,hk,h3⟩
 ·exact hS.elim
theorem Wp_ {f:List AV->List Obj->Option (Prop × AV × List Obj)} (hf:P.funcs[id]?=some fn) (hok:zm_ P fn ir rd=true) (hΓ:qD_ P Γ)
 (h:∀ args objs p v o,f args objs=some (p,v,o)->args.length=fn.params.size+fn.nfree/\((∀ v ∈ args,v.wf1)->(∀ o ∈ objs,o.wf)->p->Um_ Γ ir rd args objs fun v' o'=>v'=v/\o'=o)):zf_ P id (RwF f).sum:=by
 have hc:jL_ P id:=by
  unfold zm_ at hok
  split at hok
  ·rename_i c hb
   simp only [Bool.and_eq_true,decide_eq_true_eq,Bool.not_eq_true'] at hok
   exact ⟨fn,hf,hok.2,by rw [hb];rfl⟩
  ·cases hok
 refine ⟨hc,uS_ f,fun {I w m args cargs objs K} hH hA hu hS=>?_⟩
 simp only [RwF,SumK.sum] at hS
 split at hS
 ·rename_i p v o e
  obtain ⟨hp,hk⟩:=zh_ hS
  obtain ⟨hl,hev⟩:=h args objs p v o e
  have:=wH_ hf hok hΓ (v:=v) (o:=o) hl fun hw ho=>hev hw ho hp
  refine (this.2.2 hH hA hu ⟨rfl,rfl,rfl⟩).mono ?_
  rintro e w' ⟨v',cv,objs',I',m',h1,⟨rfl,rfl⟩,h3⟩
  exact ⟨v',cv,objs',I',m',h1,hk,h3⟩
 ·exact hS.elim
def upW (f:List AV->List Obj->Option (Prop × AV × List Obj)) (μ:List AV->Nat) (N:Nat):List AV->List Obj->Option (Prop × AV × List Obj):=fun args objs=>match f args objs with
 | some (p,v,o)=>some (p/\μ args < N,v,o)
 | none=>none
theorem Hm_ (E:Nat->SumK) {f:List AV->List Obj->Option (Prop × AV × List Obj)} (μ:List AV->Nat) (hE:∀ M,zf_ P id (RwF (upW f μ M)).sum->gp_ P id (E M)) (hf:P.funcs[id]?=some fn) (hok:zm_ P fn ir rd=true) (hΓ:qD_ P Γ)
 (h:∀ args objs p v o,f args objs=some (p,v,o)->args.length=fn.params.size+fn.nfree/\((∀ v ∈ args,v.wf1)->(∀ o ∈ objs,o.wf)->p->Um_ ((id,E (μ args)) :: Γ) ir rd args objs fun v' o'=>v'=v/\o'=o)):zf_ P id (RwF f).sum:=by
 have key:∀ N,∀ M ≤ N,zf_ P id (RwF (upW f μ M)).sum:=fun N=>by
  induction N with
  | zero=>
    intro M hM
    refine Wp_ hf hok hΓ fun args objs p v o e=>?_
    unfold upW at e
    split at e
    ·rename_i p' v' o' e'
     cases e
     exact ⟨(h args objs _ _ _ e').1,fun _ _ hp=>absurd hp.2 (by omega)⟩
    ·cases e
  | succ N ih=>
    intro M hM
    rcases Nat.lt_or_ge N M with hlt | hge
    ·have hM':M=N+1:=by omega
     subst hM'
     have one:∀ args objs p v o,f args objs=some (p,v,o)->μ args < N+1->args.length=fn.params.size+fn.nfree/\((∀ v ∈ args,v.wf1)->(∀ o ∈ objs,o.wf)->p->zf_ P id fun a b K=>a=args/\b=objs/\((fun v' o'=>v'=v/\o'=o)=K)):=fun args objs p v o e hm=>by
      obtain ⟨hl,hev⟩:=h args objs p v o e
      refine ⟨hl,fun hw ho hp=>?_⟩
      exact wH_ hf hok (Γ:=(id,E (μ args)) :: Γ) (zb_ (hE _ (ih (μ args) (by omega))) hΓ) hl fun _ _=>hev hw ho hp
     have hc:=(ih 0 (Nat.zero_le _)).1
     refine ⟨hc,uS_ _,fun {I w m args cargs objs K} hH hA hu hS=>?_⟩
     simp only [RwF,SumK.sum,upW] at hS
     split at hS
     ·rename_i p v o e
      split at e
      ·rename_i p' v' o' e'
       cases e
       obtain ⟨hp,hk⟩:=zh_ hS
       obtain ⟨hl,hs⟩:=one args objs _ _ _ e' hp.2
       have hw:∀ v ∈ args,v.wf1:=v3_ hA
       have ho:∀ o ∈ objs,o.wf:=fun o ho=>by
        obtain ⟨i,hi,rfl⟩:=List.mem_iff_getElem.1 ho
        exact uG_ (hH.obj i _ (List.getElem?_eq_getElem hi))
       refine ((hs hw ho hp.1).2.2 hH hA hu ⟨rfl,rfl,rfl⟩).mono ?_
       rintro e w' ⟨v',cv,objs',I',m',h1,⟨rfl,rfl⟩,h3⟩
       exact ⟨v',cv,objs',I',m',h1,hk,h3⟩
      ·cases e
     ·exact hS.elim
    ·exact ih M hge
 refine ⟨(key 0 0 (Nat.le_refl _)).1,uS_ f,fun {I w m args cargs objs K} hH hA hu hS=>?_⟩
 simp only [RwF,SumK.sum] at hS
 split at hS
 ·rename_i p v o e
  obtain ⟨hp,hk⟩:=zh_ hS
  refine (key _ (μ args+1) (Nat.le_refl _)).2.2 hH hA hu ?_
  simp only [RwF,SumK.sum,upW,e]
  exact J0_ ⟨hp,Nat.lt_succ_self _⟩ fun _=>hk
 ·exact hS.elim
theorem bE_ {f:List AV->List Obj->Option (Prop × AV × List Obj)} (μ:List AV->Nat) (hf:P.funcs[id]?=some fn) (hok:zm_ P fn ir rd=true) (hΓ:qD_ P Γ)
 (h:∀ args objs p v o,f args objs=some (p,v,o)->args.length=fn.params.size+fn.nfree/\((∀ v ∈ args,v.wf1)->(∀ o ∈ objs,o.wf)->p->Um_ ((id,RwF (upW f μ (μ args))) :: Γ) ir rd args objs fun v' o'=>v'=v/\o'=o)):zf_ P id (RwF f).sum:=
 Hm_ (fun M=>RwF (upW f μ M)) μ (fun _ h=>h) hf hok hΓ h
inductive Res where
 | one (v:AV) (o:List Obj)
 | br (b:Bool) (x y:Res)
def Res.pick:Res->AV × List Obj
 | .one v o=>(v,o)
 | .br b x y=>if b=true then x.pick else y.pick
def Res.run:Res->(AV->List Obj->Prop)->Prop
 | .one v o,K=>K v o
 | .br b x y,K=>cnd b (x.run K) (y.run K)
end
end Go.Eng
namespace Go.Eng
set_option linter.unusedVariables false
set_option linter.unusedSimpArgs false
open Go.RowKit
def j5_ (w:World):Nat->Prop:=fun b=>b < w.heap.size
def noM:M:=⟨fun _=>none,fun _=>0,fun _=>0,fun _=>0,fun _=>False⟩
theorem gV_ {P:Program} {id:FuncId} {f:List AV->List Obj->Option (Prop × AV)} (h:zf_ P id (RoF f).sum) {w:World} {args:List AV} {cargs:Array Value} (hA:ke_ (j5_ w) w noM args cargs.toList) (hf:f args []=some (True,.bool true)):
 Calls P id cargs w fun e w'=>e=.returned (.bool true)/\Below w.heap.size w w':=by
 have hH:HRel (j5_ w) w noM (ofL []):=⟨fun i hi=>absurd rfl hi,fun i o e=>(by cases e),fun i j o o' b e=>(by cases e),fun i o b e=>(by cases e),fun i t x b e=>(by cases e),fun b hb=>hb⟩
 have hS:(RoF f).sum args [] (fun v _=>v=.bool true):=by
  simp only [RoF,SumK.sum,hf]
  exact J0_ trivial fun _=>trivial
 refine (h.2.2 hH hA (fun i hi=>hi.elim) hS).mono ?_
 rintro e w' ⟨v,cv,objs',I',m',rfl,rfl,hL⟩
 have hv:cv=.bool true:=hL.rv
 subst hv
 exact ⟨rfl,hL.fr.below fun b _ ⟨i,o,e,_⟩=>by cases e⟩
end Go.Eng
namespace Go.Eng
set_option linter.unusedVariables false
set_option linter.unusedSimpArgs false
open Go.RowKit Go.ChangeShapes Go.WideShapes
def tyB (P:Program):Ty->(TypeId->Bool) × (List (TypeId × Nat)->Nat->Bool)
 | .int k=>(fun t=>match P.underlying t with | some (.int k')=>k' == k | _=>false,fun _ _=>false)
 | .bool=>(fun t=>match P.underlying t with | some .bool=>true | _=>false,fun _ _=>false)
 | .str=>(fun t=>match P.underlying t with | some .string=>true | _=>false,fun _ _=>false)
 | .sl a=>(fun t=>match P.underlying t with | some (.slice e)=>P.cellsOf e == a.size && decide (0 < a.size) && (tyB P a).1 e | _=>false,fun _ _=>false)
 | .nil=>(fun t=>match P.underlying t with | some (.struct fs)=>fs.isEmpty && P.cellsOf t == 0 | _=>false,fun l _=>l.isEmpty)
 | .cons a b=>
   let p:List (TypeId × Nat)->Nat->Bool:=fun l off=>match l with
    | (t,o) :: r=>o == off && P.cellsOf t == a.size && (tyB P a).1 t && (tyB P b).2 r (off+a.size)
    | []=>false
   (fun t=>P.cellsOf t == a.size+b.size && (match P.underlying t with
     | some (.struct fs)=>p (fs.toList.map fun f=>(f.type,f.offset)) 0
     | some (.array n e)=>p ((List.range n).map fun i=>(e,i*P.cellsOf e)) 0
     | _=>false),p)
theorem bx_ {k:IntKind} {n:Int} (h:(Lit.int k n).wf=true):inK k n:=by
 simpa [Lit.wf,inK] using h
section
variable {H:Type} {enc:TypeId × Value->H} {P:Program} {W:World}
theorem xa_:∀ (ty:Ty),(∀ (fuel:Nat) (t:TypeId) (cs:List Value) (x:DataW H × List MemPlace),(tyB P ty).1 t=true->DataW.trod enc P W 0 (fun _=>true) true fuel t cs=some x->∃ y:ty.den,RC (j5_ W) W ty y cs)/\
 (∀ (fuel:Nat) (l:List (TypeId × Nat)) (off:Nat) (cs:List Value),(tyB P ty).2 l off=true->cs.length=off+ty.size->(∀ (i:Nat) t o,l[i]?=some (t,o)->∃ x,DataW.trod enc P W 0 (fun _=>true) true fuel t ((cs.drop o).take (P.cellsOf t))=some x)->∃ y:ty.den,RC (j5_ W) W ty y (cs.drop off))
 | .int k=>by
   refine ⟨fun fuel t cs x ht h=>?_,fun fuel l off cs h=>by cases h⟩
   simp only [tyB] at ht
   split at ht
   ·rename_i k' hu
    simp only [beq_iff_eq] at ht
    subst ht
    obtain ⟨n,rfl,_,hw⟩:=DataW.trod_int hu h
    exact ⟨n,rfl,bx_ hw⟩
   ·cases ht
 | .bool=>by
   refine ⟨fun fuel t cs x ht h=>?_,fun fuel l off cs h=>by cases h⟩
   simp only [tyB] at ht
   split at ht
   ·rename_i hu
    obtain ⟨b,rfl,_⟩:=DataW.trod_bool hu h
    exact ⟨b,rfl⟩
   ·cases ht
 | .str=>by
   refine ⟨fun fuel t cs x ht h=>?_,fun fuel l off cs h=>by cases h⟩
   simp only [tyB] at ht
   split at ht
   ·rename_i hu
    obtain ⟨s,rfl,_,hs⟩:=DataW.trod_string hu h
    exact ⟨zB_ s,s,rfl,rfl,hs⟩
   ·cases ht
 | .sl a=>by
   refine ⟨fun fuel t cs x ht h=>?_,fun fuel l off cs h=>by cases h⟩
   simp only [tyB] at ht
   split at ht
   ·rename_i e hu
    simp only [Bool.and_eq_true,beq_iff_eq,decide_eq_true_eq] at ht
    obtain ⟨⟨hc,hpos0⟩,ha⟩:=ht
    rcases DataW.trod_slice hu h with ⟨rfl,_⟩ | ⟨ad,len,cap,elems,rest,n,_,rfl,_,hb,hl,hm,hlen,hel,_,_⟩
    ·exact ⟨([]:List a.den),none,0,0,rfl,rfl,Nat.le_refl _,Nat.zero_le _,fun h=>absurd h (by omega)⟩
    ·have each:∀ i,i < len->∃ (y:a.den) (es:List Value),RC (j5_ W) W a y es/\es.length=a.size/\∀ j (hj:j < es.length),W.cell? ((ad.add (i*a.size)).add j)=some es[j]:=fun i hi=>by
      have h1:=hel i hi
      rw [hc] at h1
      have hi':i < elems.length:=by omega
      rw [List.getElem?_eq_getElem hi'] at h1
      obtain ⟨es,e1,e2⟩:=Option.bind_eq_some_iff.1 h1
      obtain ⟨y,hy⟩:=(xa_ a).1 n e es _ ha e2
      obtain ⟨_,k2,k3⟩:=World.cells?_some e1
      exact ⟨y,es,hy,k2,fun j hj=>by rw [k3 j (by omega),List.getElem?_eq_getElem hj]⟩
     have build:∀ m,m<=len->∃ l:List a.den,l.length=m/\∀ i (h:i < l.length),∃ es,RC (j5_ W) W a l[i] es/\∀ j (hj:j < es.length),W.cell? ((ad.add (i*a.size)).add j)=some es[j]:=fun m=>by
      induction m with
      | zero=>intro _;exact ⟨[],rfl,fun i h=>by simp at h⟩
      | succ m ih=>
        intro hm
        obtain ⟨l,h1,h2⟩:=ih (by omega)
        obtain ⟨y,es,h3,_,h4⟩:=each m (by omega)
        refine ⟨l++[y],by simp [h1],fun i hi=>?_⟩
        by_cases hlt:i < l.length
        ·rw [List.getElem_append_left hlt];exact h2 i hlt
        ·have:i=m:=by simp at hi;omega
         subst this
         rw [List.getElem_append_right (by omega)]
         simp only [List.getElem_singleton]
         exact ⟨es,h3,h4⟩
     obtain ⟨l,h1,h2⟩:=build len (Nat.le_refl _)
     refine ⟨l,some ad,len,cap,rfl,h1.symm,hl,hm,fun hpos=>?_⟩
     obtain ⟨es,q1,q2⟩:=h2 0 (by omega)
     have hes:=Zg_ a _ _ q1
     have hc0:=q2 0 (by omega)
     rw [Nat.zero_mul] at hc0
     obtain ⟨b,off,spot⟩:=ad
     have hspot:spot=none:=by simpa [Addr.add] using World.cell?_spot hc0
     subst hspot
     refine ⟨b,off,rfl,?_,fun i hi=>?_⟩
     ·unfold j5_
      simp only [ZD_] at hc0
      unfold World.cell? at hc0
      cases hb:W.heap[b]? with
      | none=>simp [hb] at hc0
      | some o=>exact qh_ hb
     ·obtain ⟨es,q1,q2⟩:=h2 i hi
      exact ⟨es,q1,fun j hj=>by have:=q2 j hj;rw [ZD_,ZD_] at this;exact this⟩
   ·cases ht
 | .nil=>by
   refine ⟨fun fuel t cs x ht h=>?_,fun fuel l off cs h hl _=>⟨(),by simp only [RC];exact List.drop_eq_nil_of_le (by simp [Ty.size] at hl;omega)⟩⟩
   simp only [tyB] at ht
   split at ht
   ·rename_i fs hu
    simp only [Bool.and_eq_true,beq_iff_eq] at ht
    obtain ⟨xs,n,_,_,hl,_⟩:=DataW.trod_struct hu h
    rw [ht.2] at hl
    exact ⟨(),List.eq_nil_of_length_eq_zero hl⟩
   ·cases ht
 | .cons a b=>by
   have key:∀ (fuel:Nat) (l:List (TypeId × Nat)) (off:Nat) (cs:List Value),(tyB P (.cons a b)).2 l off=true->cs.length=off+(a.size+b.size)->(∀ (i:Nat) t o,l[i]?=some (t,o)->∃ x,DataW.trod enc P W 0 (fun _=>true) true fuel t ((cs.drop o).take (P.cellsOf t))=some x)->∃ y:(Ty.cons a b).den,RC (j5_ W) W (.cons a b) y (cs.drop off):=fun fuel l off cs h hl hx=>by
    simp only [tyB] at h
    split at h
    ·rename_i t o r
     simp only [Bool.and_eq_true,beq_iff_eq] at h
     obtain ⟨⟨⟨rfl,hc⟩,ha⟩,hr⟩:=h
     obtain ⟨x,h1⟩:=hx 0 t o rfl
     obtain ⟨y,hy⟩:=(xa_ a).1 fuel t _ x ha h1
     obtain ⟨z,hz⟩:=(xa_ b).2 fuel r (o+a.size) cs hr (by omega) fun i t' o' hi=>hx (i+1) t' o' (by simpa using hi)
     refine ⟨(y,z),?_⟩
     simp only [RC]
     refine ⟨_,_,?_,hy,hz⟩
     rw [hc,<- List.drop_drop,List.take_append_drop]
    ·cases h
   refine ⟨fun fuel t cs x ht h=>?_,fun fuel l off cs h hl hx=>key fuel l off cs h (by simpa [Ty.size] using hl) hx⟩
   have ht':P.cellsOf t == a.size+b.size/\(match P.underlying t with
    | some (.struct fs)=>(tyB P (.cons a b)).2 (fs.toList.map fun f=>(f.type,f.offset)) 0
    | some (.array n e)=>(tyB P (.cons a b)).2 ((List.range n).map fun i=>(e,i*P.cellsOf e)) 0
    | _=>false)=true:=by
    simp only [tyB,Bool.and_eq_true] at ht ⊢
    exact ht
   obtain ⟨hc,hm⟩:=ht'
   simp only [beq_iff_eq] at hc
   split at hm
   ·rename_i fs hu
    obtain ⟨xs,n,_,_,hl,hn,hf⟩:=DataW.trod_struct hu h
    have:=key n _ 0 cs hm (by omega) fun i t o hi=>by
     rw [List.getElem?_map,Option.map_eq_some_iff] at hi
     obtain ⟨f,h1,h2⟩:=hi
     cases h2
     have h1':fs[i]?=some f:=by rw [<- Array.getElem?_toList];exact h1
     have hlt:i < xs.length:=by rw [hn];exact (Array.getElem?_eq_some_iff.1 h1').1
     exact ⟨xs[i],by rw [hf i f h1',List.getElem?_eq_getElem hlt]⟩
    rwa [List.drop_zero] at this
   ·rename_i k e hu
    obtain ⟨xs,n,_,_,hl,hn,hf⟩:=DataW.trod_array hu h
    have:=key n _ 0 cs hm (by omega) fun i t o hi=>by
     rw [List.getElem?_map,Option.map_eq_some_iff] at hi
     obtain ⟨j,h1,h2⟩:=hi
     cases h2
     obtain ⟨hlt,rfl⟩:=List.getElem?_eq_some_iff.1 h1
     simp only [List.length_range] at hlt
     simp only [List.getElem_range]
     exact ⟨xs[i],by rw [hf i hlt,List.getElem?_eq_getElem (by omega)]⟩
    rwa [List.drop_zero] at this
   ·cases hm
def uy_ (ty:Ty) (y:ty.den):AV:=match ty with
 | .nil=>.agg (Ty.cells .nil y)
 | .cons a b=>.agg (Ty.cells (.cons a b) y)
 | .int k=>.int k y
 | .bool=>.bool y
 | .str=>.str y
 | .sl t=>.imm t y
def v9_:List Ty->List AV->Prop
 | [],[]=>True
 | ty :: r,a :: l=>(∃ y:ty.den,a=uy_ ty y)/\v9_ r l
 | _,_=>False
def bB_ (P:Program):List Ty->List TypeId->Bool
 | [],[]=>true
 | ty :: r,t :: l=>(tyB P ty).1 t && bB_ P r l
 | _,_=>false
theorem Ba_ {r:Reach} {b0:Nat} {ty:Ty} {t:TypeId} {v:Value} {d:DataW H} {ps:List MemPlace} (ht:(tyB P ty).1 t=true) (hval:Value.okWide P W r b0 t v) (h:DataW.Trod enc P W 0 (fun _=>true) true t v d ps):
 ∃ y:ty.den,RV2 (j5_ W) W noM (uy_ ty y) v:=by
 obtain ⟨fuel,hf⟩:=h
 obtain ⟨y,hy⟩:=(xa_ ty).1 fuel t _ _ ht hf
 refine ⟨y,?_⟩
 have hcells:=Ql_ (m:=noM) ty y _ hy
 cases ty with
 | int k=>
   simp only [tyB] at ht
   split at ht
   ·rename_i k' hu
    obtain ⟨n,rfl⟩:=okWide_int hu hval
    exact Z7_ (kf_ hcells.1)
   ·cases ht
 | bool=>
   simp only [tyB] at ht
   split at ht
   ·rename_i hu
    obtain ⟨n,rfl⟩:=okWide_bool hu hval
    exact Z7_ (kf_ hcells.1)
   ·cases ht
 | str=>
   simp only [tyB] at ht
   split at ht
   ·rename_i hu
    obtain ⟨n,rfl⟩:=okWide_string hu hval
    exact Z7_ (kf_ hcells.1)
   ·cases ht
 | sl a=>
   simp only [tyB] at ht
   split at ht
   ·rename_i e hu
    obtain ⟨ao,n,c,rfl⟩:=okWide_slice hu hval
    exact Z7_ (kf_ hcells.1)
   ·cases ht
 | nil=>
   simp only [tyB] at ht
   split at ht
   ·rename_i fs hu
    obtain ⟨cs,rfl,_⟩:=okWide_struct hu hval
    exact Z7_ ⟨cs,rfl,hcells⟩
   ·cases ht
 | cons a b=>
   have ha:∃ cs,v=.agg cs:=by
    simp only [tyB,Bool.and_eq_true] at ht
    obtain ⟨_,ht⟩:=ht
    split at ht
    ·rename_i fs hu
     obtain ⟨cs,rfl,_⟩:=okWide_struct hu hval;exact ⟨cs,rfl⟩
    ·rename_i n e hu
     simp only [Value.okWide,hu] at hval
     obtain ⟨cs,h1,_⟩:=hval;exact ⟨cs,h1⟩
    ·cases ht
   obtain ⟨cs,rfl⟩:=ha
   exact Z7_ ⟨cs,rfl,hcells⟩
theorem YP_ {r:Reach} {b0:Nat}:∀ {tys:List Ty} {ts:List TypeId} {vs:List Value} {ds:List (DataW H)} {ps:List MemPlace},bB_ P tys ts=true->(∀ (j:Nat) t v,ts[j]?=some t->vs[j]?=some v->Value.okWide P W r b0 t v)->
 DataW.TrodAll enc P W 0 (fun _=>true) true ts vs ds ps->∃ avs,ke_ (j5_ W) W noM avs vs/\v9_ tys avs
 | [],[],[],[],_,_,_,_=>⟨[],trivial,trivial⟩
 | ty :: r,t :: ts,v :: vs,d :: ds,ps,ht,hv,h=>by
   simp only [bB_,Bool.and_eq_true] at ht
   obtain ⟨p,q,h1,h2,rfl⟩:=h
   obtain ⟨y,hy⟩:=Ba_ ht.1 (hv 0 t v rfl rfl) h1
   obtain ⟨avs,h3,h4⟩:=YP_ ht.2 (fun j t v h h'=>hv (j+1) t v (by simpa using h) (by simpa using h')) h2
   exact ⟨_ :: avs,⟨hy,h3⟩,⟨y,rfl⟩,h4⟩
 | [],_ :: _,_,_,_,ht,_,_=>by cases ht
 | _ :: _,[],_,_,_,ht,_,_=>by cases ht
 | [],[],_ :: _,_,_,_,_,h=>h.elim
 | [],[],[],_ :: _,_,_,_,h=>h.elim
 | _ :: _,_ :: _,[],_,_,_,_,h=>h.elim
 | _ :: _,_ :: _,_ :: _,[],_,_,_,h=>h.elim
theorem Wk_:∀ {ts:List TypeId} {vs:List Value} {ds:List (DataW H)} {ps:List MemPlace},DataW.TrodAll enc P W 0 (fun _=>true) true ts vs ds ps->ds.length=ts.length
 | [],[],[],_,_=>rfl
 | _ :: _,_ :: _,_ :: _,_,⟨_,_,_,h,_⟩=>by rw [List.length_cons,List.length_cons,Wk_ h]
 | [],_ :: _,_,_,h=>h.elim
 | [],[],_ :: _,_,h=>h.elim
 | _ :: _,[],_,_,h=>h.elim
 | _ :: _,_ :: _,[],_,h=>h.elim
def tsB (P:Program):List TypeId->Bool
 | []=>true
 | t :: r=>P.readableRec t && decide (t < P.types.size) && tsB P r
theorem B1_ {α:Type}:∀ {l:List α},l.length=3->∃ a b c,l=[a,b,c]
 | [a,b,c],_=>⟨a,b,c,rfl⟩
theorem X1_ (hl:laidOutB P=true) {W':World} (hb:Below W.heap.size W W'):∀ {ts:List TypeId} {vs:List Value} {ds:List (DataW H)} {ps:List MemPlace},tsB P ts=true->
 DataW.TrodAll enc P W 0 (fun _=>true) true ts vs ds ps->DataW.TrodAll enc P W' 0 (fun b=>decide (b < W.heap.size)) true ts vs ds ps
 | [],[],[],_,_,h=>h
 | t :: ts,v :: vs,d :: ds,ps,ht,h=>by
   simp only [tsB,Bool.and_eq_true,decide_eq_true_eq] at ht
   obtain ⟨p,q,h1,h2,rfl⟩:=h
   have lt:∀ x ∈ p,x.block < W.heap.size:=by obtain ⟨m,hm⟩:=h1;exact DataW.trod_lt m _ _ _ hm
   exact trodAll_cons_mk (Below.trod hl ht.1.1 ht.1.2 h1 hb lt) (X1_ hl hb ht.2 h2)
 | [],_ :: _,_,_,_,h=>h.elim
 | [],[],_ :: _,_,_,h=>h.elim
 | _ :: _,[],_,_,_,h=>h.elim
 | _ :: _,_ :: _,[],_,_,h=>h.elim
end
end Go.Eng
namespace Go.Eng
abbrev Y1:Ty:=(.cons (.int .i64) (.cons (.int .i64) (.cons .bool (.cons (.int .u64) (.cons (.sl (.int .u8)) (.cons (.sl (.int .u8)) .nil))))))
end Go.Eng
namespace Go.Eng
open Go.Proofs
set_option linter.unusedVariables false
set_option linter.unusedSimpArgs false
set_option maxRecDepth 100000
set_option maxHeartbeats 1000000
theorem Zt_ {α:Type} {l:List α} {i:Nat} (h:i < l.length) (d:α):l.drop i=l.getD i d :: l.drop (i+1):=by
 rw [List.drop_eq_getElem_cons h,List.getD_eq_getElem?_getD,List.getElem?_eq_getElem h];rfl
theorem z1_ {α:Type} {l:List α} {j:Nat} (h:j < l.length) (d:α):l.getD j d ∈ l:=by
 rw [List.getD_eq_getElem?_getD,List.getElem?_eq_getElem h];exact List.getElem_mem h
def Bu_ (b:List Int):Int:=b.foldl (fun n c=>n*256+c) 0
def Va_ (b:List Int):Bool:=b.all fun c=>decide (c=0)
theorem Ha_ (x:Int):IntKind.u8.wrap x=x % 256:=by simp [IntKind.wrap,IntKind.signed,IntKind.bits]
def b9_ (n w j:Int):Int:=(n.fdiv (2 ^ (min (8*(w - 1 - j)).toNat 64))) % 256
def b8_ (n w:Int) (i:Nat):List Int:=(List.range i).map fun j:Nat=>b9_ n w j
def vY_ (n w:Int):List Int:=b8_ n w w.toNat
theorem XC_ {α:Type} {l:List α} {k:Nat} {d:α}:(l.drop k).getD 0 d=l.getD k d:=by
 rw [List.getD_eq_getElem?_getD,List.getElem?_drop,Nat.add_zero,<- List.getD_eq_getElem?_getD]
theorem Gw_ {α:Type} {a b:List α} {d:α} {i:Nat} (h:a.take i=b.take i) (hi:i < a.length) (hl:a.length=b.length) (e:a.getD i d=b.getD i d):a.take (i+1)=b.take (i+1):=by
 have hb:i < b.length:=by omega
 rw [List.getD_eq_getElem?_getD,List.getD_eq_getElem?_getD,List.getElem?_eq_getElem hi,List.getElem?_eq_getElem hb] at e
 rw [List.take_succ_eq_append_getElem hi,List.take_succ_eq_append_getElem hb,h,show a[i]=b[i] from e]
theorem bm_ {α:Type} {a b:List α} {i:Nat} (h:a.take i=b.take i) (hi:a.length<=i) (hl:a.length=b.length):a=b:=by
 rwa [List.take_of_length_le hi,List.take_of_length_le (by omega)] at h
theorem Bj_ {α:Type} {a b:List α} {d:α} {i:Nat} (e:¬ a.getD i d=b.getD i d):a ≠ b:=fun h=>e (by rw [h])
def vG_:IR:=
(sq (kr [0,1] [oD 4 (.mov cF)])
(sq (sq (kr [0,1] [oM 6 0,
oE 7 6,
oM 8 1,
oE 9 8,
oB 10 .neq 7 9])
(.cond 10
(sq (.reg [oD 4 (.mov cF)])
.ret)
.skip))
(sq (sq (kr [0,1] [oD 5 (.mov (cI 0))])
(.block 0
(.loop
(sq (sq (kr [0,1,5] [oM 11 5,
oM 12 0,
oE 13 12,
oB 14 .lss 11 13])
(.cond 14
.skip
(.exit 0)))
(sq (.block 1
(sq (kd [0,1,5] [(oM 17 0,[]),
(oM 18 5,[0]),
(oI 19 1 17 18,[]),
(oL 20 19,[]),
(oM 21 1,[0,0,0,0]),
(oM 22 5,[0,0,0,0,0]),
(oI 23 1 21 22,[2,0,0,0]),
(oL 24 23,[3,0,0,0]),
(oB 25 .neq 20 24,[])])
(.cond 25
(sq (kr [] [oD 4 (.mov cF)])
.ret)
.skip)))
(kr [0,1,5] [oM 15 5,
oB 16 .add 15 (cI 1),
oM 5 16]))))))
(sq (kr [] [oD 4 (.mov cT)])
.ret))))
def vf_:List RD:=[.tmp 4 true none]
theorem vp_:zm_ Tryd.prog Tryd.f50 vG_ vf_=true:=by kernel_rfl
def jD_:List AV->List Obj->Option (Prop × AV)
 | [.imm (.int .u8) a,.imm (.int .u8) b],[]=>some ((True,.bool (decide (a=b))))
 | _,_=>none
theorem yg_:zf_ Tryd.prog 50 (RoF jD_).sum:=by
 refine zi_ Tryd.func50 vp_ (ze_ _) fun args objs p v e=>?_
 unfold jD_ at e
 split at e
 ·rename_i a b
  cases e
  refine ⟨rfl,fun hw ho hp=>?_⟩
  change List Int at a
  change List Int at b
  have hl:a.length<=maxLen:=(hw (.imm (.int .u8) a) (by simp)).2
  unfold maxLen at hl
  repeat'(intro t ht;first|(cases t<;>first|(cases ht;done)|(try simp only[zg_]at ht))|((first|refine za_ ht ?_|refine ht ?_ ?_|refine ht.1 ?_ ?_|refine ht ?_)<;>clear ht))
  all_goals first
   | (have hne:a ≠ b:=fun h=>(by assumption:¬ (a.length:Int)=b.length) (by rw [h])
      refine ⟨?_,rfl⟩;rw [decide_eq_false hne];done)
   | (intro r h1 h2;clear h1;refine h2 ⟨[0,1,5],Nat,(fun i=>i<=a.length/\a.take i=b.take i),fun i=>[.imm (.int .u8) a,.imm (.int .u8) b,.int .i64 i],fun _=>[],fun i=>a.length - i,⟨0,⟨Nat.zero_le _,rfl⟩,rfl,rfl⟩,?_⟩;clear h2)
  rintro i ⟨hi,he⟩
  have hl2:a.length=b.length:=by omega
  repeat'(intro t ht;first|(cases t<;>first|(cases ht;done)|(try simp only[zg_]at ht))|((first|refine za_ ht ?_|refine ht ?_ ?_|refine ht.1 ?_ ?_|refine ht ?_)<;>clear ht))
  all_goals first
   | ((try simp only [zZ_,z0_,zp_] at*);omega)
   | (have hge:a.length<=i:=by omega
      have e:=bm_ he hge hl2
      refine ⟨?_,rfl⟩;rw [decide_eq_true e];done)
   | (have hne:a ≠ b:=Bj_ (d:=0) (i:=i) (by assumption)
      refine ⟨?_,rfl⟩;rw [decide_eq_false hne];done)
   | (have hlt:i < a.length:=by omega
      exact ⟨i+1,⟨hlt,Gw_ he hlt hl2 (d:=0) (by assumption)⟩,by (try simp only [zZ_,z0_,zp_] at*);omega,rfl,rfl⟩)
 ·cases e
def Ko_ (b:List Int) (c:Int):Nat->Nat
 | 0=>0
 | k+1=>if b.getD k 0=c then Ko_ b c k else k+1
def Wl_ (b:List Int) (c:Int):List Int:=b.take (Ko_ b c b.length)
def K8_ (b:List Int) (c:Int):List Int:=b.dropWhile fun x=>decide (x=c)
theorem Ye_ {b:List Int} {k j:Nat} (h:j < k):(b.take k).getD j 0=b.getD j 0:=by
 rw [List.getD_eq_getElem?_getD,List.getElem?_take,if_pos h,<- List.getD_eq_getElem?_getD]
def KF_:IR:=
(sq (kr [0,1] [oD 4 (.mov (.c (.imm (.int .u8) [])))])
(sq (.block 0
(.loop
(sq (sq (kr [0,1] [oM 5 0,
oE 6 5,
oB 7 .gtr 6 (cI 0),
oM 8 7,
oT 8 9 (.mov 0),
oT 8 10 (.mov 0),
oT 8 11 (.len 10),
oT 8 12 (.bin .sub 11 (cI 1)),
oT 8 13 (.indexSl 1 9 12),
oT 8 14 (.load none 13),
oT 8 15 (.mov 1),
oT 8 16 (.bin .eql 14 15),
oP 17 8 16 cF])
(.cond 17
.skip
(.exit 0)))
(.block 1
(kr [0,1] [oM 18 0,
oM 19 0,
oE 20 19,
oB 21 .sub 20 (cI 1),
oD 22 (.slice 1 18 none (some 21) none),
oM 0 22])))))
(sq (kr [0] [oM 23 0,
oM 4 23])
.ret)))
def Kw_:List RD:=[.tmp 4 true (some (.int .u8))]
theorem Kx_:zm_ Tryd.prog Tryd.f77 KF_ Kw_=true:=by kernel_rfl
def ZO_:List AV->List Obj->Option (Prop × AV)
 | [.imm (.int .u8) b,.int .u8 c],[]=>some ((b.length<=140737488355328,.imm (.int .u8) (Wl_ b c)))
 | _,_=>none
theorem Ka_:zf_ Tryd.prog 77 (RoF ZO_).sum:=by
 refine zi_ Tryd.func77 Kx_ (ze_ _) fun args objs p v e=>?_
 unfold ZO_ at e
 split at e
 ·rename_i b c
  cases e
  refine ⟨rfl,fun hw ho hp=>?_⟩
  change List Int at b
  repeat'(intro t ht;first|(cases t<;>first|(cases ht;done)|(try simp only[zg_]at ht))|((first|refine za_ ht ?_|refine ht ?_ ?_|refine ht.1 ?_ ?_|refine ht ?_)<;>clear ht))
  all_goals first
   | (intro r h1 h2;clear h1;refine h2 ⟨[0,1],Nat,(fun k=>k<=b.length/\Ko_ b c b.length=Ko_ b c k),fun k=>[.imm (.int .u8) (b.take k),.int .u8 c],fun _=>[],fun k=>k,⟨b.length,⟨Nat.le_refl _,rfl⟩,by simp only [List.take_length],rfl⟩,?_⟩;clear h2)
  rintro k ⟨hk,he⟩
  have hl:(b.take k).length=k:=by rw [List.length_take];omega
  repeat'(intro t ht;first|(cases t<;>first|(cases ht;done)|(try simp only[zg_]at ht))|((first|refine za_ ht ?_|refine ht ?_ ?_|refine ht.1 ?_ ?_|refine ht ?_)<;>clear ht))
  all_goals first
   | ((try simp only [zZ_,z0_,zp_] at*);omega)
   | (have h0:k=0:=by omega
      refine ⟨?_,rfl⟩;unfold Wl_;rw [he,h0];rfl)
   | (obtain ⟨j,rfl⟩:∃ j,k=j+1:=⟨k - 1,by omega⟩
      have e:(((b.take (j+1)).length:Int) - 1).toNat=j:=by omega
      first
       | (have hx:¬ (b.take (j+1)).getD (((b.take (j+1)).length:Int) - 1).toNat 0=c:=by assumption
          rw [e,Ye_ (Nat.lt_succ_self j)] at hx
          have h1:Ko_ b c (j+1)=j+1:=if_neg hx
          refine ⟨?_,rfl⟩;unfold Wl_;rw [he,h1])
       | (have hx:(b.take (j+1)).getD (((b.take (j+1)).length:Int) - 1).toNat 0=c:=by assumption
          rw [e,Ye_ (Nat.lt_succ_self j)] at hx
          have h1:Ko_ b c (j+1)=Ko_ b c j:=if_pos hx
          refine ⟨j,⟨by omega,by rw [he,h1]⟩,Nat.lt_succ_self j,?_,rfl⟩
          dsimp only;rw [e,List.take_take,Nat.min_eq_left (Nat.le_succ j)]))
 ·cases e
def K6_:IR:=
(sq (kr [0,1] [oD 4 (.mov (.c (.imm (.int .u8) [])))])
(sq (.block 0
(.loop
(sq (sq (kr [0,1] [oM 5 0,
oE 6 5,
oB 7 .gtr 6 (cI 0),
oM 8 7,
oT 8 9 (.mov 0),
oT 8 10 (.indexSl 1 9 (cI 0)),
oT 8 11 (.load none 10),
oT 8 12 (.mov 1),
oT 8 13 (.bin .eql 11 12),
oP 14 8 13 cF])
(.cond 14
.skip
(.exit 0)))
(.block 1
(kr [0,1] [oM 15 0,
oD 16 (.slice 1 15 (some (cI 1)) none none),
oM 0 16])))))
(sq (sq (kr [0] [oM 17 0,
oE 18 17,
oB 19 .eql 18 (cI 0)])
(.cond 19
(sq (.reg [oD 4 (.mov (.c (.imm (.int .u8) [])))])
.ret)
.skip))
(sq (.reg [oM 20 0,
oM 4 20])
.ret))))
def K1_:List RD:=[.tmp 4 true (some (.int .u8))]
theorem K4_:zm_ Tryd.prog Tryd.f76 K6_ K1_=true:=by kernel_rfl
def Z6_:List AV->List Obj->Option (Prop × AV)
 | [.imm (.int .u8) b,.int .u8 c],[]=>some ((b.length<=140737488355328,.imm (.int .u8) (K8_ b c)))
 | _,_=>none
theorem Ks_:zf_ Tryd.prog 76 (RoF Z6_).sum:=by
 refine zi_ Tryd.func76 K4_ (ze_ _) fun args objs p v e=>?_
 unfold Z6_ at e
 split at e
 ·rename_i b c
  cases e
  refine ⟨rfl,fun hw ho hp=>?_⟩
  change List Int at b
  repeat'(intro t ht;first|(cases t<;>first|(cases ht;done)|(try simp only[zg_]at ht))|((first|refine za_ ht ?_|refine ht ?_ ?_|refine ht.1 ?_ ?_|refine ht ?_)<;>clear ht))
  all_goals first
   | (intro r h1 h2;clear h1;refine h2 ⟨[0,1],Nat,(fun k=>k<=b.length/\K8_ b c=K8_ (b.drop k) c),fun k=>[.imm (.int .u8) (b.drop k),.int .u8 c],fun _=>[],fun k=>b.length - k,⟨0,⟨Nat.zero_le _,rfl⟩,rfl,rfl⟩,?_⟩;clear h2)
  rintro k ⟨hk,he⟩
  have hl:(b.drop k).length=b.length - k:=List.length_drop
  repeat'(intro t ht;first|(cases t<;>first|(cases ht;done)|(try simp only[zg_]at ht))|((first|refine za_ ht ?_|refine ht ?_ ?_|refine ht.1 ?_ ?_|refine ht ?_)<;>clear ht))
  all_goals first
   | ((try simp only [zZ_,z0_,zp_] at*);omega)
   | (exfalso;omega)
   | (have h0:b.drop k=[]:=List.eq_nil_of_length_eq_zero (by omega)
      refine ⟨?_,rfl⟩;rw [he,h0];rfl)
   | (have hlt:k < b.length:=by omega
      first
       | (have hx:¬ (b.drop k).getD 0 0=c:=by assumption
          rw [XC_] at hx
          have h1:K8_ (b.drop k) c=b.drop k:=by
           unfold K8_;rw [Zt_ hlt 0,List.dropWhile_cons_of_neg (by simpa using hx)]
          refine ⟨?_,rfl⟩;rw [he,h1])
       | (have hx:(b.drop k).getD 0 0=c:=by assumption
          rw [XC_] at hx
          have h1:K8_ (b.drop k) c=K8_ (b.drop (k+1)) c:=by
           unfold K8_;rw [Zt_ hlt 0,List.dropWhile_cons_of_pos (by simpa using hx)]
          refine ⟨k+1,⟨hlt,by rw [he,h1]⟩,by dsimp only;omega,?_,rfl⟩
          dsimp only;rw [<- List.drop_drop];rfl))
 ·cases e
theorem gy_:∀ (b:List Int),decide ((K8_ (Wl_ b 0) 0).length=0)=Va_ b:=by
 intro b
 have hR:∀ k ≤ b.length,(b.take (Ko_ b 0 k)).all (fun c=>decide (c=0))=(b.take k).all fun c=>decide (c=0):=by
  intro k
  induction k with
  | zero=>intro _;rfl
  | succ k ih=>
    intro hk
    unfold Ko_
    split
    ·rename_i h
     rw [ih (by omega),List.take_succ_eq_append_getElem (by omega),List.all_append]
     have:b[k]=0:=by rw [List.getD_eq_getElem?_getD,List.getElem?_eq_getElem (by omega)] at h;exact h
     simp [this]
    ·rfl
 have hL:∀ l:List Int,decide ((l.dropWhile fun x=>decide (x=0)).length=0)=l.all fun c=>decide (c=0):=by
  intro l
  induction l with
  | nil=>rfl
  | cons a l ih=>
    by_cases h:a=0
    ·rw [List.dropWhile_cons_of_pos (by simpa using h),ih];simp [h]
    ·rw [List.dropWhile_cons_of_neg (by simpa using h)];simp [h]
 unfold K8_ Wl_ Va_
 rw [hL,hR _ (Nat.le_refl _),List.take_length]
def y6_:IR:=
(sq (kr [0,1] [oD 4 (.mov (.c (.imm (.int .u8) [])))])
(sq (sq (.reg [oM 7 0,
oE 8 7,
oB 9 .eql 8 (cI 0)])
(.cond 9
(sq (.reg [oD 4 (.mov (.c (.imm (.int .u8) [])))])
.ret)
.skip))
(sq (sq (.reg [oM 10 1,
oB 11 .eql 10 (.c (.str []))])
(.cond 11
(sq (kr [0] [oM 12 0,
oM 4 12])
.ret)
.skip))
(sq (sq (kr [0,1] [oM 13 1,
oD 14 (.slen 13),
oB 15 .eql 14 (cI 1),
oM 16 15,
oT 16 17 (.mov 1),
oT 16 18 (.sindex 17 (cI 0)),
oT 16 19 (.bin .lss 18 (.c (.int .u8 128))),
oP 20 16 19 cF])
(.cond 20
(sq (kd [0,1] [(oM 21 0,[]),
(oM 22 1,[0]),
(oD 23 (.sindex 22 (cI 0)),[1]),
(oC 24 77 [21,23],[]),
(oM 25 1,[0,0,0,0]),
(oD 26 (.sindex 25 (cI 0)),[1,0,0,0]),
(oC 27 76 [24,26],[]),
(oM 4 27,[])])
.ret)
.skip))
(sq (sq (kr [0,1] [oM 29 1,
oC 30 78 [29],
oM 28 30,
oX 31 28 0,
oX 32 28 1,
oD 5 (.box [.kb false,.kb false,.kb false,.kb false,.kb false,.kb false,.kb false,.kb false,.kb false,.kb false,.kb false,.kb false,.kb false,.kb false,.kb false,.kb false,.kb false,.kb false,.kb false,.kb false,.kb false,.kb false,.kb false,.kb false,.kb false,.kb false,.kb false,.kb false,.kb false,.kb false,.kb false,.kb false,.kb false,.kb false,.kb false,.kb false,.kb false,.kb false,.kb false,.kb false,.kb false,.kb false,.kb false,.kb false,.kb false,.kb false,.kb false,.kb false,.kb false,.kb false,.kb false,.kb false,.kb false,.kb false,.kb false,.kb false,.kb false,.kb false,.kb false,.kb false,.kb false,.kb false,.kb false,.kb false,.kb false,.kb false,.kb false,.kb false,.kb false,.kb false,.kb false,.kb false,.kb false,.kb false,.kb false,.kb false,.kb false,.kb false,.kb false,.kb false,.kb false,.kb false,.kb false,.kb false,.kb false,.kb false,.kb false,.kb false,.kb false,.kb false,.kb false,.kb false,.kb false,.kb false,.kb false,.kb false,.kb false,.kb false,.kb false,.kb false,.kb false,.kb false,.kb false,.kb false,.kb false,.kb false,.kb false,.kb false,.kb false,.kb false,.kb false,.kb false,.kb false,.kb false,.kb false,.kb false,.kb false,.kb false,.kb false,.kb false,.kb false,.kb false,.kb false,.kb false,.kb false,.kb false,.kb false,.kb false,.kb false,.kb false,.kb false,.kb false,.kb false,.kb false,.kb false,.kb false,.kb false,.kb false,.kb false,.kb false,.kb false,.kb false,.kb false,.kb false,.kb false,.kb false,.kb false,.kb false,.kb false,.kb false,.kb false,.kb false,.kb false,.kb false,.kb false,.kb false,.kb false,.kb false,.kb false,.kb false,.kb false,.kb false,.kb false,.kb false,.kb false,.kb false,.kb false,.kb false,.kb false,.kb false,.kb false,.kb false,.kb false,.kb false,.kb false,.kb false,.kb false,.kb false,.kb false,.kb false,.kb false,.kb false,.kb false,.kb false,.kb false,.kb false,.kb false,.kb false,.kb false,.kb false,.kb false,.kb false,.kb false,.kb false,.kb false,.kb false,.kb false,.kb false,.kb false,.kb false,.kb false,.kb false,.kb false,.kb false,.kb false,.kb false,.kb false,.kb false,.kb false,.kb false,.kb false,.kb false,.kb false,.kb false,.kb false,.kb false,.kb false,.kb false,.kb false,.kb false,.kb false,.kb false,.kb false,.kb false,.kb false,.kb false,.kb false,.kb false,.kb false,.kb false,.kb false,.kb false,.kb false,.kb false,.kb false,.kb false,.kb false,.kb false,.kb false,.kb false,.kb false,.kb false,.kb false,.kb false,.kb false,.kb false,.kb false,.kb false,.kb false,.kb false,.kb false,.kb false,.kb false,.kb false,.kb false,.kb false]),
oS 256 5 31,
oM 6 32])
(sq (kr [0,1,5,6] [oM 33 6])
(.cond 33
(sq (.reg [oM 34 0,
oC 35 80 [34,5],
oC 36 79 [35,5],
oM 4 36])
.ret)
.skip)))
(sq (kr [0,1] [oM 37 0,
oM 38 1,
oC 39 82 [37,38],
oM 40 1,
oC 41 81 [39,40],
oM 4 41])
.ret))))))
def yz_:List RD:=[.tmp 4 true (some (.int .u8))]
theorem yO_:zm_ Tryd.prog Tryd.f68 y6_ yz_=true:=by kernel_rfl
def KX_:List AV->List Obj->Option (Prop × AV)
 | [.imm (.int .u8) b,.str [0]],[]=>some ((b.length<=140737488355328,.imm (.int .u8) (K8_ (Wl_ b 0) 0)))
 | _,_=>none
theorem xI_:zf_ Tryd.prog 68 (RoF KX_).sum:=by
 refine zi_ Tryd.func68 yO_ (zb_ (s:=RoF ZO_) Ka_ (zb_ (s:=RoF Z6_) Ks_ (ze_ _))) fun args objs p v e=>?_
 unfold KX_ at e
 split at e
 ·rename_i b
  cases e
  refine ⟨rfl,fun hw ho hp=>?_⟩
  change List Int at b
  have hl:(Wl_ b 0).length<=b.length:=by unfold Wl_;rw [List.length_take];omega
  repeat'(intro t ht;first|(cases t<;>first|(cases ht;done)|(try simp only[zg_]at ht))|((first|refine za_ ht ?_|refine ht ?_ ?_|refine ht.1 ?_ ?_|refine ht ?_)<;>clear ht))
  all_goals first
   | exact hp
   | exact ⟨by decide,by decide⟩
   | exact Nat.le_trans hl hp
   | exact ⟨rfl,rfl⟩
   | (have hb:b=[]:=List.eq_nil_of_length_eq_zero (by omega)
      refine ⟨?_,rfl⟩;rw [hb];rfl)
 ·cases e
def fIs (n:Int):Bool:=decide (0<=n) && decide (n < 40)
theorem kE_ {n:Int}:fIs n=true ↔ 0<=n/\n < 40:=by unfold fIs;simp
theorem js_ {n:Int}:fIs n=false ↔ ¬ (0<=n/\n < 40):=by rw [<- kE_];simp
def V8_:IR:=
(sq (kr [0] [oD 2 (.mov cF)])
(sq (kr [0] [oM 3 0,
oB 4 .geq 3 (cI 0),
oM 5 4,
oT 5 6 (.mov 0),
oT 5 7 (.bin .lss 6 (cI 40)),
oP 8 5 7 cF,
oM 2 8])
.ret))
def Vt_:List RD:=[.tmp 2 true none]
theorem VH_:zm_ Tryd.prog Tryd.f63 V8_ Vt_=true:=by kernel_rfl
def KR_:List AV->List Obj->Option (Prop × AV)
 | [.int .i64 n],[]=>some ((True,.bool (fIs n)))
 | _,_=>none
theorem JK_:zf_ Tryd.prog 63 (RoF KR_).sum:=by
 refine zi_ Tryd.func63 VH_ (ze_ _) fun args objs p v e=>?_
 unfold KR_ at e
 split at e
 ·rename_i n
  cases e
  refine ⟨rfl,fun hw ho hp=>?_⟩
  repeat'(intro t ht;first|(cases t<;>first|(cases ht;done)|(try simp only[zg_]at ht))|((first|refine za_ ht ?_|refine ht ?_ ?_|refine ht.1 ?_ ?_|refine ht ?_)<;>clear ht))
  all_goals refine ⟨?_,rfl⟩
  all_goals unfold fIs
  all_goals first | (congr 1;simp_all;done) | (congr 1;simp_all;omega)
 ·cases e
def Kh_:List Int:=[32,32,64,48,48,16,13,3,6,2,8,32,32,16,16,16,16,16,16,8,8,16,32,32,48,48,128,128,20,8,8,128,48,48,20,3,1,24,64,9]
def y0_:IR:=
(sq (kr [0] [oD 2 (.mov (cI 0))])
(sq (.reg [oD 4 (.buildAll 40 [(0,1,(cI 32)),(1,1,(cI 32)),(2,1,(cI 64)),(3,1,(cI 48)),(4,1,(cI 48)),(5,1,(cI 16)),(6,1,(cI 13)),(7,1,(cI 3)),(8,1,(cI 6)),(9,1,(cI 2)),(10,1,(cI 8)),(11,1,(cI 32)),(12,1,(cI 32)),(13,1,(cI 16)),(14,1,(cI 16)),(15,1,(cI 16)),(16,1,(cI 16)),(17,1,(cI 16)),(18,1,(cI 16)),(19,1,(cI 8)),(20,1,(cI 8)),(21,1,(cI 16)),(22,1,(cI 32)),(23,1,(cI 32)),(24,1,(cI 48)),(25,1,(cI 48)),(26,1,(cI 128)),(27,1,(cI 128)),(28,1,(cI 20)),(29,1,(cI 8)),(30,1,(cI 8)),(31,1,(cI 128)),(32,1,(cI 48)),(33,1,(cI 48)),(34,1,(cI 20)),(35,1,(cI 3)),(36,1,(cI 1)),(37,1,(cI 24)),(38,1,(cI 64)),(39,1,(cI 9))]),
oD 3 (.box [.int .i64 0,.int .i64 0,.int .i64 0,.int .i64 0,.int .i64 0,.int .i64 0,.int .i64 0,.int .i64 0,.int .i64 0,.int .i64 0,.int .i64 0,.int .i64 0,.int .i64 0,.int .i64 0,.int .i64 0,.int .i64 0,.int .i64 0,.int .i64 0,.int .i64 0,.int .i64 0,.int .i64 0,.int .i64 0,.int .i64 0,.int .i64 0,.int .i64 0,.int .i64 0,.int .i64 0,.int .i64 0,.int .i64 0,.int .i64 0,.int .i64 0,.int .i64 0,.int .i64 0,.int .i64 0,.int .i64 0,.int .i64 0,.int .i64 0,.int .i64 0,.int .i64 0,.int .i64 0]),
oS 40 3 4])
(sq (.reg [oM 5 0,
oD 6 (.indexArr 1 40 3 5),
oD 7 (.loadI .i64 6),
oM 2 7])
.ret)))
def yt_:List RD:=[.tmp 2 true none]
theorem yI_:zm_ Tryd.prog Tryd.f64 y0_ yt_=true:=by kernel_rfl
def Qi_:List AV->List Obj->Option (Prop × AV)
 | [.int .i64 n],[]=>some (0<=n/\n < 40,.int .i64 (Kh_.getD n.toNat 0))
 | _,_=>none
theorem ky_:zf_ Tryd.prog 64 (RoF Qi_).sum:=by
 refine zi_ Tryd.func64 yI_ (ze_ _) fun args objs p v e=>?_
 unfold Qi_ at e
 split at e
 ·rename_i n
  cases e
  refine ⟨rfl,fun hw _ hp=>?_⟩
  repeat'(intro t ht;first|(cases t<;>first|(cases ht;done)|(try simp only[zg_]at ht))|((first|refine za_ ht ?_|refine ht ?_ ?_|refine ht.1 ?_ ?_|refine ht ?_)<;>clear ht))
  ·exact hp
  ·show 0+n.toNat*1 < 40;omega
  ·exact ⟨by simp [Kh_],rfl⟩
 ·cases e
theorem gn_:∀ k < 40,1<=Kh_.getD k 0/\Kh_.getD k 0<=128:=by decide
def kR_ (n:Int):Int:=if n=28\/n=34 then 4 else (Kh_.getD n.toNat 0+7) / 8
def yX_:IR:=
(sq (kr [0] [oD 2 (.mov (cI 0))])
(sq (sq (.reg [oM 3 0])
(.block 0
(sq (sq (.reg [oB 5 .eql 3 (cI 28),
oM 4 5])
(.cond 4
.skip
(.reg [oB 6 .eql 3 (cI 34),
oM 4 6])))
(.cond 4
(sq (kr [] [oD 2 (.mov (cI 4))])
.ret)
.skip))))
(sq (kr [0] [oM 7 0,
oC 8 64 [7],
oB 9 .add 8 (cI 8),
oB 10 .sub 9 (cI 1),
oB 11 .quo 10 (cI 8),
oM 2 11])
.ret)))
def yq_:List RD:=[.tmp 2 true none]
theorem yF_:zm_ Tryd.prog Tryd.f65 yX_ yq_=true:=by kernel_rfl
def kp_:List AV->List Obj->Option (Prop × AV)
 | [.int .i64 n],[]=>some (0<=n/\n < 40,.int .i64 (kR_ n))
 | _,_=>none
theorem ja_:zf_ Tryd.prog 65 (RoF kp_).sum:=by
 refine zi_ Tryd.func65 yF_ (zb_ (s:=RoF Qi_) ky_ (ze_ _)) fun args objs p v e=>?_
 unfold kp_ at e
 split at e
 ·rename_i n
  cases e
  refine ⟨rfl,fun hw _ hp=>?_⟩
  repeat'(intro t ht;first|(cases t<;>first|(cases ht;done)|(try simp only[zg_]at ht))|((first|refine za_ ht ?_|refine ht ?_ ?_|refine ht.1 ?_ ?_|refine ht ?_)<;>clear ht))
  all_goals have hb:=gn_ n.toNat (by omega)
  all_goals generalize hB:Kh_.getD n.toNat 0=B at*
  all_goals first
   | exact hp
   | exact (by decide)
   | (exfalso;(try simp only [zZ_,z0_,zp_] at*);omega)
   | ((try simp only [zZ_,z0_,zp_] at*);omega)
   | ((try simp only [zZ_,z0_,zp_] at*);rw [UP_ (by omega)];omega)
   | (refine ⟨?_,rfl⟩;unfold kR_;rw [UP_ (by omega),hB,if_neg (by (try simp only [zZ_,z0_,zp_] at*);omega)];congr 2;omega)
   | (refine ⟨?_,rfl⟩;unfold kR_;rw [if_pos (by (try simp only [zZ_,z0_,zp_] at*);omega)])
 ·cases e
def vA_ (n:Int):Bool:=[2,3,4,6,11,12,37,38,39,22,23,24,25,26,27,28].contains n
def W2_:IR:=
(sq (kr [0] [oD 2 (.mov cF)])
(sq (sq (.reg [oM 3 0])
(.block 0
(sq (.block 2
(.block 1
(sq (sq (sq (sq (.reg [oB 5 .eql 3 (cI 2),
oM 4 5])
(.cond 4
.skip
(sq (.reg [oB 6 .eql 3 (cI 3),
oM 4 6])
(.cond 4
.skip
(sq (kr [3] [oB 7 .eql 3 (cI 4),
oM 4 7])
(.cond 4
.skip
(sq (.reg [oB 8 .eql 3 (cI 6),
oM 4 8])
(.cond 4
.skip
(sq (.reg [oB 9 .eql 3 (cI 11),
oM 4 9])
(.cond 4
.skip
(sq (kr [3] [oB 10 .eql 3 (cI 12),
oM 4 10])
(.cond 4
.skip
(sq (.reg [oB 11 .eql 3 (cI 37),
oM 4 11])
(.cond 4
.skip
(sq (.reg [oB 12 .eql 3 (cI 38),
oM 4 12])
(.cond 4
.skip
(kr [3] [oB 13 .eql 3 (cI 39),
oM 4 13])))))))))))))))))
(.cond 4
(.exit 1)
.skip))
(sq (sq (kr [3] [oB 15 .eql 3 (cI 22),
oM 14 15])
(.cond 14
.skip
(sq (.reg [oB 16 .eql 3 (cI 23),
oM 14 16])
(.cond 14
.skip
(sq (.reg [oB 17 .eql 3 (cI 24),
oM 14 17])
(.cond 14
.skip
(sq (kr [3] [oB 18 .eql 3 (cI 25),
oM 14 18])
(.cond 14
.skip
(sq (.reg [oB 19 .eql 3 (cI 26),
oM 14 19])
(.cond 14
.skip
(sq (.reg [oB 20 .eql 3 (cI 27),
oM 14 20])
(.cond 14
.skip
(kr [3] [oB 21 .eql 3 (cI 28),
oM 14 21])))))))))))))
(.cond 14
(.exit 2)
.skip)))
(.exit 0))))
(sq (sq (kr [] [oD 2 (.mov cT)])
.ret)
(.exit 0)))))
(sq (kr [] [oD 2 (.mov cF)])
.ret)))
def WP_:List RD:=[.tmp 2 true none]
theorem WW_:zm_ Tryd.prog Tryd.f66 W2_ WP_=true:=by kernel_rfl
def kJ_:List AV->List Obj->Option (Prop × AV)
 | [.int .i64 n],[]=>some (True,.bool (vA_ n))
 | _,_=>none
theorem ww_:zf_ Tryd.prog 66 (RoF kJ_).sum:=by
 refine zi_ Tryd.func66 WW_ (ze_ _) fun args objs p v e=>?_
 unfold kJ_ at e
 split at e
 ·rename_i n
  cases e
  refine ⟨rfl,fun hw _ hp=>?_⟩
  repeat'(intro t ht;first|(cases t<;>first|(cases ht;done)|(try simp only[zg_]at ht))|((first|refine za_ ht ?_|refine ht ?_ ?_|refine ht.1 ?_ ?_|refine ht ?_)<;>clear ht))
  all_goals refine ⟨?_,rfl⟩
  all_goals (congr 1;simp_all [vA_];done)
 ·cases e
def gg_ (n:Int):Int × List Int:=
 if n=13\/n=14 then (10,[6]) else if n=15\/n=16 then (10,[17]) else if n=17\/n=18 then (10,[132]) else if n=19\/n=20 then (10,[1])
 else if n=29\/n=30 then (10,[58]) else if n=31 then (29,[135,136]) else if n=32 then (29,[135]) else if n=33 then (29,[136]) else (-1,[])
def yZ_:IR:=
(sq (kr [0] [oD 2 (.mov (cI 0)),
oD 3 (.mov (.c (.imm (.int .u64) [])))])
(sq (sq (.reg [oM 4 0])
(.block 0
(sq (sq (.reg [oB 6 .eql 4 (cI 13),
oM 5 6])
(.cond 5
.skip
(.reg [oB 7 .eql 4 (cI 14),
oM 5 7])))
(.cond 5
(sq (kr [] [oD 8 (.sliceAll (.int .u64) 1 [(0,1,(.c (.int .u64 6)))]),
oD 2 (.mov (cI 10)),
oM 3 8])
.ret)
(sq (sq (kr [0,4] [oB 10 .eql 4 (cI 15),
oM 9 10])
(.cond 9
.skip
(.reg [oB 11 .eql 4 (cI 16),
oM 9 11])))
(.cond 9
(sq (.reg [oD 12 (.sliceAll (.int .u64) 1 [(0,1,(.c (.int .u64 17)))]),
oD 2 (.mov (cI 10)),
oM 3 12])
.ret)
(sq (sq (.reg [oB 14 .eql 4 (cI 17),
oM 13 14])
(.cond 13
.skip
(kr [0,4] [oB 15 .eql 4 (cI 18),
oM 13 15])))
(.cond 13
(sq (kr [] [oD 16 (.sliceAll (.int .u64) 1 [(0,1,(.c (.int .u64 132)))]),
oD 2 (.mov (cI 10)),
oM 3 16])
.ret)
(sq (sq (kr [0,4] [oB 18 .eql 4 (cI 19),
oM 17 18])
(.cond 17
.skip
(.reg [oB 19 .eql 4 (cI 20),
oM 17 19])))
(.cond 17
(sq (.reg [oD 20 (.sliceAll (.int .u64) 1 [(0,1,(.c (.int .u64 1)))]),
oD 2 (.mov (cI 10)),
oM 3 20])
.ret)
(sq (sq (.reg [oB 22 .eql 4 (cI 29),
oM 21 22])
(.cond 21
.skip
(kr [0,4] [oB 23 .eql 4 (cI 30),
oM 21 23])))
(.cond 21
(sq (kr [] [oD 24 (.sliceAll (.int .u64) 1 [(0,1,(.c (.int .u64 58)))]),
oD 2 (.mov (cI 10)),
oM 3 24])
.ret)
(sq (kr [0,4] [oB 26 .eql 4 (cI 31),
oM 25 26])
(.cond 25
(sq (.reg [oD 27 (.sliceAll (.int .u64) 2 [(0,1,(.c (.int .u64 135))),(1,1,(.c (.int .u64 136)))]),
oD 2 (.mov (cI 29)),
oM 3 27])
.ret)
(sq (sq (.reg [oB 29 .eql 4 (cI 32),
oM 28 29])
(.cond 28
.skip
(.reg [oB 30 .eql 4 (cI 33),
oM 28 30])))
(.cond 28
(sq (kr [0] [oM 31 0,
oD 32 (.conv .u64 31),
oB 33 .add 32 (.c (.int .u64 103)),
oD 34 (.sliceAll (.int .u64) 1 [(0,1,33)]),
oD 2 (.mov (cI 29)),
oM 3 34])
.ret)
.skip))))))))))))))))
(sq (kr [] [oD 2 (.mov (cI (-1))),
oD 3 (.mov (.c (.imm (.int .u64) [])))])
.ret)))
def ys_:List RD:=[.tmp 2 true none,.tmp 3 true (some (.int .u64))]
theorem yH_:zm_ Tryd.prog Tryd.f75 yZ_ ys_=true:=by kernel_rfl
def KS_:List AV->List Obj->Option (Prop × AV)
 | [.int .i64 n],[]=>some (True,.tup [.int .i64 (gg_ n).1,.imm (.int .u64) (gg_ n).2])
 | _,_=>none
theorem xD_:zf_ Tryd.prog 75 (RoF KS_).sum:=by
 refine zi_ Tryd.func75 yH_ (ze_ _) fun args objs p v e=>?_
 unfold KS_ at e
 split at e
 ·rename_i n
  cases e
  refine ⟨rfl,fun hw _ hp=>?_⟩
  repeat'(intro t ht;first|(cases t<;>first|(cases ht;done)|(try simp only[zg_]at ht))|((first|refine za_ ht ?_|refine ht ?_ ?_|refine ht.1 ?_ ?_|refine ht ?_)<;>clear ht))
  all_goals first
   | (exfalso;(try simp only [zZ_,z0_,zp_] at*);omega)
   | (refine ⟨?_,rfl⟩;simp_all [gg_];done)
   | ((try simp only [zZ_,z0_,zp_] at*);omega)
   | ((try simp only [zZ_,z0_,zp_] at*);subst_vars;exact ⟨rfl,rfl⟩)
   | ((try simp only [zZ_,z0_,zp_] at*);have hn:n=32\/n=33:=by omega
      rcases hn with rfl | rfl<;>exact ⟨rfl,rfl⟩)
 ·cases e
def qw_ (n:Int):Int × List Int:=
 if n=1 then (0,[]) else if n=7 then (6,[]) else if n=8\/n=9\/n=10 then (5,[2048,34525]) else if n=11\/n=12 then (5,[2048])
 else if n=21\/n=22\/n=23\/n=24\/n=25 then (5,[2054]) else if n=26\/n=27\/n=28\/n=39 then (5,[34525])
 else if n=34\/n=35\/n=36 then (5,[34887,34888]) else if n=37 then (5,[35047]) else gg_ n
def yY_:IR:=
(sq (kr [0] [oD 2 (.mov (cI 0)),
oD 3 (.mov (.c (.imm (.int .u64) [])))])
(sq (sq (.reg [oM 4 0])
(.block 0
(sq (.reg [oB 6 .eql 4 (cI 1),
oM 5 6])
(.cond 5
(sq (.reg [oD 2 (.mov (cI 0)),
oD 3 (.mov (.c (.imm (.int .u64) [])))])
.ret)
(sq (.reg [oB 8 .eql 4 (cI 7),
oM 7 8])
(.cond 7
(sq (kr [] [oD 2 (.mov (cI 6)),
oD 3 (.mov (.c (.imm (.int .u64) [])))])
.ret)
(sq (sq (kr [0,4] [oB 10 .eql 4 (cI 8),
oM 9 10])
(.cond 9
.skip
(sq (.reg [oB 11 .eql 4 (cI 9),
oM 9 11])
(.cond 9
.skip
(.reg [oB 12 .eql 4 (cI 10),
oM 9 12])))))
(.cond 9
(sq (kr [] [oD 13 (.sliceAll (.int .u64) 2 [(0,1,(.c (.int .u64 2048))),(1,1,(.c (.int .u64 34525)))]),
oD 2 (.mov (cI 5)),
oM 3 13])
.ret)
(sq (sq (kr [0,4] [oB 15 .eql 4 (cI 11),
oM 14 15])
(.cond 14
.skip
(.reg [oB 16 .eql 4 (cI 12),
oM 14 16])))
(.cond 14
(sq (.reg [oD 17 (.sliceAll (.int .u64) 1 [(0,1,(.c (.int .u64 2048)))]),
oD 2 (.mov (cI 5)),
oM 3 17])
.ret)
(sq (sq (.reg [oB 19 .eql 4 (cI 21),
oM 18 19])
(.cond 18
.skip
(sq (kr [0,4] [oB 20 .eql 4 (cI 22),
oM 18 20])
(.cond 18
.skip
(sq (.reg [oB 21 .eql 4 (cI 23),
oM 18 21])
(.cond 18
.skip
(sq (.reg [oB 22 .eql 4 (cI 24),
oM 18 22])
(.cond 18
.skip
(kr [0,4] [oB 23 .eql 4 (cI 25),
oM 18 23])))))))))
(.cond 18
(sq (kr [] [oD 24 (.sliceAll (.int .u64) 1 [(0,1,(.c (.int .u64 2054)))]),
oD 2 (.mov (cI 5)),
oM 3 24])
.ret)
(sq (sq (kr [0,4] [oB 26 .eql 4 (cI 26),
oM 25 26])
(.cond 25
.skip
(sq (.reg [oB 27 .eql 4 (cI 27),
oM 25 27])
(.cond 25
.skip
(sq (.reg [oB 28 .eql 4 (cI 28),
oM 25 28])
(.cond 25
.skip
(kr [0,4] [oB 29 .eql 4 (cI 39),
oM 25 29])))))))
(.cond 25
(sq (kr [] [oD 30 (.sliceAll (.int .u64) 1 [(0,1,(.c (.int .u64 34525)))]),
oD 2 (.mov (cI 5)),
oM 3 30])
.ret)
(sq (sq (kr [0,4] [oB 32 .eql 4 (cI 34),
oM 31 32])
(.cond 31
.skip
(sq (.reg [oB 33 .eql 4 (cI 35),
oM 31 33])
(.cond 31
.skip
(.reg [oB 34 .eql 4 (cI 36),
oM 31 34])))))
(.cond 31
(sq (kr [] [oD 35 (.sliceAll (.int .u64) 2 [(0,1,(.c (.int .u64 34887))),(1,1,(.c (.int .u64 34888)))]),
oD 2 (.mov (cI 5)),
oM 3 35])
.ret)
(sq (kr [0,4] [oB 37 .eql 4 (cI 37),
oM 36 37])
(.cond 36
(sq (.reg [oD 38 (.sliceAll (.int .u64) 1 [(0,1,(.c (.int .u64 35047)))]),
oD 2 (.mov (cI 5)),
oM 3 38])
.ret)
.skip))))))))))))))))))
(sq (kr [0] [oM 39 0,
oC 40 75 [39],
oX 41 40 0,
oX 42 40 1,
oM 2 41,
oM 3 42])
.ret)))
def yr_:List RD:=[.tmp 2 true none,.tmp 3 true (some (.int .u64))]
theorem yG_:zm_ Tryd.prog Tryd.f67 yY_ yr_=true:=by kernel_rfl
def KQ_:List AV->List Obj->Option (Prop × AV)
 | [.int .i64 n],[]=>some (True,.tup [.int .i64 (qw_ n).1,.imm (.int .u64) (qw_ n).2])
 | _,_=>none
theorem xC_:zf_ Tryd.prog 67 (RoF KQ_).sum:=by
 refine zi_ Tryd.func67 yG_ (zb_ (s:=RoF KS_) xD_ (ze_ _)) fun args objs p v e=>?_
 unfold KQ_ at e
 split at e
 ·rename_i n
  cases e
  refine ⟨rfl,fun hw _ hp=>?_⟩
  repeat'(intro t ht;first|(cases t<;>first|(cases ht;done)|(try simp only[zg_]at ht))|((first|refine za_ ht ?_|refine ht ?_ ?_|refine ht.1 ?_ ?_|refine ht ?_)<;>clear ht))
  all_goals first
   | trivial
   | (exfalso;(try simp only [zZ_,z0_,zp_] at*);omega)
   | (refine ⟨?_,rfl⟩;simp_all [qw_];done)
   | ((try simp only [zZ_,z0_,zp_] at*);subst_vars;exact ⟨rfl,rfl⟩)
 ·cases e
def vx_:List (List Int):=[[105,110,95,112,111,114,116],[105,110,95,112,104,121,95,112,111,114,116],[109,101,116,97,100,97,116,97],[101,116,104,95,100,115,116],[101,116,104,95,115,114,99],[101,116,104,95,116,121,112,101],[118,108,97,110,95,118,105,100],[118,108,97,110,95,112,99,112],[105,112,95,100,115,99,112],[105,112,95,101,99,110],[105,112,95,112,114,111,116,111],[105,112,118,52,95,115,114,99],[105,112,118,52,95,100,115,116],[116,99,112,95,115,114,99],[116,99,112,95,100,115,116],[117,100,112,95,115,114,99],[117,100,112,95,100,115,116],[115,99,116,112,95,115,114,99],[115,99,116,112,95,100,115,116],[105,99,109,112,118,52,95,116,121,112,101],[105,99,109,112,118,52,95,99,111,100,101],[97,114,112,95,111,112],[97,114,112,95,115,112,97],[97,114,112,95,116,112,97],[97,114,112,95,115,104,97],[97,114,112,95,116,104,97],[105,112,118,54,95,115,114,99],[105,112,118,54,95,100,115,116],[105,112,118,54,95,102,108,97,98,101,108],[105,99,109,112,118,54,95,116,121,112,101],[105,99,109,112,118,54,95,99,111,100,101],[105,112,118,54,95,110,100,95,116,97,114,103,101,116],[105,112,118,54,95,110,100,95,115,108,108],[105,112,118,54,95,110,100,95,116,108,108],[109,112,108,115,95,108,97,98,101,108],[109,112,108,115,95,116,99],[109,112,108,115,95,98,111,115],[112,98,98,95,105,115,105,100],[116,117,110,110,101,108,95,105,100],[105,112,118,54,95,101,120,116,104,100,114]]
def kF_ (n:Int):Int:=if fIs n then Kh_.getD n.toNat 0 else 0
def jr_ (n:Int):Int:=if fIs n then kR_ n else 0
def hy_ (n:Int):Bool:=if fIs n then vA_ n else false
def Qd_ (n:Int):Int:=if fIs n then (qw_ n).1 else 0
def XK_ (n:Int):List Int:=if fIs n then (qw_ n).2 else []
abbrev ofF (n:Int):AV:=.tup [.agg [.int .i64 (kF_ n),.int .i64 (jr_ n),.bool (hy_ n),.int .i64 (Qd_ n),.imm (.int .u64) (XK_ n)],.bool (fIs n)]
def V9_:IR:=
(sq (kr [0] [oD 2 (.box [.int .i64 0,.int .i64 0,.kb false,.int .i64 0,.imm (.int .u64) []]),
oD 3 (.mov cF)])
(sq (sq (.reg [oM 5 0,
oC 6 63 [5],
oD 7 (.un .not 6)])
(.cond 7
(sq (.reg [oD 8 (.build [.int .i64 0,.int .i64 0,.kb false,.int .i64 0,.imm (.int .u64) []] []),
oS 5 2 8,
oD 3 (.mov cF)])
.ret)
.skip))
(sq (kr [0,2] [oM 9 0,
oC 10 64 [9],
oM 11 0,
oC 12 65 [11],
oM 13 0,
oC 14 66 [13],
oD 15 (.build [.int .i64 0,.int .i64 0,.kb false,.int .i64 0,.imm (.int .u64) []] [(0,1,10),(1,1,12),(2,1,14)]),
oD 4 (.box [.int .i64 0,.int .i64 0,.kb false,.int .i64 0,.imm (.int .u64) []]),
oS 5 4 15])
(sq (kr [0,2,4] [oM 17 0,
oC 18 67 [17],
oM 16 18,
oX 19 16 0,
oX 20 16 1,
oA 21 3 4,
oS 1 21 19,
oA 22 4 4,
oS 1 22 20])
(sq (kr [2,4] [oK 23 5 4,
oS 5 2 23,
oD 3 (.mov cT)])
.ret)))))
def Vu_:List RD:=[.cell 2 (some 5) true [],.tmp 3 true none]
theorem VI_:zm_ Tryd.prog Tryd.f51 V9_ Vu_=true:=by kernel_rfl
def QM_:List AV->List Obj->Option (Prop × AV)
 | [.int .i64 n],[]=>some ((True,ofF n))
 | _,_=>none
theorem kh_:zf_ Tryd.prog 51 (RoF QM_).sum:=by
 refine zi_ Tryd.func51 VI_ (zb_ (s:=RoF KR_) JK_ (zb_ (s:=RoF Qi_) ky_ (zb_ (s:=RoF kp_) ja_ (zb_ (s:=RoF kJ_) ww_ (zb_ (s:=RoF KQ_) xC_ (ze_ _)))))) fun args objs p v e=>?_
 unfold QM_ at e
 split at e
 ·rename_i n
  cases e
  refine ⟨rfl,fun hw ho hp=>?_⟩
  repeat'(intro t ht;first|(cases t<;>first|(cases ht;done)|(try simp only[zg_]at ht))|((first|refine za_ ht ?_|refine ht ?_ ?_|refine ht.1 ?_ ?_|refine ht ?_)<;>clear ht))
  all_goals try (try simp only [zZ_,z0_,zp_] at*)
  all_goals first
   | exact kE_.1 (by assumption)
   | (simp_all [ofF,kF_,jr_,hy_,Qd_,XK_];done)
 ·cases e
def hp_:List (List Int)->List Int->Nat->Int
 | [],_,_=>-1
 | a :: r,s,k=>if s=a then k else hp_ r s (k+1)
def bt_ (s:List Int):Int:=if 0 > hp_ vx_ s 0 then 0 else hp_ vx_ s 0
def bu_ (s:List Int):Bool:=decide (0<=hp_ vx_ s 0)
def Zo_ (s:Int):List Int->Bool
 | []=>true
 | b :: r=>if b.fdiv (2 ^ (min (8 - (if 8 < s then 8 else s)).toNat 8))=0 then Zo_ (s - (if 8 < s then 8 else s)) r else false
theorem Wn_ {s:Int} {v:List Int} {i:Nat} (h:i < v.length):Zo_ s (v.drop i)=if (v.getD i 0).fdiv (2 ^ (min (8 - (if 8 < s then 8 else s)).toNat 8))=0 then Zo_ (s - (if 8 < s then 8 else s)) (v.drop (i+1)) else false:=by
 rw [List.drop_eq_getElem_cons h,List.getD_eq_getElem?_getD,List.getElem?_eq_getElem h]
 rfl
theorem uO_ {s:Int} {v:List Int} {i:Nat} (h:v.length<=i):Zo_ s (v.drop i)=true:=by
 rw [List.drop_of_length_le h];rfl
def kX_ (n:Int) (v:List Int):Bool:=if (0<=n/\n < 40)/\(v.length:Int)=kR_ n then Zo_ (8*kR_ n - Kh_.getD n.toNat 0) v else false
theorem va_:∀ k < 40,1<=kR_ (k:Nat)/\kR_ (k:Nat)<=16/\0<=8*kR_ (k:Nat) - Kh_.getD k 0/\8*kR_ (k:Nat) - Kh_.getD k 0<=12:=by decide
def y1_:IR:=
(sq (kr [0,1] [oD 4 (.mov cF)])
(sq (sq (kr [0,1] [oM 9 0,
oC 10 63 [9],
oD 11 (.un .not 10),
oM 12 11,
oF 12 13 (.mov 1),
oF 12 14 (.len 13),
oF 12 15 (.mov 0),
oF 12 16 (.call false (.f 65) [15]),
oF 12 17 (.bin .neq 14 16),
oP 18 12 cT 17])
(.cond 18
(sq (kr [] [oD 4 (.mov cF)])
.ret)
.skip))
(sq (kr [0,1] [oM 19 0,
oC 20 65 [19],
oB 21 .mul (cI 8) 20,
oM 22 0,
oC 23 64 [22],
oB 24 .sub 21 23,
oM 5 24])
(sq (sq (kr [1,5] [oM 25 1,
oE 26 25,
oD 27 (.mov (cI 0))])
(.block 0
(.loop
(sq (kr [5,25,26,27] [oB 28 .lss 27 26])
(sq (.cond 28
.skip
(.exit 0))
(sq (.block 1
(sq (.reg [oI 29 1 25 27,
oL 30 29,
oM 7 30])
(sq (.reg [oM 31 5,
oD 32 (.minmax false 31 (cI 8)),
oM 8 32])
(sq (sq (kr [5,7,8,25,26,27] [oM 33 7,
oM 34 8,
oB 35 .sub (cI 8) 34,
oB 36 .shr 33 35,
oB 37 .neq 36 (.c (.int .u8 0))])
(.cond 37
(sq (.reg [oD 4 (.mov cF)])
.ret)
.skip))
(kr [5,8,25,26,27] [oM 38 5,
oM 39 8,
oB 40 .sub 38 39,
oM 5 40])))))
(kr [5,25,26,27] [oB 41 .add 27 (cI 1),
oM 27 41])))))))
(sq (kr [] [oD 4 (.mov cT)])
.ret)))))
def yu_:List RD:=[.tmp 4 true none]
theorem yJ_:zm_ Tryd.prog Tryd.f52 y1_ yu_=true:=by kernel_rfl
def KT_:List AV->List Obj->Option (Prop × AV)
 | [.int .i64 n,.imm (.int .u8) v],[]=>some (True,.bool (kX_ n v))
 | _,_=>none
theorem xE_:zf_ Tryd.prog 52 (RoF KT_).sum:=by
 refine zi_ Tryd.func52 yJ_ (zb_ (s:=RoF KR_) JK_ (zb_ (s:=RoF kp_) ja_ (zb_ (s:=RoF Qi_) ky_ (ze_ _)))) fun args objs p v e=>?_
 unfold KT_ at e
 split at e
 ·rename_i n v
  cases e
  refine ⟨rfl,fun hw _ hp=>?_⟩
  have hl:v.length<=maxLen:=(hw (.imm (.int .u8) v) (by simp)).2
  unfold maxLen at hl
  repeat'(intro t ht;first|(cases t<;>first|(cases ht;done)|(try simp only[zg_]at ht))|((first|refine za_ ht ?_|refine ht ?_ ?_|refine ht.1 ?_ ?_|refine ht ?_)<;>clear ht))
  all_goals first
   | trivial
   | (intro r h1 h2;(try simp only [kE_,js_,zZ_,z0_,zp_] at*)
      have hsz:=va_ n.toNat (by omega)
      rw [Int.toNat_of_nonneg (by omega)] at hsz
      refine h2 ⟨[25,26,27,5],Nat × Int,(fun p=>p.1<=v.length/\0<=p.2/\p.2<=12/\Zo_ (8*kR_ n - Kh_.getD n.toNat 0) v=Zo_ p.2 (v.drop p.1)),
       fun a=>[.imm (.int .u8) v,.int .i64 v.length,.int .i64 a.1,.int .i64 a.2],fun _=>[],fun a=>v.length - a.1,⟨(0,8*kR_ n - Kh_.getD n.toNat 0),⟨Nat.zero_le _,hsz.2.2.1,hsz.2.2.2,rfl⟩,rfl,rfl⟩,?_⟩
      clear h1 h2)
   | ((try simp only [kE_,js_,zZ_,z0_,zp_] at*);omega)
   | ((try simp only [kE_,js_,zZ_,z0_,zp_] at*);have hsz:=va_ n.toNat (by omega)
      rw [Int.toNat_of_nonneg (by omega)] at hsz
      have hb:=gn_ n.toNat (by omega)
      omega)
   | (refine ⟨?_,rfl⟩;(try simp only [kE_,js_,zZ_,z0_,zp_] at*);unfold kX_;rw [if_neg (by omega)])
  rintro ⟨i,s⟩ ⟨hi,hs0,hs1,he⟩
  dsimp only at hi hs0 hs1 he
  repeat'(intro t ht;first|(cases t<;>first|(cases ht;done)|(try simp only[zg_]at ht))|((first|refine za_ ht ?_|refine ht ?_ ?_|refine ht.1 ?_ ?_|refine ht ?_)<;>clear ht))
  all_goals have hk:0<=(if (8:Int) < s then 8 else s)/\(if (8:Int) < s then 8 else s)<=8/\(if (8:Int) < s then 8 else s)<=s:=by split<;>omega
  all_goals have hv:(0<=n/\n < 40)/\(v.length:Int)=kR_ n:=⟨by omega,by omega⟩
  all_goals first
   | (refine ⟨?_,rfl⟩;unfold kX_;rw [if_pos hv,he];(try simp only [kE_,js_,zZ_,z0_,zp_] at*);rw [uO_ (by omega)];done)
   | (refine ⟨?_,rfl⟩;unfold kX_;rw [if_pos hv,he];(try simp only [kE_,js_,zZ_,z0_,zp_] at*);rw [Wn_ (by omega),if_neg (by assumption)];done)
   | ((try simp only [kE_,js_,zZ_,z0_,zp_] at*);omega)
   | ((try simp only [kE_,js_,zZ_,z0_,zp_] at*);generalize (if (8:Int) < s then 8 else s)=k at*;omega)
   | (have hlt:i < v.length:=by ((try simp only [kE_,js_,zZ_,z0_,zp_] at*);omega)
      refine ⟨(i+1,s - (if (8:Int) < s then 8 else s)),⟨hlt,by dsimp only;omega,by dsimp only;omega,by (try simp only [kE_,js_,zZ_,z0_,zp_] at*);rw [he,Wn_ hlt,if_pos (by assumption)]⟩,by dsimp only;omega,rfl,rfl⟩)
 ·cases e
def Jc_ (v:List Int) (z:Int):Nat->Int->Bool
 | 0,_=>true
 | f+1,i=>if zo_ .and .u8 ((v.getD (z - 1 - i.tdiv 8).toNat 0).fdiv (2 ^ (min (i.tmod 8).toNat 8))) 1=1 then false else Jc_ v z f (i+1)
theorem GO_ {v:List Int} {z i:Int} {f:Nat} (h:zo_ .and .u8 ((v.getD (z - 1 - i.tdiv 8).toNat 0).fdiv (2 ^ (min (i.tmod 8).toNat 8))) 1=1):Jc_ v z (f+1) i=false:=if_pos h
theorem GP_ {v:List Int} {z i:Int} {f:Nat} (h:¬ zo_ .and .u8 ((v.getD (z - 1 - i.tdiv 8).toNat 0).fdiv (2 ^ (min (i.tmod 8).toNat 8))) 1=1):Jc_ v z (f+1) i=Jc_ v z f (i+1):=if_neg h
def jk_ (n:Int):List Int:=if 0<=n/\n < 40 then (if (qw_ n).1=-1 then [] else if (qw_ (qw_ n).1).1=-1 then [(qw_ n).1] else if (qw_ (qw_ (qw_ n).1).1).1=-1 then [(qw_ (qw_ n).1).1,(qw_ n).1] else [(qw_ (qw_ (qw_ n).1).1).1,(qw_ (qw_ n).1).1,(qw_ n).1]) else []
theorem c1:jk_ 31=[5,10,29]:=by decide
theorem c2:bt_ [105,112,118,54,95,110,100,95,116,108,108]=33/\bu_ [105,112,118,54,95,110,100,95,116,108,108]=true:=by
 have h:hp_ vx_ [105,112,118,54,95,110,100,95,116,108,108] 0=33:=by decide+kernel
 unfold bt_ bu_;rw [h];exact ⟨rfl,rfl⟩
theorem c3:fIs 33=true/\Qd_ 33=29/\XK_ 33=[136]:=by decide
theorem c4:kX_ 7 [8]=false:=by decide
theorem GA_:∀ v:List Int,(∀ b ∈ v,0<=b/\b<=255)->Zo_ 0 v=true
 | [],_=>rfl
 | b :: r,h=>by
   unfold Zo_
   have hb:=h b (by simp)
   rw [if_pos (by show b.fdiv (2 ^ 8)=0;rw [Int.fdiv_eq_ediv_of_nonneg _ (by decide)];omega)]
   exact GA_ r fun x hx=>h x (by simp [hx])
theorem Vj_ (v:List Int) (z:Int):∀ (f g:Nat) (i:Int),Jc_ v z (f+g) i=(Jc_ v z f i && Jc_ v z g (i+f))
 | 0,g,i=>by simp [Jc_]
 | f+1,g,i=>by
   rw [show f+1+g=(f+g)+1 by omega]
   by_cases h:zo_ .and .u8 ((v.getD (z - 1 - i.tdiv 8).toNat 0).fdiv (2 ^ (min (i.tmod 8).toNat 8))) 1=1
   ·rw [GO_ h,GO_ h];rfl
   ·rw [GP_ h,GP_ h,Vj_ v z f g (i+1),show i+1+(f:Int)=i+((f+1:Nat):Int) by omega]
theorem Hd_:∀ s ≤ 8,∀ b < 256,Zo_ (s:Nat) [((b:Nat):Int)]=Jc_ [((b:Nat):Int)] 1 s ((8:Int) - (s:Nat)):=by decide+kernel
theorem UO_ {s:Nat} {b:Int} (hs:s<=8) (h:0<=b/\b<=255):Zo_ s [b]=Jc_ [b] 1 s (8 - s):=by
 have:=Hd_ s hs b.toNat (by omega)
 rw [Int.toNat_of_nonneg h.1] at this;exact this
theorem gE_ {s:Int} {b:Int} {r:List Int} (h:s<=8) (hr:∀ x ∈ r,0<=x/\x<=255):Zo_ s (b :: r)=Zo_ s [b]:=by
 unfold Zo_
 rw [if_neg (by omega:¬ 8 < s),Int.sub_self,GA_ r hr]
 rfl
theorem two {b0 b1 b2 b3:Int} {v:List Int} (e:v=[b0,b1,b2,b3]) (hv:∀ b ∈ v,0<=b/\b<=255):Zo_ 12 v=Jc_ v 4 12 20:=by
 subst e
 have h0:=UO_ (s:=8) (Nat.le_refl _) (hv b0 (by simp))
 have h1:=UO_ (s:=4) (by omega) (hv b1 (by simp))
 have hr:=Vj_ [b0,b1,b2,b3] 4 4 8 20
 have e1:Jc_ [b0,b1,b2,b3] 4 4 20=Jc_ [b1] 1 4 (8 - (4:Nat)):=rfl
 have e2:Jc_ [b0,b1,b2,b3] 4 8 (20+(4:Nat))=Jc_ [b0] 1 8 (8 - (8:Nat)):=rfl
 have hc:Zo_ 4 (b1 :: [b2,b3])=Zo_ 4 [b1]:=gE_ (by omega) fun x hx=>hv x (by simp at hx ⊢;omega)
 rw [show (12:Nat)=4+8 from rfl,hr,e1,e2,<- h0,<- h1]
 show (if b0.fdiv (2 ^ (min (8 - (8:Int)).toNat 8))=0 then Zo_ 4 [b1,b2,b3] else false)=(Zo_ 4 [b1] && (if b0.fdiv (2 ^ (min (8 - (8:Int)).toNat 8))=0 then true else false))
 rw [hc]
 split<;>simp
end Go.Eng
