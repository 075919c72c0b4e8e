/- Parts of the proof: EArg, TY, R1, R4, T1, C1, B1. No condition. -/
import Derived.Test.YtheklpaoigbdnaaDoorXG10
import Derived.WalkKit
import Derived.ProofKit
import Derived.OpenShut
import Derived.ShutString
import Derived.ChangeOld
import Derived.Carry
import Derived.Test.YtheklpaoigbdnaaDoorProg
import Derived.KernelRfl
namespace Go.Eng
set_option linter.unusedVariables false
set_option linter.unusedSimpArgs false
def z8_ {β:Type _} (t' t:Ty) (x:List t'.den) (F:List t.den->Option β):Option β:=match decEq t' t with | isTrue h=>F (h ▸ x) | isFalse _=>none
theorem zy_ {β:Type _} {t' t:Ty} {x:List t'.den} {F:List t.den->Option β} {y:β} (h:z8_ t' t x F=some y):t'=t:=by
 unfold z8_ at h
 split at h
 ·assumption
 ·cases h
theorem Vb_ {β:Type _} {t:Ty} {x:List t.den} {F:List t.den->Option β}:z8_ t t x F=F x:=by
 unfold z8_
 split
 ·rfl
 ·rename_i h _;exact absurd rfl h
theorem zz_ {β:Type _} {t:Ty} {x:List t.den} {F:List t.den->Option β} {y:β} (h:z8_ t t x F=some y):F x=some y:=by rw [Vb_] at h;exact h
def Ty.exact:(t:Ty)->List AV->Option (t.den × List AV)
 | .int k,.int k' n :: r=>match decEq k k' with | isTrue _=>some (n,r) | isFalse _=>none
 | .bool,.bool b :: r=>some (b,r)
 | .str,.str s :: r=>some (s,r)
 | .nil,r=>some ((),r)
 | .cons a b,l=>match a.exact l with
   | some (x,r)=>match b.exact r with
     | some (y,r)=>some ((x,y),r)
     | none=>none
   | none=>none
 | .sl t,.imm t' x :: r=>match decEq t' t with | isTrue h=>some (h ▸ x,r) | isFalse _=>none
 | _,_=>none
def RoF (f:List AV->List Obj->Option (Prop × AV)):SumK:=.ro fun args objs K=>match f args objs with
 | some (p,v)=>need p (K v)
 | none=>False
def RwF (f:List AV->List Obj->Option (Prop × AV × List Obj)):SumK:=.rw fun args objs K=>match f args objs with
 | some (p,v,o)=>need p (K v o)
 | none=>False
theorem zI_:(∀ a b:Bool,((!a)=b)=(a=!b))/\((!true)=false)/\((!false)=true)/\(∀ a b:Bool,((a && b)=true)=(a=true/\b=true))/\(∀ a b:Bool,((a && b)=false)=(a=false\/b=false))/\(∀ (p:Prop) [Decidable p],(decide p=true)=p)/\∀ (p:Prop) [Decidable p],(decide p=false)=¬ p:=
 ⟨fun _ _=>propext Bool.not_eq_eq_eq_not,rfl,rfl,fun _ _=>Bool.and_eq_true _ _,fun _ _=>propext Bool.and_eq_false_iff,fun _ _=>decide_eq_true_eq,fun _ _=>propext decide_eq_false_iff_not⟩
theorem zH_:(∀ n:Nat,((n:Int)).toNat=n)/\∀ k:IntKind,(Ty.int k).dflt=(0:Int):=⟨Int.toNat_natCast,fun _=>rfl⟩
theorem zh_:((∀ a b:Bool,((!a)=b)=(a=!b))/\((!true)=false)/\((!false)=true)/\(∀ a b:Bool,((a && b)=true)=(a=true/\b=true))/\(∀ a b:Bool,((a && b)=false)=(a=false\/b=false))/\(∀ (p:Prop) [Decidable p],(decide p=true)=p)/\∀ (p:Prop) [Decidable p],(decide p=false)=¬ p)/\(∀ n:Nat,((n:Int)).toNat=n)/\∀ k:IntKind,(Ty.int k).dflt=(0:Int):=⟨zI_,zH_⟩
theorem zv_:IntKind.i64.min=-9223372036854775808/\IntKind.i64.max=9223372036854775807/\IntKind.u64.min=0/\IntKind.u64.max=18446744073709551615/\IntKind.u32.min=0/\IntKind.u32.max=4294967295/\IntKind.u16.min=0/\IntKind.u16.max=65535/\IntKind.u8.min=0/\IntKind.u8.max=255:=⟨rfl,rfl,rfl,rfl,rfl,rfl,rfl,rfl,rfl,rfl⟩
theorem Qi_ {t:Ty} (h:t=t) (x:List t.den):(h ▸ x:List t.den)=x:=rfl
theorem Vw_ {a b:Int} (h:0<=a):a.tdiv b=a / b:=Int.tdiv_eq_ediv_of_nonneg h
section
variable {P:Program} {Γ:Env} {id:FuncId} {fn:Func} {ir:IR} {rd:List RD}
theorem GH_ (f:List AV->List Obj->Option (Prop × AV)):Det (RoF f).sum:=fun {args objs K} h=>by
 simp only [RoF,SumK.sum] at h ⊢
 split at h
 ·rename_i p v e
  obtain ⟨hp,hk⟩:=zf_ h
  exact ⟨v,objs,hk,jJ_ hp fun _=>⟨rfl,rfl⟩⟩
 ·exact h.elim
theorem GE_ (f:List AV->List Obj->Option (Prop × AV × List Obj)):Det (RwF f).sum:=fun {args objs K} h=>by
 simp only [RwF,SumK.sum] at h ⊢
 split at h
 ·rename_i p v o e
  obtain ⟨hp,hk⟩:=zf_ h
  exact ⟨v,o,hk,jJ_ hp fun _=>⟨rfl,rfl⟩⟩
 ·exact h.elim
structure NdR where
 p:Prop
 α:Type
 R:α->Prop
 V:α->AV
 O:α->List Obj
def NdF (f:List AV->List Obj->Option NdR):SumK:=.nd fun args objs K=>match f args objs with
 | some r=>need r.p (∀ x:r.α,r.R x->K (r.V x) (r.O x))
 | none=>False
theorem hn_ {f:List AV->List Obj->Option NdR} (hf:P.funcs[id]?=some fn) (hok:zs_ P fn ir rd=true) (hΓ:ZR_ P Γ)
 (h:∀ args objs r,f args objs=some r->args.length=fn.params.size+fn.nfree/\((∀ v ∈ args,v.wf1)->(∀ o ∈ objs,o.wf)->r.p->uB_ Γ ir rd args objs fun v' o'=>∃ x,r.R x/\v'=r.V x/\o'=r.O x)):vd_ P id (NdF f):=by
 have hc:Q6_ P id:=by
  unfold zs_ at hok
  split at hok
  ·rename_i c hb
   simp only [Bool.and_eq_true,decide_eq_true_eq,Bool.not_eq_true'] at hok
   exact ⟨fn,hf,hok.2,by rw [hb];rfl⟩
  ·cases hok
 refine ⟨hc,fun {I w m args cargs objs K} hH hA hu hS=>?_⟩
 simp only [] at hS
 split at hS
 ·rename_i r e
  obtain ⟨hp,hk⟩:=zf_ hS
  obtain ⟨hl,hev⟩:=h args objs r e
  have:=UL_ (S:=fun a b K=>a=args/\b=objs/\((fun v' o'=>∃ x,r.R x/\v'=r.V x/\o'=r.O x)=K)) hf hok hΓ (fun a b K hk=>by rw [hk.1];exact hl) (fun a b K hw ho hk=>by
   obtain ⟨rfl,rfl,rfl⟩:=hk
   exact hev hw ho hp)
  refine (this.2 hH hA hu ⟨rfl,rfl,rfl⟩).mono ?_
  rintro e w' ⟨v',cv,objs',I',m',h1,⟨x,hx,rfl,rfl⟩,h3⟩
  exact ⟨_,cv,_,I',m',h1,hk x hx,h3⟩
 ·exact hS.elim
theorem Xh_ (hf:P.funcs[id]?=some fn) (hok:zs_ P fn ir rd=true) (hΓ:ZR_ P Γ) {args:List AV} {objs:List Obj} {v:AV} {o:List Obj} (hl:args.length=fn.params.size+fn.nfree)
 (h:(∀ v ∈ args,v.wf1)->(∀ o ∈ objs,o.wf)->uB_ Γ ir rd args objs fun v' o'=>v'=v/\o'=o):zg_ P id fun a b K=>a=args/\b=objs/\((fun v' o'=>v'=v/\o'=o)=K):=by
 refine UK_ hf hok hΓ (fun {a b K} hk=>?_) (fun a b K hk=>by rw [hk.1];exact hl) (fun a b K hw ho hk=>?_)
 ·obtain ⟨rfl,rfl,rfl⟩:=hk
  exact ⟨v,o,⟨rfl,rfl⟩,rfl,rfl,rfl⟩
 ·obtain ⟨rfl,rfl,rfl⟩:=hk
  exact h hw ho
theorem zm_ {f:List AV->List Obj->Option (Prop × AV)} (hf:P.funcs[id]?=some fn) (hok:zs_ P fn ir rd=true) (hΓ:ZR_ P Γ)
 (h:∀ args objs p v,f args objs=some (p,v)->args.length=fn.params.size+fn.nfree/\((∀ v ∈ args,v.wf1)->(∀ o ∈ objs,o.wf)->p->uB_ Γ ir rd args objs fun v' o'=>v'=v/\o'=objs)):zg_ P id (RoF f).sum:=by
 have hc:Q6_ P id:=by
  unfold zs_ at hok
  split at hok
  ·rename_i c hb
   simp only [Bool.and_eq_true,decide_eq_true_eq,Bool.not_eq_true'] at hok
   exact ⟨fn,hf,hok.2,by rw [hb];rfl⟩
  ·cases hok
 refine ⟨hc,GH_ f,fun {I w m args cargs objs K} hH hA hu hS=>?_⟩
 simp only [RoF,SumK.sum] at hS
 split at hS
 ·rename_i p v e
  obtain ⟨hp,hk⟩:=zf_ hS
  obtain ⟨hl,hev⟩:=h args objs p v e
  have:=Xh_ hf hok hΓ (v:=v) (o:=objs) hl fun hw ho=>hev hw ho hp
  refine (this.2.2 hH hA hu ⟨rfl,rfl,rfl⟩).mono ?_
  rintro e w' ⟨v',cv,objs',I',m',h1,⟨rfl,rfl⟩,h3⟩
  exact ⟨v',cv,objs',I',m',h1,hk,h3⟩
 ·exact hS.elim
theorem y5_ {f:List AV->List Obj->Option (Prop × AV × List Obj)} (hf:P.funcs[id]?=some fn) (hok:zs_ P fn ir rd=true) (hΓ:ZR_ P Γ)
 (h:∀ args objs p v o,f args objs=some (p,v,o)->args.length=fn.params.size+fn.nfree/\((∀ v ∈ args,v.wf1)->(∀ o ∈ objs,o.wf)->p->uB_ Γ ir rd args objs fun v' o'=>v'=v/\o'=o)):zg_ P id (RwF f).sum:=by
 have hc:Q6_ P id:=by
  unfold zs_ at hok
  split at hok
  ·rename_i c hb
   simp only [Bool.and_eq_true,decide_eq_true_eq,Bool.not_eq_true'] at hok
   exact ⟨fn,hf,hok.2,by rw [hb];rfl⟩
  ·cases hok
 refine ⟨hc,GE_ f,fun {I w m args cargs objs K} hH hA hu hS=>?_⟩
 simp only [RwF,SumK.sum] at hS
 split at hS
 ·rename_i p v o e
  obtain ⟨hp,hk⟩:=zf_ hS
  obtain ⟨hl,hev⟩:=h args objs p v o e
  have:=Xh_ hf hok hΓ (v:=v) (o:=o) hl fun hw ho=>hev hw ho hp
  refine (this.2.2 hH hA hu ⟨rfl,rfl,rfl⟩).mono ?_
  rintro e w' ⟨v',cv,objs',I',m',h1,⟨rfl,rfl⟩,h3⟩
  exact ⟨v',cv,objs',I',m',h1,hk,h3⟩
 ·exact hS.elim
inductive Res where
 | one (v:AV) (o:List Obj)
 | br (b:Bool) (x y:Res)
def Res.pick:Res->AV × List Obj
 | .one v o=>(v,o)
 | .br b x y=>if b=true then x.pick else y.pick
def Res.run:Res->(AV->List Obj->Prop)->Prop
 | .one v o,K=>K v o
 | .br b x y,K=>cnd b (x.run K) (y.run K)
end
end Go.Eng
namespace Go.Eng
set_option linter.unusedVariables false
set_option linter.unusedSimpArgs false
open Go.RowKit
def Q1_ (w:World):Nat->Prop:=fun b=>b < w.heap.size
def noM:M:=⟨fun _=>none,fun _=>0,fun _=>0,fun _=>0,fun _=>False⟩
theorem ur_ {P:Program} {id:FuncId} {f:List AV->List Obj->Option (Prop × AV)} (h:zg_ P id (RoF f).sum) {w:World} {args:List AV} {cargs:Array Value} (hA:ql_ (Q1_ w) w noM args cargs.toList) (hf:f args []=some (True,.bool true)):
 Calls P id cargs w fun e w'=>e=.returned (.bool true)/\Below w.heap.size w w':=by
 have hH:HRel (Q1_ w) w noM (ofL []):=⟨fun i hi=>absurd rfl hi,fun i o e=>(by cases e),fun i j o o' b e=>(by cases e),fun i o b e=>(by cases e),fun i t x b e=>(by cases e),fun b hb=>hb⟩
 have hS:(RoF f).sum args [] (fun v _=>v=.bool true):=by
  simp only [RoF,SumK.sum,hf]
  exact jJ_ trivial fun _=>trivial
 refine (h.2.2 hH hA (fun i hi=>hi.elim) hS).mono ?_
 rintro e w' ⟨v,cv,objs',I',m',rfl,rfl,hL⟩
 have hv:cv=.bool true:=hL.rv
 subst hv
 exact ⟨rfl,hL.fr.below fun b _ ⟨i,o,e,_⟩=>by cases e⟩
end Go.Eng
namespace Go.Eng
set_option linter.unusedVariables false
set_option linter.unusedSimpArgs false
open Go.RowKit Go.ChangeShapes Go.WideShapes
def tyB (P:Program):Ty->(TypeId->Bool) × (List (TypeId × Nat)->Nat->Bool)
 | .int k=>(fun t=>match P.underlying t with | some (.int k')=>k' == k | _=>false,fun _ _=>false)
 | .bool=>(fun t=>match P.underlying t with | some .bool=>true | _=>false,fun _ _=>false)
 | .str=>(fun t=>match P.underlying t with | some .string=>true | _=>false,fun _ _=>false)
 | .sl a=>(fun t=>match P.underlying t with | some (.slice e)=>P.cellsOf e == a.size && decide (0 < a.size) && (tyB P a).1 e | _=>false,fun _ _=>false)
 | .nil=>(fun t=>match P.underlying t with | some (.struct fs)=>fs.isEmpty && P.cellsOf t == 0 | _=>false,fun l _=>l.isEmpty)
 | .cons a b=>
   let p:List (TypeId × Nat)->Nat->Bool:=fun l off=>match l with
    | (t,o) :: r=>o == off && P.cellsOf t == a.size && (tyB P a).1 t && (tyB P b).2 r (off+a.size)
    | []=>false
   (fun t=>P.cellsOf t == a.size+b.size && (match P.underlying t with
     | some (.struct fs)=>p (fs.toList.map fun f=>(f.type,f.offset)) 0
     | some (.array n e)=>p ((List.range n).map fun i=>(e,i*P.cellsOf e)) 0
     | _=>false),p)
theorem Gw_ {k:IntKind} {n:Int} (h:(Lit.int k n).wf=true):inK k n:=by
 simpa [Lit.wf,inK] using h
section
variable {H:Type} {enc:TypeId × Value->H} {P:Program} {W:World}
theorem wz_:∀ (ty:Ty),(∀ (fuel:Nat) (t:TypeId) (cs:List Value) (x:DataW H × List MemPlace),(tyB P ty).1 t=true->DataW.trod enc P W 0 (fun _=>true) true fuel t cs=some x->∃ y:ty.den,RC (Q1_ W) W ty y cs)/\
 (∀ (fuel:Nat) (l:List (TypeId × Nat)) (off:Nat) (cs:List Value),(tyB P ty).2 l off=true->cs.length=off+ty.size->(∀ (i:Nat) t o,l[i]?=some (t,o)->∃ x,DataW.trod enc P W 0 (fun _=>true) true fuel t ((cs.drop o).take (P.cellsOf t))=some x)->∃ y:ty.den,RC (Q1_ W) W ty y (cs.drop off))
 | .int k=>by
   refine ⟨fun fuel t cs x ht h=>?_,fun fuel l off cs h=>by cases h⟩
   simp only [tyB] at ht
   split at ht
   ·rename_i k' hu
    simp only [beq_iff_eq] at ht
    subst ht
    obtain ⟨n,rfl,_,hw⟩:=DataW.trod_int hu h
    exact ⟨n,rfl,Gw_ hw⟩
   ·cases ht
 | .bool=>by
   refine ⟨fun fuel t cs x ht h=>?_,fun fuel l off cs h=>by cases h⟩
   simp only [tyB] at ht
   split at ht
   ·rename_i hu
    obtain ⟨b,rfl,_⟩:=DataW.trod_bool hu h
    exact ⟨b,rfl⟩
   ·cases ht
 | .str=>by
   refine ⟨fun fuel t cs x ht h=>?_,fun fuel l off cs h=>by cases h⟩
   simp only [tyB] at ht
   split at ht
   ·rename_i hu
    obtain ⟨s,rfl,_,hs⟩:=DataW.trod_string hu h
    exact ⟨zn_ s,s,rfl,rfl,hs⟩
   ·cases ht
 | .sl a=>by
   refine ⟨fun fuel t cs x ht h=>?_,fun fuel l off cs h=>by cases h⟩
   simp only [tyB] at ht
   split at ht
   ·rename_i e hu
    simp only [Bool.and_eq_true,beq_iff_eq,decide_eq_true_eq] at ht
    obtain ⟨⟨hc,hpos0⟩,ha⟩:=ht
    rcases DataW.trod_slice hu h with ⟨rfl,_⟩ | ⟨ad,len,cap,elems,rest,n,_,rfl,_,hb,hl,hm,hlen,hel,_,_⟩
    ·exact ⟨([]:List a.den),none,0,0,rfl,rfl,Nat.le_refl _,Nat.zero_le _,fun h=>absurd h (by omega)⟩
    ·have each:∀ i,i < len->∃ (y:a.den) (es:List Value),RC (Q1_ W) W a y es/\es.length=a.size/\∀ j (hj:j < es.length),W.cell? ((ad.add (i*a.size)).add j)=some es[j]:=fun i hi=>by
      have h1:=hel i hi
      rw [hc] at h1
      have hi':i < elems.length:=by omega
      rw [List.getElem?_eq_getElem hi'] at h1
      obtain ⟨es,e1,e2⟩:=Option.bind_eq_some_iff.1 h1
      obtain ⟨y,hy⟩:=(wz_ a).1 n e es _ ha e2
      obtain ⟨_,k2,k3⟩:=World.cells?_some e1
      exact ⟨y,es,hy,k2,fun j hj=>by rw [k3 j (by omega),List.getElem?_eq_getElem hj]⟩
     have build:∀ m,m<=len->∃ l:List a.den,l.length=m/\∀ i (h:i < l.length),∃ es,RC (Q1_ W) W a l[i] es/\∀ j (hj:j < es.length),W.cell? ((ad.add (i*a.size)).add j)=some es[j]:=fun m=>by
      induction m with
      | zero=>intro _;exact ⟨[],rfl,fun i h=>by simp at h⟩
      | succ m ih=>
        intro hm
        obtain ⟨l,h1,h2⟩:=ih (by omega)
        obtain ⟨y,es,h3,_,h4⟩:=each m (by omega)
        refine ⟨l++[y],by simp [h1],fun i hi=>?_⟩
        by_cases hlt:i < l.length
        ·rw [List.getElem_append_left hlt];exact h2 i hlt
        ·have:i=m:=by simp at hi;omega
         subst this
         rw [List.getElem_append_right (by omega)]
         simp only [List.getElem_singleton]
         exact ⟨es,h3,h4⟩
     obtain ⟨l,h1,h2⟩:=build len (Nat.le_refl _)
     refine ⟨l,some ad,len,cap,rfl,h1.symm,hl,hm,fun hpos=>?_⟩
     obtain ⟨es,q1,q2⟩:=h2 0 (by omega)
     have hes:=zU_ a _ _ q1
     have hc0:=q2 0 (by omega)
     rw [Nat.zero_mul] at hc0
     obtain ⟨b,off,spot⟩:=ad
     have hspot:spot=none:=by simpa [Addr.add] using World.cell?_spot hc0
     subst hspot
     refine ⟨b,off,rfl,?_,fun i hi=>?_⟩
     ·unfold Q1_
      simp only [z9_] at hc0
      unfold World.cell? at hc0
      cases hb:W.heap[b]? with
      | none=>simp [hb] at hc0
      | some o=>exact Zz_ hb
     ·obtain ⟨es,q1,q2⟩:=h2 i hi
      exact ⟨es,q1,fun j hj=>by have:=q2 j hj;rw [z9_,z9_] at this;exact this⟩
   ·cases ht
 | .nil=>by
   refine ⟨fun fuel t cs x ht h=>?_,fun fuel l off cs h hl _=>⟨(),by simp only [RC];exact List.drop_eq_nil_of_le (by simp [Ty.size] at hl;omega)⟩⟩
   simp only [tyB] at ht
   split at ht
   ·rename_i fs hu
    simp only [Bool.and_eq_true,beq_iff_eq] at ht
    obtain ⟨xs,n,_,_,hl,_⟩:=DataW.trod_struct hu h
    rw [ht.2] at hl
    exact ⟨(),List.eq_nil_of_length_eq_zero hl⟩
   ·cases ht
 | .cons a b=>by
   have key:∀ (fuel:Nat) (l:List (TypeId × Nat)) (off:Nat) (cs:List Value),(tyB P (.cons a b)).2 l off=true->cs.length=off+(a.size+b.size)->(∀ (i:Nat) t o,l[i]?=some (t,o)->∃ x,DataW.trod enc P W 0 (fun _=>true) true fuel t ((cs.drop o).take (P.cellsOf t))=some x)->∃ y:(Ty.cons a b).den,RC (Q1_ W) W (.cons a b) y (cs.drop off):=fun fuel l off cs h hl hx=>by
    simp only [tyB] at h
    split at h
    ·rename_i t o r
     simp only [Bool.and_eq_true,beq_iff_eq] at h
     obtain ⟨⟨⟨rfl,hc⟩,ha⟩,hr⟩:=h
     obtain ⟨x,h1⟩:=hx 0 t o rfl
     obtain ⟨y,hy⟩:=(wz_ a).1 fuel t _ x ha h1
     obtain ⟨z,hz⟩:=(wz_ b).2 fuel r (o+a.size) cs hr (by omega) fun i t' o' hi=>hx (i+1) t' o' (by simpa using hi)
     refine ⟨(y,z),?_⟩
     simp only [RC]
     refine ⟨_,_,?_,hy,hz⟩
     rw [hc,<- List.drop_drop,List.take_append_drop]
    ·cases h
   refine ⟨fun fuel t cs x ht h=>?_,fun fuel l off cs h hl hx=>key fuel l off cs h (by simpa [Ty.size] using hl) hx⟩
   have ht':P.cellsOf t == a.size+b.size/\(match P.underlying t with
    | some (.struct fs)=>(tyB P (.cons a b)).2 (fs.toList.map fun f=>(f.type,f.offset)) 0
    | some (.array n e)=>(tyB P (.cons a b)).2 ((List.range n).map fun i=>(e,i*P.cellsOf e)) 0
    | _=>false)=true:=by
    simp only [tyB,Bool.and_eq_true] at ht ⊢
    exact ht
   obtain ⟨hc,hm⟩:=ht'
   simp only [beq_iff_eq] at hc
   split at hm
   ·rename_i fs hu
    obtain ⟨xs,n,_,_,hl,hn,hf⟩:=DataW.trod_struct hu h
    have:=key n _ 0 cs hm (by omega) fun i t o hi=>by
     rw [List.getElem?_map,Option.map_eq_some_iff] at hi
     obtain ⟨f,h1,h2⟩:=hi
     cases h2
     have h1':fs[i]?=some f:=by rw [<- Array.getElem?_toList];exact h1
     have hlt:i < xs.length:=by rw [hn];exact (Array.getElem?_eq_some_iff.1 h1').1
     exact ⟨xs[i],by rw [hf i f h1',List.getElem?_eq_getElem hlt]⟩
    rwa [List.drop_zero] at this
   ·rename_i k e hu
    obtain ⟨xs,n,_,_,hl,hn,hf⟩:=DataW.trod_array hu h
    have:=key n _ 0 cs hm (by omega) fun i t o hi=>by
     rw [List.getElem?_map,Option.map_eq_some_iff] at hi
     obtain ⟨j,h1,h2⟩:=hi
     cases h2
     obtain ⟨hlt,rfl⟩:=List.getElem?_eq_some_iff.1 h1
     simp only [List.length_range] at hlt
     simp only [List.getElem_range]
     exact ⟨xs[i],by rw [hf i hlt,List.getElem?_eq_getElem (by omega)]⟩
    rwa [List.drop_zero] at this
   ·cases hm
def KI_ (ty:Ty) (y:ty.den):AV:=match ty with
 | .nil=>.agg (Ty.cells .nil y)
 | .cons a b=>.agg (Ty.cells (.cons a b) y)
 | .int k=>.int k y
 | .bool=>.bool y
 | .str=>.str y
 | .sl t=>.imm t y
def xl_:List Ty->List AV->Prop
 | [],[]=>True
 | ty :: r,a :: l=>(∃ y:ty.den,a=KI_ ty y)/\xl_ r l
 | _,_=>False
def GA_ (P:Program):List Ty->List TypeId->Bool
 | [],[]=>true
 | ty :: r,t :: l=>(tyB P ty).1 t && GA_ P r l
 | _,_=>false
theorem G3_ {r:Reach} {b0:Nat} {ty:Ty} {t:TypeId} {v:Value} {d:DataW H} {ps:List MemPlace} (ht:(tyB P ty).1 t=true) (hval:Value.okWide P W r b0 t v) (h:DataW.Trod enc P W 0 (fun _=>true) true t v d ps):
 ∃ y:ty.den,RV2 (Q1_ W) W noM (KI_ ty y) v:=by
 obtain ⟨fuel,hf⟩:=h
 obtain ⟨y,hy⟩:=(wz_ ty).1 fuel t _ _ ht hf
 refine ⟨y,?_⟩
 have hcells:=Qr_ (m:=noM) ty y _ hy
 cases ty with
 | int k=>
   simp only [tyB] at ht
   split at ht
   ·rename_i k' hu
    obtain ⟨n,rfl⟩:=okWide_int hu hval
    exact Zv_ (Qq_ hcells.1)
   ·cases ht
 | bool=>
   simp only [tyB] at ht
   split at ht
   ·rename_i hu
    obtain ⟨n,rfl⟩:=okWide_bool hu hval
    exact Zv_ (Qq_ hcells.1)
   ·cases ht
 | str=>
   simp only [tyB] at ht
   split at ht
   ·rename_i hu
    obtain ⟨n,rfl⟩:=okWide_string hu hval
    exact Zv_ (Qq_ hcells.1)
   ·cases ht
 | sl a=>
   simp only [tyB] at ht
   split at ht
   ·rename_i e hu
    obtain ⟨ao,n,c,rfl⟩:=okWide_slice hu hval
    exact Zv_ (Qq_ hcells.1)
   ·cases ht
 | nil=>
   simp only [tyB] at ht
   split at ht
   ·rename_i fs hu
    obtain ⟨cs,rfl,_⟩:=okWide_struct hu hval
    exact Zv_ ⟨cs,rfl,hcells⟩
   ·cases ht
 | cons a b=>
   have ha:∃ cs,v=.agg cs:=by
    simp only [tyB,Bool.and_eq_true] at ht
    obtain ⟨_,ht⟩:=ht
    split at ht
    ·rename_i fs hu
     obtain ⟨cs,rfl,_⟩:=okWide_struct hu hval;exact ⟨cs,rfl⟩
    ·rename_i n e hu
     simp only [Value.okWide,hu] at hval
     obtain ⟨cs,h1,_⟩:=hval;exact ⟨cs,h1⟩
    ·cases ht
   obtain ⟨cs,rfl⟩:=ha
   exact Zv_ ⟨cs,rfl,hcells⟩
theorem JG_ {r:Reach} {b0:Nat}:∀ {tys:List Ty} {ts:List TypeId} {vs:List Value} {ds:List (DataW H)} {ps:List MemPlace},GA_ P tys ts=true->(∀ (j:Nat) t v,ts[j]?=some t->vs[j]?=some v->Value.okWide P W r b0 t v)->
 DataW.TrodAll enc P W 0 (fun _=>true) true ts vs ds ps->∃ avs,ql_ (Q1_ W) W noM avs vs/\xl_ tys avs
 | [],[],[],[],_,_,_,_=>⟨[],trivial,trivial⟩
 | ty :: r,t :: ts,v :: vs,d :: ds,ps,ht,hv,h=>by
   simp only [GA_,Bool.and_eq_true] at ht
   obtain ⟨p,q,h1,h2,rfl⟩:=h
   obtain ⟨y,hy⟩:=G3_ ht.1 (hv 0 t v rfl rfl) h1
   obtain ⟨avs,h3,h4⟩:=JG_ ht.2 (fun j t v h h'=>hv (j+1) t v (by simpa using h) (by simpa using h')) h2
   exact ⟨_ :: avs,⟨hy,h3⟩,⟨y,rfl⟩,h4⟩
 | [],_ :: _,_,_,_,ht,_,_=>by cases ht
 | _ :: _,[],_,_,_,ht,_,_=>by cases ht
 | [],[],_ :: _,_,_,_,_,h=>h.elim
 | [],[],[],_ :: _,_,_,_,h=>h.elim
 | _ :: _,_ :: _,[],_,_,_,_,h=>h.elim
 | _ :: _,_ :: _,_ :: _,[],_,_,_,h=>h.elim
theorem kM_:∀ {ts:List TypeId} {vs:List Value} {ds:List (DataW H)} {ps:List MemPlace},DataW.TrodAll enc P W 0 (fun _=>true) true ts vs ds ps->ds.length=ts.length
 | [],[],[],_,_=>rfl
 | _ :: _,_ :: _,_ :: _,_,⟨_,_,_,h,_⟩=>by rw [List.length_cons,List.length_cons,kM_ h]
 | [],_ :: _,_,_,h=>h.elim
 | [],[],_ :: _,_,h=>h.elim
 | _ :: _,[],_,_,h=>h.elim
 | _ :: _,_ :: _,[],_,h=>h.elim
def tsB (P:Program):List TypeId->Bool
 | []=>true
 | t :: r=>P.readableRec t && decide (t < P.types.size) && tsB P r
theorem hN_ {α:Type}:∀ {l:List α},l.length=2->∃ a b,l=[a,b]
 | [a,b],_=>⟨a,b,rfl⟩
theorem hM_ {α:Type}:∀ {l:List α},l.length=3->∃ a b c,l=[a,b,c]
 | [a,b,c],_=>⟨a,b,c,rfl⟩
theorem jb_ (hl:laidOutB P=true) {W':World} (hb:Below W.heap.size W W'):∀ {ts:List TypeId} {vs:List Value} {ds:List (DataW H)} {ps:List MemPlace},tsB P ts=true->
 DataW.TrodAll enc P W 0 (fun _=>true) true ts vs ds ps->DataW.TrodAll enc P W' 0 (fun b=>decide (b < W.heap.size)) true ts vs ds ps
 | [],[],[],_,_,h=>h
 | t :: ts,v :: vs,d :: ds,ps,ht,h=>by
   simp only [tsB,Bool.and_eq_true,decide_eq_true_eq] at ht
   obtain ⟨p,q,h1,h2,rfl⟩:=h
   have lt:∀ x ∈ p,x.block < W.heap.size:=by obtain ⟨m,hm⟩:=h1;exact DataW.trod_lt m _ _ _ hm
   exact trodAll_cons_mk (Below.trod hl ht.1.1 ht.1.2 h1 hb lt) (jb_ hl hb ht.2 h2)
 | [],_ :: _,_,_,_,h=>h.elim
 | [],[],_ :: _,_,_,h=>h.elim
 | _ :: _,[],_,_,_,h=>h.elim
 | _ :: _,_ :: _,[],_,_,h=>h.elim
end
end Go.Eng
namespace Go.Eng
abbrev Y1:Ty:=(.cons (.int .i64) (.cons (.int .i64) (.cons .bool (.cons (.int .u64) (.cons (.sl (.int .u8)) (.cons (.sl (.int .u8)) .nil))))))
abbrev Y2:Ty:=(.cons (.int .i64) (.cons (.int .u64) (.cons (.int .u64) (.cons Y1 (.cons (.sl (.int .u8)) .nil)))))
end Go.Eng
namespace Go.Eng
open Go.Proofs
set_option linter.unusedVariables false
set_option linter.unusedSimpArgs false
set_option maxRecDepth 100000
set_option maxHeartbeats 1000000
theorem zK_ {α:Type} {l:List α} {i:Nat} (h:i < l.length) (d:α):l.drop i=l.getD i d :: l.drop (i+1):=by
 rw [List.drop_eq_getElem_cons h,List.getD_eq_getElem?_getD,List.getElem?_eq_getElem h];rfl
theorem zJ_ {α:Type} {l:List α} {j:Nat} (h:j < l.length) (d:α):l.getD j d ∈ l:=by
 rw [List.getD_eq_getElem?_getD,List.getElem?_eq_getElem h];exact List.getElem_mem h
def okW (n:Int):Bool:=!(decide (n=0) || decide (8 < n) || decide (n < -64))
theorem Ug_ {n:Int}:okW n=true ↔ n ≠ 0/\n<=8/\-64<=n:=by unfold okW;simp;omega
theorem hk_ {n:Int}:okW n=false ↔ ¬ (n ≠ 0/\n<=8/\-64<=n):=by rw [<- Ug_];simp
def ZW_ (w:List Int):Bool:=decide (w.length<=64) && w.all okW
theorem Qd_ {w:List Int}:ZW_ w=true ↔ w.length<=64/\∀ n ∈ w,n ≠ 0/\n<=8/\-64<=n:=by
 unfold ZW_;simp only [Bool.and_eq_true,decide_eq_true_eq,List.all_eq_true,Ug_]
def yv_:IR:=
(sq (kr [0] [oD 2 (.mov cF)])
(sq (sq (.reg [oM 5 0,
oE 6 5,
oB 7 .gtr 6 (cI 64)])
(.cond 7
(sq (.reg [oD 2 (.mov cF)])
.ret)
.skip))
(sq (sq (.reg [oM 8 0,
oE 9 8,
oD 10 (.mov (cI 0))])
(.block 0
(.loop
(sq (kr [8,9,10] [oB 11 .lss 10 9])
(sq (.cond 11
.skip
(.exit 0))
(sq (.block 1
(sq (.reg [oI 12 1 8 10,
oL 13 12,
oM 4 13])
(sq (kr [4,8,9,10] [oM 14 4,
oB 15 .eql 14 (cI 0),
oM 16 15,
oF 16 17 (.mov 4),
oF 16 18 (.bin .gtr 17 (cI 8)),
oP 19 16 cT 18,
oM 20 19,
oF 20 21 (.mov 4),
oF 20 22 (.bin .lss 21 (cI (-64))),
oP 23 20 cT 22])
(.cond 23
(sq (kr [] [oD 2 (.mov cF)])
.ret)
.skip))))
(kr [8,9,10] [oB 24 .add 10 (cI 1),
oM 10 24])))))))
(sq (kr [] [oD 2 (.mov cT)])
.ret))))
def X0_:List RD:=[.tmp 2 true none]
theorem ye_:zs_ Tryd.prog Tryd.f50 yv_ X0_=true:=by kernel_rfl
def qM_:List AV->List Obj->Option (Prop × AV)
 | [.imm (.int .i64) w],[]=>some ((True,.bool (ZW_ w)))
 | _,_=>none
theorem QE_:zg_ Tryd.prog 50 (RoF qM_).sum:=by
 refine zm_ Tryd.func50 ye_ (ze_ _) fun args objs p v e=>?_
 unfold qM_ at e
 split at e
 ·rename_i w
  cases e
  refine ⟨rfl,fun hw ho hp=>?_⟩
  change List Int at w
  repeat'(intro t ht;first|(cases t<;>first|(cases ht;done)|(try simp only[zh_]at ht))|((first|refine zb_ ht ?_|refine ht ?_ ?_|refine ht.1 ?_ ?_|refine ht ?_)<;>clear ht))
  all_goals first
   | (have h64:¬ w.length<=64:=by omega
      refine ⟨?_,rfl⟩;unfold ZW_;rw [decide_eq_false h64];rfl)
   | (intro r h1 h2;clear h1;refine h2 ⟨[8,9,10],Nat,(fun i=>i<=w.length/\w.all okW=(w.drop i).all okW),fun i=>[.imm (.int .i64) w,.int .i64 w.length,.int .i64 i],fun _=>[],fun i=>w.length - i,⟨0,⟨Nat.zero_le _,rfl⟩,rfl,rfl⟩,?_⟩;clear h2)
  rintro i ⟨hi,he⟩
  repeat'(intro t ht;first|(cases t<;>first|(cases ht;done)|(try simp only[zh_]at ht))|((first|refine zb_ ht ?_|refine ht ?_ ?_|refine ht.1 ?_ ?_|refine ht ?_)<;>clear ht))
  all_goals first
   | ((try simp only [zH_,zI_,zv_] at*);omega)
   | (have h64:w.length<=64:=by omega
      have hge:w.length<=i:=by omega
      refine ⟨?_,rfl⟩;unfold ZW_;rw [he,decide_eq_true h64,List.drop_of_length_le hge];rfl)
   | (have hlt:i < w.length:=by omega
      rw [zK_ hlt 0,List.all_cons] at he
      first
       | (have hk:okW (w.getD i 0)=false:=hk_.2 (by omega)
          refine ⟨?_,rfl⟩;unfold ZW_;rw [he,hk];simp;done)
       | (have hk:okW (w.getD i 0)=true:=Ug_.2 (by omega)
          rw [hk,Bool.true_and] at he
          exact ⟨i+1,⟨hlt,he⟩,by (try simp only [zH_,zI_,zv_] at*);omega,rfl,rfl⟩))
 ·cases e
def qU_ (n:Int):Int:=if 0 - n > n then 0 - n else n
theorem gg_ {n:Int} (h:n < 0):qU_ n=-n:=by unfold qU_;split<;>omega
theorem Ga_ {n:Int} (h:¬ n < 0):qU_ n=n:=by unfold qU_;split<;>omega
theorem VX_ {n:Int}:0<=qU_ n/\n<=qU_ n/\-n<=qU_ n/\(qU_ n=n\/qU_ n=-n):=by unfold qU_;split<;>omega
def qm_ (n:Int):Int:=if 0 < n then 1 else 0
def QN_ (f:Int->Int) (w:List Int) (i:Nat):Int:=((w.take i).map f).sum
theorem ZY_ (f:Int->Int) {l:List Int} {i:Nat} (h:i < l.length):QN_ f l (i+1)=QN_ f l i+f (l.getD i 0):=by
 unfold QN_
 rw [List.take_succ_eq_append_getElem h,List.map_append,List.sum_append]
 have:l.getD i 0=l[i]:=by rw [List.getD_eq_getElem?_getD,List.getElem?_eq_getElem h];rfl
 rw [this];simp
theorem QM_ (f:Int->Int) {l:List Int} {i:Nat} (h:l.length<=i):QN_ f l i=(l.map f).sum:=by
 unfold QN_;rw [List.take_of_length_le h]
theorem vm_:∀ {l:List Int} {c:Int},(∀ x ∈ l,0<=x/\x<=c)->0<=l.sum/\l.sum<=c*l.length
 | [],c,_=>by simp
 | x :: l,c,h=>by
   have h1:=h x (by simp)
   have h2:=vm_ (l:=l) (c:=c) fun y hy=>h y (by simp [hy])
   rw [List.sum_cons,List.length_cons,Int.natCast_add,Int.mul_add]
   omega
theorem wQ_ {w:List Int} (h:ZW_ w=true) (i:Nat):0<=QN_ qU_ w i/\QN_ qU_ w i<=4096:=by
 obtain ⟨h1,h2⟩:=Qd_.1 h
 unfold QN_
 have:=vm_ (l:=(w.take i).map qU_) (c:=64) fun x hx=>by
  obtain ⟨y,hy,rfl⟩:=List.mem_map.1 hx
  have:=h2 y (List.mem_of_mem_take hy)
  have:=VX_ (n:=y);omega
 rw [List.length_map,List.length_take] at this
 omega
theorem yY_ {w:List Int} (h:ZW_ w=true) (i:Nat):0<=QN_ qm_ w i/\QN_ qm_ w i<=64:=by
 obtain ⟨h1,h2⟩:=Qd_.1 h
 unfold QN_
 have:=vm_ (l:=(w.take i).map qm_) (c:=1) fun x hx=>by
  obtain ⟨y,hy,rfl⟩:=List.mem_map.1 hx
  unfold qm_;split<;>omega
 rw [List.length_map,List.length_take] at this
 omega
def x9_ (w:List Int):Int:=if ZW_ w then (w.map qU_).sum else 0
def qS_ (w:List Int):Int:=if ZW_ w then (w.map qm_).sum else 0
theorem u3_ (w:List Int):0<=x9_ w/\x9_ w<=4096:=by
 unfold x9_;split
 ·rename_i h;have:=wQ_ h w.length;rwa [QM_ qU_ (Nat.le_refl _)] at this
 ·omega
def YG_:IR:=
(sq (kr [0] [oD 2 (.mov (cI 0))])
(sq (sq (.reg [oM 5 0,
oC 6 50 [5],
oD 7 (.un .not 6)])
(.cond 7
(sq (.reg [oD 2 (.mov (cI 0))])
.ret)
.skip))
(sq (sq (.reg [oM 8 0,
oE 9 8,
oD 10 (.mov (cI 0))])
(.block 0
(.loop
(sq (kr [2,8,9,10] [oB 11 .lss 10 9])
(sq (.cond 11
.skip
(.exit 0))
(sq (.block 1
(sq (.reg [oI 12 1 8 10,
oL 13 12,
oM 4 13])
(kr [2,4,8,9,10] [oM 14 2,
oM 15 4,
oM 16 4,
oD 17 (.un .neg 16),
oD 18 (.minmax true 15 17),
oB 19 .add 14 18,
oM 2 19])))
(kr [2,8,9,10] [oB 20 .add 10 (cI 1),
oM 10 20])))))))
(sq (kr [2] [oM 21 2,
oM 2 21])
.ret))))
def Ya_:List RD:=[.tmp 2 true none]
theorem Ym_:zs_ Tryd.prog Tryd.f51 YG_ Ya_=true:=by kernel_rfl
def jc_:List AV->List Obj->Option (Prop × AV)
 | [.imm (.int .i64) w],[]=>some ((True,.int .i64 (x9_ w)))
 | _,_=>none
theorem XO_:zg_ Tryd.prog 51 (RoF jc_).sum:=by
 refine zm_ Tryd.func51 Ym_ (zc_ (s:=RoF qM_) QE_ (ze_ _)) fun args objs p v e=>?_
 unfold jc_ at e
 split at e
 ·rename_i w
  cases e
  refine ⟨rfl,fun hw ho hp=>?_⟩
  change List Int at w
  repeat'(intro t ht;first|(cases t<;>first|(cases ht;done)|(try simp only[zh_]at ht))|((first|refine zb_ ht ?_|refine ht ?_ ?_|refine ht.1 ?_ ?_|refine ht ?_)<;>clear ht))
  all_goals first
   | exact True.intro
   | (refine ⟨?_,rfl⟩;unfold x9_;simp_all;done)
   | (intro r h1 h2;clear h1;refine h2 ⟨[2,8,9,10],Nat,(fun i=>i<=w.length),fun i=>[.int .i64 (QN_ qU_ w i),.imm (.int .i64) w,.int .i64 w.length,.int .i64 i],fun _=>[],fun i=>w.length - i,⟨0,Nat.zero_le _,rfl,rfl⟩,?_⟩;clear h2)
  intro i hi
  have hr:ZW_ w=true:=by assumption
  have hl:=(Qd_.1 hr).1
  have hs:=wQ_ hr i
  repeat'(intro t ht;first|(cases t<;>first|(cases ht;done)|(try simp only[zh_]at ht))|((first|refine zb_ ht ?_|refine ht ?_ ?_|refine ht.1 ?_ ?_|refine ht ?_)<;>clear ht))
  all_goals first
   | ((try simp only [zH_,zI_,zv_] at*);omega)
   | (have hge:w.length<=i:=by omega
      refine ⟨?_,rfl⟩;unfold x9_;rw [if_pos hr,QM_ qU_ hge];done)
   | (have hlt:i < w.length:=by omega
      have hk:=(Qd_.1 hr).2 _ (zJ_ hlt 0)
      have ha:=VX_ (n:=w.getD i 0)
      first
       | ((try simp only [zH_,zI_,zv_] at*);omega)
       | (show IntKind.i64.min<=QN_ qU_ w i+qU_ (w.getD i 0)/\QN_ qU_ w i+qU_ (w.getD i 0)<=IntKind.i64.max;(try simp only [zH_,zI_,zv_] at*);omega)
       | (refine ⟨i+1,hlt,by (try simp only [zH_,zI_,zv_] at*);omega,?_,rfl⟩
          dsimp only
          rw [ZY_ qU_ hlt];rfl))
 ·cases e
def yw_:IR:=
(sq (kr [0] [oD 2 (.mov (cI 0))])
(sq (sq (.reg [oM 5 0,
oC 6 50 [5],
oD 7 (.un .not 6)])
(.cond 7
(sq (.reg [oD 2 (.mov (cI 0))])
.ret)
.skip))
(sq (sq (.reg [oM 8 0,
oE 9 8,
oD 10 (.mov (cI 0))])
(.block 0
(.loop
(sq (kr [2,8,9,10] [oB 11 .lss 10 9])
(sq (.cond 11
.skip
(.exit 0))
(sq (.block 1
(sq (.reg [oI 12 1 8 10,
oL 13 12,
oM 4 13])
(sq (.reg [oM 14 4,
oB 15 .gtr 14 (cI 0)])
(.cond 15
(kr [2,8,9,10] [oM 16 2,
oB 17 .add 16 (cI 1),
oM 2 17])
.skip))))
(kr [2,8,9,10] [oB 18 .add 10 (cI 1),
oM 10 18])))))))
(sq (kr [2] [oM 19 2,
oM 2 19])
.ret))))
def X1_:List RD:=[.tmp 2 true none]
theorem yf_:zs_ Tryd.prog Tryd.f42 yw_ X1_=true:=by kernel_rfl
def QA_:List AV->List Obj->Option (Prop × AV)
 | [.imm (.int .i64) w],[]=>some ((True,.int .i64 (qS_ w)))
 | _,_=>none
theorem KF_:zg_ Tryd.prog 42 (RoF QA_).sum:=by
 refine zm_ Tryd.func42 yf_ (zc_ (s:=RoF qM_) QE_ (ze_ _)) fun args objs p v e=>?_
 unfold QA_ at e
 split at e
 ·rename_i w
  cases e
  refine ⟨rfl,fun hw ho hp=>?_⟩
  change List Int at w
  repeat'(intro t ht;first|(cases t<;>first|(cases ht;done)|(try simp only[zh_]at ht))|((first|refine zb_ ht ?_|refine ht ?_ ?_|refine ht.1 ?_ ?_|refine ht ?_)<;>clear ht))
  all_goals first
   | exact True.intro
   | (refine ⟨?_,rfl⟩;unfold qS_;simp_all;done)
   | (intro r h1 h2;clear h1;refine h2 ⟨[2,8,9,10],Nat,(fun i=>i<=w.length),fun i=>[.int .i64 (QN_ qm_ w i),.imm (.int .i64) w,.int .i64 w.length,.int .i64 i],fun _=>[],fun i=>w.length - i,⟨0,Nat.zero_le _,rfl,rfl⟩,?_⟩;clear h2)
  intro i hi
  have hr:ZW_ w=true:=by assumption
  have hl:=(Qd_.1 hr).1
  have hs:=yY_ hr i
  repeat'(intro t ht;first|(cases t<;>first|(cases ht;done)|(try simp only[zh_]at ht))|((first|refine zb_ ht ?_|refine ht ?_ ?_|refine ht.1 ?_ ?_|refine ht ?_)<;>clear ht))
  all_goals first
   | ((try simp only [zH_,zI_,zv_] at*);omega)
   | (have hge:w.length<=i:=by omega
      refine ⟨?_,rfl⟩;unfold qS_;rw [if_pos hr,QM_ qm_ hge];done)
   | (have hlt:i < w.length:=by omega
      refine ⟨i+1,hlt,by (try simp only [zH_,zI_,zv_] at*);omega,?_,rfl⟩
      dsimp only
      rw [ZY_ qm_ hlt]
      first
       | (have e:qm_ (w.getD i 0)=1:=if_pos (by assumption)
          rw [e];rfl)
       | (have e:qm_ (w.getD i 0)=0:=if_neg (by assumption)
          rw [e,Int.add_zero];rfl))
 ·cases e
def hm_ (b:List Int):Int:=b.foldl (fun n c=>n*256+c) 0
def Vo_ (b:List Int):Bool:=b.all fun c=>decide (c=0)
theorem Vp_ (x:Int):IntKind.u8.wrap x=x % 256:=by simp [IntKind.wrap,IntKind.signed,IntKind.bits]
def U6_ (n w j:Int):Int:=(n.fdiv (2 ^ (min (8*(w - 1 - j)).toNat 64))) % 256
def QH_ (n w:Int) (i:Nat):List Int:=(List.range i).map fun j:Nat=>U6_ n w j
def qf_ (n w:Int):List Int:=QH_ n w w.toNat
theorem J4_ (n w:Int) (i:Nat):QH_ n w (i+1)=QH_ n w i++[U6_ n w i]:=by
 unfold QH_;rw [List.range_succ,List.map_append];rfl
theorem W1_ (n w:Int) (i:Nat):(QH_ n w i).length=i:=by unfold QH_;simp
theorem W2_ {n w:Int} (h:0<=w):((qf_ n w).length:Int)=w:=by unfold qf_;rw [W1_];omega
def vV_:IR:=
(sq (kr [0,1,2] [oD 6 (.mov (.c (.imm (.int .u8) [])))])
(sq (sq (.reg [oM 8 2,
oD 9 (.mov (cI 0))])
(.block 0
(.loop
(sq (kr [0,1,2,8,9] [oB 10 .lss 9 8])
(sq (.cond 10
.skip
(.exit 0))
(sq (.block 1
(sq (.reg [oM 11 9,
oM 7 11])
(kr [0,1,2,7,8,9] [oM 12 0,
oM 13 1,
oM 14 2,
oB 15 .sub 14 (cI 1),
oM 16 7,
oB 17 .sub 15 16,
oB 18 .mul (cI 8) 17,
oB 19 .shr 13 18,
oD 20 (.conv .u8 19),
oD 21 (.sliceAll (.int .u8) 1 [(0,1,20)]),
oD 22 (.append (.int .u8) 1 12 21),
oM 0 22])))
(kr [0,1,2,8,9] [oB 23 .add 9 (cI 1),
oM 9 23])))))))
(sq (kr [0] [oM 24 0,
oM 6 24])
.ret)))
def vz_:List RD:=[.tmp 6 false none]
theorem vH_:zs_ Tryd.prog Tryd.f52 vV_ vz_=true:=by kernel_rfl
def JI_:List AV->List Obj->Option (Prop × AV × List Obj)
 | [.own 0,.int .u64 n,.int .i64 w],[.row false (.int .u8) l]=>some ((1<=w/\w<=64/\l.length<=100000000,.own 1,[.dead,.row false (.int .u8) (l++qf_ n w)]))
 | _,_=>none
theorem y0_:zg_ Tryd.prog 52 (RwF JI_).sum:=by
 refine y5_ Tryd.func52 vH_ (ze_ _) fun args objs p v o e=>?_
 unfold JI_ at e
 split at e
 ·rename_i n w l
  cases e
  refine ⟨rfl,fun hw ho hp=>?_⟩
  change List Int at l
  repeat'(intro t ht;first|(cases t<;>first|(cases ht;done)|(try simp only[zh_]at ht))|((first|refine zb_ ht ?_|refine ht ?_ ?_|refine ht.1 ?_ ?_|refine ht ?_)<;>clear ht))
  all_goals first
   | (intro r h1 h2;clear h1;refine h2 ⟨[0,1,2,8,9],Nat,(fun i=>(i:Int)<=w),fun i=>[match i with | 0=>.own 0 | _+1=>.own 1,.int .u64 n,.int .i64 w,.int .i64 w,.int .i64 i],fun i=>match i with | 0=>[.row false (.int .u8) l] | i+1=>[.dead,.row false (.int .u8) (l++QH_ n w (i+1))],fun i=>w.toNat - i,⟨0,by omega,rfl,rfl⟩,?_⟩;clear h2)
  rintro (_ | i) hi
  all_goals repeat'(intro t ht;first|(cases t<;>first|(cases ht;done)|(try simp only[zh_]at ht))|((first|refine zb_ ht ?_|refine ht ?_ ?_)<;>clear ht)|(refine ht.1 (by simp only[zv_];omega) ?_;clear ht)|(refine ht.2 ?_;clear ht)|(refine ht ?_;clear ht))
  all_goals first
   | (exfalso;omega)
   | omega
   | (simp only [Qi_,List.length_append,List.length_cons,List.length_nil,W1_];omega)
   | (refine ⟨1,by omega,by dsimp only;omega,rfl,?_⟩
      show [Obj.dead,Obj.row false (.int .u8) (l++[IntKind.u8.wrap (n.fdiv (2 ^ min (8*(w - 1 - ((0:Nat):Int))).toNat 64))])]=[Obj.dead,Obj.row false (.int .u8) (l++QH_ n w (0+1))]
      rw [J4_,Vp_];rfl)
   | (have e:w.toNat=i+1:=by omega
      refine ⟨rfl,?_⟩;unfold qf_;rw [e])
   | (refine ⟨i+1+1,by omega,by dsimp only;omega,rfl,?_⟩
      show [Obj.dead,Obj.row false (.int .u8) ((l++QH_ n w (i+1))++[IntKind.u8.wrap (n.fdiv (2 ^ min (8*(w - 1 - ((i+1:Nat):Int))).toNat 64))])]=[Obj.dead,Obj.row false (.int .u8) (l++QH_ n w (i+1+1))]
      rw [J4_ n w (i+1),Vp_,List.append_assoc];rfl)
 ·cases e
def xB_:List Int->List Int->List Int->Option (List Int)
 | [],_,b=>some b
 | n :: r,xs,b=>if n < 0 then xB_ r xs (b++qf_ 0 (0 - n)) else match xs with
   | []=>none
   | x :: ys=>if n < 8/\x.fdiv (2 ^ (min (8*n).toNat 64)) ≠ 0 then none else xB_ r ys (b++qf_ x n)
def vE_ (w xs:List Int):Option (List Int):=if ZW_ w=true/\qS_ w=xs.length then xB_ w xs [] else none
def gD_ (w xs:List Int):List Int:=(vE_ w xs).getD []
def Ua_ (w xs:List Int):Bool:=(vE_ w xs).isSome
theorem x6_ {w:List Int} (i:Nat):∀ k,QN_ qm_ w i<=QN_ qm_ w (i+k)
 | 0=>Int.le_refl _
 | k+1=>by
   have ih:=x6_ (w:=w) i k
   by_cases h:i+k < w.length
   ·rw [show i+(k+1)=(i+k)+1 by omega,ZY_ qm_ h]
    have:0<=qm_ (w.getD (i+k) 0):=by unfold qm_;split<;>omega
    omega
   ·rw [QM_ qm_ (show w.length<=i+(k+1) by omega)]
    rwa [QM_ qm_ (show w.length<=i+k by omega)] at ih
theorem gs_ {w:List Int} {i:Nat} (h:i < w.length) (hp:0 < w.getD i 0):QN_ qm_ w i+1<=(w.map qm_).sum:=by
 have h1:=x6_ (w:=w) (i+1) w.length
 rw [ZY_ qm_ h,QM_ qm_ (show w.length<=i+1+w.length by omega)] at h1
 have:qm_ (w.getD i 0)=1:=if_pos hp
 omega
theorem Ub_ {w xs b:List Int} {i k:Nat} (h:i < w.length) (hn:w.getD i 0 < 0):xB_ (w.drop i) (xs.drop k) b=xB_ (w.drop (i+1)) (xs.drop k) (b++qf_ 0 (0 - w.getD i 0)):=by
 rw [zK_ h 0];exact if_pos hn
theorem uf_ {w xs b:List Int} {i k:Nat} (h:i < w.length) (hn:¬ w.getD i 0 < 0) (h2:k < xs.length) (h8:w.getD i 0 < 8) (hx:¬ (xs.getD k 0).fdiv (2 ^ (min (8*w.getD i 0).toNat 64))=0):xB_ (w.drop i) (xs.drop k) b=none:=by
 rw [zK_ h 0,zK_ h2 0]
 show (if w.getD i 0 < 0 then _ else _)=_
 rw [if_neg hn]
 exact if_pos ⟨h8,hx⟩
theorem ue_ {w xs b:List Int} {i k:Nat} (h:i < w.length) (hn:¬ w.getD i 0 < 0) (h2:k < xs.length) (h8:¬ (w.getD i 0 < 8/\(xs.getD k 0).fdiv (2 ^ (min (8*w.getD i 0).toNat 64)) ≠ 0)):xB_ (w.drop i) (xs.drop k) b=xB_ (w.drop (i+1)) (xs.drop (k+1)) (b++qf_ (xs.getD k 0) (w.getD i 0)):=by
 rw [zK_ h 0,zK_ h2 0]
 show (if w.getD i 0 < 0 then _ else _)=_
 rw [if_neg hn]
 exact if_neg h8
theorem Qf_ {α:Type} {l:List α} {k:Nat} {d:α}:(l.drop k).getD 0 d=l.getD k d:=by
 rw [List.getD_eq_getElem?_getD,List.getElem?_drop,Nat.add_zero,<- List.getD_eq_getElem?_getD]
def vW_:IR:=
(sq (kr [0,1] [oD 4 (.mov (.c (.imm (.int .u8) []))),
oD 5 (.mov cF)])
(sq (sq (kr [0,1] [oM 10 0,
oC 11 50 [10],
oD 12 (.un .not 11),
oM 13 12,
oF 13 14 (.mov 0),
oF 13 15 (.call false (.f 42) [14]),
oF 13 16 (.mov 1),
oF 13 17 (.len 16),
oF 13 18 (.bin .neq 15 17),
oP 19 13 cT 18])
(.cond 19
(sq (kr [] [oD 4 (.mov (.c (.imm (.int .u8) []))),
oD 5 (.mov cF)])
.ret)
.skip))
(sq (kr [0,1] [oM 20 0,
oC 21 51 [20],
oD 22 (.mkrow (.int .u8) 1 (0:Int) (cI 0) 21),
oM 6 22])
(sq (sq (.reg [oM 23 0,
oE 24 23,
oD 25 (.mov (cI 0))])
(.block 0
(.loop
(sq (kr [1,6,23,24,25] [oB 26 .lss 25 24])
(sq (.cond 26
.skip
(.exit 0))
(sq (.block 1
(sq (.reg [oI 27 1 23 25,
oL 28 27,
oM 8 28])
(sq (sq (.reg [oM 29 8,
oB 30 .lss 29 (cI 0)])
(.cond 30
(sq (kr [1,6,8,23,24,25] [oM 31 6,
oM 32 8,
oD 33 (.un .neg 32),
oD 34 (.call true (.f 52) [31,(.c (.int .u64 0)),33]),
oM 6 34])
(.exit 1))
.skip))
(sq (kr [1,6,8,23,24,25] [oM 35 1,
oD 36 (.indexSl 1 35 (cI 0)),
oL 37 36,
oM 9 37])
(sq (sq (kr [1,6,8,9,23,24,25] [oM 38 8,
oB 39 .lss 38 (cI 8),
oM 40 39,
oT 40 41 (.mov 9),
oT 40 42 (.mov 8),
oT 40 43 (.bin .mul (cI 8) 42),
oT 40 44 (.bin .shr 41 43),
oT 40 45 (.bin .neq 44 (.c (.int .u64 0))),
oP 46 40 45 cF])
(.cond 46
(sq (kr [] [oD 4 (.mov (.c (.imm (.int .u8) []))),
oD 5 (.mov cF)])
.ret)
.skip))
(kd [1,6,8,9,23,24,25] [(oM 47 6,[]),
(oM 48 9,[0]),
(oM 49 8,[0,0]),
(oD 50 (.call true (.f 52) [47,48,49]),[]),
(oM 51 1,[0,0,0,0]),
(oD 52 (.slice 1 51 (some (cI 1)) none none),[1,0,0,0]),
(oM 6 50,[0,0]),
(oM 1 52,[])]))))))
(kr [1,6,23,24,25] [oB 53 .add 25 (cI 1),
oM 25 53])))))))
(sq (kr [6] [oM 54 6,
oM 4 54,
oD 5 (.mov cT)])
.ret)))))
def vA_:List RD:=[.tmp 4 true (some (.int .u8)),.tmp 5 true none]
theorem vI_:zs_ Tryd.prog Tryd.f43 vW_ vA_=true:=by kernel_rfl
def JJ_:List AV->List Obj->Option (Prop × AV)
 | [.imm (.int .i64) w,.imm (.int .u64) xs],[]=>some ((True,.tup [.imm (.int .u8) (gD_ w xs),.bool (Ua_ w xs)]))
 | _,_=>none
theorem y1_:zg_ Tryd.prog 43 (RoF JJ_).sum:=by
 refine zm_ Tryd.func43 vI_ (zc_ (s:=RoF qM_) QE_ (zc_ (s:=RoF QA_) KF_ (zc_ (s:=RoF jc_) XO_ (zc_ (s:=RwF JI_) y0_ (ze_ _))))) fun args objs p v e=>?_
 unfold JJ_ at e
 split at e
 ·rename_i w xs
  cases e
  refine ⟨rfl,fun hw ho hp=>?_⟩
  change List Int at w
  change List Int at xs
  have hx:xs.length<=maxLen:=(hw (.imm (.int .u64) xs) (by simp)).2
  unfold maxLen at hx
  have hz:=u3_ w
  repeat'(intro t ht;first|(cases t<;>first|(cases ht;done)|(try simp only[zh_]at ht))|((first|refine zb_ ht ?_|refine ht ?_ ?_|refine ht.1 ?_ ?_|refine ht ?_)<;>clear ht))
  all_goals first
   | exact True.intro
   | (intro r h1 h2;clear h1;refine h2 ⟨[1,6,23,24,25],Nat × Nat × List Int,(fun a=>a.1<=w.length/\(a.2.2.length:Int)=QN_ qU_ w a.1/\QN_ qm_ w a.1=a.2.1/\xB_ w xs []=xB_ (w.drop a.1) (xs.drop a.2.1) a.2.2),fun a=>[.imm (.int .u64) (xs.drop a.2.1),.own 0,.imm (.int .i64) w,.int .i64 w.length,.int .i64 a.1],fun a=>[.row false (.int .u8) a.2.2],fun a=>w.length - a.1,⟨(0,0,[]),⟨Nat.zero_le _,rfl,rfl,rfl⟩,rfl,rfl⟩,?_⟩;clear h2)
   | ((try simp only [zH_,zI_,zv_] at*);omega)
   | (have hn:¬ (ZW_ w=true/\qS_ w=xs.length):=fun h=>by simp_all
      refine ⟨?_,rfl⟩;unfold gD_ Ua_ vE_;rw [if_neg hn];rfl)
  rintro ⟨i,k,b⟩ ⟨hi,hb,hk,he⟩
  dsimp only at hi hb hk he
  have hr:ZW_ w=true:=by assumption
  have hc:qS_ w=xs.length:=by assumption
  have hsum:(w.map qm_).sum=xs.length:=by unfold qS_ at hc;rwa [if_pos hr] at hc
  have hl:=(Qd_.1 hr).1
  have hs:=wQ_ hr i
  have h1:=yY_ hr i
  repeat'(intro t ht;first|(cases t<;>first|(cases ht;done)|(try simp only[zh_]at ht))|((first|refine zb_ ht ?_|refine ht ?_ ?_|refine ht.1 ?_ ?_|refine ht ?_)<;>clear ht))
  all_goals first
   | ((try simp only [zH_,zI_,zv_] at*);omega)
   | (have hge:w.length<=i:=by omega
      rw [List.drop_of_length_le hge] at he
      have hf:vE_ w xs=some b:=by unfold vE_;rw [if_pos ⟨hr,hc⟩,he];rfl
      refine ⟨?_,rfl⟩;unfold gD_ Ua_;rw [hf];rfl)
   | skip
  all_goals have hlt:i < w.length:=by omega
  all_goals have hkk:=(Qd_.1 hr).2 _ (zJ_ (α:=Int) hlt 0)
  all_goals first
   | ((try simp only [zH_,zI_,zv_] at*);rw [List.length_drop];omega)
   | ((try simp only [zH_,zI_,zv_] at*);omega)
   | (have hn:w.getD i 0 < 0:=by assumption
      have ha:=gg_ hn
      have h0:qm_ (w.getD i 0)=0:=if_neg (by omega)
      have hbl:=W2_ (n:=0) (w:=0 - w.getD i 0) (by omega)
      refine ⟨(i+1,k,b++qf_ 0 (0 - w.getD i 0)),⟨hlt,?_,?_,?_⟩,by dsimp only;omega,rfl,rfl⟩
      ·rw [ZY_ qU_ hlt,ha];simp only [List.length_append];omega
      ·rw [ZY_ qm_ hlt,h0];dsimp only;omega
      ·rw [he];exact Ub_ hlt hn)
   | (have hn:¬ w.getD i 0 < 0:=by assumption
      have hlt2:=gs_ (w:=w) (i:=i) hlt (by omega)
      have h2:k < xs.length:=by omega
      first
       | ((try simp only [zH_,zI_,zv_] at*);rw [List.length_drop];omega)
       | (have h8:w.getD i 0 < 8:=by assumption
          have hx:¬ ((xs.drop k).getD 0 0).fdiv (2 ^ (min (8*w.getD i 0).toNat 64))=0:=by assumption
          rw [Qf_] at hx
          have hf:vE_ w xs=none:=by unfold vE_;rw [if_pos ⟨hr,hc⟩,he];exact uf_ hlt hn h2 h8 hx
          refine ⟨?_,rfl⟩;unfold gD_ Ua_;rw [hf];rfl)
       | (have h8:¬ (w.getD i 0 < 8/\(xs.getD k 0).fdiv (2 ^ (min (8*w.getD i 0).toNat 64)) ≠ 0):=fun h=>by
           first
            | (exact absurd h.1 (by assumption))
            | (have hx:((xs.drop k).getD 0 0).fdiv (2 ^ (min (8*w.getD i 0).toNat 64))=0:=by assumption
               rw [Qf_] at hx
               exact h.2 hx)
          have ha:=Ga_ hn
          have h0:qm_ (w.getD i 0)=1:=if_pos (by omega)
          have hbl:=W2_ (n:=xs.getD k 0) (w:=w.getD i 0) (by omega)
          refine ⟨(i+1,k+1,b++qf_ (xs.getD k 0) (w.getD i 0)),⟨hlt,?_,?_,?_⟩,by dsimp only;omega,?_,?_⟩
          ·rw [ZY_ qU_ hlt,ha];simp only [List.length_append];omega
          ·rw [ZY_ qm_ hlt,h0];dsimp only;omega
          ·rw [he];exact ue_ hlt hn h2 h8
          ·dsimp only;rw [<- List.drop_drop];rfl
          ·dsimp only;rw [<- Qf_ (l:=xs) (k:=k)];rfl))
 ·cases e
theorem u0_ {α:Type} {a b:List α} {d:α} {i:Nat} (h:a.take i=b.take i) (hi:i < a.length) (hl:a.length=b.length) (e:a.getD i d=b.getD i d):a.take (i+1)=b.take (i+1):=by
 have hb:i < b.length:=by omega
 rw [List.getD_eq_getElem?_getD,List.getD_eq_getElem?_getD,List.getElem?_eq_getElem hi,List.getElem?_eq_getElem hb] at e
 rw [List.take_succ_eq_append_getElem hi,List.take_succ_eq_append_getElem hb,h,show a[i]=b[i] from e]
theorem Gl_ {α:Type} {a b:List α} {i:Nat} (h:a.take i=b.take i) (hi:a.length<=i) (hl:a.length=b.length):a=b:=by
 rwa [List.take_of_length_le hi,List.take_of_length_le (by omega)] at h
theorem hc_ {α:Type} {a b:List α} {d:α} {i:Nat} (e:¬ a.getD i d=b.getD i d):a ≠ b:=fun h=>e (by rw [h])
def yy_:IR:=
(sq (kr [0,1] [oD 4 (.mov cF)])
(sq (sq (kr [0,1] [oM 6 0,
oE 7 6,
oM 8 1,
oE 9 8,
oB 10 .neq 7 9])
(.cond 10
(sq (.reg [oD 4 (.mov cF)])
.ret)
.skip))
(sq (sq (kr [0,1] [oD 5 (.mov (cI 0))])
(.block 0
(.loop
(sq (sq (kr [0,1,5] [oM 11 5,
oM 12 0,
oE 13 12,
oB 14 .lss 11 13])
(.cond 14
.skip
(.exit 0)))
(sq (.block 1
(sq (kd [0,1,5] [(oM 17 0,[]),
(oM 18 5,[0]),
(oI 19 1 17 18,[]),
(oL 20 19,[]),
(oM 21 1,[0,0,0,0]),
(oM 22 5,[0,0,0,0,0]),
(oI 23 1 21 22,[2,0,0,0]),
(oL 24 23,[3,0,0,0]),
(oB 25 .neq 20 24,[])])
(.cond 25
(sq (kr [] [oD 4 (.mov cF)])
.ret)
.skip)))
(kr [0,1,5] [oM 15 5,
oB 16 .add 15 (cI 1),
oM 5 16]))))))
(sq (kr [] [oD 4 (.mov cT)])
.ret))))
def X3_:List RD:=[.tmp 4 true none]
theorem yh_:zs_ Tryd.prog Tryd.f36 yy_ X3_=true:=by kernel_rfl
def QB_:List AV->List Obj->Option (Prop × AV)
 | [.imm (.int .u8) a,.imm (.int .u8) b],[]=>some ((True,.bool (decide (a=b))))
 | _,_=>none
theorem KG_:zg_ Tryd.prog 36 (RoF QB_).sum:=by
 refine zm_ Tryd.func36 yh_ (ze_ _) fun args objs p v e=>?_
 unfold QB_ at e
 split at e
 ·rename_i a b
  cases e
  refine ⟨rfl,fun hw ho hp=>?_⟩
  change List Int at a
  change List Int at b
  have hl:a.length<=maxLen:=(hw (.imm (.int .u8) a) (by simp)).2
  unfold maxLen at hl
  repeat'(intro t ht;first|(cases t<;>first|(cases ht;done)|(try simp only[zh_]at ht))|((first|refine zb_ ht ?_|refine ht ?_ ?_|refine ht.1 ?_ ?_|refine ht ?_)<;>clear ht))
  all_goals first
   | (have hne:a ≠ b:=fun h=>(by assumption:¬ (a.length:Int)=b.length) (by rw [h])
      refine ⟨?_,rfl⟩;rw [decide_eq_false hne];done)
   | (intro r h1 h2;clear h1;refine h2 ⟨[0,1,5],Nat,(fun i=>i<=a.length/\a.take i=b.take i),fun i=>[.imm (.int .u8) a,.imm (.int .u8) b,.int .i64 i],fun _=>[],fun i=>a.length - i,⟨0,⟨Nat.zero_le _,rfl⟩,rfl,rfl⟩,?_⟩;clear h2)
  rintro i ⟨hi,he⟩
  have hl2:a.length=b.length:=by omega
  repeat'(intro t ht;first|(cases t<;>first|(cases ht;done)|(try simp only[zh_]at ht))|((first|refine zb_ ht ?_|refine ht ?_ ?_|refine ht.1 ?_ ?_|refine ht ?_)<;>clear ht))
  all_goals first
   | ((try simp only [zH_,zI_,zv_] at*);omega)
   | (have hge:a.length<=i:=by omega
      have e:=Gl_ he hge hl2
      refine ⟨?_,rfl⟩;rw [decide_eq_true e];done)
   | (have hne:a ≠ b:=hc_ (d:=0) (i:=i) (by assumption)
      refine ⟨?_,rfl⟩;rw [decide_eq_false hne];done)
   | (have hlt:i < a.length:=by omega
      exact ⟨i+1,⟨hlt,u0_ he hlt hl2 (d:=0) (by assumption)⟩,by (try simp only [zH_,zI_,zv_] at*);omega,rfl,rfl⟩)
 ·cases e
def Q8_ (b:List Int) (c:Int):Nat->Nat
 | 0=>0
 | k+1=>if b.getD k 0=c then Q8_ b c k else k+1
def JR_ (b:List Int) (c:Int):List Int:=b.take (Q8_ b c b.length)
def kN_ (b:List Int) (c:Int):List Int:=b.dropWhile fun x=>decide (x=c)
theorem x5_ {b:List Int} {k j:Nat} (h:j < k):(b.take k).getD j 0=b.getD j 0:=by
 rw [List.getD_eq_getElem?_getD,List.getElem?_take,if_pos h,<- List.getD_eq_getElem?_getD]
def kl_:IR:=
(sq (kr [0,1] [oD 4 (.mov (.c (.imm (.int .u8) [])))])
(sq (.block 0
(.loop
(sq (sq (kr [0,1] [oM 5 0,
oE 6 5,
oB 7 .gtr 6 (cI 0),
oM 8 7,
oT 8 9 (.mov 0),
oT 8 10 (.mov 0),
oT 8 11 (.len 10),
oT 8 12 (.bin .sub 11 (cI 1)),
oT 8 13 (.indexSl 1 9 12),
oT 8 14 (.load none 13),
oT 8 15 (.mov 1),
oT 8 16 (.bin .eql 14 15),
oP 17 8 16 cF])
(.cond 17
.skip
(.exit 0)))
(.block 1
(kr [0,1] [oM 18 0,
oM 19 0,
oE 20 19,
oB 21 .sub 20 (cI 1),
oD 22 (.slice 1 18 none (some 21) none),
oM 0 22])))))
(sq (kr [0] [oM 23 0,
oM 4 23])
.ret)))
def ke_:List RD:=[.tmp 4 true (some (.int .u8))]
theorem kf_:zs_ Tryd.prog Tryd.f71 kl_ ke_=true:=by kernel_rfl
def Zg_:List AV->List Obj->Option (Prop × AV)
 | [.imm (.int .u8) b,.int .u8 c],[]=>some ((b.length<=140737488355328,.imm (.int .u8) (JR_ b c)))
 | _,_=>none
theorem QO_:zg_ Tryd.prog 71 (RoF Zg_).sum:=by
 refine zm_ Tryd.func71 kf_ (ze_ _) fun args objs p v e=>?_
 unfold Zg_ at e
 split at e
 ·rename_i b c
  cases e
  refine ⟨rfl,fun hw ho hp=>?_⟩
  change List Int at b
  repeat'(intro t ht;first|(cases t<;>first|(cases ht;done)|(try simp only[zh_]at ht))|((first|refine zb_ ht ?_|refine ht ?_ ?_|refine ht.1 ?_ ?_|refine ht ?_)<;>clear ht))
  all_goals first
   | (intro r h1 h2;clear h1;refine h2 ⟨[0,1],Nat,(fun k=>k<=b.length/\Q8_ b c b.length=Q8_ b c k),fun k=>[.imm (.int .u8) (b.take k),.int .u8 c],fun _=>[],fun k=>k,⟨b.length,⟨Nat.le_refl _,rfl⟩,by simp only [List.take_length],rfl⟩,?_⟩;clear h2)
  rintro k ⟨hk,he⟩
  have hl:(b.take k).length=k:=by rw [List.length_take];omega
  repeat'(intro t ht;first|(cases t<;>first|(cases ht;done)|(try simp only[zh_]at ht))|((first|refine zb_ ht ?_|refine ht ?_ ?_|refine ht.1 ?_ ?_|refine ht ?_)<;>clear ht))
  all_goals first
   | ((try simp only [zH_,zI_,zv_] at*);omega)
   | (have h0:k=0:=by omega
      refine ⟨?_,rfl⟩;unfold JR_;rw [he,h0];rfl)
   | (obtain ⟨j,rfl⟩:∃ j,k=j+1:=⟨k - 1,by omega⟩
      have e:(((b.take (j+1)).length:Int) - 1).toNat=j:=by omega
      first
       | (have hx:¬ (b.take (j+1)).getD (((b.take (j+1)).length:Int) - 1).toNat 0=c:=by assumption
          rw [e,x5_ (Nat.lt_succ_self j)] at hx
          have h1:Q8_ b c (j+1)=j+1:=if_neg hx
          refine ⟨?_,rfl⟩;unfold JR_;rw [he,h1])
       | (have hx:(b.take (j+1)).getD (((b.take (j+1)).length:Int) - 1).toNat 0=c:=by assumption
          rw [e,x5_ (Nat.lt_succ_self j)] at hx
          have h1:Q8_ b c (j+1)=Q8_ b c j:=if_pos hx
          refine ⟨j,⟨by omega,by rw [he,h1]⟩,Nat.lt_succ_self j,?_,rfl⟩
          dsimp only;rw [e,List.take_take,Nat.min_eq_left (Nat.le_succ j)]))
 ·cases e
def kJ_:IR:=
(sq (kr [0,1] [oD 4 (.mov (.c (.imm (.int .u8) [])))])
(sq (.block 0
(.loop
(sq (sq (kr [0,1] [oM 5 0,
oE 6 5,
oB 7 .gtr 6 (cI 0),
oM 8 7,
oT 8 9 (.mov 0),
oT 8 10 (.indexSl 1 9 (cI 0)),
oT 8 11 (.load none 10),
oT 8 12 (.mov 1),
oT 8 13 (.bin .eql 11 12),
oP 14 8 13 cF])
(.cond 14
.skip
(.exit 0)))
(.block 1
(kr [0,1] [oM 15 0,
oD 16 (.slice 1 15 (some (cI 1)) none none),
oM 0 16])))))
(sq (sq (kr [0] [oM 17 0,
oE 18 17,
oB 19 .eql 18 (cI 0)])
(.cond 19
(sq (.reg [oD 4 (.mov (.c (.imm (.int .u8) [])))])
.ret)
.skip))
(sq (.reg [oM 20 0,
oM 4 20])
.ret))))
def kD_:List RD:=[.tmp 4 true (some (.int .u8))]
theorem kH_:zs_ Tryd.prog Tryd.f70 kJ_ kD_=true:=by kernel_rfl
def Zt_:List AV->List Obj->Option (Prop × AV)
 | [.imm (.int .u8) b,.int .u8 c],[]=>some ((b.length<=140737488355328,.imm (.int .u8) (kN_ b c)))
 | _,_=>none
theorem kb_:zg_ Tryd.prog 70 (RoF Zt_).sum:=by
 refine zm_ Tryd.func70 kH_ (ze_ _) fun args objs p v e=>?_
 unfold Zt_ at e
 split at e
 ·rename_i b c
  cases e
  refine ⟨rfl,fun hw ho hp=>?_⟩
  change List Int at b
  repeat'(intro t ht;first|(cases t<;>first|(cases ht;done)|(try simp only[zh_]at ht))|((first|refine zb_ ht ?_|refine ht ?_ ?_|refine ht.1 ?_ ?_|refine ht ?_)<;>clear ht))
  all_goals first
   | (intro r h1 h2;clear h1;refine h2 ⟨[0,1],Nat,(fun k=>k<=b.length/\kN_ b c=kN_ (b.drop k) c),fun k=>[.imm (.int .u8) (b.drop k),.int .u8 c],fun _=>[],fun k=>b.length - k,⟨0,⟨Nat.zero_le _,rfl⟩,rfl,rfl⟩,?_⟩;clear h2)
  rintro k ⟨hk,he⟩
  have hl:(b.drop k).length=b.length - k:=List.length_drop
  repeat'(intro t ht;first|(cases t<;>first|(cases ht;done)|(try simp only[zh_]at ht))|((first|refine zb_ ht ?_|refine ht ?_ ?_|refine ht.1 ?_ ?_|refine ht ?_)<;>clear ht))
  all_goals first
   | ((try simp only [zH_,zI_,zv_] at*);omega)
   | (exfalso;omega)
   | (have h0:b.drop k=[]:=List.eq_nil_of_length_eq_zero (by omega)
      refine ⟨?_,rfl⟩;rw [he,h0];rfl)
   | (have hlt:k < b.length:=by omega
      first
       | (have hx:¬ (b.drop k).getD 0 0=c:=by assumption
          rw [Qf_] at hx
          have h1:kN_ (b.drop k) c=b.drop k:=by
           unfold kN_;rw [zK_ hlt 0,List.dropWhile_cons_of_neg (by simpa using hx)]
          refine ⟨?_,rfl⟩;rw [he,h1])
       | (have hx:(b.drop k).getD 0 0=c:=by assumption
          rw [Qf_] at hx
          have h1:kN_ (b.drop k) c=kN_ (b.drop (k+1)) c:=by
           unfold kN_;rw [zK_ hlt 0,List.dropWhile_cons_of_pos (by simpa using hx)]
          refine ⟨k+1,⟨hlt,by rw [he,h1]⟩,by dsimp only;omega,?_,rfl⟩
          dsimp only;rw [<- List.drop_drop];rfl))
 ·cases e
theorem V5_:∀ (b:List Int),decide ((kN_ (JR_ b 0) 0).length=0)=Vo_ b:=by
 intro b
 have hR:∀ k ≤ b.length,(b.take (Q8_ b 0 k)).all (fun c=>decide (c=0))=(b.take k).all fun c=>decide (c=0):=by
  intro k
  induction k with
  | zero=>intro _;rfl
  | succ k ih=>
    intro hk
    unfold Q8_
    split
    ·rename_i h
     rw [ih (by omega),List.take_succ_eq_append_getElem (by omega),List.all_append]
     have:b[k]=0:=by rw [List.getD_eq_getElem?_getD,List.getElem?_eq_getElem (by omega)] at h;exact h
     simp [this]
    ·rfl
 have hL:∀ l:List Int,decide ((l.dropWhile fun x=>decide (x=0)).length=0)=l.all fun c=>decide (c=0):=by
  intro l
  induction l with
  | nil=>rfl
  | cons a l ih=>
    by_cases h:a=0
    ·rw [List.dropWhile_cons_of_pos (by simpa using h),ih];simp [h]
    ·rw [List.dropWhile_cons_of_neg (by simpa using h)];simp [h]
 unfold kN_ JR_ Vo_
 rw [hL,hR _ (Nat.le_refl _),List.take_length]
def xT_:IR:=
(sq (kr [0,1] [oD 4 (.mov (.c (.imm (.int .u8) [])))])
(sq (sq (.reg [oM 7 0,
oE 8 7,
oB 9 .eql 8 (cI 0)])
(.cond 9
(sq (.reg [oD 4 (.mov (.c (.imm (.int .u8) [])))])
.ret)
.skip))
(sq (sq (.reg [oM 10 1,
oB 11 .eql 10 (.c (.str []))])
(.cond 11
(sq (kr [0] [oM 12 0,
oM 4 12])
.ret)
.skip))
(sq (sq (kr [0,1] [oM 13 1,
oD 14 (.slen 13),
oB 15 .eql 14 (cI 1),
oM 16 15,
oT 16 17 (.mov 1),
oT 16 18 (.sindex 17 (cI 0)),
oT 16 19 (.bin .lss 18 (.c (.int .u8 128))),
oP 20 16 19 cF])
(.cond 20
(sq (kd [0,1] [(oM 21 0,[]),
(oM 22 1,[0]),
(oD 23 (.sindex 22 (cI 0)),[1]),
(oC 24 71 [21,23],[]),
(oM 25 1,[0,0,0,0]),
(oD 26 (.sindex 25 (cI 0)),[1,0,0,0]),
(oC 27 70 [24,26],[]),
(oM 4 27,[])])
.ret)
.skip))
(sq (sq (kr [0,1] [oM 29 1,
oC 30 72 [29],
oM 28 30,
oX 31 28 0,
oX 32 28 1,
oD 5 (.box [.kb false,.kb false,.kb false,.kb false,.kb false,.kb false,.kb false,.kb false,.kb false,.kb false,.kb false,.kb false,.kb false,.kb false,.kb false,.kb false,.kb false,.kb false,.kb false,.kb false,.kb false,.kb false,.kb false,.kb false,.kb false,.kb false,.kb false,.kb false,.kb false,.kb false,.kb false,.kb false,.kb false,.kb false,.kb false,.kb false,.kb false,.kb false,.kb false,.kb false,.kb false,.kb false,.kb false,.kb false,.kb false,.kb false,.kb false,.kb false,.kb false,.kb false,.kb false,.kb false,.kb false,.kb false,.kb false,.kb false,.kb false,.kb false,.kb false,.kb false,.kb false,.kb false,.kb false,.kb false,.kb false,.kb false,.kb false,.kb false,.kb false,.kb false,.kb false,.kb false,.kb false,.kb false,.kb false,.kb false,.kb false,.kb false,.kb false,.kb false,.kb false,.kb false,.kb false,.kb false,.kb false,.kb false,.kb false,.kb false,.kb false,.kb false,.kb false,.kb false,.kb false,.kb false,.kb false,.kb false,.kb false,.kb false,.kb false,.kb false,.kb false,.kb false,.kb false,.kb false,.kb false,.kb false,.kb false,.kb false,.kb false,.kb false,.kb false,.kb false,.kb false,.kb false,.kb false,.kb false,.kb false,.kb false,.kb false,.kb false,.kb false,.kb false,.kb false,.kb false,.kb false,.kb false,.kb false,.kb false,.kb false,.kb false,.kb false,.kb false,.kb false,.kb false,.kb false,.kb false,.kb false,.kb false,.kb false,.kb false,.kb false,.kb false,.kb false,.kb false,.kb false,.kb false,.kb false,.kb false,.kb false,.kb false,.kb false,.kb false,.kb false,.kb false,.kb false,.kb false,.kb false,.kb false,.kb false,.kb false,.kb false,.kb false,.kb false,.kb false,.kb false,.kb false,.kb false,.kb false,.kb false,.kb false,.kb false,.kb false,.kb false,.kb false,.kb false,.kb false,.kb false,.kb false,.kb false,.kb false,.kb false,.kb false,.kb false,.kb false,.kb false,.kb false,.kb false,.kb false,.kb false,.kb false,.kb false,.kb false,.kb false,.kb false,.kb false,.kb false,.kb false,.kb false,.kb false,.kb false,.kb false,.kb false,.kb false,.kb false,.kb false,.kb false,.kb false,.kb false,.kb false,.kb false,.kb false,.kb false,.kb false,.kb false,.kb false,.kb false,.kb false,.kb false,.kb false,.kb false,.kb false,.kb false,.kb false,.kb false,.kb false,.kb false,.kb false,.kb false,.kb false,.kb false,.kb false,.kb false,.kb false,.kb false,.kb false,.kb false,.kb false,.kb false,.kb false,.kb false,.kb false,.kb false,.kb false,.kb false,.kb false,.kb false,.kb false,.kb false,.kb false,.kb false,.kb false,.kb false,.kb false,.kb false,.kb false,.kb false]),
oS 256 5 31,
oM 6 32])
(sq (kr [0,1,5,6] [oM 33 6])
(.cond 33
(sq (.reg [oM 34 0,
oC 35 74 [34,5],
oC 36 73 [35,5],
oM 4 36])
.ret)
.skip)))
(sq (kr [0,1] [oM 37 0,
oM 38 1,
oC 39 76 [37,38],
oM 40 1,
oC 41 75 [39,40],
oM 4 41])
.ret))))))
def xy_:List RD:=[.tmp 4 true (some (.int .u8))]
theorem xJ_:zs_ Tryd.prog Tryd.f68 xT_ xy_=true:=by kernel_rfl
def kx_:List AV->List Obj->Option (Prop × AV)
 | [.imm (.int .u8) b,.str [0]],[]=>some ((b.length<=140737488355328,.imm (.int .u8) (kN_ (JR_ b 0) 0)))
 | _,_=>none
theorem wZ_:zg_ Tryd.prog 68 (RoF kx_).sum:=by
 refine zm_ Tryd.func68 xJ_ (zc_ (s:=RoF Zg_) QO_ (zc_ (s:=RoF Zt_) kb_ (ze_ _))) fun args objs p v e=>?_
 unfold kx_ at e
 split at e
 ·rename_i b
  cases e
  refine ⟨rfl,fun hw ho hp=>?_⟩
  change List Int at b
  have hl:(JR_ b 0).length<=b.length:=by unfold JR_;rw [List.length_take];omega
  repeat'(intro t ht;first|(cases t<;>first|(cases ht;done)|(try simp only[zh_]at ht))|((first|refine zb_ ht ?_|refine ht ?_ ?_|refine ht.1 ?_ ?_|refine ht ?_)<;>clear ht))
  all_goals first
   | exact hp
   | exact ⟨by decide,by decide⟩
   | exact Nat.le_trans hl hp
   | exact ⟨rfl,rfl⟩
   | (have hb:b=[]:=List.eq_nil_of_length_eq_zero (by omega)
      refine ⟨?_,rfl⟩;rw [hb];rfl)
 ·cases e
end Go.Eng
