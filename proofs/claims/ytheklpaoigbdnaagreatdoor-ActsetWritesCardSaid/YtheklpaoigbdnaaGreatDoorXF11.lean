/- Parts of the proof: EArg, TY, R1, R4, T1, C1, B1. No condition. -/
import Derived.Test.YtheklpaoigbdnaaGreatDoorXF10
import Derived.WalkKit
import Derived.ProofKit
import Derived.OpenShut
import Derived.ShutString
import Derived.ChangeOld
import Derived.Carry
import Derived.Test.YtheklpaoigbdnaaGreatDoorProg
import Derived.KernelRfl
namespace Go.Eng
set_option linter.unusedVariables false
set_option linter.unusedSimpArgs false
def Zj_ {β:Type _} (t' t:Ty) (x:List t'.den) (F:List t.den->Option β):Option β:=match decEq t' t with | isTrue h=>F (h ▸ x) | isFalse _=>none
theorem zz_ {β:Type _} {t' t:Ty} {x:List t'.den} {F:List t.den->Option β} {y:β} (h:Zj_ t' t x F=some y):t'=t:=by
 unfold Zj_ at h
 split at h
 ·assumption
 ·cases h
theorem U7_ {β:Type _} {t:Ty} {x:List t.den} {F:List t.den->Option β}:Zj_ t t x F=F x:=by
 unfold Zj_
 split
 ·rfl
 ·rename_i h _;exact absurd rfl h
theorem zA_ {β:Type _} {t:Ty} {x:List t.den} {F:List t.den->Option β} {y:β} (h:Zj_ t t x F=some y):F x=some y:=by rw [U7_] at h;exact h
def Ty.exact:(t:Ty)->List AV->Option (t.den × List AV)
 | .int k,.int k' n :: r=>match decEq k k' with | isTrue _=>some (n,r) | isFalse _=>none
 | .bool,.bool b :: r=>some (b,r)
 | .str,.str s :: r=>some (s,r)
 | .nil,r=>some ((),r)
 | .cons a b,l=>match a.exact l with
   | some (x,r)=>match b.exact r with
     | some (y,r)=>some ((x,y),r)
     | none=>none
   | none=>none
 | .sl t,.imm t' x :: r=>match decEq t' t with | isTrue h=>some (h ▸ x,r) | isFalse _=>none
 | _,_=>none
def RoF (f:List AV->List Obj->Option (Prop × AV)):SumK:=.ro fun args objs K=>match f args objs with
 | some (p,v)=>need p (K v)
 | none=>False
def RwF (f:List AV->List Obj->Option (Prop × AV × List Obj)):SumK:=.rw fun args objs K=>match f args objs with
 | some (p,v,o)=>need p (K v o)
 | none=>False
theorem zn_:(∀ a b:Bool,((!a)=b)=(a=!b))/\((!true)=false)/\((!false)=true)/\(∀ a b:Bool,((a && b)=true)=(a=true/\b=true))/\(∀ a b:Bool,((a && b)=false)=(a=false\/b=false))/\(∀ (p:Prop) [Decidable p],(decide p=true)=p)/\∀ (p:Prop) [Decidable p],(decide p=false)=¬ p:=
 ⟨fun _ _=>propext Bool.not_eq_eq_eq_not,rfl,rfl,fun _ _=>Bool.and_eq_true _ _,fun _ _=>propext Bool.and_eq_false_iff,fun _ _=>decide_eq_true_eq,fun _ _=>propext decide_eq_false_iff_not⟩
theorem zm_:(∀ n:Nat,((n:Int)).toNat=n)/\∀ k:IntKind,(Ty.int k).dflt=(0:Int):=⟨Int.toNat_natCast,fun _=>rfl⟩
theorem zh_:((∀ a b:Bool,((!a)=b)=(a=!b))/\((!true)=false)/\((!false)=true)/\(∀ a b:Bool,((a && b)=true)=(a=true/\b=true))/\(∀ a b:Bool,((a && b)=false)=(a=false\/b=false))/\(∀ (p:Prop) [Decidable p],(decide p=true)=p)/\∀ (p:Prop) [Decidable p],(decide p=false)=¬ p)/\(∀ n:Nat,((n:Int)).toNat=n)/\∀ k:IntKind,(Ty.int k).dflt=(0:Int):=⟨zn_,zm_⟩
theorem zk_:IntKind.i64.min=-9223372036854775808/\IntKind.i64.max=9223372036854775807/\IntKind.u64.min=0/\IntKind.u64.max=18446744073709551615/\IntKind.u32.min=0/\IntKind.u32.max=4294967295/\IntKind.u16.min=0/\IntKind.u16.max=65535/\IntKind.u8.min=0/\IntKind.u8.max=255:=⟨rfl,rfl,rfl,rfl,rfl,rfl,rfl,rfl,rfl,rfl⟩
theorem Zi_ {t:Ty} (h:t=t) (x:List t.den):(h ▸ x:List t.den)=x:=rfl
theorem Ja_ {a b:Int} (h:0<=a):a.tmod b=a % b:=Int.tmod_eq_emod_of_nonneg h
theorem kw_ {a b:Int} (h:0<=a):a.tdiv b=a / b:=Int.tdiv_eq_ediv_of_nonneg h
section
variable {P:Program} {Γ:Env} {id:FuncId} {fn:Func} {ir:IR} {rd:List RD}
theorem by_ (f:List AV->List Obj->Option (Prop × AV)):Det (RoF f).sum:=fun {args objs K} h=>by
 simp only [RoF,SumK.sum] at h ⊢
 split at h
 ·rename_i p v e
  obtain ⟨hp,hk⟩:=zg_ h
  exact ⟨v,objs,hk,WG_ hp fun _=>⟨rfl,rfl⟩⟩
 ·exact h.elim
theorem bw_ (f:List AV->List Obj->Option (Prop × AV × List Obj)):Det (RwF f).sum:=fun {args objs K} h=>by
 simp only [RwF,SumK.sum] at h ⊢
 split at h
 ·rename_i p v o e
  obtain ⟨hp,hk⟩:=zg_ h
  exact ⟨v,o,hk,WG_ hp fun _=>⟨rfl,rfl⟩⟩
 ·exact h.elim
structure NdR where
 p:Prop
 α:Type
 R:α->Prop
 V:α->AV
 O:α->List Obj
def NdF (f:List AV->List Obj->Option NdR):SumK:=.nd fun args objs K=>match f args objs with
 | some r=>need r.p (∀ x:r.α,r.R x->K (r.V x) (r.O x))
 | none=>False
theorem Ba_ {f:List AV->List Obj->Option NdR} (hf:P.funcs[id]?=some fn) (hok:zl_ P fn ir rd=true) (hΓ:Z6_ P Γ)
 (h:∀ args objs r,f args objs=some r->args.length=fn.params.size+fn.nfree/\((∀ v ∈ args,v.wf1)->(∀ o ∈ objs,o.wf)->r.p->Gu_ Γ ir rd args objs fun v' o'=>∃ x,r.R x/\v'=r.V x/\o'=r.O x)):uX_ P id (NdF f):=by
 have hc:kt_ P id:=by
  unfold zl_ at hok
  split at hok
  ·rename_i c hb
   simp only [Bool.and_eq_true,decide_eq_true_eq,Bool.not_eq_true'] at hok
   exact ⟨fn,hf,hok.2,by rw [hb];rfl⟩
  ·cases hok
 refine ⟨hc,fun {I w m args cargs objs K} hH hA hu hS=>?_⟩
 simp only [] at hS
 split at hS
 ·rename_i r e
  obtain ⟨hp,hk⟩:=zg_ hS
  obtain ⟨hl,hev⟩:=h args objs r e
  have:=hD_ (S:=fun a b K=>a=args/\b=objs/\((fun v' o'=>∃ x,r.R x/\v'=r.V x/\o'=r.O x)=K)) hf hok hΓ (fun a b K hk=>by rw [hk.1];exact hl) (fun a b K hw ho hk=>by
   obtain ⟨rfl,rfl,rfl⟩:=hk
   exact hev hw ho hp)
  refine (this.2 hH hA hu ⟨rfl,rfl,rfl⟩).mono ?_
  rintro e w' ⟨v',cv,objs',I',m',h1,⟨x,hx,rfl,rfl⟩,h3⟩
  exact ⟨_,cv,_,I',m',h1,hk x hx,h3⟩
 ·exact hS.elim
theorem yB_ (hf:P.funcs[id]?=some fn) (hok:zl_ P fn ir rd=true) (hΓ:Z6_ P Γ) {args:List AV} {objs:List Obj} {v:AV} {o:List Obj} (hl:args.length=fn.params.size+fn.nfree)
 (h:(∀ v ∈ args,v.wf1)->(∀ o ∈ objs,o.wf)->Gu_ Γ ir rd args objs fun v' o'=>v'=v/\o'=o):zf_ P id fun a b K=>a=args/\b=objs/\((fun v' o'=>v'=v/\o'=o)=K):=by
 refine hC_ hf hok hΓ (fun {a b K} hk=>?_) (fun a b K hk=>by rw [hk.1];exact hl) (fun a b K hw ho hk=>?_)
 ·obtain ⟨rfl,rfl,rfl⟩:=hk
  exact ⟨v,o,⟨rfl,rfl⟩,rfl,rfl,rfl⟩
 ·obtain ⟨rfl,rfl,rfl⟩:=hk
  exact h hw ho
theorem zi_ {f:List AV->List Obj->Option (Prop × AV)} (hf:P.funcs[id]?=some fn) (hok:zl_ P fn ir rd=true) (hΓ:Z6_ P Γ)
 (h:∀ args objs p v,f args objs=some (p,v)->args.length=fn.params.size+fn.nfree/\((∀ v ∈ args,v.wf1)->(∀ o ∈ objs,o.wf)->p->Gu_ Γ ir rd args objs fun v' o'=>v'=v/\o'=objs)):zf_ P id (RoF f).sum:=by
 have hc:kt_ P id:=by
  unfold zl_ at hok
  split at hok
  ·rename_i c hb
   simp only [Bool.and_eq_true,decide_eq_true_eq,Bool.not_eq_true'] at hok
   exact ⟨fn,hf,hok.2,by rw [hb];rfl⟩
  ·cases hok
 refine ⟨hc,by_ f,fun {I w m args cargs objs K} hH hA hu hS=>?_⟩
 simp only [RoF,SumK.sum] at hS
 split at hS
 ·rename_i p v e
  obtain ⟨hp,hk⟩:=zg_ hS
  obtain ⟨hl,hev⟩:=h args objs p v e
  have:=yB_ hf hok hΓ (v:=v) (o:=objs) hl fun hw ho=>hev hw ho hp
  refine (this.2.2 hH hA hu ⟨rfl,rfl,rfl⟩).mono ?_
  rintro e w' ⟨v',cv,objs',I',m',h1,⟨rfl,rfl⟩,h3⟩
  exact ⟨v',cv,objs',I',m',h1,hk,h3⟩
 ·exact hS.elim
theorem wP_ {f:List AV->List Obj->Option (Prop × AV × List Obj)} (hf:P.funcs[id]?=some fn) (hok:zl_ P fn ir rd=true) (hΓ:Z6_ P Γ)
 (h:∀ args objs p v o,f args objs=some (p,v,o)->args.length=fn.params.size+fn.nfree/\((∀ v ∈ args,v.wf1)->(∀ o ∈ objs,o.wf)->p->Gu_ Γ ir rd args objs fun v' o'=>v'=v/\o'=o)):zf_ P id (RwF f).sum:=by
 have hc:kt_ P id:=by
  unfold zl_ at hok
  split at hok
  ·rename_i c hb
   simp only [Bool.and_eq_true,decide_eq_true_eq,Bool.not_eq_true'] at hok
   exact ⟨fn,hf,hok.2,by rw [hb];rfl⟩
  ·cases hok
 refine ⟨hc,bw_ f,fun {I w m args cargs objs K} hH hA hu hS=>?_⟩
 simp only [RwF,SumK.sum] at hS
 split at hS
 ·rename_i p v o e
  obtain ⟨hp,hk⟩:=zg_ hS
  obtain ⟨hl,hev⟩:=h args objs p v o e
  have:=yB_ hf hok hΓ (v:=v) (o:=o) hl fun hw ho=>hev hw ho hp
  refine (this.2.2 hH hA hu ⟨rfl,rfl,rfl⟩).mono ?_
  rintro e w' ⟨v',cv,objs',I',m',h1,⟨rfl,rfl⟩,h3⟩
  exact ⟨v',cv,objs',I',m',h1,hk,h3⟩
 ·exact hS.elim
inductive Res where
 | one (v:AV) (o:List Obj)
 | br (b:Bool) (x y:Res)
def Res.pick:Res->AV × List Obj
 | .one v o=>(v,o)
 | .br b x y=>if b=true then x.pick else y.pick
def Res.run:Res->(AV->List Obj->Prop)->Prop
 | .one v o,K=>K v o
 | .br b x y,K=>cnd b (x.run K) (y.run K)
end
end Go.Eng
namespace Go.Eng
set_option linter.unusedVariables false
set_option linter.unusedSimpArgs false
open Go.RowKit
def jt_ (w:World):Nat->Prop:=fun b=>b < w.heap.size
def noM:M:=⟨fun _=>none,fun _=>0,fun _=>0,fun _=>0,fun _=>False⟩
theorem Gj_ {P:Program} {id:FuncId} {f:List AV->List Obj->Option (Prop × AV)} (h:zf_ P id (RoF f).sum) {w:World} {args:List AV} {cargs:Array Value} (hA:qI_ (jt_ w) w noM args cargs.toList) (hf:f args []=some (True,.bool true)):
 Calls P id cargs w fun e w'=>e=.returned (.bool true)/\Below w.heap.size w w':=by
 have hH:HRel (jt_ w) w noM (ofL []):=⟨fun i hi=>absurd rfl hi,fun i o e=>(by cases e),fun i j o o' b e=>(by cases e),fun i o b e=>(by cases e),fun i t x b e=>(by cases e),fun b hb=>hb⟩
 have hS:(RoF f).sum args [] (fun v _=>v=.bool true):=by
  simp only [RoF,SumK.sum,hf]
  exact WG_ trivial fun _=>trivial
 refine (h.2.2 hH hA (fun i hi=>hi.elim) hS).mono ?_
 rintro e w' ⟨v,cv,objs',I',m',rfl,rfl,hL⟩
 have hv:cv=.bool true:=hL.rv
 subst hv
 exact ⟨rfl,hL.fr.below fun b _ ⟨i,o,e,_⟩=>by cases e⟩
end Go.Eng
namespace Go.Eng
set_option linter.unusedVariables false
set_option linter.unusedSimpArgs false
open Go.RowKit Go.ChangeShapes Go.WideShapes
def tyB (P:Program):Ty->(TypeId->Bool) × (List (TypeId × Nat)->Nat->Bool)
 | .int k=>(fun t=>match P.underlying t with | some (.int k')=>k' == k | _=>false,fun _ _=>false)
 | .bool=>(fun t=>match P.underlying t with | some .bool=>true | _=>false,fun _ _=>false)
 | .str=>(fun t=>match P.underlying t with | some .string=>true | _=>false,fun _ _=>false)
 | .sl a=>(fun t=>match P.underlying t with | some (.slice e)=>P.cellsOf e == a.size && decide (0 < a.size) && (tyB P a).1 e | _=>false,fun _ _=>false)
 | .nil=>(fun t=>match P.underlying t with | some (.struct fs)=>fs.isEmpty && P.cellsOf t == 0 | _=>false,fun l _=>l.isEmpty)
 | .cons a b=>
   let p:List (TypeId × Nat)->Nat->Bool:=fun l off=>match l with
    | (t,o) :: r=>o == off && P.cellsOf t == a.size && (tyB P a).1 t && (tyB P b).2 r (off+a.size)
    | []=>false
   (fun t=>P.cellsOf t == a.size+b.size && (match P.underlying t with
     | some (.struct fs)=>p (fs.toList.map fun f=>(f.type,f.offset)) 0
     | some (.array n e)=>p ((List.range n).map fun i=>(e,i*P.cellsOf e)) 0
     | _=>false),p)
theorem bo_ {k:IntKind} {n:Int} (h:(Lit.int k n).wf=true):inK k n:=by
 simpa [Lit.wf,inK] using h
section
variable {H:Type} {enc:TypeId × Value->H} {P:Program} {W:World}
theorem WC_:∀ (ty:Ty),(∀ (fuel:Nat) (t:TypeId) (cs:List Value) (x:DataW H × List MemPlace),(tyB P ty).1 t=true->DataW.trod enc P W 0 (fun _=>true) true fuel t cs=some x->∃ y:ty.den,RC (jt_ W) W ty y cs)/\
 (∀ (fuel:Nat) (l:List (TypeId × Nat)) (off:Nat) (cs:List Value),(tyB P ty).2 l off=true->cs.length=off+ty.size->(∀ (i:Nat) t o,l[i]?=some (t,o)->∃ x,DataW.trod enc P W 0 (fun _=>true) true fuel t ((cs.drop o).take (P.cellsOf t))=some x)->∃ y:ty.den,RC (jt_ W) W ty y (cs.drop off))
 | .int k=>by
   refine ⟨fun fuel t cs x ht h=>?_,fun fuel l off cs h=>by cases h⟩
   simp only [tyB] at ht
   split at ht
   ·rename_i k' hu
    simp only [beq_iff_eq] at ht
    subst ht
    obtain ⟨n,rfl,_,hw⟩:=DataW.trod_int hu h
    exact ⟨n,rfl,bo_ hw⟩
   ·cases ht
 | .bool=>by
   refine ⟨fun fuel t cs x ht h=>?_,fun fuel l off cs h=>by cases h⟩
   simp only [tyB] at ht
   split at ht
   ·rename_i hu
    obtain ⟨b,rfl,_⟩:=DataW.trod_bool hu h
    exact ⟨b,rfl⟩
   ·cases ht
 | .str=>by
   refine ⟨fun fuel t cs x ht h=>?_,fun fuel l off cs h=>by cases h⟩
   simp only [tyB] at ht
   split at ht
   ·rename_i hu
    obtain ⟨s,rfl,_,hs⟩:=DataW.trod_string hu h
    exact ⟨zt_ s,s,rfl,rfl,hs⟩
   ·cases ht
 | .sl a=>by
   refine ⟨fun fuel t cs x ht h=>?_,fun fuel l off cs h=>by cases h⟩
   simp only [tyB] at ht
   split at ht
   ·rename_i e hu
    simp only [Bool.and_eq_true,beq_iff_eq,decide_eq_true_eq] at ht
    obtain ⟨⟨hc,hpos0⟩,ha⟩:=ht
    rcases DataW.trod_slice hu h with ⟨rfl,_⟩ | ⟨ad,len,cap,elems,rest,n,_,rfl,_,hb,hl,hm,hlen,hel,_,_⟩
    ·exact ⟨([]:List a.den),none,0,0,rfl,rfl,Nat.le_refl _,Nat.zero_le _,fun h=>absurd h (by omega)⟩
    ·have each:∀ i,i < len->∃ (y:a.den) (es:List Value),RC (jt_ W) W a y es/\es.length=a.size/\∀ j (hj:j < es.length),W.cell? ((ad.add (i*a.size)).add j)=some es[j]:=fun i hi=>by
      have h1:=hel i hi
      rw [hc] at h1
      have hi':i < elems.length:=by omega
      rw [List.getElem?_eq_getElem hi'] at h1
      obtain ⟨es,e1,e2⟩:=Option.bind_eq_some_iff.1 h1
      obtain ⟨y,hy⟩:=(WC_ a).1 n e es _ ha e2
      obtain ⟨_,k2,k3⟩:=World.cells?_some e1
      exact ⟨y,es,hy,k2,fun j hj=>by rw [k3 j (by omega),List.getElem?_eq_getElem hj]⟩
     have build:∀ m,m<=len->∃ l:List a.den,l.length=m/\∀ i (h:i < l.length),∃ es,RC (jt_ W) W a l[i] es/\∀ j (hj:j < es.length),W.cell? ((ad.add (i*a.size)).add j)=some es[j]:=fun m=>by
      induction m with
      | zero=>intro _;exact ⟨[],rfl,fun i h=>by simp at h⟩
      | succ m ih=>
        intro hm
        obtain ⟨l,h1,h2⟩:=ih (by omega)
        obtain ⟨y,es,h3,_,h4⟩:=each m (by omega)
        refine ⟨l++[y],by simp [h1],fun i hi=>?_⟩
        by_cases hlt:i < l.length
        ·rw [List.getElem_append_left hlt];exact h2 i hlt
        ·have:i=m:=by simp at hi;omega
         subst this
         rw [List.getElem_append_right (by omega)]
         simp only [List.getElem_singleton]
         exact ⟨es,h3,h4⟩
     obtain ⟨l,h1,h2⟩:=build len (Nat.le_refl _)
     refine ⟨l,some ad,len,cap,rfl,h1.symm,hl,hm,fun hpos=>?_⟩
     obtain ⟨es,q1,q2⟩:=h2 0 (by omega)
     have hes:=zT_ a _ _ q1
     have hc0:=q2 0 (by omega)
     rw [Nat.zero_mul] at hc0
     obtain ⟨b,off,spot⟩:=ad
     have hspot:spot=none:=by simpa [Addr.add] using World.cell?_spot hc0
     subst hspot
     refine ⟨b,off,rfl,?_,fun i hi=>?_⟩
     ·unfold jt_
      simp only [Zd_] at hc0
      unfold World.cell? at hc0
      cases hb:W.heap[b]? with
      | none=>simp [hb] at hc0
      | some o=>exact ZN_ hb
     ·obtain ⟨es,q1,q2⟩:=h2 i hi
      exact ⟨es,q1,fun j hj=>by have:=q2 j hj;rw [Zd_,Zd_] at this;exact this⟩
   ·cases ht
 | .nil=>by
   refine ⟨fun fuel t cs x ht h=>?_,fun fuel l off cs h hl _=>⟨(),by simp only [RC];exact List.drop_eq_nil_of_le (by simp [Ty.size] at hl;omega)⟩⟩
   simp only [tyB] at ht
   split at ht
   ·rename_i fs hu
    simp only [Bool.and_eq_true,beq_iff_eq] at ht
    obtain ⟨xs,n,_,_,hl,_⟩:=DataW.trod_struct hu h
    rw [ht.2] at hl
    exact ⟨(),List.eq_nil_of_length_eq_zero hl⟩
   ·cases ht
 | .cons a b=>by
   have key:∀ (fuel:Nat) (l:List (TypeId × Nat)) (off:Nat) (cs:List Value),(tyB P (.cons a b)).2 l off=true->cs.length=off+(a.size+b.size)->(∀ (i:Nat) t o,l[i]?=some (t,o)->∃ x,DataW.trod enc P W 0 (fun _=>true) true fuel t ((cs.drop o).take (P.cellsOf t))=some x)->∃ y:(Ty.cons a b).den,RC (jt_ W) W (.cons a b) y (cs.drop off):=fun fuel l off cs h hl hx=>by
    simp only [tyB] at h
    split at h
    ·rename_i t o r
     simp only [Bool.and_eq_true,beq_iff_eq] at h
     obtain ⟨⟨⟨rfl,hc⟩,ha⟩,hr⟩:=h
     obtain ⟨x,h1⟩:=hx 0 t o rfl
     obtain ⟨y,hy⟩:=(WC_ a).1 fuel t _ x ha h1
     obtain ⟨z,hz⟩:=(WC_ b).2 fuel r (o+a.size) cs hr (by omega) fun i t' o' hi=>hx (i+1) t' o' (by simpa using hi)
     refine ⟨(y,z),?_⟩
     simp only [RC]
     refine ⟨_,_,?_,hy,hz⟩
     rw [hc,<- List.drop_drop,List.take_append_drop]
    ·cases h
   refine ⟨fun fuel t cs x ht h=>?_,fun fuel l off cs h hl hx=>key fuel l off cs h (by simpa [Ty.size] using hl) hx⟩
   have ht':P.cellsOf t == a.size+b.size/\(match P.underlying t with
    | some (.struct fs)=>(tyB P (.cons a b)).2 (fs.toList.map fun f=>(f.type,f.offset)) 0
    | some (.array n e)=>(tyB P (.cons a b)).2 ((List.range n).map fun i=>(e,i*P.cellsOf e)) 0
    | _=>false)=true:=by
    simp only [tyB,Bool.and_eq_true] at ht ⊢
    exact ht
   obtain ⟨hc,hm⟩:=ht'
   simp only [beq_iff_eq] at hc
   split at hm
   ·rename_i fs hu
    obtain ⟨xs,n,_,_,hl,hn,hf⟩:=DataW.trod_struct hu h
    have:=key n _ 0 cs hm (by omega) fun i t o hi=>by
     rw [List.getElem?_map,Option.map_eq_some_iff] at hi
     obtain ⟨f,h1,h2⟩:=hi
     cases h2
     have h1':fs[i]?=some f:=by rw [<- Array.getElem?_toList];exact h1
     have hlt:i < xs.length:=by rw [hn];exact (Array.getElem?_eq_some_iff.1 h1').1
     exact ⟨xs[i],by rw [hf i f h1',List.getElem?_eq_getElem hlt]⟩
    rwa [List.drop_zero] at this
   ·rename_i k e hu
    obtain ⟨xs,n,_,_,hl,hn,hf⟩:=DataW.trod_array hu h
    have:=key n _ 0 cs hm (by omega) fun i t o hi=>by
     rw [List.getElem?_map,Option.map_eq_some_iff] at hi
     obtain ⟨j,h1,h2⟩:=hi
     cases h2
     obtain ⟨hlt,rfl⟩:=List.getElem?_eq_some_iff.1 h1
     simp only [List.length_range] at hlt
     simp only [List.getElem_range]
     exact ⟨xs[i],by rw [hf i hlt,List.getElem?_eq_getElem (by omega)]⟩
    rwa [List.drop_zero] at this
   ·cases hm
def gO_ (ty:Ty) (y:ty.den):AV:=match ty with
 | .nil=>.agg (Ty.cells .nil y)
 | .cons a b=>.agg (Ty.cells (.cons a b) y)
 | .int k=>.int k y
 | .bool=>.bool y
 | .str=>.str y
 | .sl t=>.imm t y
def Vb_:List Ty->List AV->Prop
 | [],[]=>True
 | ty :: r,a :: l=>(∃ y:ty.den,a=gO_ ty y)/\Vb_ r l
 | _,_=>False
def bs_ (P:Program):List Ty->List TypeId->Bool
 | [],[]=>true
 | ty :: r,t :: l=>(tyB P ty).1 t && bs_ P r l
 | _,_=>false
theorem bT_ {r:Reach} {b0:Nat} {ty:Ty} {t:TypeId} {v:Value} {d:DataW H} {ps:List MemPlace} (ht:(tyB P ty).1 t=true) (hval:Value.okWide P W r b0 t v) (h:DataW.Trod enc P W 0 (fun _=>true) true t v d ps):
 ∃ y:ty.den,RV2 (jt_ W) W noM (gO_ ty y) v:=by
 obtain ⟨fuel,hf⟩:=h
 obtain ⟨y,hy⟩:=(WC_ ty).1 fuel t _ _ ht hf
 refine ⟨y,?_⟩
 have hcells:=QI_ (m:=noM) ty y _ hy
 cases ty with
 | int k=>
   simp only [tyB] at ht
   split at ht
   ·rename_i k' hu
    obtain ⟨n,rfl⟩:=okWide_int hu hval
    exact ZK_ (QH_ hcells.1)
   ·cases ht
 | bool=>
   simp only [tyB] at ht
   split at ht
   ·rename_i hu
    obtain ⟨n,rfl⟩:=okWide_bool hu hval
    exact ZK_ (QH_ hcells.1)
   ·cases ht
 | str=>
   simp only [tyB] at ht
   split at ht
   ·rename_i hu
    obtain ⟨n,rfl⟩:=okWide_string hu hval
    exact ZK_ (QH_ hcells.1)
   ·cases ht
 | sl a=>
   simp only [tyB] at ht
   split at ht
   ·rename_i e hu
    obtain ⟨ao,n,c,rfl⟩:=okWide_slice hu hval
    exact ZK_ (QH_ hcells.1)
   ·cases ht
 | nil=>
   simp only [tyB] at ht
   split at ht
   ·rename_i fs hu
    obtain ⟨cs,rfl,_⟩:=okWide_struct hu hval
    exact ZK_ ⟨cs,rfl,hcells⟩
   ·cases ht
 | cons a b=>
   have ha:∃ cs,v=.agg cs:=by
    simp only [tyB,Bool.and_eq_true] at ht
    obtain ⟨_,ht⟩:=ht
    split at ht
    ·rename_i fs hu
     obtain ⟨cs,rfl,_⟩:=okWide_struct hu hval;exact ⟨cs,rfl⟩
    ·rename_i n e hu
     simp only [Value.okWide,hu] at hval
     obtain ⟨cs,h1,_⟩:=hval;exact ⟨cs,h1⟩
    ·cases ht
   obtain ⟨cs,rfl⟩:=ha
   exact ZK_ ⟨cs,rfl,hcells⟩
theorem y4_ {r:Reach} {b0:Nat}:∀ {tys:List Ty} {ts:List TypeId} {vs:List Value} {ds:List (DataW H)} {ps:List MemPlace},bs_ P tys ts=true->(∀ (j:Nat) t v,ts[j]?=some t->vs[j]?=some v->Value.okWide P W r b0 t v)->
 DataW.TrodAll enc P W 0 (fun _=>true) true ts vs ds ps->∃ avs,qI_ (jt_ W) W noM avs vs/\Vb_ tys avs
 | [],[],[],[],_,_,_,_=>⟨[],trivial,trivial⟩
 | ty :: r,t :: ts,v :: vs,d :: ds,ps,ht,hv,h=>by
   simp only [bs_,Bool.and_eq_true] at ht
   obtain ⟨p,q,h1,h2,rfl⟩:=h
   obtain ⟨y,hy⟩:=bT_ ht.1 (hv 0 t v rfl rfl) h1
   obtain ⟨avs,h3,h4⟩:=y4_ ht.2 (fun j t v h h'=>hv (j+1) t v (by simpa using h) (by simpa using h')) h2
   exact ⟨_ :: avs,⟨hy,h3⟩,⟨y,rfl⟩,h4⟩
 | [],_ :: _,_,_,_,ht,_,_=>by cases ht
 | _ :: _,[],_,_,_,ht,_,_=>by cases ht
 | [],[],_ :: _,_,_,_,_,h=>h.elim
 | [],[],[],_ :: _,_,_,_,h=>h.elim
 | _ :: _,_ :: _,[],_,_,_,_,h=>h.elim
 | _ :: _,_ :: _,_ :: _,[],_,_,_,h=>h.elim
theorem wI_:∀ {ts:List TypeId} {vs:List Value} {ds:List (DataW H)} {ps:List MemPlace},DataW.TrodAll enc P W 0 (fun _=>true) true ts vs ds ps->ds.length=ts.length
 | [],[],[],_,_=>rfl
 | _ :: _,_ :: _,_ :: _,_,⟨_,_,_,h,_⟩=>by rw [List.length_cons,List.length_cons,wI_ h]
 | [],_ :: _,_,_,h=>h.elim
 | [],[],_ :: _,_,h=>h.elim
 | _ :: _,[],_,_,h=>h.elim
 | _ :: _,_ :: _,[],_,h=>h.elim
def tsB (P:Program):List TypeId->Bool
 | []=>true
 | t :: r=>P.readableRec t && decide (t < P.types.size) && tsB P r
theorem BA_ {α:Type}:∀ {l:List α},l.length=2->∃ a b,l=[a,b]
 | [a,b],_=>⟨a,b,rfl⟩
theorem Xa_ (hl:laidOutB P=true) {W':World} (hb:Below W.heap.size W W'):∀ {ts:List TypeId} {vs:List Value} {ds:List (DataW H)} {ps:List MemPlace},tsB P ts=true->
 DataW.TrodAll enc P W 0 (fun _=>true) true ts vs ds ps->DataW.TrodAll enc P W' 0 (fun b=>decide (b < W.heap.size)) true ts vs ds ps
 | [],[],[],_,_,h=>h
 | t :: ts,v :: vs,d :: ds,ps,ht,h=>by
   simp only [tsB,Bool.and_eq_true,decide_eq_true_eq] at ht
   obtain ⟨p,q,h1,h2,rfl⟩:=h
   have lt:∀ x ∈ p,x.block < W.heap.size:=by obtain ⟨m,hm⟩:=h1;exact DataW.trod_lt m _ _ _ hm
   exact trodAll_cons_mk (Below.trod hl ht.1.1 ht.1.2 h1 hb lt) (Xa_ hl hb ht.2 h2)
 | [],_ :: _,_,_,_,h=>h.elim
 | [],[],_ :: _,_,_,h=>h.elim
 | _ :: _,[],_,_,_,h=>h.elim
 | _ :: _,_ :: _,[],_,_,h=>h.elim
end
end Go.Eng
namespace Go.Eng
abbrev Y1:Ty:=(.cons (.int .i64) (.cons (.int .i64) (.cons .bool (.cons (.int .u64) (.cons (.sl (.int .u8)) (.cons (.sl (.int .u8)) .nil))))))
abbrev Y2:Ty:=(.cons (.int .i64) (.cons (.int .u64) (.cons (.int .u64) (.cons Y1 (.cons (.sl (.int .u8)) .nil)))))
end Go.Eng
namespace Go.Eng
open Go.Proofs
set_option linter.unusedVariables false
set_option linter.unusedSimpArgs false
set_option maxRecDepth 100000
set_option maxHeartbeats 1000000
theorem zw_ {α:Type} {l:List α} {i:Nat} (h:i < l.length) (d:α):l.drop i=l.getD i d :: l.drop (i+1):=by
 rw [List.drop_eq_getElem_cons h,List.getD_eq_getElem?_getD,List.getElem?_eq_getElem h];rfl
theorem zM_ {α:Type} {l:List α} {j:Nat} (h:j < l.length) (d:α):l.getD j d ∈ l:=by
 rw [List.getD_eq_getElem?_getD,List.getElem?_eq_getElem h];exact List.getElem_mem h
def okW (n:Int):Bool:=!(decide (n=0) || decide (8 < n) || decide (n < -64))
theorem gy_ {n:Int}:okW n=true ↔ n ≠ 0/\n<=8/\-64<=n:=by unfold okW;simp;omega
theorem be_ {n:Int}:okW n=false ↔ ¬ (n ≠ 0/\n<=8/\-64<=n):=by rw [<- gy_];simp
def z5_ (w:List Int):Bool:=decide (w.length<=64) && w.all okW
theorem ZB_ {w:List Int}:z5_ w=true ↔ w.length<=64/\∀ n ∈ w,n ≠ 0/\n<=8/\-64<=n:=by
 unfold z5_;simp only [Bool.and_eq_true,decide_eq_true_eq,List.all_eq_true,gy_]
def vu_:IR:=
(sq (kr [0] [oD 2 (.mov cF)])
(sq (sq (.reg [oM 5 0,
oE 6 5,
oB 7 .gtr 6 (cI 64)])
(.cond 7
(sq (.reg [oD 2 (.mov cF)])
.ret)
.skip))
(sq (sq (.reg [oM 8 0,
oE 9 8,
oD 10 (.mov (cI 0))])
(.block 0
(.loop
(sq (kr [8,9,10] [oB 11 .lss 10 9])
(sq (.cond 11
.skip
(.exit 0))
(sq (.block 1
(sq (.reg [oI 12 1 8 10,
oL 13 12,
oM 4 13])
(sq (kr [4,8,9,10] [oM 14 4,
oB 15 .eql 14 (cI 0),
oM 16 15,
oF 16 17 (.mov 4),
oF 16 18 (.bin .gtr 17 (cI 8)),
oP 19 16 cT 18,
oM 20 19,
oF 20 21 (.mov 4),
oF 20 22 (.bin .lss 21 (cI (-64))),
oP 23 20 cT 22])
(.cond 23
(sq (kr [] [oD 2 (.mov cF)])
.ret)
.skip))))
(kr [8,9,10] [oB 24 .add 10 (cI 1),
oM 10 24])))))))
(sq (kr [] [oD 2 (.mov cT)])
.ret))))
def Yy_:List RD:=[.tmp 2 true none]
theorem YZ_:zl_ Tryz.prog Tryz.f59 vu_ Yy_=true:=by kernel_rfl
def qY_:List AV->List Obj->Option (Prop × AV)
 | [.imm (.int .i64) w],[]=>some ((True,.bool (z5_ w)))
 | _,_=>none
theorem Q1_:zf_ Tryz.prog 59 (RoF qY_).sum:=by
 refine zi_ Tryz.func59 YZ_ (ze_ _) fun args objs p v e=>?_
 unfold qY_ at e
 split at e
 ·rename_i w
  cases e
  refine ⟨rfl,fun hw ho hp=>?_⟩
  change List Int at w
  repeat'(intro t ht;first|(cases t<;>first|(cases ht;done)|(try simp only[zh_]at ht))|((first|refine za_ ht ?_|refine ht ?_ ?_|refine ht.1 ?_ ?_|refine ht ?_)<;>clear ht))
  all_goals first
   | (have h64:¬ w.length<=64:=by omega
      refine ⟨?_,rfl⟩;unfold z5_;rw [decide_eq_false h64];rfl)
   | (intro r h1 h2;clear h1;refine h2 ⟨[8,9,10],Nat,(fun i=>i<=w.length/\w.all okW=(w.drop i).all okW),fun i=>[.imm (.int .i64) w,.int .i64 w.length,.int .i64 i],fun _=>[],fun i=>w.length - i,⟨0,⟨Nat.zero_le _,rfl⟩,rfl,rfl⟩,?_⟩;clear h2)
  rintro i ⟨hi,he⟩
  repeat'(intro t ht;first|(cases t<;>first|(cases ht;done)|(try simp only[zh_]at ht))|((first|refine za_ ht ?_|refine ht ?_ ?_|refine ht.1 ?_ ?_|refine ht ?_)<;>clear ht))
  all_goals first
   | ((try simp only [zm_,zn_,zk_] at*);omega)
   | (have h64:w.length<=64:=by omega
      have hge:w.length<=i:=by omega
      refine ⟨?_,rfl⟩;unfold z5_;rw [he,decide_eq_true h64,List.drop_of_length_le hge];rfl)
   | (have hlt:i < w.length:=by omega
      rw [zw_ hlt 0,List.all_cons] at he
      first
       | (have hk:okW (w.getD i 0)=false:=be_.2 (by omega)
          refine ⟨?_,rfl⟩;unfold z5_;rw [he,hk];simp;done)
       | (have hk:okW (w.getD i 0)=true:=gy_.2 (by omega)
          rw [hk,Bool.true_and] at he
          exact ⟨i+1,⟨hlt,he⟩,by (try simp only [zm_,zn_,zk_] at*);omega,rfl,rfl⟩))
 ·cases e
def qq_ (n:Int):Int:=if 0 - n > n then 0 - n else n
theorem Xf_ {n:Int} (h:n < 0):qq_ n=-n:=by unfold qq_;split<;>omega
theorem v7_ {n:Int} (h:¬ n < 0):qq_ n=n:=by unfold qq_;split<;>omega
theorem gP_ {n:Int}:0<=qq_ n/\n<=qq_ n/\-n<=qq_ n/\(qq_ n=n\/qq_ n=-n):=by unfold qq_;split<;>omega
def Zo_ (n:Int):Int:=if 0 < n then 1 else 0
def Qm_ (f:Int->Int) (w:List Int) (i:Nat):Int:=((w.take i).map f).sum
theorem z8_ (f:Int->Int) {l:List Int} {i:Nat} (h:i < l.length):Qm_ f l (i+1)=Qm_ f l i+f (l.getD i 0):=by
 unfold Qm_
 rw [List.take_succ_eq_append_getElem h,List.map_append,List.sum_append]
 have:l.getD i 0=l[i]:=by rw [List.getD_eq_getElem?_getD,List.getElem?_eq_getElem h];rfl
 rw [this];simp
theorem Ql_ (f:Int->Int) {l:List Int} {i:Nat} (h:l.length<=i):Qm_ f l i=(l.map f).sum:=by
 unfold Qm_;rw [List.take_of_length_le h]
theorem u6_:∀ {l:List Int} {c:Int},(∀ x ∈ l,0<=x/\x<=c)->0<=l.sum/\l.sum<=c*l.length
 | [],c,_=>by simp
 | x :: l,c,h=>by
   have h1:=h x (by simp)
   have h2:=u6_ (l:=l) (c:=c) fun y hy=>h y (by simp [hy])
   rw [List.sum_cons,List.length_cons,Int.natCast_add,Int.mul_add]
   omega
theorem Jd_ {w:List Int} (h:z5_ w=true) (i:Nat):0<=Qm_ qq_ w i/\Qm_ qq_ w i<=4096:=by
 obtain ⟨h1,h2⟩:=ZB_.1 h
 unfold Qm_
 have:=u6_ (l:=(w.take i).map qq_) (c:=64) fun x hx=>by
  obtain ⟨y,hy,rfl⟩:=List.mem_map.1 hx
  have:=h2 y (List.mem_of_mem_take hy)
  have:=gP_ (n:=y);omega
 rw [List.length_map,List.length_take] at this
 omega
theorem Jc_ {w:List Int} (h:z5_ w=true) (i:Nat):0<=Qm_ Zo_ w i/\Qm_ Zo_ w i<=64:=by
 obtain ⟨h1,h2⟩:=ZB_.1 h
 unfold Qm_
 have:=u6_ (l:=(w.take i).map Zo_) (c:=1) fun x hx=>by
  obtain ⟨y,hy,rfl⟩:=List.mem_map.1 hx
  unfold Zo_;split<;>omega
 rw [List.length_map,List.length_take] at this
 omega
def QM_ (w:List Int):Int:=if z5_ w then (w.map qq_).sum else 0
def zK_ (w:List Int):Int:=if z5_ w then (w.map Zo_).sum else 0
theorem GZ_ (w:List Int):0<=QM_ w/\QM_ w<=4096:=by
 unfold QM_;split
 ·rename_i h;have:=Jd_ h w.length;rwa [Ql_ qq_ (Nat.le_refl _)] at this
 ·omega
def ug_:IR:=
(sq (kr [0] [oD 2 (.mov (cI 0))])
(sq (sq (.reg [oM 5 0,
oC 6 59 [5],
oD 7 (.un .not 6)])
(.cond 7
(sq (.reg [oD 2 (.mov (cI 0))])
.ret)
.skip))
(sq (sq (.reg [oM 8 0,
oE 9 8,
oD 10 (.mov (cI 0))])
(.block 0
(.loop
(sq (kr [2,8,9,10] [oB 11 .lss 10 9])
(sq (.cond 11
.skip
(.exit 0))
(sq (.block 1
(sq (.reg [oI 12 1 8 10,
oL 13 12,
oM 4 13])
(kr [2,4,8,9,10] [oM 14 2,
oM 15 4,
oM 16 4,
oD 17 (.un .neg 16),
oD 18 (.minmax true 15 17),
oB 19 .add 14 18,
oM 2 19])))
(kr [2,8,9,10] [oB 20 .add 10 (cI 1),
oM 10 20])))))))
(sq (kr [2] [oM 21 2,
oM 2 21])
.ret))))
def Vt_:List RD:=[.tmp 2 true none]
theorem VM_:zl_ Tryz.prog Tryz.f60 ug_ Vt_=true:=by kernel_rfl
def jT_:List AV->List Obj->Option (Prop × AV)
 | [.imm (.int .i64) w],[]=>some ((True,.int .i64 (QM_ w)))
 | _,_=>none
theorem Ye_:zf_ Tryz.prog 60 (RoF jT_).sum:=by
 refine zi_ Tryz.func60 VM_ (zc_ (s:=RoF qY_) Q1_ (ze_ _)) fun args objs p v e=>?_
 unfold jT_ at e
 split at e
 ·rename_i w
  cases e
  refine ⟨rfl,fun hw ho hp=>?_⟩
  change List Int at w
  repeat'(intro t ht;first|(cases t<;>first|(cases ht;done)|(try simp only[zh_]at ht))|((first|refine za_ ht ?_|refine ht ?_ ?_|refine ht.1 ?_ ?_|refine ht ?_)<;>clear ht))
  all_goals first
   | exact True.intro
   | (refine ⟨?_,rfl⟩;unfold QM_;simp_all;done)
   | (intro r h1 h2;clear h1;refine h2 ⟨[2,8,9,10],Nat,(fun i=>i<=w.length),fun i=>[.int .i64 (Qm_ qq_ w i),.imm (.int .i64) w,.int .i64 w.length,.int .i64 i],fun _=>[],fun i=>w.length - i,⟨0,Nat.zero_le _,rfl,rfl⟩,?_⟩;clear h2)
  intro i hi
  have hr:z5_ w=true:=by assumption
  have hl:=(ZB_.1 hr).1
  have hs:=Jd_ hr i
  repeat'(intro t ht;first|(cases t<;>first|(cases ht;done)|(try simp only[zh_]at ht))|((first|refine za_ ht ?_|refine ht ?_ ?_|refine ht.1 ?_ ?_|refine ht ?_)<;>clear ht))
  all_goals first
   | ((try simp only [zm_,zn_,zk_] at*);omega)
   | (have hge:w.length<=i:=by omega
      refine ⟨?_,rfl⟩;unfold QM_;rw [if_pos hr,Ql_ qq_ hge];done)
   | (have hlt:i < w.length:=by omega
      have hk:=(ZB_.1 hr).2 _ (zM_ hlt 0)
      have ha:=gP_ (n:=w.getD i 0)
      first
       | ((try simp only [zm_,zn_,zk_] at*);omega)
       | (show IntKind.i64.min<=Qm_ qq_ w i+qq_ (w.getD i 0)/\Qm_ qq_ w i+qq_ (w.getD i 0)<=IntKind.i64.max;(try simp only [zm_,zn_,zk_] at*);omega)
       | (refine ⟨i+1,hlt,by (try simp only [zm_,zn_,zk_] at*);omega,?_,rfl⟩
          dsimp only
          rw [z8_ qq_ hlt];rfl))
 ·cases e
def vv_:IR:=
(sq (kr [0] [oD 2 (.mov (cI 0))])
(sq (sq (.reg [oM 5 0,
oC 6 59 [5],
oD 7 (.un .not 6)])
(.cond 7
(sq (.reg [oD 2 (.mov (cI 0))])
.ret)
.skip))
(sq (sq (.reg [oM 8 0,
oE 9 8,
oD 10 (.mov (cI 0))])
(.block 0
(.loop
(sq (kr [2,8,9,10] [oB 11 .lss 10 9])
(sq (.cond 11
.skip
(.exit 0))
(sq (.block 1
(sq (.reg [oI 12 1 8 10,
oL 13 12,
oM 4 13])
(sq (.reg [oM 14 4,
oB 15 .gtr 14 (cI 0)])
(.cond 15
(kr [2,8,9,10] [oM 16 2,
oB 17 .add 16 (cI 1),
oM 2 17])
.skip))))
(kr [2,8,9,10] [oB 18 .add 10 (cI 1),
oM 10 18])))))))
(sq (kr [2] [oM 19 2,
oM 2 19])
.ret))))
def Yz_:List RD:=[.tmp 2 true none]
theorem Y0_:zl_ Tryz.prog Tryz.f49 vv_ Yz_=true:=by kernel_rfl
def QT_:List AV->List Obj->Option (Prop × AV)
 | [.imm (.int .i64) w],[]=>some ((True,.int .i64 (zK_ w)))
 | _,_=>none
theorem jm_:zf_ Tryz.prog 49 (RoF QT_).sum:=by
 refine zi_ Tryz.func49 Y0_ (zc_ (s:=RoF qY_) Q1_ (ze_ _)) fun args objs p v e=>?_
 unfold QT_ at e
 split at e
 ·rename_i w
  cases e
  refine ⟨rfl,fun hw ho hp=>?_⟩
  change List Int at w
  repeat'(intro t ht;first|(cases t<;>first|(cases ht;done)|(try simp only[zh_]at ht))|((first|refine za_ ht ?_|refine ht ?_ ?_|refine ht.1 ?_ ?_|refine ht ?_)<;>clear ht))
  all_goals first
   | exact True.intro
   | (refine ⟨?_,rfl⟩;unfold zK_;simp_all;done)
   | (intro r h1 h2;clear h1;refine h2 ⟨[2,8,9,10],Nat,(fun i=>i<=w.length),fun i=>[.int .i64 (Qm_ Zo_ w i),.imm (.int .i64) w,.int .i64 w.length,.int .i64 i],fun _=>[],fun i=>w.length - i,⟨0,Nat.zero_le _,rfl,rfl⟩,?_⟩;clear h2)
  intro i hi
  have hr:z5_ w=true:=by assumption
  have hl:=(ZB_.1 hr).1
  have hs:=Jc_ hr i
  repeat'(intro t ht;first|(cases t<;>first|(cases ht;done)|(try simp only[zh_]at ht))|((first|refine za_ ht ?_|refine ht ?_ ?_|refine ht.1 ?_ ?_|refine ht ?_)<;>clear ht))
  all_goals first
   | ((try simp only [zm_,zn_,zk_] at*);omega)
   | (have hge:w.length<=i:=by omega
      refine ⟨?_,rfl⟩;unfold zK_;rw [if_pos hr,Ql_ Zo_ hge];done)
   | (have hlt:i < w.length:=by omega
      refine ⟨i+1,hlt,by (try simp only [zm_,zn_,zk_] at*);omega,?_,rfl⟩
      dsimp only
      rw [z8_ Zo_ hlt]
      first
       | (have e:Zo_ (w.getD i 0)=1:=if_pos (by assumption)
          rw [e];rfl)
       | (have e:Zo_ (w.getD i 0)=0:=if_neg (by assumption)
          rw [e,Int.add_zero];rfl))
 ·cases e
def b9_ (b:List Int):Int:=b.foldl (fun n c=>n*256+c) 0
def jl_ (b:List Int):Bool:=b.all fun c=>decide (c=0)
theorem y9_ (x:Int):IntKind.u8.wrap x=x % 256:=by simp [IntKind.wrap,IntKind.signed,IntKind.bits]
def Ky_ (n w j:Int):Int:=(n.fdiv (2 ^ (min (8*(w - 1 - j)).toNat 64))) % 256
def q1_ (n w:Int) (i:Nat):List Int:=(List.range i).map fun j:Nat=>Ky_ n w j
def zG_ (n w:Int):List Int:=q1_ n w w.toNat
theorem w1_ (n w:Int) (i:Nat):q1_ n w (i+1)=q1_ n w i++[Ky_ n w i]:=by
 unfold q1_;rw [List.range_succ,List.map_append];rfl
theorem Qy_ (n w:Int) (i:Nat):(q1_ n w i).length=i:=by unfold q1_;simp
theorem zZ_ {n w:Int} (h:0<=w):((zG_ n w).length:Int)=w:=by unfold zG_;rw [Qy_];omega
def UO_:IR:=
(sq (kr [0,1,2] [oD 6 (.mov (.c (.imm (.int .u8) [])))])
(sq (sq (.reg [oM 8 2,
oD 9 (.mov (cI 0))])
(.block 0
(.loop
(sq (kr [0,1,2,8,9] [oB 10 .lss 9 8])
(sq (.cond 10
.skip
(.exit 0))
(sq (.block 1
(sq (.reg [oM 11 9,
oM 7 11])
(kr [0,1,2,7,8,9] [oM 12 0,
oM 13 1,
oM 14 2,
oB 15 .sub 14 (cI 1),
oM 16 7,
oB 17 .sub 15 16,
oB 18 .mul (cI 8) 17,
oB 19 .shr 13 18,
oD 20 (.conv .u8 19),
oD 21 (.sliceAll (.int .u8) 1 [(0,1,20)]),
oD 22 (.append (.int .u8) 1 12 21),
oM 0 22])))
(kr [0,1,2,8,9] [oB 23 .add 9 (cI 1),
oM 9 23])))))))
(sq (kr [0] [oM 24 0,
oM 6 24])
.ret)))
def Uk_:List RD:=[.tmp 6 false none]
theorem Uw_:zl_ Tryz.prog Tryz.f61 UO_ Uk_=true:=by kernel_rfl
def wy_:List AV->List Obj->Option (Prop × AV × List Obj)
 | [.own 0,.int .u64 n,.int .i64 w],[.row false (.int .u8) l]=>some ((1<=w/\w<=64/\l.length<=100000000,.own 1,[.dead,.row false (.int .u8) (l++zG_ n w)]))
 | _,_=>none
theorem Vf_:zf_ Tryz.prog 61 (RwF wy_).sum:=by
 refine wP_ Tryz.func61 Uw_ (ze_ _) fun args objs p v o e=>?_
 unfold wy_ at e
 split at e
 ·rename_i n w l
  cases e
  refine ⟨rfl,fun hw ho hp=>?_⟩
  change List Int at l
  repeat'(intro t ht;first|(cases t<;>first|(cases ht;done)|(try simp only[zh_]at ht))|((first|refine za_ ht ?_|refine ht ?_ ?_|refine ht.1 ?_ ?_|refine ht ?_)<;>clear ht))
  all_goals first
   | (intro r h1 h2;clear h1;refine h2 ⟨[0,1,2,8,9],Nat,(fun i=>(i:Int)<=w),fun i=>[match i with | 0=>.own 0 | _+1=>.own 1,.int .u64 n,.int .i64 w,.int .i64 w,.int .i64 i],fun i=>match i with | 0=>[.row false (.int .u8) l] | i+1=>[.dead,.row false (.int .u8) (l++q1_ n w (i+1))],fun i=>w.toNat - i,⟨0,by omega,rfl,rfl⟩,?_⟩;clear h2)
  rintro (_ | i) hi
  all_goals repeat'(intro t ht;first|(cases t<;>first|(cases ht;done)|(try simp only[zh_]at ht))|((first|refine za_ ht ?_|refine ht ?_ ?_)<;>clear ht)|(refine ht.1 (by simp only[zk_];omega) ?_;clear ht)|(refine ht.2 ?_;clear ht)|(refine ht ?_;clear ht))
  all_goals first
   | (exfalso;omega)
   | omega
   | (simp only [Zi_,List.length_append,List.length_cons,List.length_nil,Qy_];omega)
   | (refine ⟨1,by omega,by dsimp only;omega,rfl,?_⟩
      show [Obj.dead,Obj.row false (.int .u8) (l++[IntKind.u8.wrap (n.fdiv (2 ^ min (8*(w - 1 - ((0:Nat):Int))).toNat 64))])]=[Obj.dead,Obj.row false (.int .u8) (l++q1_ n w (0+1))]
      rw [w1_,y9_];rfl)
   | (have e:w.toNat=i+1:=by omega
      refine ⟨rfl,?_⟩;unfold zG_;rw [e])
   | (refine ⟨i+1+1,by omega,by dsimp only;omega,rfl,?_⟩
      show [Obj.dead,Obj.row false (.int .u8) ((l++q1_ n w (i+1))++[IntKind.u8.wrap (n.fdiv (2 ^ min (8*(w - 1 - ((i+1:Nat):Int))).toNat 64))])]=[Obj.dead,Obj.row false (.int .u8) (l++q1_ n w (i+1+1))]
      rw [w1_ n w (i+1),y9_,List.append_assoc];rfl)
 ·cases e
def jE_:List Int->List Int->List Int->Option (List Int)
 | [],_,b=>some b
 | n :: r,xs,b=>if n < 0 then jE_ r xs (b++zG_ 0 (0 - n)) else match xs with
   | []=>none
   | x :: ys=>if n < 8/\x.fdiv (2 ^ (min (8*n).toNat 64)) ≠ 0 then none else jE_ r ys (b++zG_ x n)
def wa_ (w xs:List Int):Option (List Int):=if z5_ w=true/\zK_ w=xs.length then jE_ w xs [] else none
def wb_ (w xs:List Int):List Int:=(wa_ w xs).getD []
def J9_ (w xs:List Int):Bool:=(wa_ w xs).isSome
theorem ym_ {w:List Int} (i:Nat):∀ k,Qm_ Zo_ w i<=Qm_ Zo_ w (i+k)
 | 0=>Int.le_refl _
 | k+1=>by
   have ih:=ym_ (w:=w) i k
   by_cases h:i+k < w.length
   ·rw [show i+(k+1)=(i+k)+1 by omega,z8_ Zo_ h]
    have:0<=Zo_ (w.getD (i+k) 0):=by unfold Zo_;split<;>omega
    omega
   ·rw [Ql_ Zo_ (show w.length<=i+(k+1) by omega)]
    rwa [Ql_ Zo_ (show w.length<=i+k by omega)] at ih
theorem gp_ {w:List Int} {i:Nat} (h:i < w.length) (hp:0 < w.getD i 0):Qm_ Zo_ w i+1<=(w.map Zo_).sum:=by
 have h1:=ym_ (w:=w) (i+1) w.length
 rw [z8_ Zo_ h,Ql_ Zo_ (show w.length<=i+1+w.length by omega)] at h1
 have:Zo_ (w.getD i 0)=1:=if_pos hp
 omega
theorem VJ_ {w xs b:List Int} {i k:Nat} (h:i < w.length) (hn:w.getD i 0 < 0):jE_ (w.drop i) (xs.drop k) b=jE_ (w.drop (i+1)) (xs.drop k) (b++zG_ 0 (0 - w.getD i 0)):=by
 rw [zw_ h 0];exact if_pos hn
theorem yA_ {w xs b:List Int} {i k:Nat} (h:i < w.length) (hn:¬ w.getD i 0 < 0) (h2:k < xs.length) (h8:w.getD i 0 < 8) (hx:¬ (xs.getD k 0).fdiv (2 ^ (min (8*w.getD i 0).toNat 64))=0):jE_ (w.drop i) (xs.drop k) b=none:=by
 rw [zw_ h 0,zw_ h2 0]
 show (if w.getD i 0 < 0 then _ else _)=_
 rw [if_neg hn]
 exact if_pos ⟨h8,hx⟩
theorem yz_ {w xs b:List Int} {i k:Nat} (h:i < w.length) (hn:¬ w.getD i 0 < 0) (h2:k < xs.length) (h8:¬ (w.getD i 0 < 8/\(xs.getD k 0).fdiv (2 ^ (min (8*w.getD i 0).toNat 64)) ≠ 0)):jE_ (w.drop i) (xs.drop k) b=jE_ (w.drop (i+1)) (xs.drop (k+1)) (b++zG_ (xs.getD k 0) (w.getD i 0)):=by
 rw [zw_ h 0,zw_ h2 0]
 show (if w.getD i 0 < 0 then _ else _)=_
 rw [if_neg hn]
 exact if_neg h8
theorem Qv_ {α:Type} {l:List α} {k:Nat} {d:α}:(l.drop k).getD 0 d=l.getD k d:=by
 rw [List.getD_eq_getElem?_getD,List.getElem?_drop,Nat.add_zero,<- List.getD_eq_getElem?_getD]
def UP_:IR:=
(sq (kr [0,1] [oD 4 (.mov (.c (.imm (.int .u8) []))),
oD 5 (.mov cF)])
(sq (sq (kr [0,1] [oM 10 0,
oC 11 59 [10],
oD 12 (.un .not 11),
oM 13 12,
oF 13 14 (.mov 0),
oF 13 15 (.call false (.f 49) [14]),
oF 13 16 (.mov 1),
oF 13 17 (.len 16),
oF 13 18 (.bin .neq 15 17),
oP 19 13 cT 18])
(.cond 19
(sq (kr [] [oD 4 (.mov (.c (.imm (.int .u8) []))),
oD 5 (.mov cF)])
.ret)
.skip))
(sq (kr [0,1] [oM 20 0,
oC 21 60 [20],
oD 22 (.mkrow (.int .u8) 1 (0:Int) (cI 0) 21),
oM 6 22])
(sq (sq (.reg [oM 23 0,
oE 24 23,
oD 25 (.mov (cI 0))])
(.block 0
(.loop
(sq (kr [1,6,23,24,25] [oB 26 .lss 25 24])
(sq (.cond 26
.skip
(.exit 0))
(sq (.block 1
(sq (.reg [oI 27 1 23 25,
oL 28 27,
oM 8 28])
(sq (sq (.reg [oM 29 8,
oB 30 .lss 29 (cI 0)])
(.cond 30
(sq (kr [1,6,8,23,24,25] [oM 31 6,
oM 32 8,
oD 33 (.un .neg 32),
oD 34 (.call true (.f 61) [31,(.c (.int .u64 0)),33]),
oM 6 34])
(.exit 1))
.skip))
(sq (kr [1,6,8,23,24,25] [oM 35 1,
oD 36 (.indexSl 1 35 (cI 0)),
oL 37 36,
oM 9 37])
(sq (sq (kr [1,6,8,9,23,24,25] [oM 38 8,
oB 39 .lss 38 (cI 8),
oM 40 39,
oT 40 41 (.mov 9),
oT 40 42 (.mov 8),
oT 40 43 (.bin .mul (cI 8) 42),
oT 40 44 (.bin .shr 41 43),
oT 40 45 (.bin .neq 44 (.c (.int .u64 0))),
oP 46 40 45 cF])
(.cond 46
(sq (kr [] [oD 4 (.mov (.c (.imm (.int .u8) []))),
oD 5 (.mov cF)])
.ret)
.skip))
(kd [1,6,8,9,23,24,25] [(oM 47 6,[]),
(oM 48 9,[0]),
(oM 49 8,[0,0]),
(oD 50 (.call true (.f 61) [47,48,49]),[]),
(oM 51 1,[0,0,0,0]),
(oD 52 (.slice 1 51 (some (cI 1)) none none),[1,0,0,0]),
(oM 6 50,[0,0]),
(oM 1 52,[])]))))))
(kr [1,6,23,24,25] [oB 53 .add 25 (cI 1),
oM 25 53])))))))
(sq (kr [6] [oM 54 6,
oM 4 54,
oD 5 (.mov cT)])
.ret)))))
def Ul_:List RD:=[.tmp 4 true (some (.int .u8)),.tmp 5 true none]
theorem Ux_:zl_ Tryz.prog Tryz.f50 UP_ Ul_=true:=by kernel_rfl
def wz_:List AV->List Obj->Option (Prop × AV)
 | [.imm (.int .i64) w,.imm (.int .u64) xs],[]=>some ((True,.tup [.imm (.int .u8) (wb_ w xs),.bool (J9_ w xs)]))
 | _,_=>none
theorem Vg_:zf_ Tryz.prog 50 (RoF wz_).sum:=by
 refine zi_ Tryz.func50 Ux_ (zc_ (s:=RoF qY_) Q1_ (zc_ (s:=RoF QT_) jm_ (zc_ (s:=RoF jT_) Ye_ (zc_ (s:=RwF wy_) Vf_ (ze_ _))))) fun args objs p v e=>?_
 unfold wz_ at e
 split at e
 ·rename_i w xs
  cases e
  refine ⟨rfl,fun hw ho hp=>?_⟩
  change List Int at w
  change List Int at xs
  have hx:xs.length<=maxLen:=(hw (.imm (.int .u64) xs) (by simp)).2
  unfold maxLen at hx
  have hz:=GZ_ w
  repeat'(intro t ht;first|(cases t<;>first|(cases ht;done)|(try simp only[zh_]at ht))|((first|refine za_ ht ?_|refine ht ?_ ?_|refine ht.1 ?_ ?_|refine ht ?_)<;>clear ht))
  all_goals first
   | exact True.intro
   | (intro r h1 h2;clear h1;refine h2 ⟨[1,6,23,24,25],Nat × Nat × List Int,(fun a=>a.1<=w.length/\(a.2.2.length:Int)=Qm_ qq_ w a.1/\Qm_ Zo_ w a.1=a.2.1/\jE_ w xs []=jE_ (w.drop a.1) (xs.drop a.2.1) a.2.2),fun a=>[.imm (.int .u64) (xs.drop a.2.1),.own 0,.imm (.int .i64) w,.int .i64 w.length,.int .i64 a.1],fun a=>[.row false (.int .u8) a.2.2],fun a=>w.length - a.1,⟨(0,0,[]),⟨Nat.zero_le _,rfl,rfl,rfl⟩,rfl,rfl⟩,?_⟩;clear h2)
   | ((try simp only [zm_,zn_,zk_] at*);omega)
   | (have hn:¬ (z5_ w=true/\zK_ w=xs.length):=fun h=>by simp_all
      refine ⟨?_,rfl⟩;unfold wb_ J9_ wa_;rw [if_neg hn];rfl)
  rintro ⟨i,k,b⟩ ⟨hi,hb,hk,he⟩
  dsimp only at hi hb hk he
  have hr:z5_ w=true:=by assumption
  have hc:zK_ w=xs.length:=by assumption
  have hsum:(w.map Zo_).sum=xs.length:=by unfold zK_ at hc;rwa [if_pos hr] at hc
  have hl:=(ZB_.1 hr).1
  have hs:=Jd_ hr i
  have h1:=Jc_ hr i
  repeat'(intro t ht;first|(cases t<;>first|(cases ht;done)|(try simp only[zh_]at ht))|((first|refine za_ ht ?_|refine ht ?_ ?_|refine ht.1 ?_ ?_|refine ht ?_)<;>clear ht))
  all_goals first
   | ((try simp only [zm_,zn_,zk_] at*);omega)
   | (have hge:w.length<=i:=by omega
      rw [List.drop_of_length_le hge] at he
      have hf:wa_ w xs=some b:=by unfold wa_;rw [if_pos ⟨hr,hc⟩,he];rfl
      refine ⟨?_,rfl⟩;unfold wb_ J9_;rw [hf];rfl)
   | skip
  all_goals have hlt:i < w.length:=by omega
  all_goals have hkk:=(ZB_.1 hr).2 _ (zM_ (α:=Int) hlt 0)
  all_goals first
   | ((try simp only [zm_,zn_,zk_] at*);rw [List.length_drop];omega)
   | ((try simp only [zm_,zn_,zk_] at*);omega)
   | (have hn:w.getD i 0 < 0:=by assumption
      have ha:=Xf_ hn
      have h0:Zo_ (w.getD i 0)=0:=if_neg (by omega)
      have hbl:=zZ_ (n:=0) (w:=0 - w.getD i 0) (by omega)
      refine ⟨(i+1,k,b++zG_ 0 (0 - w.getD i 0)),⟨hlt,?_,?_,?_⟩,by dsimp only;omega,rfl,rfl⟩
      ·rw [z8_ qq_ hlt,ha];simp only [List.length_append];omega
      ·rw [z8_ Zo_ hlt,h0];dsimp only;omega
      ·rw [he];exact VJ_ hlt hn)
   | (have hn:¬ w.getD i 0 < 0:=by assumption
      have hlt2:=gp_ (w:=w) (i:=i) hlt (by omega)
      have h2:k < xs.length:=by omega
      first
       | ((try simp only [zm_,zn_,zk_] at*);rw [List.length_drop];omega)
       | (have h8:w.getD i 0 < 8:=by assumption
          have hx:¬ ((xs.drop k).getD 0 0).fdiv (2 ^ (min (8*w.getD i 0).toNat 64))=0:=by assumption
          rw [Qv_] at hx
          have hf:wa_ w xs=none:=by unfold wa_;rw [if_pos ⟨hr,hc⟩,he];exact yA_ hlt hn h2 h8 hx
          refine ⟨?_,rfl⟩;unfold wb_ J9_;rw [hf];rfl)
       | (have h8:¬ (w.getD i 0 < 8/\(xs.getD k 0).fdiv (2 ^ (min (8*w.getD i 0).toNat 64)) ≠ 0):=fun h=>by
           first
            | (exact absurd h.1 (by assumption))
            | (have hx:((xs.drop k).getD 0 0).fdiv (2 ^ (min (8*w.getD i 0).toNat 64))=0:=by assumption
               rw [Qv_] at hx
               exact h.2 hx)
          have ha:=v7_ hn
          have h0:Zo_ (w.getD i 0)=1:=if_pos (by omega)
          have hbl:=zZ_ (n:=xs.getD k 0) (w:=w.getD i 0) (by omega)
          refine ⟨(i+1,k+1,b++zG_ (xs.getD k 0) (w.getD i 0)),⟨hlt,?_,?_,?_⟩,by dsimp only;omega,?_,?_⟩
          ·rw [z8_ qq_ hlt,ha];simp only [List.length_append];omega
          ·rw [z8_ Zo_ hlt,h0];dsimp only;omega
          ·rw [he];exact yz_ hlt hn h2 h8
          ·dsimp only;rw [<- List.drop_drop];rfl
          ·dsimp only;rw [<- Qv_ (l:=xs) (k:=k)];rfl))
 ·cases e
theorem GT_ {α:Type} {a b:List α} {d:α} {i:Nat} (h:a.take i=b.take i) (hi:i < a.length) (hl:a.length=b.length) (e:a.getD i d=b.getD i d):a.take (i+1)=b.take (i+1):=by
 have hb:i < b.length:=by omega
 rw [List.getD_eq_getElem?_getD,List.getD_eq_getElem?_getD,List.getElem?_eq_getElem hi,List.getElem?_eq_getElem hb] at e
 rw [List.take_succ_eq_append_getElem hi,List.take_succ_eq_append_getElem hb,h,show a[i]=b[i] from e]
theorem H9_ {α:Type} {a b:List α} {i:Nat} (h:a.take i=b.take i) (hi:a.length<=i) (hl:a.length=b.length):a=b:=by
 rwa [List.take_of_length_le hi,List.take_of_length_le (by omega)] at h
theorem b4_ {α:Type} {a b:List α} {d:α} {i:Nat} (e:¬ a.getD i d=b.getD i d):a ≠ b:=fun h=>e (by rw [h])
def vJ_:IR:=
(sq (kr [0,1] [oD 4 (.mov cF)])
(sq (sq (kr [0,1] [oM 6 0,
oE 7 6,
oM 8 1,
oE 9 8,
oB 10 .neq 7 9])
(.cond 10
(sq (.reg [oD 4 (.mov cF)])
.ret)
.skip))
(sq (sq (kr [0,1] [oD 5 (.mov (cI 0))])
(.block 0
(.loop
(sq (sq (kr [0,1,5] [oM 11 5,
oM 12 0,
oE 13 12,
oB 14 .lss 11 13])
(.cond 14
.skip
(.exit 0)))
(sq (.block 1
(sq (kd [0,1,5] [(oM 17 0,[]),
(oM 18 5,[0]),
(oI 19 1 17 18,[]),
(oL 20 19,[]),
(oM 21 1,[0,0,0,0]),
(oM 22 5,[0,0,0,0,0]),
(oI 23 1 21 22,[2,0,0,0]),
(oL 24 23,[3,0,0,0]),
(oB 25 .neq 20 24,[])])
(.cond 25
(sq (kr [] [oD 4 (.mov cF)])
.ret)
.skip)))
(kr [0,1,5] [oM 15 5,
oB 16 .add 15 (cI 1),
oM 5 16]))))))
(sq (kr [] [oD 4 (.mov cT)])
.ret))))
def YN_:List RD:=[.tmp 4 true none]
theorem ve_:zl_ Tryz.prog Tryz.f43 vJ_ YN_=true:=by kernel_rfl
def QY_:List AV->List Obj->Option (Prop × AV)
 | [.imm (.int .u8) a,.imm (.int .u8) b],[]=>some ((True,.bool (decide (a=b))))
 | _,_=>none
theorem jr_:zf_ Tryz.prog 43 (RoF QY_).sum:=by
 refine zi_ Tryz.func43 ve_ (ze_ _) fun args objs p v e=>?_
 unfold QY_ at e
 split at e
 ·rename_i a b
  cases e
  refine ⟨rfl,fun hw ho hp=>?_⟩
  change List Int at a
  change List Int at b
  have hl:a.length<=maxLen:=(hw (.imm (.int .u8) a) (by simp)).2
  unfold maxLen at hl
  repeat'(intro t ht;first|(cases t<;>first|(cases ht;done)|(try simp only[zh_]at ht))|((first|refine za_ ht ?_|refine ht ?_ ?_|refine ht.1 ?_ ?_|refine ht ?_)<;>clear ht))
  all_goals first
   | (have hne:a ≠ b:=fun h=>(by assumption:¬ (a.length:Int)=b.length) (by rw [h])
      refine ⟨?_,rfl⟩;rw [decide_eq_false hne];done)
   | (intro r h1 h2;clear h1;refine h2 ⟨[0,1,5],Nat,(fun i=>i<=a.length/\a.take i=b.take i),fun i=>[.imm (.int .u8) a,.imm (.int .u8) b,.int .i64 i],fun _=>[],fun i=>a.length - i,⟨0,⟨Nat.zero_le _,rfl⟩,rfl,rfl⟩,?_⟩;clear h2)
  rintro i ⟨hi,he⟩
  have hl2:a.length=b.length:=by omega
  repeat'(intro t ht;first|(cases t<;>first|(cases ht;done)|(try simp only[zh_]at ht))|((first|refine za_ ht ?_|refine ht ?_ ?_|refine ht.1 ?_ ?_|refine ht ?_)<;>clear ht))
  all_goals first
   | ((try simp only [zm_,zn_,zk_] at*);omega)
   | (have hge:a.length<=i:=by omega
      have e:=H9_ he hge hl2
      refine ⟨?_,rfl⟩;rw [decide_eq_true e];done)
   | (have hne:a ≠ b:=b4_ (d:=0) (i:=i) (by assumption)
      refine ⟨?_,rfl⟩;rw [decide_eq_false hne];done)
   | (have hlt:i < a.length:=by omega
      exact ⟨i+1,⟨hlt,GT_ he hlt hl2 (d:=0) (by assumption)⟩,by (try simp only [zm_,zn_,zk_] at*);omega,rfl,rfl⟩)
 ·cases e
def vl_ (n w:Int) (i:Nat):List Int:=List.replicate (w.toNat - i) 0++(zG_ n w).drop (w.toNat - i)
theorem Gc_ {n w:Int}:vl_ n w 0=List.replicate w.toNat 0:=by
 unfold vl_ zG_;rw [List.drop_of_length_le (by rw [Qy_];omega)];simp
theorem hc_ {n w:Int} {i:Nat} (h:i<=w.toNat):(vl_ n w i).length=w.toNat:=by
 unfold vl_ zG_;rw [List.length_append,List.length_replicate,List.length_drop,Qy_];omega
theorem uR_ {n w:Int} {j:Nat} (h:j < w.toNat):(zG_ n w).getD j 0=Ky_ n w j:=by
 unfold zG_ q1_
 rw [List.getD_eq_getElem?_getD,List.getElem?_map,List.getElem?_range h];rfl
theorem Gd_ {n w:Int} {i:Nat} (h:i < w.toNat):(vl_ n w i).set (w.toNat - 1 - i) (Ky_ n w (w.toNat - 1 - i:Nat))=vl_ n w (i+1):=by
 have h1:w.toNat - i=(w.toNat - (i+1))+1:=by omega
 have hbl:(zG_ n w).length=w.toNat:=by unfold zG_;rw [Qy_]
 unfold vl_
 rw [h1,List.replicate_succ',List.append_assoc,List.set_append_right _ _ (by rw [List.length_replicate];omega),List.length_replicate,show w.toNat - 1 - i - (w.toNat - (i+1))=0 by omega]
 rw [zw_ (l:=zG_ n w) (i:=w.toNat - (i+1)) (by omega) 0,uR_ (by omega),show w.toNat - (i+1)=w.toNat - 1 - i by omega]
 rfl
def UW_:IR:=
(sq (kr [0,1] [oD 4 (.mov (.c (.imm (.int .u8) [])))])
(sq (.reg [oM 7 1,
oD 8 (.mkrow (.int .u8) 1 (0:Int) 7 7),
oM 5 8])
(sq (sq (.reg [oD 6 (.mov (cI 0))])
(.block 0
(.loop
(sq (sq (kr [0,1,5,6] [oM 9 6,
oM 10 1,
oB 11 .lss 9 10])
(.cond 11
.skip
(.exit 0)))
(sq (.block 1
(kr [0,1,5,6] [oM 14 5,
oM 15 1,
oB 16 .sub 15 (cI 1),
oM 17 6,
oB 18 .sub 16 17,
oM 19 0,
oM 20 6,
oB 21 .mul (cI 8) 20,
oB 22 .shr 19 21,
oD 23 (.conv .u8 22),
oI 24 1 14 18,
oS 1 24 23]))
(kr [0,1,5,6] [oM 12 6,
oB 13 .add 12 (cI 1),
oM 6 13]))))))
(sq (kr [5] [oM 25 5,
oM 4 25])
.ret))))
def Us_:List RD:=[.tmp 4 false none]
theorem UE_:zl_ Tryz.prog Tryz.f54 UW_ Us_=true:=by kernel_rfl
def ko_:List AV->List Obj->Option (Prop × AV × List Obj)
 | [.int .u64 n,.int .i64 w],[]=>some ((0<=w/\w<=100,.own 0,[.row false (.int .u8) (zG_ n w)]))
 | _,_=>none
theorem Ki_:zf_ Tryz.prog 54 (RwF ko_).sum:=by
 refine wP_ Tryz.func54 UE_ (ze_ _) fun args objs p v o e=>?_
 unfold ko_ at e
 split at e
 ·rename_i n w
  cases e
  refine ⟨rfl,fun hw ho hp=>?_⟩
  repeat'(intro t ht;first|(cases t<;>first|(cases ht;done)|(try simp only[zh_]at ht))|((first|refine za_ ht ?_|refine ht ?_ ?_|refine ht.1 ?_ ?_|refine ht ?_)<;>clear ht))
  all_goals first
   | ((try simp only [zm_,zn_,zk_] at*);omega)
   | (intro r h1 h2;clear h1;refine h2 ⟨[0,1,5,6],Nat,(fun i=>(i:Int)<=w),fun i=>[.int .u64 n,.int .i64 w,.own 0,.int .i64 i],fun i=>[.row false (.int .u8) (vl_ n w i)],fun i=>w.toNat - i,⟨0,hp.1,rfl,by simp only [Gc_]⟩,?_⟩;clear h2)
  intro i hi
  repeat'(intro t ht;first|(cases t<;>first|(cases ht;done)|(try simp only[zh_]at ht))|((first|refine za_ ht ?_|refine ht ?_ ?_)<;>clear ht)|(refine ht.1 (by simp only[zk_];omega) ?_;clear ht)|(refine ht.2 ?_;clear ht)|(refine ht ?_;clear ht))
  all_goals first
   | omega
   | (simp only [hc_ (show i<=w.toNat by omega)];omega)
   | (have e:w.toNat - i=0:=by omega
      refine ⟨rfl,?_⟩;unfold vl_;rw [e];rfl)
   | (have hlt:i < w.toNat:=by omega
      refine ⟨i+1,by dsimp only;omega,by dsimp only;omega,rfl,?_⟩
      dsimp only
      rw [<- Gd_ hlt]
      have e1:(w - 1 - (i:Int)).toNat=w.toNat - 1 - i:=by omega
      have e2:Ky_ n w ((w.toNat - 1 - i:Nat):Int)=IntKind.u8.wrap (n.fdiv (2 ^ min (8*(i:Int)).toNat IntKind.u64.bits)):=by
       rw [y9_];unfold Ky_
       rw [show w - 1 - ((w.toNat - 1 - i:Nat):Int)=i by omega];rfl
      rw [e1,e2])
 ·cases e
def kv_ (b:List Int) (c:Int):Nat->Nat
 | 0=>0
 | k+1=>if b.getD k 0=c then kv_ b c k else k+1
def wJ_ (b:List Int) (c:Int):List Int:=b.take (kv_ b c b.length)
def Kh_ (b:List Int) (c:Int):List Int:=b.dropWhile fun x=>decide (x=c)
theorem yl_ {b:List Int} {k j:Nat} (h:j < k):(b.take k).getD j 0=b.getD j 0:=by
 rw [List.getD_eq_getElem?_getD,List.getElem?_take,if_pos h,<- List.getD_eq_getElem?_getD]
def kL_:IR:=
(sq (kr [0,1] [oD 4 (.mov (.c (.imm (.int .u8) [])))])
(sq (.block 0
(.loop
(sq (sq (kr [0,1] [oM 5 0,
oE 6 5,
oB 7 .gtr 6 (cI 0),
oM 8 7,
oT 8 9 (.mov 0),
oT 8 10 (.mov 0),
oT 8 11 (.len 10),
oT 8 12 (.bin .sub 11 (cI 1)),
oT 8 13 (.indexSl 1 9 12),
oT 8 14 (.load none 13),
oT 8 15 (.mov 1),
oT 8 16 (.bin .eql 14 15),
oP 17 8 16 cF])
(.cond 17
.skip
(.exit 0)))
(.block 1
(kr [0,1] [oM 18 0,
oM 19 0,
oE 20 19,
oB 21 .sub 20 (cI 1),
oD 22 (.slice 1 18 none (some 21) none),
oM 0 22])))))
(sq (kr [0] [oM 23 0,
oM 4 23])
.ret)))
def kD_:List RD:=[.tmp 4 true (some (.int .u8))]
theorem kE_:zl_ Tryz.prog Tryz.f97 kL_ kD_=true:=by kernel_rfl
def Zw_:List AV->List Obj->Option (Prop × AV)
 | [.imm (.int .u8) b,.int .u8 c],[]=>some ((b.length<=140737488355328,.imm (.int .u8) (wJ_ b c)))
 | _,_=>none
theorem kd_:zf_ Tryz.prog 97 (RoF Zw_).sum:=by
 refine zi_ Tryz.func97 kE_ (ze_ _) fun args objs p v e=>?_
 unfold Zw_ at e
 split at e
 ·rename_i b c
  cases e
  refine ⟨rfl,fun hw ho hp=>?_⟩
  change List Int at b
  repeat'(intro t ht;first|(cases t<;>first|(cases ht;done)|(try simp only[zh_]at ht))|((first|refine za_ ht ?_|refine ht ?_ ?_|refine ht.1 ?_ ?_|refine ht ?_)<;>clear ht))
  all_goals first
   | (intro r h1 h2;clear h1;refine h2 ⟨[0,1],Nat,(fun k=>k<=b.length/\kv_ b c b.length=kv_ b c k),fun k=>[.imm (.int .u8) (b.take k),.int .u8 c],fun _=>[],fun k=>k,⟨b.length,⟨Nat.le_refl _,rfl⟩,by simp only [List.take_length],rfl⟩,?_⟩;clear h2)
  rintro k ⟨hk,he⟩
  have hl:(b.take k).length=k:=by rw [List.length_take];omega
  repeat'(intro t ht;first|(cases t<;>first|(cases ht;done)|(try simp only[zh_]at ht))|((first|refine za_ ht ?_|refine ht ?_ ?_|refine ht.1 ?_ ?_|refine ht ?_)<;>clear ht))
  all_goals first
   | ((try simp only [zm_,zn_,zk_] at*);omega)
   | (have h0:k=0:=by omega
      refine ⟨?_,rfl⟩;unfold wJ_;rw [he,h0];rfl)
   | (obtain ⟨j,rfl⟩:∃ j,k=j+1:=⟨k - 1,by omega⟩
      have e:(((b.take (j+1)).length:Int) - 1).toNat=j:=by omega
      first
       | (have hx:¬ (b.take (j+1)).getD (((b.take (j+1)).length:Int) - 1).toNat 0=c:=by assumption
          rw [e,yl_ (Nat.lt_succ_self j)] at hx
          have h1:kv_ b c (j+1)=j+1:=if_neg hx
          refine ⟨?_,rfl⟩;unfold wJ_;rw [he,h1])
       | (have hx:(b.take (j+1)).getD (((b.take (j+1)).length:Int) - 1).toNat 0=c:=by assumption
          rw [e,yl_ (Nat.lt_succ_self j)] at hx
          have h1:kv_ b c (j+1)=kv_ b c j:=if_pos hx
          refine ⟨j,⟨by omega,by rw [he,h1]⟩,Nat.lt_succ_self j,?_,rfl⟩
          dsimp only;rw [e,List.take_take,Nat.min_eq_left (Nat.le_succ j)]))
 ·cases e
def Kc_:IR:=
(sq (kr [0,1] [oD 4 (.mov (.c (.imm (.int .u8) [])))])
(sq (.block 0
(.loop
(sq (sq (kr [0,1] [oM 5 0,
oE 6 5,
oB 7 .gtr 6 (cI 0),
oM 8 7,
oT 8 9 (.mov 0),
oT 8 10 (.indexSl 1 9 (cI 0)),
oT 8 11 (.load none 10),
oT 8 12 (.mov 1),
oT 8 13 (.bin .eql 11 12),
oP 14 8 13 cF])
(.cond 14
.skip
(.exit 0)))
(.block 1
(kr [0,1] [oM 15 0,
oD 16 (.slice 1 15 (some (cI 1)) none none),
oM 0 16])))))
(sq (sq (kr [0] [oM 17 0,
oE 18 17,
oB 19 .eql 18 (cI 0)])
(.cond 19
(sq (.reg [oD 4 (.mov (.c (.imm (.int .u8) [])))])
.ret)
.skip))
(sq (.reg [oM 20 0,
oM 4 20])
.ret))))
def k7_:List RD:=[.tmp 4 true (some (.int .u8))]
theorem Ka_:zl_ Tryz.prog Tryz.f96 Kc_ k7_=true:=by kernel_rfl
def ZI_:List AV->List Obj->Option (Prop × AV)
 | [.imm (.int .u8) b,.int .u8 c],[]=>some ((b.length<=140737488355328,.imm (.int .u8) (Kh_ b c)))
 | _,_=>none
theorem kz_:zf_ Tryz.prog 96 (RoF ZI_).sum:=by
 refine zi_ Tryz.func96 Ka_ (ze_ _) fun args objs p v e=>?_
 unfold ZI_ at e
 split at e
 ·rename_i b c
  cases e
  refine ⟨rfl,fun hw ho hp=>?_⟩
  change List Int at b
  repeat'(intro t ht;first|(cases t<;>first|(cases ht;done)|(try simp only[zh_]at ht))|((first|refine za_ ht ?_|refine ht ?_ ?_|refine ht.1 ?_ ?_|refine ht ?_)<;>clear ht))
  all_goals first
   | (intro r h1 h2;clear h1;refine h2 ⟨[0,1],Nat,(fun k=>k<=b.length/\Kh_ b c=Kh_ (b.drop k) c),fun k=>[.imm (.int .u8) (b.drop k),.int .u8 c],fun _=>[],fun k=>b.length - k,⟨0,⟨Nat.zero_le _,rfl⟩,rfl,rfl⟩,?_⟩;clear h2)
  rintro k ⟨hk,he⟩
  have hl:(b.drop k).length=b.length - k:=List.length_drop
  repeat'(intro t ht;first|(cases t<;>first|(cases ht;done)|(try simp only[zh_]at ht))|((first|refine za_ ht ?_|refine ht ?_ ?_|refine ht.1 ?_ ?_|refine ht ?_)<;>clear ht))
  all_goals first
   | ((try simp only [zm_,zn_,zk_] at*);omega)
   | (exfalso;omega)
   | (have h0:b.drop k=[]:=List.eq_nil_of_length_eq_zero (by omega)
      refine ⟨?_,rfl⟩;rw [he,h0];rfl)
   | (have hlt:k < b.length:=by omega
      first
       | (have hx:¬ (b.drop k).getD 0 0=c:=by assumption
          rw [Qv_] at hx
          have h1:Kh_ (b.drop k) c=b.drop k:=by
           unfold Kh_;rw [zw_ hlt 0,List.dropWhile_cons_of_neg (by simpa using hx)]
          refine ⟨?_,rfl⟩;rw [he,h1])
       | (have hx:(b.drop k).getD 0 0=c:=by assumption
          rw [Qv_] at hx
          have h1:Kh_ (b.drop k) c=Kh_ (b.drop (k+1)) c:=by
           unfold Kh_;rw [zw_ hlt 0,List.dropWhile_cons_of_pos (by simpa using hx)]
          refine ⟨k+1,⟨hlt,by rw [he,h1]⟩,by dsimp only;omega,?_,rfl⟩
          dsimp only;rw [<- List.drop_drop];rfl))
 ·cases e
theorem gX_:∀ (b:List Int),decide ((Kh_ (wJ_ b 0) 0).length=0)=jl_ b:=by
 intro b
 have hR:∀ k ≤ b.length,(b.take (kv_ b 0 k)).all (fun c=>decide (c=0))=(b.take k).all fun c=>decide (c=0):=by
  intro k
  induction k with
  | zero=>intro _;rfl
  | succ k ih=>
    intro hk
    unfold kv_
    split
    ·rename_i h
     rw [ih (by omega),List.take_succ_eq_append_getElem (by omega),List.all_append]
     have:b[k]=0:=by rw [List.getD_eq_getElem?_getD,List.getElem?_eq_getElem (by omega)] at h;exact h
     simp [this]
    ·rfl
 have hL:∀ l:List Int,decide ((l.dropWhile fun x=>decide (x=0)).length=0)=l.all fun c=>decide (c=0):=by
  intro l
  induction l with
  | nil=>rfl
  | cons a l ih=>
    by_cases h:a=0
    ·rw [List.dropWhile_cons_of_pos (by simpa using h),ih];simp [h]
    ·rw [List.dropWhile_cons_of_neg (by simpa using h)];simp [h]
 unfold Kh_ wJ_ jl_
 rw [hL,hR _ (Nat.le_refl _),List.take_length]
def yb_:IR:=
(sq (kr [0,1] [oD 4 (.mov (.c (.imm (.int .u8) [])))])
(sq (sq (.reg [oM 7 0,
oE 8 7,
oB 9 .eql 8 (cI 0)])
(.cond 9
(sq (.reg [oD 4 (.mov (.c (.imm (.int .u8) [])))])
.ret)
.skip))
(sq (sq (.reg [oM 10 1,
oB 11 .eql 10 (.c (.str []))])
(.cond 11
(sq (kr [0] [oM 12 0,
oM 4 12])
.ret)
.skip))
(sq (sq (kr [0,1] [oM 13 1,
oD 14 (.slen 13),
oB 15 .eql 14 (cI 1),
oM 16 15,
oT 16 17 (.mov 1),
oT 16 18 (.sindex 17 (cI 0)),
oT 16 19 (.bin .lss 18 (.c (.int .u8 128))),
oP 20 16 19 cF])
(.cond 20
(sq (kd [0,1] [(oM 21 0,[]),
(oM 22 1,[0]),
(oD 23 (.sindex 22 (cI 0)),[1]),
(oC 24 97 [21,23],[]),
(oM 25 1,[0,0,0,0]),
(oD 26 (.sindex 25 (cI 0)),[1,0,0,0]),
(oC 27 96 [24,26],[]),
(oM 4 27,[])])
.ret)
.skip))
(sq (sq (kr [0,1] [oM 29 1,
oC 30 98 [29],
oM 28 30,
oX 31 28 0,
oX 32 28 1,
oD 5 (.box [.kb false,.kb false,.kb false,.kb false,.kb false,.kb false,.kb false,.kb false,.kb false,.kb false,.kb false,.kb false,.kb false,.kb false,.kb false,.kb false,.kb false,.kb false,.kb false,.kb false,.kb false,.kb false,.kb false,.kb false,.kb false,.kb false,.kb false,.kb false,.kb false,.kb false,.kb false,.kb false,.kb false,.kb false,.kb false,.kb false,.kb false,.kb false,.kb false,.kb false,.kb false,.kb false,.kb false,.kb false,.kb false,.kb false,.kb false,.kb false,.kb false,.kb false,.kb false,.kb false,.kb false,.kb false,.kb false,.kb false,.kb false,.kb false,.kb false,.kb false,.kb false,.kb false,.kb false,.kb false,.kb false,.kb false,.kb false,.kb false,.kb false,.kb false,.kb false,.kb false,.kb false,.kb false,.kb false,.kb false,.kb false,.kb false,.kb false,.kb false,.kb false,.kb false,.kb false,.kb false,.kb false,.kb false,.kb false,.kb false,.kb false,.kb false,.kb false,.kb false,.kb false,.kb false,.kb false,.kb false,.kb false,.kb false,.kb false,.kb false,.kb false,.kb false,.kb false,.kb false,.kb false,.kb false,.kb false,.kb false,.kb false,.kb false,.kb false,.kb false,.kb false,.kb false,.kb false,.kb false,.kb false,.kb false,.kb false,.kb false,.kb false,.kb false,.kb false,.kb false,.kb false,.kb false,.kb false,.kb false,.kb false,.kb false,.kb false,.kb false,.kb false,.kb false,.kb false,.kb false,.kb false,.kb false,.kb false,.kb false,.kb false,.kb false,.kb false,.kb false,.kb false,.kb false,.kb false,.kb false,.kb false,.kb false,.kb false,.kb false,.kb false,.kb false,.kb false,.kb false,.kb false,.kb false,.kb false,.kb false,.kb false,.kb false,.kb false,.kb false,.kb false,.kb false,.kb false,.kb false,.kb false,.kb false,.kb false,.kb false,.kb false,.kb false,.kb false,.kb false,.kb false,.kb false,.kb false,.kb false,.kb false,.kb false,.kb false,.kb false,.kb false,.kb false,.kb false,.kb false,.kb false,.kb false,.kb false,.kb false,.kb false,.kb false,.kb false,.kb false,.kb false,.kb false,.kb false,.kb false,.kb false,.kb false,.kb false,.kb false,.kb false,.kb false,.kb false,.kb false,.kb false,.kb false,.kb false,.kb false,.kb false,.kb false,.kb false,.kb false,.kb false,.kb false,.kb false,.kb false,.kb false,.kb false,.kb false,.kb false,.kb false,.kb false,.kb false,.kb false,.kb false,.kb false,.kb false,.kb false,.kb false,.kb false,.kb false,.kb false,.kb false,.kb false,.kb false,.kb false,.kb false,.kb false,.kb false,.kb false,.kb false,.kb false,.kb false,.kb false,.kb false,.kb false,.kb false,.kb false,.kb false,.kb false,.kb false,.kb false]),
oS 256 5 31,
oM 6 32])
(sq (kr [0,1,5,6] [oM 33 6])
(.cond 33
(sq (.reg [oM 34 0,
oC 35 100 [34,5],
oC 36 99 [35,5],
oM 4 36])
.ret)
.skip)))
(sq (kr [0,1] [oM 37 0,
oM 38 1,
oC 39 102 [37,38],
oM 40 1,
oC 41 101 [39,40],
oM 4 41])
.ret))))))
def XN_:List RD:=[.tmp 4 true (some (.int .u8))]
theorem XZ_:zl_ Tryz.prog Tryz.f94 yb_ XN_=true:=by kernel_rfl
def k1_:List AV->List Obj->Option (Prop × AV)
 | [.imm (.int .u8) b,.str [0]],[]=>some ((b.length<=140737488355328,.imm (.int .u8) (Kh_ (wJ_ b 0) 0)))
 | _,_=>none
theorem W0_:zf_ Tryz.prog 94 (RoF k1_).sum:=by
 refine zi_ Tryz.func94 XZ_ (zc_ (s:=RoF Zw_) kd_ (zc_ (s:=RoF ZI_) kz_ (ze_ _))) fun args objs p v e=>?_
 unfold k1_ at e
 split at e
 ·rename_i b
  cases e
  refine ⟨rfl,fun hw ho hp=>?_⟩
  change List Int at b
  have hl:(wJ_ b 0).length<=b.length:=by unfold wJ_;rw [List.length_take];omega
  repeat'(intro t ht;first|(cases t<;>first|(cases ht;done)|(try simp only[zh_]at ht))|((first|refine za_ ht ?_|refine ht ?_ ?_|refine ht.1 ?_ ?_|refine ht ?_)<;>clear ht))
  all_goals first
   | exact hp
   | exact ⟨by decide,by decide⟩
   | exact Nat.le_trans hl hp
   | exact ⟨rfl,rfl⟩
   | (have hb:b=[]:=List.eq_nil_of_length_eq_zero (by omega)
      refine ⟨?_,rfl⟩;rw [hb];rfl)
 ·cases e
theorem xh_:∀ (w xs b r:List Int),(∀ n ∈ w,n ≠ 0/\n<=8/\-64<=n)->jE_ w xs b=some r->(r.length:Int)=b.length+(w.map qq_).sum
 | [],xs,b,r,_,h=>by simp only [jE_,Option.some.injEq] at h;subst h;simp
 | n :: w,xs,b,r,hw,h=>by
   have hn:=hw n (by simp)
   have hw':∀ n ∈ w,n ≠ 0/\n<=8/\-64<=n:=fun m hm=>hw m (by simp [hm])
   simp only [jE_] at h
   split at h
   ·have ih:=xh_ w _ _ r hw' h
    have hl:=zZ_ (n:=0) (w:=0 - n) (by omega)
    rw [List.length_append] at ih
    rw [List.map_cons,List.sum_cons,Xf_ (by assumption)];omega
   ·cases xs with
    | nil=>cases h
    | cons x ys=>
      simp only at h
      split at h
      ·cases h
      ·have ih:=xh_ w _ _ r hw' h
       have hl:=zZ_ (n:=x) (w:=n) (by omega)
       rw [List.length_append] at ih
       rw [List.map_cons,List.sum_cons,v7_ (by assumption)];omega
end Go.Eng
