/- Parts of the proof: EOps10. No condition. -/
import Derived.Test.YtimkdohmkfjfaaaGreatDoorXK05
import Derived.WalkKit
import Derived.MapFrom
import Derived.DeepKeys3
import Derived.Lib.Overlaps
namespace Go.Eng
set_option linter.unusedVariables false
set_option linter.unusedSimpArgs false
open Go.RowKit
section ops
variable {P:Program} {Γ:Env} {o:Oper} {L:List Opd} {fr:zd_} {F:List Nat} {wr:Bool} {st:zc_} {nx:Nat} {K:AV->zc_->Nat->Prop}
theorem zbU_ {x:Operand} (h:hq_ x=true) (a:Act):a.eval x=.slice none 0 0:=by
 unfold hq_ at h
 split at h
 ·rfl
 ·cases h
theorem ho_ {t:Ty} (hok:zy_ P o.op (.nilrow t)=true) (ev:zu_ Γ (.nilrow t) fr st nx K):MOK P o [] fr F wr st nx K:=by
 simp only [zu_] at ev
 simp only [zy_] at hok
 have hop:∃ x,hq_ x=true/\∀ a:Act,execOp a.eval o=(do pure (.value (<- (pure (a.eval x):Sem Value)))):=by
  split at hok
  ·rename_i x ho;exact ⟨x,hok,fun a=>by unfold execOp;rw [ho];rfl⟩
  ·rename_i x ho;exact ⟨x,hok,fun a=>by unfold execOp;rw [ho];rfl⟩
  ·cases hok
 obtain ⟨x,hx,hex⟩:=hop
 refine kW_ ev (fun _ _ h=>by cases h) fun {I w m a σ} hf hH ha hu=>⟨_,hex a,.slice none 0 0,w,none,0,0,t.size,by rw [zbU_ hx a];rfl,Fr.refl _ _,fun b hb=>(by cases hb),fun _=>?_,fun _=>?_⟩
 ·exact ⟨M.push_sz _ _ _ _ _ _,(M.push_len _ _ _ _ _ _).symm,Nat.zero_le _,by rw [M.push_cap];exact Nat.zero_le _,.inl ⟨M.push_blk _ _ _ _ _ _,M.push_cap _ _ _ _ _ _⟩⟩
 ·exact ⟨none,0,0,rfl,.inr rfl,(M.push_len _ _ _ _ _ _).symm,(M.push_cap _ _ _ _ _ _).symm,Nat.le_refl _,Nat.zero_le _,.inl ⟨M.push_blk _ _ _ _ _ _,rfl,rfl⟩⟩
theorem zb2_ {t k e:TypeId} {ts:Array TypeId} {ty:TypeId} {b:Nat} {es:Array MapEntry} {c:Nat} {w:World} (h0:ts[0]?=some t) (ht:P.underlying t=some (.map k e)) (hb:w.heap[b]?=some (.map es c)):
 (Builtin.len_ ts ty #[.map (some b)]).run P w=.ok (.int .i64 es.size) w:=by
 simp [Builtin.len_,h0,run_underlying ht,goInt,MapKept.run_getObj_map hb]
theorem B4_ {x':Opd} (hok:zy_ P o.op (.mlen x')=true) (ev:zu_ Γ (.mlen x') fr st nx K):MOK P o [x'] fr (zZ_ [x'] fr) wr st nx K:=by
 simp only [zu_] at ev
 simp only [zy_] at hok
 split at hok
 ·rename_i args ts ho
  simp only [Bool.and_eq_true] at hok
  obtain ⟨h1,h2⟩:=hok
  obtain ⟨x,rfl,hx⟩:=Vv_ h1
  split at h2
  ·rename_i t ht
   obtain ⟨k,e,he⟩:=g7_ h2
   split at ev
   ·rename_i i hb
    split at ev
    ·rename_i q kt vt l hl
     obtain ⟨hn,ev⟩:=zj_ ev
     refine zB_ ev fun {I w m a σ} hf hH ha=>⟨Builtin.len_ ts o.type #[a.eval x],by rw [qI_ ho];simp [builtin],.int .i64 l.length,?_,?_⟩
     ·exact ZN_ (KU_ (by unfold maxLen;omega))
     ·have hi:σ i=some (.map q kt vt l):=by rw [ha i (zD_ Z5_ hb i (by simp [AV.ids,AV.ids1,AV.ids0])),hl]
      obtain ⟨b,es,c,q1,q2,q3⟩:=hH.obj i _ hi
      have hv:=hf.rv Z5_ hx;rw [hb] at hv
      obtain ⟨b',q4,q5,_⟩:=hv
      rw [q1] at q4;cases q4
      rw [q5,zb2_ ht he q2,q3.1]
    ·exact ev.elim
   ·exact ev.elim
  ·cases h2
 ·cases hok
theorem Bt_ {x':Opd} (hok:zy_ P o.op (.rngs x')=true) (ev:zu_ Γ (.rngs x') fr st nx K):MOK P o [x'] fr F wr st nx K:=by
 simp only [zu_] at ev
 simp only [zy_] at hok
 split at hok
 ·rename_i t x ho
  simp only [Bool.and_eq_true] at hok
  obtain ⟨hx,ht⟩:=hok
  split at ev
  ·rename_i l hl
   refine kW_ ev (fun _ _ h=>by cases h) fun {I w m a σ} hf hH ha hu=>?_
   have hv:=hf.rv Z5_ hx;rw [hl] at hv
   obtain ⟨s,e1,rfl,e3⟩:=hv
   refine ⟨Instr.range t (a.eval x),by unfold execOp;rw [ho],.pointer (some ⟨w.heap.size,0,none⟩),w.alloc (.stringIter s 0),some w.heap.size,0,0,0,?_,Fr.alloc _ _ _,fun b hb=>by cases hb;exact Nat.le_refl _,fun hs=>⟨w.heap.size,s,M.push_blk _ _ _ _ _ _,qu_ _ _,rfl,e3⟩,fun _=>hr_⟩
   rw [e1]
   simp [Instr.range,run_underlying (Wi_ ht)]
  ·exact ev.elim
 ·cases hok
theorem BQ_ {x':Opd} (hok:zy_ P o.op (.nxts x')=true) (ev:zu_ Γ (.nxts x') fr st nx K):MOK P o [x'] fr (zZ_ [x'] fr) true st nx K:=by
 simp only [zu_,zc_.setK_eq] at ev
 simp only [zy_] at hok
 split at hok
 ·rename_i x ho
  split at ev
  ·rename_i i off hb
   split at ev
   ·split at ev
    ·rename_i l p hl
     have hiF:i ∈ zZ_ [x'] fr:=zD_ Z5_ hb i (by simp [AV.ids,AV.ids1,AV.ids0])
     rcases QT_ ev with ⟨hlt,ev⟩ | ⟨hge,ev⟩
     ·have hlt:=of_decide_eq_true hlt
      refine hu_ (j6_ (ob:=.iter l p) (ob':=.iter l (p+(KF_ l p).2)) hl rfl rfl hiF rfl ev fun {I w m a σ} _ hf hH ha=>?_)
      have hi:σ i=some (.iter l p):=by rw [ha i hiF,hl]
      obtain ⟨b,s,q1,q2,rfl,q4⟩:=hH.obj i _ hi
      have hv:=hf.rv Z5_ hok;rw [hb] at hv
      obtain ⟨b',q5,q6,_⟩:=hv
      rw [q1] at q5;cases q5
      have hsz:p < s.size:=by rw [z2_] at hlt;exact hlt
      have hbl:=ZR_ q2
      refine ⟨.tuple #[.bool true,.int .i64 p,.int .i32 ((KF_ (zO_ s) p).1:Nat)],{w with heap:=w.heap.setIfInBounds b (.stringIter s (p+(KF_ (zO_ s) p).2))},.inl (JV_ (S:=Instr.next (a.eval x) true o.type) (by unfold execOp;rw [ho]) ?_),⟨rfl,rfl,rfl,by simp,fun k _ hk=>?_⟩,fun _=>⟨b,s,q1,?_,rfl,q4⟩,fun _=>?_⟩
      ·rw [q6]
       simp [Instr.next,getObj,setObj,Sem.run,q2,hsz,Br_,goInt]
      ·have hne:k ≠ b:=fun e=>hk (by rw [e];exact q1)
       simp [Array.getElem?_setIfInBounds_ne (Ne.symm hne)]
      ·simp [hbl]
      ·have:=zbx_ (zO_ s) p
       have hml:maxLen<=9223372036854775807:=by decide
       refine ⟨_,rfl,?_⟩
       refine ⟨rfl,⟨rfl,?_⟩,⟨rfl,?_⟩,trivial⟩
       ·exact KU_ (by omega)
       ·constructor
        ·exact Int.le_trans (show IntKind.i32.min<=0 by decide) (Int.natCast_nonneg _)
        ·exact Int.le_trans (Int.ofNat_le.2 this) (by decide)
     ·have hge:=of_decide_eq_false hge
      refine zB_ ev fun {I w m a σ} hf hH ha=>⟨Instr.next (a.eval x) true o.type,by unfold execOp;rw [ho],.tuple #[.bool false],⟨_,rfl,rfl,trivial⟩,?_⟩
      have hi:σ i=some (.iter l p):=by rw [ha i hiF,hl]
      obtain ⟨b,s,q1,q2,rfl,q4⟩:=hH.obj i _ hi
      have hv:=hf.rv Z5_ hok;rw [hb] at hv
      obtain ⟨b',q5,q6,_⟩:=hv
      rw [q1] at q5;cases q5
      have hsz:¬ p < s.size:=by rw [z2_] at hge;exact hge
      rw [q6]
      simp [Instr.next,getObj,Sem.run,q2,hsz]
    ·exact ev.elim
   ·exact ev.elim
  ·exact ev.elim
 ·cases hok
end ops
end Go.Eng
namespace Go.Eng
set_option linter.unusedVariables false
set_option linter.unusedSimpArgs false
open Go.RowKit
theorem uI_ {u:Value} (h:hC_ u=false):u.cells.toList=[u]:=by
 cases u<;>first | rfl | cases h
theorem zbc_ {I:Nat->Prop} {w:World} {m:M} {v:AV} {cv:Value} {c:List AV} (h:RV I w m v cv) (ha:v.isAgg=false) (hc:v.flat=some c):hC_ cv=false:=by
 cases v with
 | undef=>cases hc
 | skp=>cases hc
 | tup=>cases hc
 | agg=>cases ha
 | fn f l c=>obtain ⟨fs,cs,rfl,_⟩:=h;rfl
 | int=>obtain ⟨rfl,_⟩:=h;rfl
 | bool=>cases (show cv=_ from h);rfl
 | kb=>cases (show cv=_ from h);rfl
 | str=>obtain ⟨s,rfl,_⟩:=h;rfl
 | nilp=>cases (show cv=_ from h);rfl
 | nilm=>cases (show cv=_ from h);rfl
 | nils=>cases (show cv=_ from h);rfl
 | ptr=>obtain ⟨_,_,rfl,_⟩:=h;rfl
 | imm=>obtain ⟨_,_,_,rfl,_⟩:=h;rfl
 | iptr=>obtain ⟨_,_,rfl,_⟩:=h;rfl
 | own=>obtain ⟨_,_,_,rfl,_⟩:=h;rfl
 | view=>obtain ⟨_,_,_,rfl,_⟩:=h;rfl
 | rptr=>obtain ⟨_,_,rfl,_⟩:=h;rfl
 | mapv=>obtain ⟨_,_,rfl,_⟩:=h;rfl
 | bview=>obtain ⟨_,_,_,rfl,_⟩:=h;rfl
 | yv=>cases (show cv=_ from h);rfl
 | fnp=>obtain ⟨_,_,rfl,_⟩:=h;rfl
 | jsl=>obtain ⟨⟨_,_,_,rfl,_⟩,_⟩:=h;rfl
 | jptr=>obtain ⟨⟨_,_,rfl,_⟩,_⟩:=h;rfl
 | ai=>obtain ⟨_,rfl,_⟩:=h;rfl
theorem xp_ {t:Ty} {v:AV} {K:t.den->Prop} (ev:b5_ t v K):∃ x,K x/\∀ {I:Nat->Prop} {w:World} {m:M} {cv:Value},RV I w m v cv->WI_ I w t x cv:=by
 unfold b5_ at ev
 split at ev
 ·rename_i hg
  unfold oneK at ev
  split at ev
  ·rename_i c hc
   obtain ⟨x,hx,ev⟩:=JD_ ev
   ·refine ⟨x,ev,fun {I w m cv} h=>⟨k8_ (QV_ h hc) hx,?_⟩⟩
    cases ht:b2_ t with
    | true=>
      rw [ht] at hg
      cases v with
      | agg l=>obtain ⟨cs,rfl,_⟩:=h;rfl
      | _=>cases hg
    | false=>
      rw [ht] at hg
      refine zbc_ h ?_ hc
      cases ha:v.isAgg with
      | false=>rfl
      | true=>rw [ha] at hg;cases hg
  ·exact ev.elim
 ·exact ev.elim
theorem za8_ (t:Ty) (x:t.den):∃ a,(∀ K,za9_ t x K=K a)/\∀ {I:Nat->Prop} {w:World} {m:M} {cv:Value},WI_ I w t x cv->RV1 I w m a cv:=by
 have sc:∀ {a:AV} {t:Ty} {x:t.den},b2_ t=false->t.cells x=[a]->∀ {I:Nat->Prop} {w:World} {m:M} {cv:Value},WI_ I w t x cv->RV1 I w m a cv:=fun {a t x} ht hc {I w m cv} h=>by
  have h1:=qS_ (m:=m) t x _ h.1
  rw [hc,uI_ (h.2.trans ht)] at h1
  exact KC_ h1.1
 have ag:∀ {t:Ty} {x:t.den},b2_ t=true->∀ {I:Nat->Prop} {w:World} {m:M} {cv:Value},WI_ I w t x cv->RV1 I w m (.agg (t.cells x)) cv:=fun {t x} ht {I w m cv} h=>by
  have h1:=qS_ (m:=m) t x _ h.1
  have h2:=h.2.trans ht
  cases cv<;>first | exact ⟨_,rfl,h1⟩ | cases h2
 cases t with
 | int k=>exact ⟨.int k x,fun _=>rfl,sc rfl rfl⟩
 | bool=>exact ⟨.bool x,fun _=>rfl,sc rfl rfl⟩
 | str=>exact ⟨.str x,fun _=>rfl,sc rfl rfl⟩
 | nil=>exact ⟨.agg [],fun _=>rfl,ag (t:=.nil) (x:=x) rfl⟩
 | cons a b=>exact ⟨.agg (Ty.cells (.cons a b) x),fun K=>by show Z1_ _ _=_;exact ZG_ _ _,ag (t:=.cons a b) rfl⟩
 | sl t=>exact ⟨.imm t x,fun _=>rfl,sc rfl rfl⟩
section lists
variable {α β:Type} [DecidableEq α]
theorem xD_:∀ (l:List (α × β)) (k:α),(∀ h:ZB_ l k < l.length,l[ZB_ l k].1=k/\zx_ l k=some l[ZB_ l k].2)/\(¬ ZB_ l k < l.length->zx_ l k=none)
 | [],_=>⟨fun h=>absurd h (by simp),fun _=>rfl⟩
 | (a,b) :: r,k=>by
   obtain ⟨h1,h2⟩:=xD_ r k
   by_cases e:a=k
   ·have e1:ZB_ ((a,b) :: r) k=0:=if_pos e
    have e2:zx_ ((a,b) :: r) k=some b:=if_pos e
    refine ⟨fun h=>?_,fun h=>absurd (by rw [e1];simp) h⟩
    simp only [e1,e2,List.getElem_cons_zero];exact ⟨e,True.intro⟩
   ·have e1:ZB_ ((a,b) :: r) k=ZB_ r k+1:=if_neg e
    have e2:zx_ ((a,b) :: r) k=zx_ r k:=if_neg e
    refine ⟨fun h=>?_,fun h=>?_⟩
    ·have h':ZB_ r k < r.length:=by rw [e1] at h;simpa using h
     simp only [e1,e2,List.getElem_cons_succ];exact h1 h'
    ·rw [e2];exact h2 fun h'=>h (by rw [e1];simpa using h')
theorem HD_:∀ (l:List (α × β)) (k:α) (v:β),QJ_ l k v=if ZB_ l k < l.length then l.set (ZB_ l k) (k,v) else l++[(k,v)]
 | [],_,_=>rfl
 | (a,b) :: r,k,v=>by
   by_cases e:a=k
   ·have e1:ZB_ ((a,b) :: r) k=0:=if_pos e
    rw [e1,if_pos (by simp)]
    show (if a=k then _ else _)=_
    rw [if_pos e];rfl
   ·have e1:ZB_ ((a,b) :: r) k=ZB_ r k+1:=if_neg e
    rw [e1]
    show (if a=k then _ else _)=_
    rw [if_neg e,HD_ r k v]
    by_cases h:ZB_ r k < r.length
    ·rw [if_pos h,if_pos (by simpa using h)];rfl
    ·rw [if_neg h,if_neg (by simpa using h)];rfl
end lists
section ops
variable {P:Program} {Γ:Env} {o:Oper} {L:List Opd} {fr:zd_} {F:List Nat} {wr:Bool} {st:zc_} {nx:Nat} {K:AV->zc_->Nat->Prop}
theorem zbb_ {I:Nat->Prop} {w:World} {k:IntKind} {n:(Ty.int k).den} {cv:Value} (h:WI_ I w (.int k) n cv):cv=.int k n/\inK k n:=by
 obtain ⟨h1,h2⟩:=h
 rw [uI_ h2] at h1
 simp only [RC,List.cons.injEq,and_true] at h1
 exact h1
theorem Vh_ {β:Type} {d:TypeDesc} {k:IntKind} {n:Int}:∀ (l:List (Int × β)) (es:List MapEntry) (i:Nat),l.length=es.length->(∀ j (h:j < l.length) (h':j < es.length),es[j].key=.int k l[j].1)->d=.int k->
 Instr.findNow d (.int k n) es i=some (if ZB_ l n < l.length then (es[ZB_ l n]?).map (fun e=>(i+ZB_ l n,e.val)) else none)
 | [],[],i,_,_,_=>rfl
 | [],_ :: _,_,h,_,_=>by cases h
 | _ :: _,[],_,h,_,_=>by cases h
 | (a,b) :: l,e :: es,i,hl,h,hd=>by
   subst hd
   have h0:=h 0 (by simp) (by simp)
   simp only [List.getElem_cons_zero] at h0
   have hs:Instr.sameNow (.int k) (.int k n) e.key=some (n == a):=by rw [h0];simp [Instr.sameNow]
   unfold Instr.findNow
   rw [hs]
   by_cases e1:a=n
   ·have em:ZB_ ((a,b) :: l) n=0:=if_pos e1
    rw [em,if_pos (by simp)]
    subst e1
    simp
   ·have em:ZB_ ((a,b) :: l) n=ZB_ l n+1:=if_neg e1
    have hb:(n == a)=false:=by simp;exact fun e=>e1 e.symm
    rw [em,hb]
    simp only []
    rw [Vh_ l es (i+1) (by simpa using hl) (fun j h1 h2=>by have:=h (j+1) (by simpa using h1) (by simpa using h2);simpa using this) rfl]
    by_cases hm:ZB_ l n < l.length
    ·rw [if_pos hm,if_pos (by simpa using hm),List.getElem?_cons_succ,show i+1+ZB_ l n=i+(ZB_ l n+1) by omega]
    ·rw [if_neg hm,if_neg (by simpa using hm)]
theorem bR_ {w:World} {e:Bool} {k:IntKind} {n:Int} {a:TypeId} (ha:P.underlying a=some (.int k)):(Instr.checkKey e 10000 a (.int k n)).run P w=.ok () w:=by
 show (Instr.checkKey e (9999+1) a (.int k n)).run P w=.ok () w
 unfold Instr.checkKey
 rw [Sem.run_bind,run_underlying ha]
 rfl
theorem be_ {k:IntKind} {n:Int} {w:World}:(Instr.keyThatStays (.int k n) (.int k n)).run P w=.ok (.int k n) w:=by
 simp [Instr.keyThatStays,Instr.sameBits]
def zG_:(t:Ty)->t.den->List Value
 | .int k,n=>[.int k n]
 | .bool,b=>[.bool b]
 | .cons a b,x=>zG_ a x.1++zG_ b x.2
 | _,_=>[]
def ku_:(t:Ty)->t.den->Value
 | .int k,n=>.int k n
 | .bool,b=>.bool b
 | t,x=>.agg (zG_ t x).toArray
def JM_:(t:Ty)->t.den->Prop
 | .int k,n=>inK k n
 | .bool,_=>True
 | .nil,_=>True
 | .cons a b,x=>JM_ a x.1/\JM_ b x.2
 | _,_=>False
theorem h8_ {I:Nat->Prop} {w:World}:∀ (t:Ty) (ks:List Leaf) (x:t.den) (cs:List Value),kc_ t=some ks->RC I w t x cs->cs=zG_ t x/\JM_ t x
 | .int _,_,_,_,_,h=>by simp only [RC] at h;exact h
 | .bool,_,_,_,_,h=>by simp only [RC] at h;exact ⟨h,trivial⟩
 | .str,_,_,_,h,_=>by cases h
 | .nil,_,_,_,_,h=>by simp only [RC] at h;exact ⟨h,trivial⟩
 | .cons a b,ks,x,cs,h,hr=>by
   simp only [RC] at hr
   obtain ⟨c1,c2,rfl,h1,h2⟩:=hr
   unfold kc_ at h
   split at h
   ·rename_i x1 x2 e1 e2
    obtain ⟨rfl,r1⟩:=h8_ a _ _ _ e1 h1
    obtain ⟨rfl,r2⟩:=h8_ b _ _ _ e2 h2
    exact ⟨rfl,r1,r2⟩
   ·cases h
 | .sl _,_,_,_,h,_=>by cases h
theorem jo_.app:∀ {ks ks':List Leaf} {vs vs':List Value},jo_ ks vs->jo_ ks' vs'->jo_ (ks++ks') (vs++vs')
 | [],_,[],_,_,h=>h
 | _ :: _,_,_ :: _,_,h,h'=>⟨h.1,jo_.app h.2 h'⟩
 | [],_,_ :: _,_,h,_=>h.elim
 | _ :: _,_,[],_,h,_=>h.elim
theorem Vg_:∀ (t:Ty) (ks:List Leaf) (x:t.den),kc_ t=some ks->JM_ t x->jo_ ks (zG_ t x)
 | .int k,_,x,h,hr=>by cases h;exact ⟨⟨_,rfl,hr⟩,trivial⟩
 | .bool,_,x,h,hr=>by cases h;exact ⟨⟨_,rfl⟩,trivial⟩
 | .str,_,_,h,_=>by cases h
 | .nil,_,_,h,_=>by cases h;trivial
 | .cons a b,ks,x,h,hr=>by
   unfold kc_ at h
   split at h
   ·rename_i x1 x2 e1 e2
    cases h
    exact jo_.app (Vg_ a _ _ e1 hr.1) (Vg_ b _ _ e2 hr.2)
   ·cases h
 | .sl _,_,_,h,_=>by cases h
theorem kd_:∀ (t:Ty) (ks:List Leaf) (x:t.den),kc_ t=some ks->(zG_ t x).length=ks.length
 | .int k,_,x,h=>by cases h;rfl
 | .bool,_,x,h=>by cases h;rfl
 | .str,_,_,h=>by cases h
 | .nil,_,_,h=>by cases h;rfl
 | .cons a b,ks,x,h=>by
   unfold kc_ at h
   split at h
   ·rename_i x1 x2 e1 e2
    cases h
    show (zG_ a x.1++zG_ b x.2).length=_
    rw [List.length_append,List.length_append,kd_ a _ _ e1,kd_ b _ _ e2]
   ·cases h
 | .sl _,_,_,h=>by cases h
theorem UE_:∀ (t:Ty) (ks:List Leaf) (x y:t.den),kc_ t=some ks->(zG_ t x).map kx_=(zG_ t y).map kx_->x=y
 | .int k,_,x,y,_,e=>by simpa [zG_,kx_] using e
 | .bool,_,x,y,_,e=>by simpa [zG_,kx_] using e
 | .str,_,_,_,h,_=>by cases h
 | .nil,_,_,_,_,_=>rfl
 | .cons a b,ks,x,y,h,e=>by
   unfold kc_ at h
   split at h
   ·rename_i x1 x2 e1 e2
    have e':(zG_ a x.1).map kx_++(zG_ b x.2).map kx_=(zG_ a y.1).map kx_++(zG_ b y.2).map kx_:=by
     rw [<- List.map_append,<- List.map_append];exact e
    obtain ⟨q1,q2⟩:=List.append_inj e' (by rw [List.length_map,List.length_map,kd_ a _ _ e1,kd_ a _ _ e1])
    exact Prod.ext (UE_ a _ _ _ e1 q1) (UE_ b _ _ _ e2 q2)
   ·cases h
 | .sl _,_,_,_,h,_=>by cases h
structure KeyP (P:Program) (a:TypeId) (kt:Ty):Prop where
 val:∀ {I:Nat->Prop} {w:World} {x:kt.den} {u:Value},WI_ I w kt x u->u=ku_ kt x/\JM_ kt x
 check:∀ (w:World) (e:Bool) (x:kt.den),JM_ kt x->(Instr.checkKey e 10000 a (ku_ kt x)).run P w=.ok () w
 find:∀ {β:Type} (w:World) (x:kt.den) (l:List (kt.den × β)) (es:List MapEntry),JM_ kt x->l.length=es.length->(∀ j (h:j < l.length) (h':j < es.length),es[j].key=ku_ kt l[j].1/\JM_ kt l[j].1)->(Instr.findKey a (ku_ kt x) es).run P w=.ok (if ZB_ l x < l.length then (es[ZB_ l x]?).map (fun e=>(ZB_ l x,e.val)) else none) w
 stays:∀ (w:World) (x:kt.den),JM_ kt x->(Instr.keyThatStays (ku_ kt x) (ku_ kt x)).run P w=.ok (ku_ kt x) w
theorem Vi_ {β:Type} {a:TypeId} {kt:Ty} (heq:∀ (w:World) (x y:kt.den),JM_ kt x->JM_ kt y->(Op.equal a (ku_ kt x) (ku_ kt y)).run P w=.ok (decide (x=y)) w) (w:World) (x:kt.den) (hx:JM_ kt x):∀ (l:List (kt.den × β)) (es:List MapEntry) (i:Nat),l.length=es.length->(∀ j (h:j < l.length) (h':j < es.length),es[j].key=ku_ kt l[j].1/\JM_ kt l[j].1)->
 (Instr.findAsking a (ku_ kt x) es i).run P w=.ok (if ZB_ l x < l.length then (es[ZB_ l x]?).map (fun e=>(i+ZB_ l x,e.val)) else none) w
 | [],[],i,_,_=>rfl
 | [],_ :: _,_,h,_=>by cases h
 | _ :: _,[],_,h,_=>by cases h
 | (p,b) :: l,e :: es,i,hl,h=>by
   have h0:=h 0 (by simp) (by simp)
   simp only [List.getElem_cons_zero] at h0
   have hs:=heq w x p hx h0.2
   unfold Instr.findAsking
   rw [Sem.run_bind,h0.1,hs]
   by_cases e1:p=x
   ·have em:ZB_ ((p,b) :: l) x=0:=if_pos e1
    rw [em,if_pos (by simp)]
    subst e1
    simp
   ·have em:ZB_ ((p,b) :: l) x=ZB_ l x+1:=if_neg e1
    have hb:decide (x=p)=false:=decide_eq_false fun e=>e1 e.symm
    rw [em,hb]
    simp only [Result.andThen_ok]
    have ih:=Vi_ heq w x hx l es (i+1) (by simpa using hl) (fun j h1 h2=>by have:=h (j+1) (by simpa using h1) (by simpa using h2);simpa using this)
    rw [if_neg (by decide),ih]
    by_cases hm:ZB_ l x < l.length
    ·rw [if_pos hm,if_pos (by simpa using hm),List.getElem?_cons_succ,show i+1+ZB_ l x=i+(ZB_ l x+1) by omega]
    ·rw [if_neg hm,if_neg (by simpa using hm)]
theorem Vt_:∀ (n:Nat) (l:List Value),(∀ v ∈ l,Instr.sameBits n v v=true)->((l.zip l).all fun (x,y)=>Instr.sameBits n x y)=true
 | _,[],_=>rfl
 | n,v :: l,h=>by
   rw [List.zip_cons_cons,List.all_cons,Vt_ n l fun u hu=>h u (List.mem_cons_of_mem _ hu),Bool.and_true]
   exact h v (List.mem_cons_self ..)
theorem Vs_ (n:Nat):∀ (t:Ty) (x:t.den),∀ v ∈ zG_ t x,Instr.sameBits n v v=true
 | .int k,x,v,h=>by rw [List.mem_singleton.1 h];simp [Instr.sameBits]
 | .bool,x,v,h=>by rw [List.mem_singleton.1 h];simp [Instr.sameBits]
 | .str,_,_,h=>by cases h
 | .nil,_,_,h=>by cases h
 | .cons a b,x,v,h=>by
   rcases List.mem_append.1 h with h | h
   ·exact Vs_ n a x.1 v h
   ·exact Vs_ n b x.2 v h
 | .sl _,_,_,h=>by cases h
theorem HH_ {a:TypeId} {kt:Ty} (h:HI_ P a kt=true):KeyP P a kt:=by
 unfold HI_ at h
 split at h
 ·rename_i k
  split at h
  ·rename_i k' hk
   simp only [beq_iff_eq] at h
   subst h
   refine ⟨fun {I w x u} hr=>?_,fun w e x _=>bR_ hk,fun {β} w x l es _ hl he=>?_,fun w x _=>be_⟩
   ·obtain ⟨h1,h2⟩:=zbb_ hr
    exact ⟨h1,h2⟩
   ·have h:=Vh_ (β:=β) (d:=.int k) (k:=k) (n:=x) l es 0 hl (fun j h1 h2=>(he j h1 h2).1) rfl
    simp only [Nat.zero_add] at h
    unfold Instr.findKey
    rw [Sem.run_bind,run_underlying hk]
    simp only [Result.andThen]
    show (match Instr.findNow (.int k) (.int k x) es 0 with | some r=>pure r | none=>Instr.findAsking a (.int k x) es:Sem _).run P w=_
    rw [h];rfl
  ·cases h
 ·rename_i ta tb
  simp only [Bool.and_eq_true] at h
  obtain ⟨⟨hw,hk⟩,hl⟩:=h
  split at hl
  ·rename_i ks ks' e1 e2
   have he:=of_decide_eq_true hl
   subst he
   have hlen:=g3_ e2 hw
   have fm:∀ x:(Ty.cons ta tb).den,JM_ (.cons ta tb) x->(ku_ (.cons ta tb) x).formed P a=true:=fun x hx=>by
    have hs:(zG_ (.cons ta tb) x).toArray.size=P.cellsOf a:=by rw [<- hlen,<- kd_ _ _ x e1];simp
    unfold UG_ at hw
    show (Value.agg (zG_ (.cons ta tb) x).toArray).formed P a=true
    simp only [Value.formed]
    split at hw
    ·rename_i e;rw [e];simp [hs]
    ·rename_i e;rw [e];simp [hs]
    ·cases hw
   have kl:∀ x:(Ty.cons ta tb).den,JM_ (.cons ta tb) x->P.keyLits 8 a (ku_ (.cons ta tb) x).cells.toList=some ((zG_ (.cons ta tb) x).map kx_):=fun x hx=>by
    have:(ku_ (.cons ta tb) x).cells.toList=zG_ (.cons ta tb) x:=by show (zG_ (.cons ta tb) x).toArray.toList=_;simp
    rw [this]
    exact xF_ 8 a ks _ e2 (Vg_ _ _ _ e1 hx)
   have heq:∀ (w:World) (x y:(Ty.cons ta tb).den),JM_ (.cons ta tb) x->JM_ (.cons ta tb) y->(Op.equal a (ku_ (.cons ta tb) x) (ku_ (.cons ta tb) y)).run P w=.ok (decide (x=y)) w:=fun w x y hx hy=>by
    obtain ⟨r,hr,hri⟩:=run_equalIn_deep (P:=P) 9992 8 a hk w 8 8 (ku_ (.cons ta tb) x) (ku_ (.cons ta tb) y) _ _ (fm x hx) (fm y hy) (kl x hx) (kl y hy)
    have hrb:r=decide (x=y):=by
     cases r with
     | true=>exact (decide_eq_true (UE_ _ _ _ _ e1 (hri.1 rfl))).symm
     | false=>exact (decide_eq_false fun e=>by subst e;cases hri.2 rfl).symm
    subst hrb;exact hr
   refine ⟨fun {I w x u} hr=>?_,fun w e x hx=>?_,fun {β} w x l es hx hll he=>?_,fun w x hx=>?_⟩
   ·obtain ⟨h1,h2⟩:=hr
    obtain ⟨c1,c2⟩:=h8_ _ _ _ _ e1 h1
    refine ⟨?_,c2⟩
    cases u with
    | agg cs=>
      show Value.agg cs=Value.agg (zG_ (.cons ta tb) x).toArray
      rw [<- c1];rfl
    | _=>cases h2
   ·exact run_checkKey_deep e 9992 8 a hk w 8 (ku_ (.cons ta tb) x) _ (fm x hx) (kl x hx)
   ·rw [run_findKey_eq w hw]
    have:=Vi_ heq w x hx l es 0 hll he
    simpa using this
   ·have hb:Instr.sameBits 10000 (ku_ (.cons ta tb) x) (ku_ (.cons ta tb) x)=true:=by
     show Instr.sameBits (9999+1) (.agg (zG_ (.cons ta tb) x).toArray) (.agg (zG_ (.cons ta tb) x).toArray)=true
     unfold Instr.sameBits
     rw [Bool.and_eq_true]
     exact ⟨by simp,Vt_ _ _ (by simpa using Vs_ 9999 (.cons ta tb) x)⟩
    simp [Instr.keyThatStays,hb]
  ·cases hl
 ·cases h
theorem Go_ {I:Nat->Prop} {w w':World} {q:Bool} {kt vt:Ty} {l:List (kt.den × vt.den)} {es:Array MapEntry} {c:Nat} {n:kt.den} {a:TypeId} (hE:kX_ I w q kt vt l es c) (KP:KeyP P a kt) (hn:JM_ kt n):
 (Instr.findKey a (ku_ kt n) es.toList).run P w'=.ok (if ZB_ l n < l.length then (es[ZB_ l n]?).map (fun e=>(ZB_ l n,e.val)) else none) w':=by
 have h:=KP.find w' n l es.toList hn (by simpa using hE.1) (fun j h1 h2=>by
  have:=(hE.2.1 j h1 (by simpa using h2)).1
  have:=KP.val this
  simpa using this)
 simp only [Array.getElem?_toList] at h
 exact h
theorem zbj_ {t:TypeId} {ty:Ty} {z:ty.den} (h:xn_ P t ty z=true) (h2:YW_ P t ty=true):∃ v,(∀ w:World,(zeroValue t).run P w=.ok v w)/\∀ (I:Nat->Prop) (w:World),WI_ I w ty z v:=by
 obtain ⟨i,v,e1,e2,e3⟩:=XX_ h
 refine ⟨v,fun w=>Qg_ e1 e2,fun I w=>⟨e3 I w,?_⟩⟩
 unfold YW_ at h2
 rw [e1] at h2
 simp only [e2,beq_iff_eq] at h2
 rw [<- h2];cases v<;>rfl
theorem hx_ {I:Nat->Prop} {w:World} {q:Bool} {kt vt:Ty} {l:List (kt.den × vt.den)} {es:Array MapEntry} {c b:Nat} {n:kt.den} {t a e:TypeId} {z:vt.den} {ok:Bool} (hE:kX_ I w q kt vt l es c) (ht:P.underlying t=some (.map a e)) (KP:KeyP P a kt) (hn:JM_ kt n)
 (hz:xn_ P e vt z=true) (hz2:YW_ P e vt=true) (hb:w.heap[b]?=some (.map es c)):
 ∃ r,WI_ I w vt ((zx_ l n).getD z) r/\(Instr.lookup t (.map (some b)) (ku_ kt n) ok).run P w=.ok (if ok then .tuple #[r,.bool (zx_ l n).isSome] else r) w:=by
 obtain ⟨v,z1,z2⟩:=zbj_ hz hz2
 obtain ⟨h1,h2⟩:=xD_ l n
 have hf:=Go_ (P:=P) (w':=w) (n:=n) hE KP hn
 have hck:∀ e:Bool,(Instr.checkKey e 10000 a (ku_ kt n)).run P w=.ok () w:=fun e=>KP.check w e n hn
 by_cases hm:ZB_ l n < l.length
 ·obtain ⟨k1,k2⟩:=h1 hm
  have hes:ZB_ l n < es.size:=by rw [<- hE.1];exact hm
  rw [if_pos hm,Array.getElem?_eq_getElem hes] at hf
  refine ⟨es[ZB_ l n].val,?_,?_⟩
  ·rw [k2];exact (hE.2.1 _ hm hes).2
  ·simp [Instr.lookup,run_underlying ht,MapKept.run_getObj_map hb,hck,hf,k2,Result.andThen]
 ·rw [if_neg hm] at hf
  refine ⟨v,?_,?_⟩
  ·rw [h2 hm];exact z2 I w
  ·simp [Instr.lookup,run_underlying ht,MapKept.run_getObj_map hb,hck,hf,h2 hm,z1,Result.andThen]
theorem B6_ {kt vt:Ty} {z:vt.den} {ok:Bool} {x' k':Opd} (hok:zy_ P o.op (.mget kt vt z ok x' k')=true) (ev:zu_ Γ (.mget kt vt z ok x' k') fr st nx K):MOK P o [x',k'] fr (zZ_ [x',k'] fr) wr st nx K:=by
 simp only [zu_] at ev
 simp only [zy_] at hok
 split at hok
 ·rename_i t x k ok' ho
  simp only [Bool.and_eq_true,beq_iff_eq] at hok
  obtain ⟨⟨⟨rfl,hx⟩,hk⟩,ht⟩:=hok
  split at ht
  ·rename_i a b hm
   simp only [Bool.and_eq_true] at ht
   obtain ⟨⟨ha,hz⟩,hz2⟩:=ht
   have KP:=HH_ ha
   obtain ⟨n,ev,hn⟩:=xp_ ev
   split at ev
   ·rename_i i hb
    split at ev
    ·rename_i q kt' vt' l hl
     split at ev
     ·rename_i e1 e2 _ _
      subst e1;subst e2
      simp only [] at ev
      obtain ⟨av,ea,hav⟩:=za8_ vt' ((zx_ l n).getD z)
      have main:∀ {I:Nat->Prop} {w:World} {m:M} {a:Act} {σ:Sto},FOn [x',k'] fr I w m a->HRel I w m σ->(∀ i ∈ zZ_ [x',k'] fr,σ i=st.get i)->∃ r,WI_ I w vt' ((zx_ l n).getD z) r/\(Instr.lookup t (a.eval x) (a.eval k) ok').run P w=.ok (if ok' then .tuple #[r,.bool (zx_ l n).isSome] else r) w:=fun {I w m a σ} hf hH ha'=>by
       have hi:σ i=some (.map q kt' vt' l):=by rw [ha' i (zD_ ZL_ hb i (by simp [AV.ids,AV.ids1,AV.ids0])),hl]
       obtain ⟨b',es,c,q1,q2,q3⟩:=hH.obj i _ hi
       have hv:=hf.rv ZL_ hx;rw [hb] at hv
       obtain ⟨b'',q4,q5,_⟩:=hv
       rw [q1] at q4;cases q4
       obtain ⟨hkv,hkR⟩:=KP.val (hn (hf.rv qb_ hk))
       rw [q5,hkv]
       exact hx_ q3 hm KP hkR hz hz2 q2
      have hex:∀ a:Act,execOp a.eval o=(do pure (.value (<- Instr.lookup t (a.eval x) (a.eval k) ok'))):=fun a=>by unfold execOp;rw [ho]
      cases ok' with
      | true=>
        simp only [ea] at ev
        refine zB_ ev fun {I w m a σ} hf hH ha'=>?_
        obtain ⟨r,r1,r2⟩:=main hf hH ha'
        exact ⟨_,hex a,_,⟨#[r,.bool (zx_ l n).isSome],rfl,hav r1,rfl,trivial⟩,r2⟩
      | false=>
        simp only [ea] at ev
        refine zB_ ev fun {I w m a σ} hf hH ha'=>?_
        obtain ⟨r,r1,r2⟩:=main hf hH ha'
        exact ⟨_,hex a,_,Jj_ (qz_ (hav r1)),r2⟩
     ·exact ev.elim
    ·exact ev.elim
   ·exact ev.elim
  ·cases ht
 ·cases hok
theorem vq_ {w:World} {b:Nat} {es:Array MapEntry} {c:Nat} {y:Go.Obj} (h:w.heap[b]?=some (.map es c)):(setObj b y).run P w=.ok () {w with heap:=w.heap.setIfInBounds b y}:=by
 simp [setObj,Sem.run,h]
theorem vr_ {w:World} {b:Nat} {x y:Go.Obj} (h:w.heap[b]?=some x):({w with heap:=w.heap.setIfInBounds b y}:World).heap[b]?=some y:=by
 have:=ZR_ h
 simp [this]
theorem ui_ {w:World} {m:M} {i b:Nat} {y:Go.Obj} (hb:m.blk i=some b):Fr (fun b=>m.blk i=some b) w {w with heap:=w.heap.setIfInBounds b y}:=
 ⟨rfl,rfl,rfl,by simp,fun k _ hk=>by
  have hne:k ≠ b:=fun e=>hk (by rw [e];exact hb)
  simp [Array.getElem?_setIfInBounds_ne (Ne.symm hne)]⟩
theorem Gr_ {I:Nat->Prop} {w:World} {kt vt:Ty} {l:List (kt.den × vt.den)} {es:Array MapEntry} {c j:Nat} {f:MapEntry->MapEntry} {p:kt.den × vt.den} (h:kX_ I w true kt vt l es c) (hj:j < l.length)
 (hf:∀ h':j < es.size,WI_ I w kt p.1 (f es[j]).key/\WI_ I w vt p.2 (f es[j]).val/\(f es[j]).born=es[j].born):kX_ I w true kt vt (l.set j p) (es.modify j f) c:=by
 obtain ⟨h1,h2,h3,h4⟩:=h
 obtain ⟨h5,h6⟩:=h4 rfl
 have hj':j < es.size:=by omega
 obtain ⟨f1,f2,f3⟩:=hf hj'
 refine ⟨by simp [h1],fun i hi hi'=>?_,fun i hi=>?_,fun _=>⟨by simp [h5],fun i hi=>?_⟩⟩
 ·simp only [List.length_set] at hi
  simp only [Array.size_modify] at hi'
  rw [Array.getElem_modify]
  by_cases e:j=i
  ·subst e
   rw [if_pos rfl,List.getElem_set_self];exact ⟨f1,f2⟩
  ·rw [if_neg e,List.getElem_set_ne e];exact h2 i hi hi'
 ·simp only [Array.size_modify] at hi
  rw [Array.getElem_modify]
  split
  ·rename_i e;subst e;rw [f3];exact h3 _ hi
  ·exact h3 _ hi
 ·simp only [Array.size_modify] at hi
  rw [Array.getElem_modify]
  split
  ·rename_i e;subst e;rw [f3];exact h6 _ hi
  ·exact h6 _ hi
theorem UX_ {I:Nat->Prop} {w:World} {kt vt:Ty} {l:List (kt.den × vt.den)} {es:Array MapEntry} {c:Nat} {p:kt.den × vt.den} {u v:Value} (h:kX_ I w true kt vt l es c) (hu:WI_ I w kt p.1 u) (hv:WI_ I w vt p.2 v):
 kX_ I w true kt vt (l++[p]) (es.push {key:=u,val:=v,born:=c}) (c+1):=by
 obtain ⟨h1,h2,h3,h4⟩:=h
 obtain ⟨h5,h6⟩:=h4 rfl
 refine ⟨by simp [h1],fun i hi hi'=>?_,fun i hi=>?_,fun _=>⟨by simp [h5],fun i hi=>?_⟩⟩
 ·simp only [Array.size_push] at hi'
  rw [Array.getElem_push]
  by_cases e:i < es.size
  ·rw [dif_pos e,List.getElem_append_left (by omega)];exact h2 i (by omega) e
  ·rw [dif_neg e,List.getElem_append_right (by omega)]
   simp only [List.getElem_singleton];exact ⟨hu,hv⟩
 ·simp only [Array.size_push] at hi
  rw [Array.getElem_push]
  by_cases e:i < es.size
  ·rw [dif_pos e];exact Nat.lt_succ_of_lt (h3 i e)
  ·rw [dif_neg e];exact Nat.lt_succ_self _
 ·simp only [Array.size_push] at hi
  rw [Array.getElem_push]
  by_cases e:i < es.size
  ·rw [dif_pos e];exact h6 i e
  ·rw [dif_neg e]
   show c=i
   omega
theorem B2_ {kt vt:Ty} {x' k' v':Opd} (hok:zy_ P o.op (.mput kt vt x' k' v')=true) (ev:zu_ Γ (.mput kt vt x' k' v') fr st nx K):MOK P o [x',k',v'] fr (zZ_ [x',k',v'] fr) true st nx K:=by
 simp only [zu_,zc_.setK_eq] at ev
 simp only [zy_] at hok
 split at hok
 ·rename_i t x k v ho
  simp only [Bool.and_eq_true,beq_iff_eq] at hok
  obtain ⟨⟨⟨hx,hk⟩,hv⟩,ht⟩:=hok
  split at ht
  ·rename_i a b hm
   have KP:=HH_ ht
   obtain ⟨n,ev,hn⟩:=xp_ ev
   obtain ⟨y,ev,hy⟩:=xp_ ev
   split at ev
   ·rename_i i hb
    split at ev
    ·rename_i kt' vt' l hl
     split at ev
     ·rename_i e1 e2 _ _
      subst e1;subst e2
      simp only [] at ev
      have hiF:i ∈ zZ_ [x',k',v'] fr:=zD_ (x:=x') (by simp) hb i (by simp [AV.ids,AV.ids1,AV.ids0])
      refine hu_ (j6_ (ob:=.map true kt' vt' l) (ob':=.map true kt' vt' (QJ_ l n y)) hl rfl rfl hiF rfl ev fun {I w m a' σ} _ hf hH ha'=>?_)
      have hi:σ i=some (.map true kt' vt' l):=by rw [ha' i hiF,hl]
      obtain ⟨bb,es,c,q1,q2,q3⟩:=hH.obj i _ hi
      have hvx:=hf.rv (y:=x') (by simp) hx;rw [hb] at hvx
      obtain ⟨b'',q4,q5,_⟩:=hvx
      rw [q1] at q4;cases q4
      have hkr:=hn (hf.rv (y:=k') (by simp) hk)
      obtain ⟨hkv,hkR⟩:=KP.val hkr
      have hck:∀ e:Bool,(Instr.checkKey e 10000 a (ku_ kt' n)).run P w=.ok () w:=fun e=>KP.check w e n hkR
      have hst:=KP.stays w n hkR
      have hyr:=hy (hf.rv (y:=v') (by simp) hv)
      have hfr:=Go_ (P:=P) (w':=w) (n:=n) q3 KP hkR
      have hex:execOp a'.eval o=(do Instr.mapUpdate t (a'.eval x) (a'.eval k) (a'.eval v);pure .skip):=by unfold execOp;rw [ho]
      rw [HD_]
      by_cases hmi:ZB_ l n < l.length
      ·have hes:ZB_ l n < es.size:=by rw [<- q3.1];exact hmi
       rw [if_pos hmi,Array.getElem?_eq_getElem hes] at hfr
       have hkey:es[ZB_ l n].key=ku_ kt' n:=by
        have h1:=(KP.val (q3.2.1 _ hmi hes).1).1
        rw [((xD_ l n).1 hmi).1] at h1;exact h1
       refine ⟨undef,_,.inr ⟨yN_ hex (w':={w with heap:=w.heap.setIfInBounds bb (.map (es.modify (ZB_ l n) fun e=>{e with key:=ku_ kt' n,val:=a'.eval v}) c)}) ?_,rfl⟩,ui_ q1,fun hs=>⟨bb,_,c,q1,vr_ q2,?_⟩,fun _=>trivial⟩
       ·rw [q5,hkv]
        simp [Instr.mapUpdate,run_underlying hm,MapKept.run_getObj_map q2,hck,hfr,hes,hkey,hst,vq_ q2,Result.andThen]
       ·rw [if_pos hmi]
        refine Gr_ (q3.mono (fun _ h=>h) hs) hmi fun h'=>⟨?_,?_,rfl⟩
        ·have z9:=(show WI_ I _ kt' n (a'.eval k) from ⟨Zm_ (fun _ h=>h) hs _ _ _ hkr.1,hkr.2⟩);rw [hkv] at z9;exact z9
        ·exact ⟨Zm_ (fun _ h=>h) hs _ _ _ hyr.1,hyr.2⟩
      ·rw [if_neg hmi] at hfr
       refine ⟨undef,_,.inr ⟨yN_ hex (w':={w with heap:=w.heap.setIfInBounds bb (.map (es.push {key:=ku_ kt' n,val:=a'.eval v,born:=c}) (c+1))}) ?_,rfl⟩,ui_ q1,fun hs=>⟨bb,_,c+1,q1,vr_ q2,?_⟩,fun _=>trivial⟩
       ·rw [q5,hkv]
        simp [Instr.mapUpdate,run_underlying hm,MapKept.run_getObj_map q2,hck,hfr,vq_ q2,Result.andThen]
       ·rw [if_neg hmi]
        refine UX_ (q3.mono (fun _ h=>h) hs) ?_ ?_
        ·have z9:=(show WI_ I _ kt' n (a'.eval k) from ⟨Zm_ (fun _ h=>h) hs _ _ _ hkr.1,hkr.2⟩);rw [hkv] at z9;exact z9
        ·exact ⟨Zm_ (fun _ h=>h) hs _ _ _ hyr.1,hyr.2⟩
     ·exact ev.elim
    ·exact ev.elim
   ·exact ev.elim
  ·cases ht
 ·cases hok
end ops
end Go.Eng
namespace Go.Eng
set_option linter.unusedVariables false
set_option linter.unusedSimpArgs false
open Go.RowKit
section hs
variable {X0:Bool->Nat->Prop} {I0 I:Nat->Prop} {w0 w:World} {m:M} {σ σ':Sto}
end hs
section ops
variable {P:Program} {Γ:Env} {o:Oper} {L:List Opd} {fr:zd_} {F:List Nat} {wr:Bool} {st:zc_} {nx:Nat} {K:AV->zc_->Nat->Prop}
end ops
end Go.Eng
