/- Parts of the proof: ECall5. No condition. -/
import Derived.Test.YtimkdohmkfjfaaaGreatDoorXK06
namespace Go.Eng
set_option linter.unusedVariables false
set_option linter.unusedSimpArgs false
open Go.RowKit
def Z7_ (g:Nat->Nat):AV->AV
 | .ptr i o=>.ptr (g i) o
 | .own i=>.own (g i)
 | .view i o n=>.view (g i) o n
 | .rptr i j o=>.rptr (g i) j o
 | .mapv i=>.mapv (g i)
 | .fnp f i=>.fnp f (g i)
 | .bview i o n t=>.bview (g i) o n t
 | .jsl i t x=>.jsl (g i) t x
 | .jptr i t x k o=>.jptr (g i) t x k o
 | v=>v
def k1_ (g:Nat->Nat):AV->AV
 | .agg l=>.agg (l.map (Z7_ g))
 | v=>Z7_ g v
def kF_ (g:Nat->Nat):AV->AV
 | .fn f l c=>.fn f (l.map (k1_ g)) (c.map (k1_ g))
 | .tup l=>.tup (l.map (k1_ g))
 | v=>k1_ g v
def Rn (m m':M) (g:Nat->Nat) (i:Nat):Prop:=m'.used (g i)/\m'.blk (g i)=m.blk i/\m'.cap (g i)=m.cap i/\m'.len (g i)=m.len i/\m'.sz (g i)=m.sz i/\m'.rg (g i)=m.rg i
theorem WT_ {v:AV} (h:∀ l,v ≠ .agg l) (g:Nat->Nat):v.ids1=v.ids0/\k1_ g v=Z7_ g v:=by
 cases v with
 | agg l=>exact absurd rfl (h l)
 | _=>exact ⟨rfl,rfl⟩
theorem WS_ {v:AV} (h:∀ f l c,v ≠ .fn f l c) (h':∀ l,v ≠ .tup l) (g:Nat->Nat):v.ids=v.ids1/\kF_ g v=k1_ g v:=by
 cases v with
 | fn f l c=>exact absurd rfl (h f l c)
 | tup l=>exact absurd rfl (h' l)
 | _=>exact ⟨rfl,rfl⟩
theorem Bv_ {g:Nat->Nat} {v:AV} {l:List AV} (h:Z7_ g v=.agg l):v=.agg l:=by cases v<;>simp_all [Z7_]
section ren
variable {I:Nat->Prop} {w:World} {m m':M} {g:Nat->Nat}
theorem gb_ {v:AV} {cv:Value} (h:∀ i ∈ v.ids0,m.used i->Rn m m' g i) (hv:RV0 I w m v cv):RV0 I w m' (Z7_ g v) cv:=by
 cases v with
 | ptr i o=>
   obtain ⟨b,h1,h2,h3⟩:=hv
   obtain ⟨k1,k2,k3,k4,k5,k6⟩:=h i (by simp [AV.ids0]) h3
   exact ⟨b,by rw [k2];exact h1,h2,k1⟩
 | own i=>
   obtain ⟨ao,len,cap,rfl,h1,h2,h3,h4,h5,h6⟩:=hv
   obtain ⟨k1,k2,k3,k4,k5,k6⟩:=h i (by simp [AV.ids0]) h1
   exact ⟨ao,len,cap,rfl,k1,by rw [k4];exact h2,by rw [k3];exact h3,h4,h5,by rw [k2];exact h6⟩
 | view i o n=>
   obtain ⟨ao,len,cap,rfl,h1,h2,h3,h4,h5,h6⟩:=hv
   obtain ⟨k1,k2,k3,k4,k5,k6⟩:=h i (by simp [AV.ids0]) h1
   exact ⟨ao,len,cap,rfl,k1,h2,h3,by rw [k3];exact h4,by rw [k3];exact h5,by rw [k2,k5];exact h6⟩
 | rptr i j o=>
   obtain ⟨b,h1,h2,h3⟩:=hv
   obtain ⟨k1,k2,k3,k4,k5,k6⟩:=h i (by simp [AV.ids0]) h3
   exact ⟨b,by rw [k2];exact h1,by rw [k5];exact h2,k1⟩
 | mapv i=>
   obtain ⟨b,h1,h2,h3⟩:=hv
   obtain ⟨k1,k2,k3,k4,k5,k6⟩:=h i (by simp [AV.ids0]) h3
   exact ⟨b,by rw [k2];exact h1,h2,k1⟩
 | fnp f i=>
   obtain ⟨b,h1,h2,h3⟩:=hv
   obtain ⟨k1,k2,k3,k4,k5,k6⟩:=h i (by simp [AV.ids0]) h3
   exact ⟨b,by rw [k2];exact h1,h2,k1⟩
 | bview i o n t=>
   obtain ⟨b,cap,h1,h2,h3,h4,h5⟩:=hv
   obtain ⟨k1,k2,k3,k4,k5,k6⟩:=h i (by simp [AV.ids0]) h5
   exact ⟨b,cap,by rw [k2];exact h1,h2,h3,h4,k1⟩
 | jsl i t x=>
   obtain ⟨h1,h3⟩:=hv
   obtain ⟨k1,k2,k3,k4,k5,k6⟩:=h i (by simp [AV.ids0]) h3
   exact ⟨by rw [k6];exact h1,k1⟩
 | jptr i t x k o=>
   obtain ⟨h1,h3⟩:=hv
   obtain ⟨k1,k2,k3,k4,k5,k6⟩:=h i (by simp [AV.ids0]) h3
   exact ⟨by rw [k6];exact h1,k1⟩
 | _=>exact hv
theorem XQ_:∀ {l:List AV} {r:List Value},(∀ i ∈ zH_ l,m.used i->Rn m m' g i)->z0_ I w m l r->z0_ I w m' (l.map (Z7_ g)) r
 | [],[],_,_=>trivial
 | v :: l,c :: r,h,hv=>⟨gb_ (fun i hi=>h i (by simp [zH_];exact .inl hi)) hv.1,XQ_ (fun i hi=>h i (by simp only [zH_,List.flatMap_cons,List.mem_append];exact .inr hi)) hv.2⟩
 | [],_ :: _,_,hv=>hv.elim
 | _ :: _,[],_,hv=>hv.elim
theorem H0_ {v:AV} {cv:Value} (h:∀ i ∈ v.ids1,m.used i->Rn m m' g i) (hv:RV1 I w m v cv):RV1 I w m' (k1_ g v) cv:=by
 rcases kP_ hv with hv' | ⟨l,cs,rfl,rfl,hv'⟩
 ·obtain ⟨e1,e2⟩:=WT_ (v:=v) (by rintro l rfl;exact hv') g
  rw [e1] at h;rw [e2]
  exact KC_ (gb_ h hv')
 ·exact ⟨cs,rfl,XQ_ h hv'⟩
theorem XP_:∀ {l:List AV} {r:List Value},(∀ i ∈ Qw_ l,m.used i->Rn m m' g i)->q5_ I w m l r->q5_ I w m' (l.map (k1_ g)) r
 | [],[],_,_=>trivial
 | v :: l,c :: r,h,hv=>⟨H0_ (fun i hi=>h i (by simp only [Qw_,List.flatMap_cons,List.mem_append];exact .inl hi)) hv.1,XP_ (fun i hi=>h i (by simp only [Qw_,List.flatMap_cons,List.mem_append];exact .inr hi)) hv.2⟩
 | [],_ :: _,_,hv=>hv.elim
 | _ :: _,[],_,hv=>hv.elim
theorem zcq_ {v:AV} {cv:Value} (h:∀ i ∈ v.ids,m.used i->Rn m m' g i) (hv:RV2 I w m v cv):RV2 I w m' (kF_ g v) cv:=by
 rcases QW_ hv with hv | ⟨f,l,c,fs,cs,rfl,rfl,h1,h2⟩
 ·obtain ⟨e1,e2⟩:=WS_ (v:=v) (by rintro f l c rfl;exact hv) (by rintro l rfl;exact hv) g
  rw [e1] at h;rw [e2]
  exact qz_ (H0_ h hv)
 ·exact ⟨fs,cs,rfl,XP_ (fun i hi=>h i (List.mem_append.2 (.inl hi))) h1,XP_ (fun i hi=>h i (List.mem_append.2 (.inr hi))) h2⟩
theorem zdM_ {v:AV} {cv:Value} (h:∀ i ∈ v.ids,m.used i->Rn m m' g i) (hv:RV I w m v cv):RV I w m' (kF_ g v) cv:=by
 rcases XO_ hv with rfl | ⟨rfl,rfl⟩ | hv' | ⟨l,cs,rfl,rfl,hv'⟩
 ·trivial
 ·rfl
 ·exact Jj_ (zcq_ h hv')
 ·exact ⟨cs,rfl,XP_ h hv'⟩
end ren
def Un (m m':M) (g:Nat->Nat) (i:Nat):Prop:=m.used i/\m'.blk (g i)=m.blk i/\m'.cap (g i)=m.cap i/\m'.len (g i)=m.len i/\m'.sz (g i)=m.sz i/\m'.rg (g i)=m.rg i
section unren
variable {I:Nat->Prop} {w:World} {m m':M} {g:Nat->Nat}
theorem y0_ {v:AV} {cv:Value} (h:∀ i ∈ v.ids0,Un m m' g i) (hv:RV0 I w m' (Z7_ g v) cv):RV0 I w m v cv:=by
 cases v with
 | ptr i o=>
   obtain ⟨b,h1,h2,h3⟩:=hv
   obtain ⟨k1,k2,k3,k4,k5,k6⟩:=h i (by simp [AV.ids0])
   exact ⟨b,by rw [<- k2];exact h1,h2,k1⟩
 | own i=>
   obtain ⟨ao,len,cap,rfl,h1,h2,h3,h4,h5,h6⟩:=hv
   obtain ⟨k1,k2,k3,k4,k5,k6⟩:=h i (by simp [AV.ids0])
   exact ⟨ao,len,cap,rfl,k1,by rw [<- k4];exact h2,by rw [<- k3];exact h3,h4,h5,by rw [<- k2];exact h6⟩
 | view i o n=>
   obtain ⟨ao,len,cap,rfl,h1,h2,h3,h4,h5,h6⟩:=hv
   obtain ⟨k1,k2,k3,k4,k5,k6⟩:=h i (by simp [AV.ids0])
   exact ⟨ao,len,cap,rfl,k1,h2,h3,by rw [<- k3];exact h4,by rw [<- k3];exact h5,by rw [<- k2,<- k5];exact h6⟩
 | rptr i j o=>
   obtain ⟨b,h1,h2,h3⟩:=hv
   obtain ⟨k1,k2,k3,k4,k5,k6⟩:=h i (by simp [AV.ids0])
   exact ⟨b,by rw [<- k2];exact h1,by rw [<- k5];exact h2,k1⟩
 | mapv i=>
   obtain ⟨b,h1,h2,h3⟩:=hv
   obtain ⟨k1,k2,k3,k4,k5,k6⟩:=h i (by simp [AV.ids0])
   exact ⟨b,by rw [<- k2];exact h1,h2,k1⟩
 | fnp f i=>
   obtain ⟨b,h1,h2,h3⟩:=hv
   obtain ⟨k1,k2,k3,k4,k5,k6⟩:=h i (by simp [AV.ids0])
   exact ⟨b,by rw [<- k2];exact h1,h2,k1⟩
 | bview i o n t=>
   obtain ⟨b,cap,h1,h2,h3,h4,h5⟩:=hv
   obtain ⟨k1,k2,k3,k4,k5,k6⟩:=h i (by simp [AV.ids0])
   exact ⟨b,cap,by rw [<- k2];exact h1,h2,h3,h4,k1⟩
 | jsl i t x=>
   obtain ⟨h1,h3⟩:=hv
   obtain ⟨k1,k2,k3,k4,k5,k6⟩:=h i (by simp [AV.ids0])
   exact ⟨by rw [<- k6];exact h1,k1⟩
 | jptr i t x k o=>
   obtain ⟨h1,h3⟩:=hv
   obtain ⟨k1,k2,k3,k4,k5,k6⟩:=h i (by simp [AV.ids0])
   exact ⟨by rw [<- k6];exact h1,k1⟩
 | _=>exact hv
theorem J5_:∀ {l:List AV} {r:List Value},(∀ i ∈ zH_ l,Un m m' g i)->z0_ I w m' (l.map (Z7_ g)) r->z0_ I w m l r
 | [],[],_,_=>trivial
 | v :: l,c :: r,h,hv=>⟨y0_ (fun i hi=>h i (by simp only [zH_,List.flatMap_cons,List.mem_append];exact .inl hi)) hv.1,J5_ (fun i hi=>h i (by simp only [zH_,List.flatMap_cons,List.mem_append];exact .inr hi)) hv.2⟩
 | [],_ :: _,_,hv=>hv.elim
 | _ :: _,[],_,hv=>hv.elim
theorem uW_ {v:AV} {cv:Value} (h:∀ i ∈ v.ids1,Un m m' g i) (hv:RV1 I w m' (k1_ g v) cv):RV1 I w m v cv:=by
 by_cases ha:∃ l,v=.agg l
 ·obtain ⟨l,rfl⟩:=ha
  obtain ⟨cs,rfl,hv⟩:=hv;exact ⟨cs,rfl,J5_ h hv⟩
 ·obtain ⟨e1,e2⟩:=WT_ (v:=v) (fun l e=>ha ⟨l,e⟩) g
  rw [e1] at h;rw [e2] at hv
  rcases kP_ hv with hv | ⟨l,_,e,_⟩
  ·exact KC_ (y0_ h hv)
  ·exact absurd ⟨l,Bv_ e⟩ ha
theorem xW_:∀ {l:List AV} {r:List Value},(∀ i ∈ Qw_ l,Un m m' g i)->q5_ I w m' (l.map (k1_ g)) r->q5_ I w m l r
 | [],[],_,_=>trivial
 | v :: l,c :: r,h,hv=>⟨uW_ (fun i hi=>h i (by simp only [Qw_,List.flatMap_cons,List.mem_append];exact .inl hi)) hv.1,xW_ (fun i hi=>h i (by simp only [Qw_,List.flatMap_cons,List.mem_append];exact .inr hi)) hv.2⟩
 | [],_ :: _,_,hv=>hv.elim
 | _ :: _,[],_,hv=>hv.elim
theorem b3_ {v:AV} {cv:Value} (h:∀ i ∈ v.ids,Un m m' g i) (hv:RV2 I w m' (kF_ g v) cv):RV2 I w m v cv:=by
 by_cases ha:∃ f l c,v=.fn f l c
 ·obtain ⟨f,l,c,rfl⟩:=ha
  obtain ⟨fs,cs,rfl,h1,h2⟩:=hv
  exact ⟨fs,cs,rfl,xW_ (fun i hi=>h i (List.mem_append.2 (.inl hi))) h1,xW_ (fun i hi=>h i (List.mem_append.2 (.inr hi))) h2⟩
 ·by_cases ht:∃ l,v=.tup l
  ·obtain ⟨l,rfl⟩:=ht
   exact (hv:False).elim
  ·obtain ⟨e1,e2⟩:=WS_ (v:=v) (fun f l c e=>ha ⟨f,l,c,e⟩) (fun l e=>ht ⟨l,e⟩) g
   rw [e1] at h;rw [e2] at hv
   rcases QW_ hv with hv | ⟨f,l,c,_,_,e,_⟩
   ·exact qz_ (uW_ h hv)
   ·exfalso
    cases v<;>simp_all [k1_,Z7_]
theorem J4_:∀ {l:List AV} {r:List Value},(∀ i ∈ l.flatMap AV.ids,Un m m' g i)->kn_ I w m' (l.map (kF_ g)) r->kn_ I w m l r
 | [],[],_,_=>trivial
 | v :: l,c :: r,h,hv=>⟨b3_ (fun i hi=>h i (by simp only [List.flatMap_cons,List.mem_append];exact .inl hi)) hv.1,J4_ (fun i hi=>h i (by simp only [List.flatMap_cons,List.mem_append];exact .inr hi)) hv.2⟩
 | [],_ :: _,_,hv=>hv.elim
 | _ :: _,[],_,hv=>hv.elim
end unren
def un (ρ:List Nat) (nx j:Nat):Nat:=match ρ.drop j with | i :: _=>i | []=>nx+(j - ρ.length)
theorem zP_ {ρ:List Nat} {nx j:Nat} (h:j < ρ.length):un ρ nx j=ρ[j]:=by
 unfold un
 rw [List.drop_eq_getElem_cons h]
theorem x1_ {ρ:List Nat} {nx j:Nat} (h:ρ.length<=j):un ρ nx j=nx+(j - ρ.length):=by
 unfold un
 rw [List.drop_of_length_le h]
theorem b9_ {ρ:List Nat} {nx j:Nat} {K:Nat->Prop}:unI ρ nx j K=K (un ρ nx j):=by
 unfold unI un
 cases ρ.drop j
 ·exact WR_ _ _
 ·rfl
theorem GY_ {ρ:List Nat} {nx:Nat} {v:AV} {K:AV->Prop}:un0 ρ nx v K=K (Z7_ (un ρ nx) v):=by
 cases v<;>simp only [un0,b9_,Z7_,yM_]
theorem YY_ {ρ:List Nat} {nx:Nat}:∀ {l:List AV} {K:List AV->Prop},H5_ ρ nx l K=K (l.map (Z7_ (un ρ nx)))
 | [],_=>rfl
 | v :: r,K=>by simp only [H5_,GY_,YY_,List.map_cons]
theorem Bb_ {ρ:List Nat} {nx:Nat} {v:AV} {K:AV->Prop}:un1 ρ nx v K=K (k1_ (un ρ nx) v):=by
 cases v with
 | agg l=>simp only [un1,YY_,k1_]
 | _=>simp only [un1,GY_,k1_]
theorem u0_ {ρ:List Nat} {nx:Nat}:∀ {l:List AV} {K:List AV->Prop},H4_ ρ nx l K=K (l.map (k1_ (un ρ nx)))
 | [],_=>rfl
 | v :: r,K=>by simp only [H4_,Bb_,u0_,List.map_cons]
theorem Ba_ {ρ:List Nat} {nx:Nat} {v:AV} {K:AV->Prop}:un2 ρ nx v K=K (kF_ (un ρ nx) v):=by
 cases v with
 | fn f l c=>simp only [un2,u0_,kF_]
 | tup l=>simp only [un2,u0_,kF_]
 | _=>simp only [un2,Bb_,kF_]
def wW_ (g:Nat->Nat):Obj->Obj
 | .box l=>.box (l.map (Z7_ g))
 | .miter v n s=>.miter (Z7_ g v) n s
 | .rowm t x i L=>.rowm t x i (L.map (Z7_ g))
 | o=>o
theorem b8_ {ρ:List Nat} {nx:Nat} {o:Obj} {K:Obj->Prop}:gi_ ρ nx o K=K (wW_ (un ρ nx) o):=by
 cases o with
 | box l=>simp only [gi_,YY_,wW_]
 | miter v n s=>simp only [gi_,GY_,wW_]
 | rowm t x i L=>simp only [gi_,YY_,wW_]
 | _=>rfl
def unS (ρ:List Nat) (nx:Nat):Nat->List Obj->zc_->zc_
 | _,[],st=>st
 | j,o :: r,st=>unS ρ nx (j+1) r (st.set (un ρ nx j) (wW_ (un ρ nx) o))
theorem He_ {ρ:List Nat} {nx:Nat}:∀ {l:List Obj} {j:Nat} {st:zc_} {K:zc_->Prop},unSt ρ nx j l st K=K (unS ρ nx j l st)
 | [],_,_,_=>rfl
 | o :: r,j,st,K=>by simp only [unSt,b9_,b8_,zc_.setK_eq,He_,unS]
theorem zcX_ {ρ:List Nat} {nx:Nat} (hn:ρ.Nodup) (hl:∀ i ∈ ρ,i < nx) {i j:Nat} (h:un ρ nx i=un ρ nx j):i=j:=by
 rcases Nat.lt_or_ge i ρ.length with h1 | h1<;>rcases Nat.lt_or_ge j ρ.length with h2 | h2
 ·rw [zP_ h1,zP_ h2] at h
  rcases Nat.lt_trichotomy i j with hij | hij | hij
  ·exact absurd h ((List.pairwise_iff_getElem.1 hn) i j h1 h2 hij)
  ·exact hij
  ·exact absurd h.symm ((List.pairwise_iff_getElem.1 hn) j i h2 h1 hij)
 ·rw [zP_ h1,x1_ h2] at h
  have:=hl _ (List.getElem_mem h1);omega
 ·rw [x1_ h1,zP_ h2] at h
  have:=hl _ (List.getElem_mem h2);omega
 ·rw [x1_ h1,x1_ h2] at h;omega
theorem Hf_ {ρ:List Nat} {nx:Nat} (hn:ρ.Nodup) (hl:∀ i ∈ ρ,i < nx):∀ (l:List Obj) (j:Nat) (st:zc_),
 (∀ k (h:k < l.length),(unS ρ nx j l st).get (un ρ nx (j+k))=some (wW_ (un ρ nx) l[k]))/\(∀ i,(∀ k,k < l.length->i ≠ un ρ nx (j+k))->(unS ρ nx j l st).get i=st.get i)
 | [],j,st=>⟨fun k h=>absurd h (by simp),fun _ _=>rfl⟩
 | o :: r,j,st=>by
   obtain ⟨h1,h2⟩:=Hf_ hn hl r (j+1) (st.set (un ρ nx j) (wW_ (un ρ nx) o))
   refine ⟨fun k hk=>?_,fun i hi=>?_⟩
   ·cases k with
    | zero=>
      show (unS ρ nx (j+1) r _).get _=_
      rw [h2 _ (fun k hk e=>by have:=zcX_ hn hl e;omega),zc_.get_set,Nat.add_zero,if_pos rfl];rfl
    | succ k=>
      have:=h1 k (by simpa using hk)
      rw [show j+1+k=j+(k+1) by omega] at this
      exact this
   ·show (unS ρ nx (j+1) r _).get _=_
    rw [h2 i (fun k hk=>by have:=hi (k+1) (by simpa using hk);rwa [show j+(k+1)=j+1+k by omega] at this),zc_.get_set,if_neg (by have:=hi 0 (by simp);rwa [Nat.add_zero] at this)]
structure Can (ρ ρ':List Nat):Prop where
 pre:ρ <+: ρ'
 nodup:ρ.Nodup->ρ'.Nodup
theorem Can.refl (ρ:List Nat):Can ρ ρ:=⟨List.prefix_refl _,id⟩
theorem Can.trans {a b c:List Nat} (h:Can a b) (k:Can b c):Can a c:=⟨h.pre.trans k.pre,fun x=>k.nodup (h.nodup x)⟩
theorem Can.len {ρ ρ':List Nat} (h:Can ρ ρ'):ρ.length<=ρ'.length:=h.pre.length_le
theorem Can.un {ρ ρ':List Nat} {nx j:Nat} (h:Can ρ ρ') (hj:j < ρ.length):un ρ' nx j=un ρ nx j:=by
 have:=h.len
 rw [zP_ hj,zP_ (by omega)]
 exact (h.pre.getElem hj).symm
theorem v2_ {i:Nat}:∀ {ρ:List Nat} {n j:Nat},v4_ i ρ n=some j->n<=j/\ρ[j - n]?=some i
 | [],_,_,h=>by cases h
 | a :: r,n,j,h=>by
   unfold v4_ at h
   cases hb:Nat.beq a i with
   | true=>
     rw [hb] at h;cases h
     have:=Nat.eq_of_beq_eq_true hb
     exact ⟨Nat.le_refl _,by simp [this]⟩
   | false=>
     rw [hb] at h
     obtain ⟨h1,h2⟩:=v2_ (ρ:=r) h
     refine ⟨by omega,?_⟩
     rw [show j - n=(j - (n+1))+1 by omega,List.getElem?_cons_succ];exact h2
theorem v3_ {i:Nat}:∀ {ρ:List Nat} {n:Nat},v4_ i ρ n=none->i ∉ ρ
 | [],_,_=>by simp
 | a :: r,n,h=>by
   unfold v4_ at h
   cases hb:Nat.beq a i with
   | true=>rw [hb] at h;cases h
   | false=>
     rw [hb] at h
     have:=v3_ (ρ:=r) h
     have hne:a ≠ i:=fun e=>by subst e;rw [Nat.beq_refl] at hb;cases hb
     simp only [List.mem_cons,not_or]
     exact ⟨fun e=>hne e.symm,this⟩
theorem KR_ (i:Nat) (ρ:List Nat) (nx:Nat):∃ j ρ',(∀ K,wz_ i ρ K=K j ρ')/\Can ρ ρ'/\j < ρ'.length/\un ρ' nx j=i:=by
 cases h:v4_ i ρ 0 with
 | some j=>
   obtain ⟨_,h1⟩:=v2_ h
   rw [Nat.sub_zero] at h1
   have hj:j < ρ.length:=by
    rcases Nat.lt_or_ge j ρ.length with h | h
    ·exact h
    ·rw [List.getElem?_eq_none h] at h1;cases h1
   refine ⟨j,ρ,fun K=>by unfold wz_;rw [h],Can.refl _,hj,?_⟩
   rw [zP_ hj];rw [List.getElem?_eq_getElem hj] at h1;exact Option.some.inj h1
 | none=>
   refine ⟨ρ.length,ρ++[i],fun K=>by unfold wz_;rw [h],⟨List.prefix_append _ _,fun hn=>?_⟩,by simp,?_⟩
   ·rw [List.nodup_append]
    exact ⟨hn,by simp,fun a ha b hb e=>by simp only [List.mem_singleton] at hb;subst hb;subst e;exact v3_ h ha⟩
   ·rw [zP_ (by simp)];simp
theorem Jw_ {g h:Nat->Nat} {v:AV} (e:∀ j ∈ v.ids0,g j=h j):Z7_ g v=Z7_ h v:=by
 cases v<;>simp only [Z7_,AV.ids0,List.mem_singleton,forall_eq] at e ⊢<;>rw [e]
theorem wX_ {g h:Nat->Nat} {l:List AV} (e:∀ j ∈ zH_ l,g j=h j):l.map (Z7_ g)=l.map (Z7_ h):=
 List.map_congr_left fun v hv=>Jw_ fun j hj=>e j (List.mem_flatMap.2 ⟨v,hv,hj⟩)
theorem xs_ {g h:Nat->Nat} {v:AV} (e:∀ j ∈ v.ids1,g j=h j):k1_ g v=k1_ h v:=by
 by_cases ha:∃ l,v=.agg l
 ·obtain ⟨l,rfl⟩:=ha
  exact congrArg AV.agg (wX_ e)
 ·obtain ⟨e1,e2⟩:=WT_ (v:=v) (fun l e=>ha ⟨l,e⟩) g
  rw [e2,(WT_ (v:=v) (fun l e=>ha ⟨l,e⟩) h).2]
  rw [e1] at e
  exact Jw_ e
theorem jw_ {g h:Nat->Nat} {l:List AV} (e:∀ j ∈ Qw_ l,g j=h j):l.map (k1_ g)=l.map (k1_ h):=
 List.map_congr_left fun v hv=>xs_ fun j hj=>e j (List.mem_flatMap.2 ⟨v,hv,hj⟩)
theorem Jv_ {g h:Nat->Nat} {v:AV} (e:∀ j ∈ v.ids,g j=h j):kF_ g v=kF_ h v:=by
 by_cases ha:∃ f l c,v=.fn f l c
 ·obtain ⟨f,l,c,rfl⟩:=ha
  simp only [kF_]
  rw [jw_ fun j hj=>e j (List.mem_append.2 (.inl hj)),jw_ (l:=c) fun j hj=>e j (List.mem_append.2 (.inr hj))]
 ·by_cases ht:∃ l,v=.tup l
  ·obtain ⟨l,rfl⟩:=ht
   exact congrArg AV.tup (jw_ e)
  ·obtain ⟨e1,e2⟩:=WS_ (v:=v) (fun f l c e=>ha ⟨f,l,c,e⟩) (fun l e=>ht ⟨l,e⟩) g
   rw [e2,(WS_ (v:=v) (fun f l c e=>ha ⟨f,l,c,e⟩) (fun l e=>ht ⟨l,e⟩) h).2]
   rw [e1] at e
   exact xs_ e
theorem XM_ (v:AV) (ρ:List Nat) (nx:Nat):∃ v' ρ',(∀ K,can0 v ρ K=K v' ρ')/\Can ρ ρ'/\Z7_ (un ρ' nx) v'=v/\∀ j ∈ v'.ids0,j < ρ'.length:=by
 cases v with
 | ptr i o=>
   obtain ⟨j,ρ',h1,h2,h3,h4⟩:=KR_ i ρ nx
   exact ⟨.ptr j o,ρ',fun K=>h1 _,h2,by simp [Z7_,h4],by simpa [AV.ids0] using h3⟩
 | own i=>
   obtain ⟨j,ρ',h1,h2,h3,h4⟩:=KR_ i ρ nx
   exact ⟨.own j,ρ',fun K=>h1 _,h2,by simp [Z7_,h4],by simpa [AV.ids0] using h3⟩
 | view i o n=>
   obtain ⟨j,ρ',h1,h2,h3,h4⟩:=KR_ i ρ nx
   exact ⟨.view j o n,ρ',fun K=>h1 _,h2,by simp [Z7_,h4],by simpa [AV.ids0] using h3⟩
 | rptr i k o=>
   obtain ⟨j,ρ',h1,h2,h3,h4⟩:=KR_ i ρ nx
   exact ⟨.rptr j k o,ρ',fun K=>h1 _,h2,by simp [Z7_,h4],by simpa [AV.ids0] using h3⟩
 | mapv i=>
   obtain ⟨j,ρ',h1,h2,h3,h4⟩:=KR_ i ρ nx
   exact ⟨.mapv j,ρ',fun K=>h1 _,h2,by simp [Z7_,h4],by simpa [AV.ids0] using h3⟩
 | fnp f i=>
   obtain ⟨j,ρ',h1,h2,h3,h4⟩:=KR_ i ρ nx
   exact ⟨.fnp f j,ρ',fun K=>h1 _,h2,by simp [Z7_,h4],by simpa [AV.ids0] using h3⟩
 | bview i o n t=>
   obtain ⟨j,ρ',h1,h2,h3,h4⟩:=KR_ i ρ nx
   exact ⟨.bview j o n t,ρ',fun K=>h1 _,h2,by simp [Z7_,h4],by simpa [AV.ids0] using h3⟩
 | jsl i t x=>
   obtain ⟨j,ρ',h1,h2,h3,h4⟩:=KR_ i ρ nx
   exact ⟨.jsl j t x,ρ',fun K=>h1 _,h2,by simp [Z7_,h4],by simpa [AV.ids0] using h3⟩
 | jptr i t x k o=>
   obtain ⟨j,ρ',h1,h2,h3,h4⟩:=KR_ i ρ nx
   exact ⟨.jptr j t x k o,ρ',fun K=>h1 _,h2,by simp [Z7_,h4],by simpa [AV.ids0] using h3⟩
 | _=>exact ⟨_,ρ,fun K=>rfl,Can.refl _,rfl,by simp [AV.ids0]⟩
theorem Kh_ (nx:Nat):∀ (l:List AV) (ρ:List Nat),∃ l' ρ',(∀ K,Yi_ l ρ K=K l' ρ')/\Can ρ ρ'/\l'.map (Z7_ (un ρ' nx))=l/\∀ j ∈ zH_ l',j < ρ'.length
 | [],ρ=>⟨[],ρ,fun _=>rfl,Can.refl _,rfl,by simp [zH_]⟩
 | v :: r,ρ=>by
   obtain ⟨v',ρ1,h1,h2,h3,h4⟩:=XM_ v ρ nx
   obtain ⟨r',ρ2,k1,k2,k3,k4⟩:=Kh_ nx r ρ1
   refine ⟨v' :: r',ρ2,fun K=>by simp only [Yi_,h1,k1],h2.trans k2,?_,fun j hj=>?_⟩
   ·rw [List.map_cons,k3,Jw_ fun j hj=>k2.un (h4 j hj),h3]
   ·simp only [zH_,List.flatMap_cons,List.mem_append] at hj
    rcases hj with h | h
    ·have:=h4 j h;have:=k2.len;omega
    ·exact k4 j h
theorem U2_ (v:AV) (ρ:List Nat) (nx:Nat):∃ v' ρ',(∀ K,bT_ v ρ K=K v' ρ')/\Can ρ ρ'/\k1_ (un ρ' nx) v'=v/\∀ j ∈ v'.ids1,j < ρ'.length:=by
 by_cases h:∃ l,v=.agg l
 ·obtain ⟨l,rfl⟩:=h
  obtain ⟨l',ρ',h1,h2,h3,h4⟩:=Kh_ nx l ρ
  exact ⟨.agg l',ρ',fun K=>by simp only [bT_,h1],h2,by simp only [k1_,h3],h4⟩
 ·obtain ⟨v',ρ',h1,h2,h3,h4⟩:=XM_ v ρ nx
  have hv':∀ l,v' ≠ .agg l:=fun l e=>by subst e;exact h ⟨l,h3.symm⟩
  obtain ⟨e1,e2⟩:=WT_ hv' (un ρ' nx)
  refine ⟨v',ρ',fun K=>?_,h2,by rw [e2];exact h3,by rw [e1];exact h4⟩
  rw [<- h1 K]
  cases v<;>first | rfl | exact absurd ⟨_,rfl⟩ h
theorem Kg_ (nx:Nat):∀ (l:List AV) (ρ:List Nat),∃ l' ρ',(∀ K,Yh_ l ρ K=K l' ρ')/\Can ρ ρ'/\l'.map (k1_ (un ρ' nx))=l/\∀ j ∈ Qw_ l',j < ρ'.length
 | [],ρ=>⟨[],ρ,fun _=>rfl,Can.refl _,rfl,by simp [Qw_]⟩
 | v :: r,ρ=>by
   obtain ⟨v',ρ1,h1,h2,h3,h4⟩:=U2_ v ρ nx
   obtain ⟨r',ρ2,k1,k2,k3,k4⟩:=Kg_ nx r ρ1
   refine ⟨v' :: r',ρ2,fun K=>by simp only [Yh_,h1,k1],h2.trans k2,?_,fun j hj=>?_⟩
   ·rw [List.map_cons,k3,xs_ fun j hj=>k2.un (h4 j hj),h3]
   ·simp only [Qw_,List.flatMap_cons,List.mem_append] at hj
    rcases hj with h | h
    ·have:=h4 j h;have:=k2.len;omega
    ·exact k4 j h
theorem HT_ (v:AV) (ρ:List Nat) (nx:Nat):∃ v' ρ',(∀ K,hV_ v ρ K=K v' ρ')/\Can ρ ρ'/\kF_ (un ρ' nx) v'=v/\∀ j ∈ v'.ids,j < ρ'.length:=by
 by_cases hf:∃ f l c,v=.fn f l c
 ·obtain ⟨f,l,c,rfl⟩:=hf
  obtain ⟨l',ρ1,h1,h2,h3,h4⟩:=Kg_ nx l ρ
  obtain ⟨c',ρ2,k1,k2,k3,k4⟩:=Kg_ nx c ρ1
  refine ⟨.fn f l' c',ρ2,fun K=>by simp only [hV_,h1,k1],h2.trans k2,?_,fun j hj=>?_⟩
  ·simp only [kF_];rw [k3,jw_ fun j hj=>k2.un (h4 j hj),h3]
  ·rcases List.mem_append.1 hj with h | h
   ·have:=h4 j h;have:=k2.len;omega
   ·exact k4 j h
 ·by_cases ht:∃ l,v=.tup l
  ·obtain ⟨l,rfl⟩:=ht
   obtain ⟨l',ρ',h1,h2,h3,h4⟩:=Kg_ nx l ρ
   exact ⟨.tup l',ρ',fun K=>by simp only [hV_,h1],h2,by simp only [kF_,h3],h4⟩
  ·obtain ⟨v',ρ',h1,h2,h3,h4⟩:=U2_ v ρ nx
   have hv1:∀ f l c,v' ≠ .fn f l c:=fun f l c e=>by subst e;exact hf ⟨f,l,c,h3.symm⟩
   have hv2:∀ l,v' ≠ .tup l:=fun l e=>by subst e;exact ht ⟨l,h3.symm⟩
   obtain ⟨e1,e2⟩:=WS_ hv1 hv2 (un ρ' nx)
   refine ⟨v',ρ',fun K=>?_,h2,by rw [e2];exact h3,by rw [e1];exact h4⟩
   rw [<- h1 K]
   cases v<;>first | rfl | exact absurd ⟨_,rfl⟩ ht | exact absurd ⟨_,_,_,rfl⟩ hf
theorem Jh_ (nx:Nat):∀ (l:List AV) (ρ:List Nat),∃ l' ρ',(∀ K,XL_ l ρ K=K l' ρ')/\Can ρ ρ'/\l'.map (kF_ (un ρ' nx))=l/\∀ j ∈ l'.flatMap AV.ids,j < ρ'.length
 | [],ρ=>⟨[],ρ,fun _=>rfl,Can.refl _,rfl,by simp⟩
 | v :: r,ρ=>by
   obtain ⟨v',ρ1,h1,h2,h3,h4⟩:=HT_ v ρ nx
   obtain ⟨r',ρ2,k1,k2,k3,k4⟩:=Jh_ nx r ρ1
   refine ⟨v' :: r',ρ2,fun K=>by simp only [XL_,h1,k1],h2.trans k2,?_,fun j hj=>?_⟩
   ·rw [List.map_cons,k3,Jv_ fun j hj=>k2.un (h4 j hj),h3]
   ·simp only [List.flatMap_cons,List.mem_append] at hj
    rcases hj with h | h
    ·have:=h4 j h;have:=k2.len;omega
    ·exact k4 j h
def jz_:AV->AV | .kb b=>.bool b | v=>v
theorem zbR_ {v:AV} {K:AV->Prop}:nrm0 v K=K (jz_ v):=by cases v<;>rfl
theorem Wg_:∀ {l:List AV} {K:List AV->Prop},us_ l K=K (l.map jz_)
 | [],_=>rfl
 | v :: r,K=>by simp only [us_,zbR_,Wg_,List.map_cons]
theorem zct_ {I:Nat->Prop} {w:World} {m:M} {v:AV} {cv:Value} (h:RV0 I w m v cv):RV0 I w m (jz_ v) cv:=by cases v<;>exact h
theorem XR_ {I:Nat->Prop} {w:World} {m:M}:∀ {l:List AV} {r:List Value},z0_ I w m l r->z0_ I w m (l.map jz_) r
 | [],[],_=>trivial
 | _ :: _,_ :: _,h=>⟨zct_ h.1,XR_ h.2⟩
 | [],_ :: _,h=>h.elim
 | _ :: _,[],h=>h.elim
def Xs_:AV->AV | .agg l=>.agg (l.map jz_) | v=>jz_ v
theorem zbQ_ {v:AV} {K:AV->Prop}:nrm1 v K=K (Xs_ v):=by
 cases v with
 | agg l=>simp only [nrm1,Wg_,Xs_]
 | _=>rfl
theorem gU_:∀ {l:List AV} {K:List AV->Prop},gV_ l K=K (l.map Xs_)
 | [],_=>rfl
 | v :: r,K=>by simp only [gV_,zbQ_,gU_,List.map_cons]
theorem zcr_ {I:Nat->Prop} {w:World} {m:M} {v:AV} {cv:Value} (h:RV1 I w m v cv):RV1 I w m (Xs_ v) cv:=by
 cases v with
 | agg l=>obtain ⟨cs,rfl,h⟩:=h;exact ⟨cs,rfl,XR_ h⟩
 | _=>exact h
theorem VA_ {I:Nat->Prop} {w:World} {m:M}:∀ {l:List AV} {r:List Value},q5_ I w m l r->q5_ I w m (l.map Xs_) r
 | [],[],_=>trivial
 | _ :: _,_ :: _,h=>⟨zcr_ h.1,VA_ h.2⟩
 | [],_ :: _,h=>h.elim
 | _ :: _,[],h=>h.elim
theorem zas_ (v:AV):(jz_ v).ids0=v.ids0:=by cases v<;>rfl
theorem yJ_ (l:List AV):zH_ (l.map jz_)=zH_ l:=by
 induction l with
 | nil=>rfl
 | cons v r ih=>simp only [zH_,List.map_cons,List.flatMap_cons,zas_] at ih ⊢;rw [ih]
theorem zar_ (v:AV):(Xs_ v).ids1=v.ids1:=by
 cases v with
 | agg l=>exact yJ_ l
 | _=>rfl
theorem bG_ (l:List AV):Qw_ (l.map Xs_)=Qw_ l:=by
 induction l with
 | nil=>rfl
 | cons v r ih=>simp only [Qw_,List.map_cons,List.flatMap_cons,zar_] at ih ⊢;rw [ih]
theorem hn_ (v:AV):(∀ K,¬ BW_ v K)\/∃ v',(∀ K,BW_ v K=K v')/\v'.ids=v.ids/\∀ {I:Nat->Prop} {w:World} {m:M} {cv:Value},RV I w m v cv->RV2 I w m v' cv:=by
 cases v with
 | undef=>exact .inl fun K h=>h
 | skp=>exact .inl fun K h=>h
 | tup l=>exact .inl fun K h=>h
 | agg l=>exact .inr ⟨.agg (l.map jz_),fun K=>by simp only [BW_,Wg_],yJ_ l,fun {I w m cv} h=>by obtain ⟨cs,rfl,h⟩:=h;exact ⟨cs,rfl,XR_ h⟩⟩
 | fn f l c=>exact .inr ⟨.fn f (l.map Xs_) (c.map Xs_),fun K=>by simp only [BW_,gU_],by simp only [AV.ids,bG_],fun {I w m cv} h=>by obtain ⟨fs,cs,rfl,h1,h2⟩:=h;exact ⟨fs,cs,rfl,VA_ h1,VA_ h2⟩⟩
 | kb b=>exact .inr ⟨.bool b,fun K=>rfl,rfl,fun {I w m cv} h=>h⟩
 | _=>exact .inr ⟨_,fun K=>rfl,rfl,fun {I w m cv} h=>h⟩
theorem jy_:∀ (l:List AV),(∀ K,¬ Xr_ l K)\/∃ l',(∀ K,Xr_ l K=K l')/\l'.flatMap AV.ids=l.flatMap AV.ids/\∀ {I:Nat->Prop} {w:World} {m:M} {r:List Value},l.length=r.length->(∀ i (h:i < l.length) (h':i < r.length),RV I w m l[i] r[i])->kn_ I w m l' r
 | []=>.inr ⟨[],fun _=>rfl,rfl,fun {I w m r} hl _=>by cases r with | nil=>trivial | cons=>simp at hl⟩
 | v :: l=>by
   rcases hn_ v with h | ⟨v',h1,h0,h2⟩
   ·exact .inl fun K hK=>h _ hK
   ·rcases jy_ l with h | ⟨l',h3,h00,h4⟩
    ·exact .inl fun K hK=>by simp only [Xr_,h1] at hK;exact h _ hK
    ·refine .inr ⟨v' :: l',fun K=>by simp only [Xr_,h1,h3],by simp only [List.flatMap_cons,h0,h00],fun {I w m r} hl h=>?_⟩
     cases r with
     | nil=>simp at hl
     | cons c r=>exact ⟨h2 (h 0 (by simp) (by simp)),h4 (by simpa using hl) fun i hi hi'=>h (i+1) (by simp;omega) (by simp;omega)⟩
def Z6_ (nx:Nat) (ρ:List Nat) (o o':Obj):Prop:=match o,o' with
 | .box l,.box l'=>l'.map (Z7_ (un ρ nx))=l.map jz_/\∀ j ∈ zH_ l',j < ρ.length
 | .box _,_=>False
 | .miter v n s,o'=>∃ v',o'=.miter v' n s/\Z7_ (un ρ nx) v'=v/\∀ j ∈ v'.ids0,j < ρ.length
 | .rowm t x i L,o'=>∃ L',o'=.rowm t x i L'/\L'.map (Z7_ (un ρ nx))=L/\∀ j ∈ zH_ L',j < ρ.length
 | _,.box _=>False
 | o,o'=>o=o'
theorem Z6_.mono {nx:Nat} {ρ ρ':List Nat} {o o':Obj} (h:Z6_ nx ρ o o') (k:Can ρ ρ'):Z6_ nx ρ' o o':=by
 cases o with
 | miter v n s=>
   obtain ⟨v',e,h1,h2⟩:=h
   exact ⟨v',e,by rw [<- h1];exact Jw_ fun j hj=>k.un (h2 j hj),fun j hj=>Nat.lt_of_lt_of_le (h2 j hj) k.len⟩
 | rowm t x i L=>
   obtain ⟨L',e,h1,h2⟩:=h
   exact ⟨L',e,by rw [<- h1];exact wX_ fun j hj=>k.un (h2 j hj),fun j hj=>Nat.lt_of_lt_of_le (h2 j hj) k.len⟩
 | box l=>
   cases o'<;>first | exact h | skip
   refine ⟨?_,fun j hj=>Nat.lt_of_lt_of_le (h.2 j hj) k.len⟩
   rw [<- h.1];exact wX_ fun j hj=>k.un (h.2 j hj)
 | _=>cases o'<;>exact h
theorem bS_ (o:Obj) (ρ:List Nat) (nx:Nat):∃ o' ρ',(∀ K,Ww_ o ρ K=K o' ρ')/\Can ρ ρ'/\Z6_ nx ρ' o o':=by
 cases o with
 | box l=>
   obtain ⟨l',ρ',h1,h2,h3,h4⟩:=Kh_ nx (l.map jz_) ρ
   exact ⟨.box l',ρ',fun K=>by simp only [Ww_,Wg_,h1],h2,h3,h4⟩
 | dead=>exact ⟨.dead,ρ,fun _=>rfl,Can.refl _,rfl⟩
 | row fz t x=>exact ⟨.row fz t x,ρ,fun _=>rfl,Can.refl _,rfl⟩
 | map q kt vt l=>exact ⟨.map q kt vt l,ρ,fun _=>rfl,Can.refl _,rfl⟩
 | iter s p=>exact ⟨.iter s p,ρ,fun _=>rfl,Can.refl _,rfl⟩
 | lrec r c=>exact ⟨.lrec r c,ρ,fun _=>rfl,Can.refl _,rfl⟩
 | rowp t x l c=>exact ⟨.rowp t x l c,ρ,fun _=>rfl,Can.refl _,rfl⟩
 | reg wr kn=>exact ⟨.reg wr kn,ρ,fun _=>rfl,Can.refl _,rfl⟩
 | rowm t x i L=>
   obtain ⟨L',ρ',h1,h2,h3,h4⟩:=Kh_ nx L ρ
   exact ⟨.rowm t x i L',ρ',fun K=>by simp only [Ww_,h1],h2,L',rfl,h3,h4⟩
 | miter v n s=>
   obtain ⟨v',ρ',h1,h2,h3,h4⟩:=XM_ v ρ nx
   exact ⟨.miter v' n s,ρ',fun K=>by simp only [Ww_,h1],h2,v',rfl,h3,h4⟩
theorem Kf_ (st:zc_) (nx:Nat):∀ (n j:Nat) (ρ:List Nat),j<=ρ.length->(∀ K,¬ KH_ st n j ρ K)\/∃ objs ρ',(∀ K,KH_ st n j ρ K=K objs ρ')/\Can ρ ρ'/\j+objs.length=ρ'.length/\
 ∀ k (h:k < objs.length) (h':j+k < ρ'.length),∃ o,st.get ρ'[j+k]=some o/\Z6_ nx ρ' o objs[k]
 | 0,_,_,_=>.inl fun K h=>h
 | n+1,j,ρ,hj=>by
   rcases Nat.lt_or_ge j ρ.length with hlt | hge
   ·have hd:ρ.drop j=ρ[j] :: ρ.drop (j+1):=List.drop_eq_getElem_cons hlt
    cases hg:st.get ρ[j] with
    | none=>exact .inl fun K h=>by simp only [KH_,hd,hg] at h
    | some o=>
      obtain ⟨o',ρ1,h1,h2,h3⟩:=bS_ o ρ nx
      have:=h2.len
      rcases Kf_ st nx n (j+1) ρ1 (by omega) with h | ⟨objs,ρ2,k1,k2,k3,k4⟩
      ·exact .inl fun K hK=>by simp only [KH_,hd,hg,h1] at hK;exact h _ hK
      ·refine .inr ⟨o' :: objs,ρ2,fun K=>by simp only [KH_,hd,hg,h1,k1],h2.trans k2,by simp;omega,fun k hk hk'=>?_⟩
       cases k with
       | zero=>
         refine ⟨o,?_,h3.mono k2⟩
         have:ρ2[j]'(by omega)=ρ[j]:=((h2.trans k2).pre.getElem hlt).symm
         simp only [Nat.add_zero,this];exact hg
       | succ k=>
         obtain ⟨o2,q1,q2⟩:=k4 k (by simpa using hk) (by omega)
         refine ⟨o2,?_,q2⟩
         simp only [show j+(k+1)=j+1+k by omega];exact q1
   ·have hd:ρ.drop j=[]:=List.drop_of_length_le hge
    refine .inr ⟨[],ρ,fun K=>by simp only [KH_,hd],Can.refl _,by simp;omega,fun k h=>absurd h (by simp)⟩
end Go.Eng
namespace Go.Eng
set_option linter.unusedVariables false
set_option linter.unusedSimpArgs false
open Go.RowKit
def Ib (I:Nat->Prop) (m:M) (js:List Nat):Nat->Prop:=fun b=>I b\/∃ i ∈ js,m.blk i=some b
theorem Ib.mono {I:Nat->Prop} {m:M} {js js':List Nat} (h:∀ i ∈ js,i ∈ js'):∀ b,Ib I m js b->Ib I m js' b:=fun b hb=>hb.imp id fun ⟨i,hi,e⟩=>⟨i,h i hi,e⟩
def Hb_ (st:zc_) (i:Nat):Prop:=(∃ fz t x,st.get i=some (.row fz t x))\/∃ l,st.get i=some (.box l)
theorem Vr_ {st:zc_} {v:AV} {js:List Nat} {K0:AV->List Nat->Prop} (ev:Kv_ st v js K0):∃ v' js',K0 v' js'/\(∀ K,Kv_ st v js K->K v' js')/\(∀ i ∈ js,i ∈ js')/\(∀ i ∈ js',i ∈ js\/(i ∈ v.ids0/\Hb_ st i))/\(∀ i ∈ v'.ids0,i ∈ v.ids0)/\
 ∀ {I:Nat->Prop} {w:World} {m:M} {σ:Sto} {cv:Value},HRel I w m σ->(∀ i ∈ v.ids0,σ i=st.get i)->RV0 I w m v cv->RV0 (Ib I m js') w m v' cv:=by
 have keep:∀ {v:AV},(∀ K,Kv_ st v js K=K v js)->Kv_ st v js K0->∃ v' js',K0 v' js'/\(∀ K,Kv_ st v js K->K v' js')/\(∀ i ∈ js,i ∈ js')/\(∀ i ∈ js',i ∈ js\/(i ∈ v.ids0/\Hb_ st i))/\(∀ i ∈ v'.ids0,i ∈ v.ids0)/\
  ∀ {I:Nat->Prop} {w:World} {m:M} {σ:Sto} {cv:Value},HRel I w m σ->(∀ i ∈ v.ids0,σ i=st.get i)->RV0 I w m v cv->RV0 (Ib I m js') w m v' cv:=fun {v} e ev=>
  ⟨v,js,by rw [e] at ev;exact ev,fun K h=>by rw [e] at h;exact h,fun i hi=>hi,fun i hi=>.inl hi,fun i hi=>hi,fun {I w m σ cv} _ _ hv=>kp_ (fun _ h=>.inl h) (fun _ _=>rfl) m.le_refl _ _ hv⟩
 cases v with
 | own i=>
   cases hg:st.get i with
   | none=>simp only [Kv_,hg] at ev
   | some o=>
     cases o with
     | row fz t x=>
       simp only [Kv_,hg] at ev
       refine ⟨_,_,ev,fun K h=>by simp only [Kv_,hg] at h;exact h,fun j hj=>List.mem_cons_of_mem _ hj,fun j hj=>?_,fun j hj=>(by simp [AV.ids0] at hj),fun {I w m σ cv} hH ha hv=>?_⟩
       ·rcases List.mem_cons.1 hj with rfl | h
        ·exact .inr ⟨by simp [AV.ids0],.inl ⟨fz,t,x,hg⟩⟩
        ·exact .inl h
       ·exact Y3_ (fun _ h=>.inl h) (hH.obj i _ (by rw [ha i (by simp [AV.ids0]),hg])) hv fun b hb=>.inr ⟨i,by simp,hb⟩
     | _=>simp only [Kv_,hg] at ev
 | view i off n=>
   cases hg:st.get i with
   | none=>simp only [Kv_,hg] at ev
   | some o=>
     cases o with
     | row fz t x=>
       simp only [Kv_,hg] at ev
       obtain ⟨hn,ev⟩:=zj_ ev
       refine ⟨_,_,ev,fun K h=>by simp only [Kv_,hg] at h;exact (zj_ h).2,fun j hj=>List.mem_cons_of_mem _ hj,fun j hj=>?_,fun j hj=>(by simp [AV.ids0] at hj),fun {I w m σ cv} hH ha hv=>?_⟩
       ·rcases List.mem_cons.1 hj with rfl | h
        ·exact .inr ⟨by simp [AV.ids0],.inl ⟨fz,t,x,hg⟩⟩
        ·exact .inl h
       ·exact vj_ (fun _ h=>.inl h) (hH.obj i _ (by rw [ha i (by simp [AV.ids0]),hg])) hv hn fun b hb=>.inr ⟨i,by simp,hb⟩
     | _=>simp only [Kv_,hg] at ev
 | bview i off n t=>
   cases hg:st.get i with
   | none=>simp only [Kv_,hg] at ev
   | some o=>
     cases o with
     | box l=>
       simp only [Kv_,hg] at ev
       obtain ⟨x,ev',heq,hlen,h⟩:=Yl_ (I:=fun _=>False) (w:=default) (m:=⟨fun _=>none,fun _=>0,fun _=>0,fun _=>0,fun _=>False,noR⟩) (i:=0) ev
       refine ⟨_,_,ev',fun K hK=>by simp only [Kv_,hg,heq] at hK;exact hK,fun j hj=>List.mem_cons_of_mem _ hj,fun j hj=>?_,fun j hj=>(by simp [AV.ids0] at hj),fun {I w m σ cv} hH ha hv=>?_⟩
       ·rcases List.mem_cons.1 hj with rfl | h
        ·exact .inr ⟨by simp [AV.ids0],.inr ⟨l,hg⟩⟩
        ·exact .inl h
       ·obtain ⟨b,h1,h2⟩:=h (hH.obj i _ (by rw [ha i (by simp [AV.ids0]),hg]))
        obtain ⟨b',cap,h3,rfl,h4,h5,h6⟩:=hv
        rw [h1] at h3;cases h3
        exact ⟨_,n,cap,rfl,XT_.2 ⟨hlen.symm,h4,h5,fun _=>⟨b,off,rfl,.inr ⟨i,by simp,h1⟩,EA.mono (fun _ h=>.inl h) (fun _ _=>rfl) h2⟩⟩⟩
     | _=>simp only [Kv_,hg] at ev
 | _=>exact keep (fun K=>rfl) ev
theorem Ym_ {st:zc_}:∀ {l:List AV} {js:List Nat} {K0:List AV->List Nat->Prop},uN_ st l js K0->∃ l' js',K0 l' js'/\(∀ K,uN_ st l js K->K l' js')/\(∀ i ∈ js,i ∈ js')/\(∀ i ∈ js',i ∈ js\/(i ∈ zH_ l/\Hb_ st i))/\(∀ i ∈ zH_ l',i ∈ zH_ l)/\
 ∀ {I:Nat->Prop} {w:World} {m:M} {σ:Sto} {cs:List Value},HRel I w m σ->(∀ i ∈ zH_ l,σ i=st.get i)->z0_ I w m l cs->z0_ (Ib I m js') w m l' cs
 | [],js,K0,ev=>⟨[],js,ev,fun K h=>h,fun i hi=>hi,fun i hi=>.inl hi,fun i hi=>hi,fun {I w m σ cs} _ _ h=>by cases cs with | nil=>trivial | cons=>exact h.elim⟩
 | v :: r,js,K0,ev=>by
   simp only [uN_] at ev
   obtain ⟨v',js1,ev1,h1,h2,h3,h4,h5⟩:=Vr_ ev
   obtain ⟨r',js2,ev2,k1,k2,k3,k4,k5⟩:=Ym_ ev1
   have hids:zH_ (v :: r)=v.ids0++zH_ r:=by simp [zH_]
   refine ⟨v' :: r',js2,ev2,fun K h=>by simp only [uN_] at h;exact k1 _ (h1 _ h),fun i hi=>k2 i (h2 i hi),fun i hi=>?_,fun i hi=>?_,fun {I w m σ cs} hH ha hv=>?_⟩
   ·rw [hids]
    rcases k3 i hi with h | ⟨h,h'⟩
    ·rcases h3 i h with h | ⟨h,h'⟩
     ·exact .inl h
     ·exact .inr ⟨List.mem_append.2 (.inl h),h'⟩
    ·exact .inr ⟨List.mem_append.2 (.inr h),h'⟩
   ·rw [hids]
    have:zH_ (v' :: r')=v'.ids0++zH_ r':=by simp [zH_]
    rw [this] at hi
    exact List.mem_append.2 ((List.mem_append.1 hi).imp (h4 i) (k4 i))
   ·rw [hids] at ha
    cases cs with
    | nil=>exact hv.elim
    | cons c cs=>
      exact ⟨kp_ (Ib.mono k2) (fun _ _=>rfl) m.le_refl _ _ (h5 hH (fun i hi=>ha i (List.mem_append.2 (.inl hi))) hv.1),k5 hH (fun i hi=>ha i (List.mem_append.2 (.inr hi))) hv.2⟩
theorem h2_ {st:zc_} {v:AV} {js:List Nat} {K0:AV->List Nat->Prop} (ev:bZ_ st v js K0):∃ v' js',K0 v' js'/\(∀ K,bZ_ st v js K->K v' js')/\(∀ i ∈ js,i ∈ js')/\(∀ i ∈ js',i ∈ js\/(i ∈ v.ids/\Hb_ st i))/\(∀ i ∈ v'.ids,i ∈ v.ids)/\
 ∀ {I:Nat->Prop} {w:World} {m:M} {σ:Sto} {cv:Value},HRel I w m σ->(∀ i ∈ v.ids,σ i=st.get i)->RV2 I w m v cv->RV2 (Ib I m js') w m v' cv:=by
 by_cases ha:∃ l,v=.agg l
 ·obtain ⟨l,rfl⟩:=ha
  simp only [bZ_] at ev
  obtain ⟨l',js',e1,e2,e3,e4,e5,e6⟩:=Ym_ ev
  exact ⟨.agg l',js',e1,fun K h=>e2 _ h,e3,e4,e5,fun {I w m σ cv} hH ha hv=>by obtain ⟨cs,rfl,hv⟩:=hv;exact ⟨cs,rfl,e6 hH ha hv⟩⟩
 ·by_cases hx:(∃ f l c,v=.fn f l c)\/∃ l,v=.tup l
  ·have e:∀ K,bZ_ st v js K=K v js:=by
    rcases hx with ⟨f,l,c,rfl⟩ | ⟨l,rfl⟩<;>exact fun K=>rfl
   exact ⟨v,js,by rw [e] at ev;exact ev,fun K h=>by rw [e] at h;exact h,fun i hi=>hi,fun i hi=>.inl hi,fun i hi=>hi,fun {I w m σ cv} _ _ hv=>XS_ (fun _ h=>.inl h) (fun _ _=>rfl) m.le_refl _ _ hv⟩
  ·have e:∀ K,bZ_ st v js K=Kv_ st v js K:=fun K=>by
    cases v<;>first | rfl | exact absurd ⟨_,rfl⟩ ha
   rw [e] at ev
   obtain ⟨v',js',e1,e2,e3,e4,e5,e6⟩:=Vr_ ev
   have hv0:v.ids=v.ids0:=by
    obtain ⟨q1,_⟩:=WT_ (v:=v) (fun l e=>ha ⟨l,e⟩) id
    obtain ⟨q2,_⟩:=WS_ (v:=v) (fun f l c e=>hx (.inl ⟨f,l,c,e⟩)) (fun l e=>hx (.inr ⟨l,e⟩)) id
    rw [q2,q1]
   have hv':v'.ids=v'.ids0/\∀ {I:Nat->Prop} {w:World} {m:M} {cv:Value},RV0 I w m v' cv->RV2 I w m v' cv:=by
    refine ⟨?_,fun h=>qz_ (KC_ h)⟩
    have h2:=e2 (fun v' js'=>v'.ids=v'.ids0)
    apply h2
    have hok:∀ q,Kv_ st v js q->Kv_ st v js fun v' _=>v'.ids=v'.ids0:=fun q hq=>by
     cases v with
     | own i=>
       simp only [Kv_] at hq ⊢
       split at hq<;>simp_all [AV.ids,AV.ids1]
     | view i off n=>
       simp only [Kv_] at hq ⊢
       split at hq
       ·exact kV_ (zj_ hq).1 fun _=>rfl
       ·exact hq.elim
     | bview i off n t=>
       simp only [Kv_] at hq ⊢
       split at hq
       ·unfold xP_ at hq ⊢
        split at hq
        ·obtain ⟨x,hx,_⟩:=jc_.1 hq
         exact jc_.2 ⟨x,hx,rfl⟩
        ·exact hq.elim
       ·exact hq.elim
     | agg l=>exact absurd ⟨l,rfl⟩ ha
     | fn f l c=>exact absurd (.inl ⟨f,l,c,rfl⟩) hx
     | tup l=>exact absurd (.inr ⟨l,rfl⟩) hx
     | _=>rfl
    exact hok _ ev
   refine ⟨v',js',e1,fun K h=>by rw [e] at h;exact e2 _ h,e3,by rw [hv0];exact e4,by rw [hv0,hv'.1];exact e5,fun {I w m σ cv} hH hag hv=>?_⟩
   rw [hv0] at hag
   rcases QW_ hv with h | ⟨f,l,c,_,_,rfl,_⟩
   ·rcases kP_ h with h | ⟨l,_,rfl,_⟩
    ·exact hv'.2 (e6 hH hag h)
    ·exact absurd ⟨l,rfl⟩ ha
   ·exact absurd (.inl ⟨f,l,c,rfl⟩) hx
theorem WA_ {st:zc_}:∀ {l:List AV} {js:List Nat} {K0:List AV->List Nat->Prop},uM_ st l js K0->∃ l' js',K0 l' js'/\(∀ K,uM_ st l js K->K l' js')/\(∀ i ∈ js,i ∈ js')/\(∀ i ∈ js',i ∈ js\/(i ∈ l.flatMap AV.ids/\Hb_ st i))/\(∀ i ∈ l'.flatMap AV.ids,i ∈ l.flatMap AV.ids)/\
 ∀ {I:Nat->Prop} {w:World} {m:M} {σ:Sto} {cs:List Value},HRel I w m σ->(∀ i ∈ l.flatMap AV.ids,σ i=st.get i)->kn_ I w m l cs->kn_ (Ib I m js') w m l' cs
 | [],js,K0,ev=>⟨[],js,ev,fun K h=>h,fun i hi=>hi,fun i hi=>.inl hi,fun i hi=>hi,fun {I w m σ cs} _ _ h=>by cases cs with | nil=>trivial | cons=>exact h.elim⟩
 | v :: r,js,K0,ev=>by
   simp only [uM_] at ev
   obtain ⟨v',js1,ev1,h1,h2,h3,h4,h5⟩:=h2_ ev
   obtain ⟨r',js2,ev2,k1,k2,k3,k4,k5⟩:=WA_ ev1
   simp only [List.flatMap_cons]
   refine ⟨v' :: r',js2,ev2,fun K h=>by simp only [uM_] at h;exact k1 _ (h1 _ h),fun i hi=>k2 i (h2 i hi),fun i hi=>?_,fun i hi=>?_,fun {I w m σ cs} hH ha hv=>?_⟩
   ·rcases k3 i hi with h | ⟨h,h'⟩
    ·rcases h3 i h with h | ⟨h,h'⟩
     ·exact .inl h
     ·exact .inr ⟨List.mem_append.2 (.inl h),h'⟩
    ·exact .inr ⟨List.mem_append.2 (.inr h),h'⟩
   ·simp only [List.flatMap_cons] at hi
    exact List.mem_append.2 ((List.mem_append.1 hi).imp (h4 i) (k4 i))
   ·cases cs with
    | nil=>exact hv.elim
    | cons c cs=>
      exact ⟨XS_ (Ib.mono k2) (fun _ _=>rfl) m.le_refl _ _ (h5 hH (fun i hi=>ha i (List.mem_append.2 (.inl hi))) hv.1),k5 hH (fun i hi=>ha i (List.mem_append.2 (.inr hi))) hv.2⟩
end Go.Eng
namespace Go.Eng
set_option linter.unusedVariables false
set_option linter.unusedSimpArgs false
open Go.RowKit
def Jm_ (P : Program) (f : FuncId) : Prop := ∃ fn, P.funcs[f]? = some fn /\ (fn.name == "runtime.NumGoroutine") = false /\ fn.body.isNone = false
def ofL (l:List Obj):Sto:=fun i=>l[i]?
def XL (m:M) (objs:List Obj):Nat->Prop:=fun b=>(∃ i o,objs[i]?=some o/\o.mut=true/\m.blk i=some b)\/∃ i kn,objs[i]?=some (Obj.reg true kn)/\(m.rg i).dp b
structure Left (I:Nat->Prop) (w:World) (m:M) (objs:List Obj) (v:AV) (cv:Value) (objs':List Obj) (I':Nat->Prop) (w':World) (m':M):Prop where
 rv:RV I' w' m' v cv
 H:HRel I' w' m' (ofL objs')
 E:Evo I w m I' w' m'
 used:∀ i,m'.used i->i < objs'.length
 len:objs.length<=objs'.length
 fr:Fr (XL m objs) w w'
 new:∀ b,I' b->I b\/w.heap.size<=b\/XL m objs b
 own:∀ i o b,objs'[i]?=some o->o.live=true->m'.blk i=some b->w.heap.size<=b\/∃ j o',objs[j]?=some o'/\o'.live=true/\(o.mut=true->o'.mut=true)/\m.blk j=some b
 fz:∀ b,I' b->I b\/XV_ w' b
def Det (S:Sum):Prop:=∀ {args objs K},S args objs K->∃ v objs',K v objs'/\S args objs fun v' o'=>v'=v/\o'=objs'
def ze_ (P:Program) (f:FuncId) (S:Sum):Prop:=
 Jm_ P f/\Det S/\∀ {I:Nat->Prop} {w:World} {m:M} {args:List AV} {cargs:Array Value} {objs:List Obj} {K:AV->List Obj->Prop},
  HRel I w m (ofL objs)->kn_ I w m args cargs.toList->(∀ i,m.used i->i < objs.length)->S args objs K->
  Calls P f cargs w fun e w'=>∃ v cv objs' I' m',e=.returned cv/\K v objs'/\Left I w m objs v cv objs' I' w' m'
def SumK.sum:SumK->Sum
 | .ro S=>fun args objs K=>S args objs fun v=>K v objs
 | .rw S=>S
 | .nd S=>S
def h6_ (P:Program) (f:FuncId) (S:Sum):Prop:=
 Jm_ P f/\∀ {I:Nat->Prop} {w:World} {m:M} {args:List AV} {cargs:Array Value} {objs:List Obj} {K:AV->List Obj->Prop},
  HRel I w m (ofL objs)->kn_ I w m args cargs.toList->(∀ i,m.used i->i < objs.length)->S args objs K->
  Calls P f cargs w fun e w'=>∃ v cv objs' I' m',e=.returned cv/\K v objs'/\Left I w m objs v cv objs' I' w' m'
def Ji_ (P:Program) (f:FuncId) (s:SumK):Prop:=match s with
 | .nd S=>h6_ P f S
 | s=>ze_ P f s.sum
def qi_ (P:Program) (Γ:Env):Prop:=∀ x ∈ Γ,Ji_ P x.1 x.2
theorem XF_ {P:Program}:∀ {Γ:Env} {f:Nat} {s:SumK},qi_ P Γ->Γ.get f=some s->Ji_ P f s
 | [],_,_,_,h=>by cases h
 | (j,S) :: r,f,s,hΓ,h=>by
   unfold Env.get at h
   cases hb:Nat.beq j f with
   | true=>
     rw [hb] at h;cases h
     cases Nat.eq_of_beq_eq_true hb
     exact hΓ (j,S) (by simp)
   | false=>
     rw [hb] at h
     exact XF_ (fun x hx=>hΓ x (by simp [hx])) h
theorem Xv_ {i:Nat}:∀ {ρ:List Nat},xE_ i ρ=false->i ∉ ρ
 | [],_=>by simp
 | j :: r,h=>by
   unfold xE_ at h
   cases hb:Nat.beq j i with
   | true=>rw [hb] at h;cases h
   | false=>
     rw [hb] at h
     have hne:j ≠ i:=fun e=>by subst e;rw [Nat.beq_refl] at hb;cases hb
     simp only [List.mem_cons,not_or]
     exact ⟨fun e=>hne e.symm,Xv_ h⟩
theorem XI_:∀ {js ρ:List Nat},XJ_ js ρ=true->∀ i ∈ js,i ∉ ρ
 | [],_,_=>fun i hi=>by cases hi
 | j :: r,ρ,h=>fun i hi=>by
   unfold XJ_ at h
   cases hb:xE_ j ρ with
   | true=>rw [hb] at h;cases h
   | false=>
     rw [hb] at h
     rcases List.mem_cons.1 hi with rfl | hi
     ·exact Xv_ hb
     ·exact XI_ h i hi
theorem KW_:∀ {js:List Nat} {st:zc_} {K:zc_->Prop},yL_ st js K->∃ st',K st'/\(∀ i,i ∉ js->st'.get i=st.get i)/\∀ i ∈ js,∃ fz t x,st.get i=some (.row fz t x)/\st'.get i=some (.row true t x)
 | [],st,K,h=>⟨st,h,fun _ _=>rfl,fun i hi=>by cases hi⟩
 | j :: r,st,K,h=>by
   unfold yL_ at h
   split at h
   ·rename_i fz t x hg
    cases fz with
    | true=>
      obtain ⟨st',h1,h2,h3⟩:=KW_ h
      refine ⟨st',h1,fun i hi=>h2 i (fun h=>hi (List.mem_cons_of_mem _ h)),fun i hi=>?_⟩
      by_cases hr:i ∈ r
      ·exact h3 i hr
      ·rcases List.mem_cons.1 hi with rfl | h
       ·exact ⟨true,t,x,hg,by rw [h2 i hr];exact hg⟩
       ·exact absurd h hr
    | false=>
      simp only [zc_.setK_eq] at h
      obtain ⟨st',h1,h2,h3⟩:=KW_ h
      refine ⟨st',h1,fun i hi=>?_,fun i hi=>?_⟩
      ·rw [h2 i (fun h=>hi (List.mem_cons_of_mem _ h)),zc_.get_set,if_neg (fun e=>hi (by rw [e];simp))]
      ·by_cases hr:i ∈ r
       ·obtain ⟨fz',t',x',k1,k2⟩:=h3 i hr
        rw [zc_.get_set] at k1
        split at k1
        ·cases k1;subst_vars;exact ⟨false,_,_,hg,k2⟩
        ·exact ⟨fz',t',x',k1,k2⟩
       ·rcases List.mem_cons.1 hi with rfl | h
        ·exact ⟨false,t,x,hg,by rw [h2 i hr,zc_.get_set,if_pos rfl]⟩
        ·exact absurd h hr
   ·exact h.elim
section ni
variable {I I':Nat->Prop} {w:World} {m:M}
theorem WC_ {p:AV->Bool}:∀ {l:List AV},Kj_ p l=true->∀ v ∈ l,p v=true
 | [],_=>fun v hv=>by cases hv
 | a :: r,h=>fun v hv=>by
   unfold Kj_ at h
   split at h
   ·rcases List.mem_cons.1 hv with rfl | hv
    ·assumption
    ·exact WC_ h v hv
   ·cases h
theorem h7_ {v:AV} {cv:Value} (e:v.ni0=true) (h:RV0 I w m v cv):RV0 I' w m v cv:=by cases v<;>first | exact h | cases e
theorem ga_:∀ {l:List AV} {r:List Value},(∀ v ∈ l,v.ni0=true)->z0_ I w m l r->z0_ I' w m l r
 | [],[],_,_=>trivial
 | _ :: _,_ :: _,e,h=>⟨h7_ (e _ (by simp)) h.1,ga_ (fun v hv=>e v (by simp [hv])) h.2⟩
 | [],_ :: _,_,h=>h.elim
 | _ :: _,[],_,h=>h.elim
theorem zbe_ {v:AV} {cv:Value} (e:v.ni1=true) (h:RV1 I w m v cv):RV1 I' w m v cv:=by
 rcases kP_ h with h' | ⟨l,cs,rfl,rfl,h'⟩
 ·by_cases ha:∃ l,v=.agg l
  ·obtain ⟨l,rfl⟩:=ha;exact h'.elim
  ·have:v.ni1=v.ni0:=by cases v<;>first | rfl | exact absurd ⟨_,rfl⟩ ha
   rw [this] at e;exact KC_ (h7_ e h')
 ·exact ⟨cs,rfl,ga_ (WC_ e) h'⟩
theorem HZ_:∀ {l:List AV} {r:List Value},(∀ v ∈ l,v.ni1=true)->q5_ I w m l r->q5_ I' w m l r
 | [],[],_,_=>trivial
 | _ :: _,_ :: _,e,h=>⟨zbe_ (e _ (by simp)) h.1,HZ_ (fun v hv=>e v (by simp [hv])) h.2⟩
 | [],_ :: _,_,h=>h.elim
 | _ :: _,[],_,h=>h.elim
theorem zev_ {v:AV} {cv:Value} (e:v.ni=true) (h:RV I w m v cv):RV I' w m v cv:=by
 rcases XO_ h with rfl | ⟨rfl,rfl⟩ | h' | ⟨l,cs,rfl,rfl,h'⟩
 ·trivial
 ·rfl
 ·rcases QW_ h' with h' | ⟨f,l,c,fs,cs,rfl,rfl,_⟩
  ·have:v.ni=v.ni1:=by cases v<;>first | rfl | exact (h':False).elim
   rw [this] at e;exact Jj_ (qz_ (zbe_ e h'))
  ·cases e
 ·exact ⟨cs,rfl,HZ_ (WC_ e) h'⟩
theorem Uz_:∀ {l:List Obj},niO l=true->∀ o ∈ l,o.ni=true
 | [],_=>fun v hv=>by cases hv
 | a :: r,h=>fun v hv=>by
   unfold niO at h
   split at h
   ·rcases List.mem_cons.1 hv with rfl | hv
    ·assumption
    ·exact Uz_ h v hv
   ·cases h
end ni
theorem zM_.ren {I I':Nat->Prop} {w:World} {m m':M} {g:Nat->Nat} {j:Nat} {o:Obj} (hj:m.used j) (hg:∀ i,m.used i->Rn m m' g i) (hI:(∀ b,I b->I' b)\/o.ni=true) (h:zM_ I w m j o):zM_ I' w m' (g j) (wW_ g o):=by
 obtain ⟨k1,k2,k3,k4,k5,k6⟩:=hg j hj
 cases o with
 | dead=>trivial
 | reg wr kn=>trivial
 | box l=>
   obtain ⟨b,cs,T,fz,h1,h2,h3,h4⟩:=h
   refine ⟨b,cs,T,fz,by rw [k2];exact h1,h2,h3,?_⟩
   have h5:=XQ_ (m':=m') (g:=g) (fun i _ hu=>hg i hu) h4
   rcases hI with hI | hI
   ·exact ZS_ hI (fun _ _=>rfl) m'.le_refl _ _ h5
   ·refine ga_ (fun v hv=>?_) h5
    obtain ⟨u,hu,rfl⟩:=List.mem_map.1 hv
    have:=WC_ hI u hu
    cases u<;>first | rfl | cases this
 | row fz t x=>
   obtain ⟨h1,h2,h3,h4,h5⟩:=h
   refine ⟨by rw [k5];exact h1,by rw [k4];exact h2,by rw [k3];exact h3,by rw [k3];exact h4,?_⟩
   rw [k2,k3]
   rcases h5 with h5 | ⟨b,cs,T,f,h6,h7,h8,h9,h10⟩
   ·exact .inl h5
   ·refine .inr ⟨b,cs,T,f,h6,h7,h8,h9,?_⟩
    have h10:EA I w t x fun k=>cs[k]?:=h10
    rcases hI with hI | hI
    ·exact EA.mono hI (fun _ _=>rfl) h10
    ·exact EA.plain (by simp only [Obj.ni] at hI;split at hI<;>first | cases hI | exact hI) h10
 | iter s p=>
   obtain ⟨b,t,h1,h2,h3⟩:=h
   exact ⟨b,t,by rw [k2];exact h1,h2,h3⟩
 | lrec r c=>
   obtain ⟨b,h1,h2⟩:=h
   exact ⟨b,by rw [k2];exact h1,h2⟩
 | rowp t x l c=>
   obtain ⟨h1,h2,h3,h4,q1,q2,q3,h5⟩:=h
   refine ⟨by rw [k5];exact h1,by rw [k4];exact h2,by rw [k3];exact h3,by rw [k3];exact h4,by rw [k3];exact q1,by rw [k3];exact q2,q3,?_⟩
   rw [k2,k3]
   rcases h5 with h5 | ⟨b,cs,T,f,h6,h7,h8,h9,h10⟩
   ·exact .inl h5
   ·refine .inr ⟨b,cs,T,f,h6,h7,h8,h9,?_⟩
    have h10:EA I w t x fun k=>cs[k]?:=h10
    rcases hI with hI | hI
    ·exact EA.mono hI (fun _ _=>rfl) h10
    ·exact EA.plain hI h10
 | rowm t x i0 L=>
   rcases hI with hI | hI
   ·obtain ⟨h1,h2,h3,h4,h5,r,cl,b,vs,T,fz,h6,h7,h8,h9,h10,h11,h12,h13⟩:=h
    obtain ⟨u1,u2,u3,u4,u5,u6⟩:=hg r h7
    refine ⟨by rw [k5];exact h1,by rw [k4];exact h2,by rw [k3];exact h3,by rw [k3];exact h4,h5,g r,cl.map (Z7_ g),b,vs,T,fz,by rw [h6];rfl,u1,by rw [List.length_map];exact h8,by rw [k2];exact h9,h10,h11,by rw [k3];exact h12,fun k hk=>?_⟩
    obtain ⟨es,q1,q2,q3,q4,q5⟩:=h13 k hk
    exact ⟨es,q1,fun h=>Zm_ hI (fun _ _=>rfl) t _ _ (q2 h),fun h=>by rw [u6];exact q3 h,fun h=>ZS_ hI (fun _ _=>rfl) m'.le_refl _ _ (XQ_ (m':=m') (g:=g) (fun i _ hu=>hg i hu) (q4 h)),q5⟩
   ·cases hI
 | miter v n s=>
   obtain ⟨b,mb,h1,h2,h3⟩:=h
   refine ⟨b,mb,by rw [k2];exact h1,h2,?_⟩
   have h5:=gb_ (m':=m') (g:=g) (fun i _ hu=>hg i hu) h3
   rcases hI with hI | hI
   ·exact kp_ hI (fun _ _=>rfl) m'.le_refl _ _ h5
   ·exact h7_ (by cases v<;>first | rfl | cases hI) h5
 | map q kt vt l=>
   obtain ⟨b,es,c,h1,h2,h3⟩:=h
   refine ⟨b,es,c,by rw [k2];exact h1,h2,?_⟩
   rcases hI with hI | hI
   ·exact h3.mono hI fun _ _=>rfl
   ·have hp:kt.plain=true/\vt.plain=true:=by
     simp only [Obj.ni] at hI
     split at hI
     ·exact ⟨by assumption,hI⟩
     ·cases hI
    exact ⟨h3.1,fun i a b=>⟨⟨WK_ _ _ _ hp.1 (h3.2.1 i a b).1.1,(h3.2.1 i a b).1.2⟩,⟨WK_ _ _ _ hp.2 (h3.2.1 i a b).2.1,(h3.2.1 i a b).2.2⟩⟩,h3.2.2⟩
theorem Xa_ (g:Nat->Nat) (o:Obj):(wW_ g o).mut=o.mut/\(wW_ g o).live=o.live:=by cases o<;>exact ⟨rfl,rfl⟩
theorem Z6_.same {nx:Nat} {ρ:List Nat} {o o':Obj} (h:Z6_ nx ρ o o'):o'.mut=o.mut/\o'.live=o.live:=by
 cases o with
 | miter v n s=>obtain ⟨v',rfl,_⟩:=h;exact ⟨rfl,rfl⟩
 | rowm t x i L=>obtain ⟨L',rfl,_⟩:=h;exact ⟨rfl,rfl⟩
 | _=>cases o'<;>first | exact ⟨rfl,rfl⟩ | exact h.elim | (cases (show _=_ from h)<;>exact ⟨rfl,rfl⟩)
theorem vP_ {o:Obj} (h:o.mut=true):o.live=true:=by cases o<;>first | rfl | cases h
def qc_ (m:M) (ρ:List Nat) (nx:Nat):M:=
 {blk:=fun j=>m.blk (un ρ nx j),cap:=fun j=>m.cap (un ρ nx j),len:=fun j=>m.len (un ρ nx j),sz:=fun j=>m.sz (un ρ nx j),used:=fun j=>j < ρ.length,rg:=fun j=>m.rg (un ρ nx j)}
def K9_ (m m':M) (nx k n:Nat):M:=
 {blk:=fun i=>if nx<=i/\i < nx+n then m'.blk (k+(i - nx)) else m.blk i,cap:=fun i=>if nx<=i/\i < nx+n then m'.cap (k+(i - nx)) else m.cap i,
  len:=fun i=>if nx<=i/\i < nx+n then m'.len (k+(i - nx)) else m.len i,sz:=fun i=>if nx<=i/\i < nx+n then m'.sz (k+(i - nx)) else m.sz i,used:=fun i=>m.used i\/(nx<=i/\i < nx+n),rg:=fun i=>if nx<=i/\i < nx+n then m'.rg (k+(i - nx)) else m.rg i}
theorem Hm_ {g:Nat->Nat} {o:Obj} {fz:Bool} {t:Ty} {x:List t.den} (h:wW_ g o=.row fz t x):o=.row fz t x:=by cases o<;>first | exact h | cases h
theorem Hq_ {g:Nat->Nat} {o:Obj} {wr kn:Bool} (h:wW_ g o=Obj.reg wr kn):o=Obj.reg wr kn:=by cases o<;>first | exact h | cases h
def Keep (o' o:Obj):Prop:=(∀ t x,o'=.row true t x->o=.row true t x)/\∀ wr kn,o'=Obj.reg wr kn->o=Obj.reg wr kn
theorem Vy_ {X0:Bool->Nat->Prop} {I0 I I' If:Nat->Prop} {w0 w w':World} {m ml':M} {σ σ':Sto} {ρ js Jf:List Nat} {nx:Nat} {objs objs':List Obj} {v:AV} {cv:Value}
 (hs:HS X0 I0 w0 σ I w m) (hnod:ρ.Nodup) (hρ:∀ i ∈ ρ,i < nx) (hk:objs.length=ρ.length)
 (hσ:∀ j (h:j < ρ.length) (h':j < objs.length),∃ o,σ ρ[j]=some o/\objs[j].mut=o.mut/\objs[j].live=o.live/\∀ wr kn,objs[j]=Obj.reg wr kn->o=Obj.reg wr kn)
 (hfr:∀ i,nx<=i->i < nx+(objs'.length - ρ.length)->¬ m.used i)
 (hL:Left (Ib I m js) w (qc_ m ρ nx) objs v cv objs' I' w' ml')
 (hI:(If=I'/\Jf=js)\/(If=I/\Jf=[]/\v.ni=true/\∀ o ∈ objs',o.ni=true))
 (hj1:∀ i ∈ js,i ∉ ρ) (hj2:∀ i ∈ js,i < nx/\∃ o,σ i=some o/\o.live=true)
 (hin:∀ j (h:j < objs'.length),∃ o',σ' (un ρ nx j)=some o'/\o'.mut=objs'[j].mut/\o'.live=objs'[j].live/\Keep o' objs'[j]/\∀ (J:Nat->Prop) (u:World) (q:M) i,zM_ J u q i (wW_ (un ρ nx) objs'[j])->zM_ J u q i o')
 (hlent:∀ i ∈ Jf,∃ fz t x,σ i=some (.row fz t x)/\σ' i=some (.row true t x))
 (hout:∀ i,(∀ j,j < objs'.length->i ≠ un ρ nx j)->i ∉ Jf->σ' i=σ i)
 (hreg:∀ (j:Nat) (wr kn:Bool),objs'[j]?=some (Obj.reg wr kn)->∃ kn0,objs[j]?=some (Obj.reg wr kn0)) (hnw:∀ (j:Nat) (kn:Bool),objs[j]? ≠ some (Obj.reg true kn)):
 HS X0 I0 w0 σ' If w' (K9_ m ml' nx ρ.length (objs'.length - ρ.length))/\Evo I w m If w' (K9_ m ml' nx ρ.length (objs'.length - ρ.length))/\RV If w' (K9_ m ml' nx ρ.length (objs'.length - ρ.length)) (kF_ (un ρ nx) v) cv:=by
 have hlen:=hL.len
 have hupI:∀ b,I b->I' b:=fun b hb=>hL.E.up b (.inl hb)
 have hIf':∀ b,If b->I' b:=fun b hb=>by
  rcases hI with ⟨rfl,_⟩ | ⟨rfl,_⟩
  ·exact hb
  ·exact hupI b hb
 have hIIf:∀ b,I b->If b:=fun b hb=>by
  rcases hI with ⟨rfl,_⟩ | ⟨rfl,_⟩
  ·exact hupI b hb
  ·exact hb
 have hJf:∀ i ∈ Jf,i ∈ js/\If=I':=fun i hi=>by
  rcases hI with ⟨h,rfl⟩ | ⟨_,rfl,_⟩
  ·exact ⟨hi,h⟩
  ·cases hi
 have hsameI:qF_ I w w':=fun b hb=>hL.E.same b (.inl hb)
 have hle:m.le (K9_ m ml' nx ρ.length (objs'.length - ρ.length)):=⟨fun i hi=>.inl hi,fun i hi=>by
  have hne:¬ (nx<=i/\i < nx+(objs'.length - ρ.length)):=fun h=>hfr i h.1 h.2 hi
  simp only [K9_,M.same]
  rw [if_neg hne,if_neg hne,if_neg hne,if_neg hne,if_neg hne]
  exact ⟨rfl,rfl,rfl,rfl,rfl⟩⟩
 have hE:Evo I w m If w' (K9_ m ml' nx ρ.length (objs'.length - ρ.length)):=⟨hIIf,hsameI,hle⟩
 have husedρ:∀ j (h:j < ρ.length),m.used ρ[j]:=fun j h=>by
  obtain ⟨o,ho,_⟩:=hσ j h (by omega)
  exact hs.H.lt _ (by rw [ho];intro h;cases h)
 have hRn:∀ j,ml'.used j->Rn ml' (K9_ m ml' nx ρ.length (objs'.length - ρ.length)) (un ρ nx) j:=fun j hj=>by
  have hjl:=hL.used j hj
  rcases Nat.lt_or_ge j ρ.length with h | h
  ·obtain ⟨e1,e2,e3,e4,e5⟩:=hL.E.m.2 j h
   have hu:=husedρ j h
   have hne:¬ (nx<=ρ[j]/\ρ[j] < nx+(objs'.length - ρ.length)):=fun h'=>hfr _ h'.1 h'.2 hu
   simp only [qc_,zP_ h] at e1 e2 e3 e4 e5
   refine ⟨?_,?_,?_,?_,?_,?_⟩<;>simp only [K9_,zP_ h]
   ·exact .inl hu
   ·rw [if_neg hne,e1]
   ·rw [if_neg hne,e2]
   ·rw [if_neg hne,e3]
   ·rw [if_neg hne,e4]
   ·rw [if_neg hne,e5]
  ·have hin':nx<=nx+(j - ρ.length)/\nx+(j - ρ.length) < nx+(objs'.length - ρ.length):=by omega
   have ej:ρ.length+(nx+(j - ρ.length) - nx)=j:=by omega
   refine ⟨?_,?_,?_,?_,?_,?_⟩<;>simp only [K9_,x1_ h]
   ·exact .inr hin'
   all_goals rw [if_pos hin',ej]
 have hu':∀ j,j < objs'.length->ml'.used j:=fun j hj=>hL.H.lt j (by simp only [ofL];rw [List.getElem?_eq_getElem hj];intro h;cases h)
 have hob:∀ j (h:j < objs'.length),ofL objs' j=some objs'[j]:=fun j h=>List.getElem?_eq_getElem h
 have hblk0:∀ j (h:j < objs'.length) b,objs'[j].live=true->(K9_ m ml' nx ρ.length (objs'.length - ρ.length)).blk (un ρ nx j)=some b->w.heap.size<=b\/∃ i ∈ ρ,∃ o,σ i=some o/\o.live=true/\(objs'[j].mut=true->o.mut=true)/\m.blk i=some b:=fun j h b hl hb=>by
  rw [(hRn j (hu' j h)).2.1] at hb
  rcases hL.own j _ b (hob j h) hl hb with h1 | ⟨k,o',h1,h2,h3,h4⟩
  ·exact .inl h1
  ·have hkl:k < objs.length:=by
    rcases Nat.lt_or_ge k objs.length with h | h
    ·exact h
    ·rw [List.getElem?_eq_none h] at h1;cases h1
   rw [List.getElem?_eq_getElem hkl] at h1
   cases h1
   obtain ⟨o,ho,hm,hlv,_⟩:=hσ k (by omega) hkl
   refine .inr ⟨ρ[k]'(by omega),List.getElem_mem _,o,ho,by rw [<- hlv];exact h2,fun h=>by rw [<- hm];exact h3 h,?_⟩
   simp only [qc_,zP_ (show k < ρ.length by omega)] at h4
   exact h4
 have hXL:∀ b,XL (qc_ m ρ nx) objs b->∃ i ∈ ρ,∃ o,σ i=some o/\o.mut=true/\m.blk i=some b:=fun b hb=>by
  obtain ⟨k,o',h1,h2,h4⟩:=hb.resolve_right fun ⟨k,kn,h1,_⟩=>hnw k kn h1
  have hkl:k < objs.length:=by
   rcases Nat.lt_or_ge k objs.length with h | h
   ·exact h
   ·rw [List.getElem?_eq_none h] at h1;cases h1
  rw [List.getElem?_eq_getElem hkl] at h1
  cases h1
  obtain ⟨o,ho,hm,hlv,_⟩:=hσ k (by omega) hkl
  refine ⟨ρ[k]'(by omega),List.getElem_mem _,o,ho,by rw [<- hm];exact h2,?_⟩
  simp only [qc_,zP_ (show k < ρ.length by omega)] at h4
  exact h4
 have hunρ:∀ i ∈ ρ,∃ j,j < objs'.length/\i=un ρ nx j:=fun i hi=>by
  obtain ⟨j,hj,rfl⟩:=List.mem_iff_getElem.1 hi
  exact ⟨j,by omega,(zP_ hj).symm⟩
 have hjne:∀ i ∈ js,∀ j,j < objs'.length->i ≠ un ρ nx j:=fun i hi j hj e=>by
  rcases Nat.lt_or_ge j ρ.length with h | h
  ·rw [zP_ h] at e;exact hj1 i hi (by rw [e];exact List.getElem_mem h)
  ·rw [x1_ h] at e;have:=(hj2 i hi).1;omega
 have hblkj:∀ i ∈ js,(K9_ m ml' nx ρ.length (objs'.length - ρ.length)).blk i=m.blk i:=fun i hi=>by
  have:=(hj2 i hi).1
  simp only [K9_];rw [if_neg (by omega)]
 have hjlt:∀ i ∈ js,∀ b,m.blk i=some b->b < w.heap.size:=fun i hi b hb=>by
  obtain ⟨_,o,ho,hl⟩:=hj2 i hi
  exact (hs.H.obj i o ho).lt hl hb
 have hstep:HS X0 I0 w0 σ' If w' (K9_ m ml' nx ρ.length (objs'.length - ρ.length)):=by
  refine hs.step hE (fun i=>(∃ j,j < objs'.length/\i=un ρ nx j)\/i ∈ Jf) (fun i hi=>?_) (hL.fr.weak fun b hb=>?_) (fun b hb=>?_) (fun b hb=>hL.H.Ilt b (hIf' b hb)) (fun i o hT e=>?_) (fun i o b hT e hl hb=>?_) (fun i i2 o o2 b hT hT2 e e2 hl hl2 hb hb2=>?_) (fun i o b hT e hm hb hIb=>?_) (fun i t x b hT e hb=>?_) (fun i wr kn hT e=>?_) (fun b hb=>?_)
  ·exact hout i (fun j hj e=>hi (.inl ⟨j,hj,e⟩)) (fun h=>hi (.inr h))
  ·obtain ⟨i,hi,o,h1,h2,h3⟩:=hXL b hb
   exact ⟨i,o,.inl (hunρ i hi),h1,h2,h3⟩
  ·rcases hI with ⟨rfl,rfl⟩ | ⟨rfl,_⟩
   ·rcases hL.new b hb with h | h | h
    ·rcases h with h | ⟨i,hi,h⟩
     ·exact .inl h
     ·obtain ⟨fz,t,x,h1,h2⟩:=hlent i hi
      cases fz with
      | true=>exact .inl (hs.H.isI i t x b h1 h)
      | false=>exact .inr (.inr ⟨i,_,.inr hi,h1,rfl,h⟩)
    ·exact .inr (.inl h)
    ·obtain ⟨i,hi,o,h1,h2,h3⟩:=hXL b h
     exact .inr (.inr ⟨i,o,.inl (hunρ i hi),h1,h2,h3⟩)
   ·exact .inl hb
  ·rcases hT with ⟨j,hj,rfl⟩ | hT
   ·obtain ⟨o',g1,g2,g3,g4,g5⟩:=hin j hj
    rw [g1] at e;cases e
    refine ⟨(hRn j (hu' j hj)).1,g5 _ _ _ _ (zM_.ren (hu' j hj) hRn ?_ (hL.H.obj j _ (hob j hj)))⟩
    rcases hI with ⟨rfl,_⟩ | ⟨_,_,_,h⟩
    ·exact .inl fun _ h=>h
    ·exact .inr (h _ (List.getElem_mem hj))
   ·obtain ⟨hjs,hIfe⟩:=hJf i hT
    obtain ⟨fz,t,x,h1,h2⟩:=hlent i hT
    rw [h2] at e;cases e
    have hui:=hs.H.lt i (by rw [h1];intro h;cases h)
    refine ⟨.inl hui,?_⟩
    have hok:zM_ I w m i (.row true t x):=(hs.H.obj i _ h1:zM_ I w m i (.row fz t x))
    exact hok.mono hIIf hsameI hle hui fun _ b hb=>hL.E.same b (.inr ⟨i,hjs,hb⟩)
  ·rcases hT with ⟨j,hj,rfl⟩ | hT
   ·obtain ⟨o',g1,g2,g3,g4,g5⟩:=hin j hj
    rw [g1] at e;cases e
    rcases hblk0 j hj b (by rw [<- g3];exact hl) hb with h | ⟨i,hi,o2,h1,h2,h3,h4⟩
    ·exact .inl h
    ·exact .inr ⟨i,o2,.inl (hunρ i hi),h1,h2,fun h=>h3 (by rw [<- g2];exact h),h4⟩
   ·obtain ⟨hjs,_⟩:=hJf i hT
    obtain ⟨fz,t,x,h1,h2⟩:=hlent i hT
    rw [h2] at e;cases e
    rw [hblkj i hjs] at hb
    exact .inr ⟨i,_,.inr hT,h1,rfl,fun h=>(by cases h),hb⟩
  ·-- no two of them in one block
   have cross:∀ j (hj:j < objs'.length) i,i ∈ js->objs'[j].live=true->(K9_ m ml' nx ρ.length (objs'.length - ρ.length)).blk (un ρ nx j)=some b->m.blk i=some b->False:=fun j hj i hi hl hb hbi=>by
    rcases hblk0 j hj b hl hb with h | ⟨k,hk',o3,h1,h2,_,h4⟩
    ·have:=hjlt i hi b hbi;omega
    ·obtain ⟨_,o4,ho4,hl4⟩:=hj2 i hi
     exact hj1 i hi (hs.H.inj k i o3 o4 b h1 ho4 h2 hl4 h4 hbi ▸ hk')
   rcases hT with ⟨j,hj,rfl⟩ | hT<;>rcases hT2 with ⟨j2,hj2',rfl⟩ | hT2
   ·obtain ⟨o',g1,g2,g3,_⟩:=hin j hj
    obtain ⟨o2',k1,k2,k3,_⟩:=hin j2 hj2'
    rw [g1] at e;cases e
    rw [k1] at e2;cases e2
    rw [(hRn j (hu' j hj)).2.1] at hb
    rw [(hRn j2 (hu' j2 hj2')).2.1] at hb2
    rw [hL.H.inj j j2 _ _ b (hob j hj) (hob j2 hj2') (by rw [<- g3];exact hl) (by rw [<- k3];exact hl2) hb hb2]
   ·obtain ⟨o',g1,g2,g3,_⟩:=hin j hj
    rw [g1] at e;cases e
    obtain ⟨hjs,_⟩:=hJf i2 hT2
    rw [hblkj i2 hjs] at hb2
    exact (cross j hj i2 hjs (by rw [<- g3];exact hl) hb hb2).elim
   ·obtain ⟨o',g1,g2,g3,_⟩:=hin j2 hj2'
    rw [g1] at e2;cases e2
    obtain ⟨hjs,_⟩:=hJf i hT
    rw [hblkj i hjs] at hb
    exact (cross j2 hj2' i hjs (by rw [<- g3];exact hl2) hb2 hb).elim
   ·obtain ⟨hjs,_⟩:=hJf i hT
    obtain ⟨hjs2,_⟩:=hJf i2 hT2
    rw [hblkj i hjs] at hb
    rw [hblkj i2 hjs2] at hb2
    obtain ⟨_,o4,ho4,hl4⟩:=hj2 i hjs
    obtain ⟨_,o5,ho5,hl5⟩:=hj2 i2 hjs2
    exact hs.H.inj i i2 o4 o5 b ho4 ho5 hl4 hl5 hb hb2
  ·rcases hT with ⟨j,hj,rfl⟩ | hT
   ·obtain ⟨o',g1,g2,g3,_⟩:=hin j hj
    rw [g1] at e;cases e
    rw [(hRn j (hu' j hj)).2.1] at hb
    exact hL.H.notI j _ b (hob j hj) (by rw [<- g2];exact hm) hb (hIf' b hIb)
   ·obtain ⟨fz,t,x,h1,h2⟩:=hlent i hT
    rw [h2] at e;cases e;cases hm
  ·rcases hT with ⟨j,hj,rfl⟩ | hT
   ·obtain ⟨o',g1,g2,g3,g4,_⟩:=hin j hj
    rw [g1] at e;cases e
    have hrow:=g4.1 t x rfl
    rw [(hRn j (hu' j hj)).2.1] at hb
    have:=hL.H.isI j t x b (by rw [hob j hj,hrow]) hb
    rcases hI with ⟨rfl,_⟩ | ⟨_,_,_,h⟩
    ·exact this
    ·have:=h _ (List.getElem_mem hj)
     rw [hrow] at this;cases this
   ·obtain ⟨hjs,rfl⟩:=hJf i hT
    rw [hblkj i hjs] at hb
    exact hL.E.up b (.inr ⟨i,hjs,hb⟩)
  ·rcases hT with ⟨j,hj,rfl⟩ | hT
   ·obtain ⟨o',g1,g2,g3,g4,_⟩:=hin j hj
    rw [g1] at e;cases e
    have hrow:=g4.2 wr kn rfl
    obtain ⟨kn0,h0⟩:=hreg j wr kn (by rw [List.getElem?_eq_getElem hj,hrow])
    have hjl:j < objs.length:=by
     rcases Nat.lt_or_ge j objs.length with h | h
     ·exact h
     ·rw [List.getElem?_eq_none h] at h0;cases h0
    rw [List.getElem?_eq_getElem hjl] at h0
    have h0:=Option.some.inj h0
    obtain ⟨o,ho,_,_,hor⟩:=hσ j (by omega) hjl
    have hjr:j < ρ.length:=by omega
    have hrgj:ml'.rg j=m.rg ρ[j]:=by
     have:=(hL.E.m.2 j hjr).2.2.2.2
     simp only [qc_,zP_ hjr] at this
     exact this
    rw [zP_ hjr]
    refine ⟨⟨kn0,by rw [ho,hor wr kn0 h0]⟩,fun b hb=>?_⟩
    have:=(hL.H.gar j wr kn b (by rw [hob j hj,hrow]) (by rw [hrgj];exact hb)).2.2.2
    rwa [hrgj] at this
   ·obtain ⟨fz,t,x,h1,h2⟩:=hlent i hT
    rw [h2] at e;cases e
  ·rcases hI with ⟨rfl,rfl⟩ | ⟨rfl,_⟩
   ·rcases hL.fz b hb with h | h
    ·rcases h with h | ⟨i,hi,h⟩
     ·exact .inl h
     ·obtain ⟨fz,t,x,h1,_⟩:=hlent i hi
      right
      obtain ⟨_,_,_,_,h5⟩:=(hs.H.obj i _ h1:zM_ I w m i (.row fz t x))
      rcases h5 with ⟨h5,_⟩ | ⟨b',cs',T',fz',h6,h7,h8,_⟩
      ·rw [h5] at h;cases h
      ·rw [h6] at h;cases h
       refine XV_.same (w:=w) (fun cs T fz e=>?_) (hL.E.same _ (.inr ⟨i,hi,h6⟩))
       rw [h7] at e;cases e;exact h8.1
    ·exact .inr h
   ·exact .inl hb
 refine ⟨hstep,hE,?_⟩
 have hrv:=zdM_ (m':=K9_ m ml' nx ρ.length (objs'.length - ρ.length)) (g:=un ρ nx) (fun i _ hu=>hRn i hu) hL.rv
 rcases hI with ⟨rfl,_⟩ | ⟨_,_,hv,_⟩
 ·exact hrv
 ·refine zev_ ?_ hrv
  have hr0:∀ u:AV,u.ni0=true->(Z7_ (un ρ nx) u).ni0=true:=fun u hu=>by cases u<;>first | rfl | cases hu
  have hall0:∀ l:List AV,Kj_ AV.ni0 l=true->Kj_ AV.ni0 (l.map (Z7_ (un ρ nx)))=true:=fun l=>by
   induction l with
   | nil=>intro _;rfl
   | cons a r ih=>
     intro h
     unfold Kj_ at h
     split at h
     ·simp only [List.map_cons,Kj_,hr0 a ‹_›];exact ih h
     ·cases h
  have hr1:∀ u:AV,u.ni1=true->(k1_ (un ρ nx) u).ni1=true:=fun u hu=>by
   cases u<;>first | rfl | exact hall0 _ hu | cases hu
  have hall1:∀ l:List AV,Kj_ AV.ni1 l=true->Kj_ AV.ni1 (l.map (k1_ (un ρ nx)))=true:=fun l=>by
   induction l with
   | nil=>intro _;rfl
   | cons a r ih=>
     intro h
     unfold Kj_ at h
     split at h
     ·simp only [List.map_cons,Kj_,hr1 a ‹_›];exact ih h
     ·cases h
  cases v<;>first | rfl | exact hall1 _ hv | exact hall0 _ hv | cases hv
end Go.Eng
namespace Go.Eng
set_option linter.unusedVariables false
set_option linter.unusedSimpArgs false
open Go.RowKit
theorem B8_ (i:Nat) (ρ:List Nat):wz_ i ρ fun _ ρ'=>∀ k ∈ ρ',k ∈ ρ\/k=i:=by
 unfold wz_
 split
 ·exact fun k hk=>.inl hk
 ·intro k hk
  rcases List.mem_append.1 hk with h | h
  ·exact .inl h
  ·exact .inr (by simpa using h)
theorem bA_ {i:Nat} {ρ:List Nat} {p q:Nat->List Nat->Prop} (h:∀ j ρ',p j ρ'->q j ρ') (hp:wz_ i ρ p):wz_ i ρ q:=by
 unfold wz_ at hp ⊢
 split<;>rename_i e<;>rw [e] at hp<;>exact h _ _ hp
theorem Vn_ (v:AV) (ρ:List Nat):can0 v ρ fun _ ρ'=>∀ k ∈ ρ',k ∈ ρ\/k ∈ v.ids0:=by
 have hl:∀ (i:Nat) (f:Nat->AV),wz_ i ρ fun _ ρ'=>∀ k ∈ ρ',k ∈ ρ\/k ∈ [i]:=fun i f=>
  bA_ (fun _ ρ' h k hk=>(h k hk).imp id fun e=>by simp [e]) (B8_ i ρ)
 cases v with
 | ptr i o=>exact hl i fun j=>.ptr j o
 | own i=>exact hl i fun j=>.own j
 | view i o n=>exact hl i fun j=>.own j
 | rptr i k o=>exact hl i fun j=>.own j
 | mapv i=>exact hl i fun j=>.own j
 | fnp f i=>exact hl i fun j=>.own j
 | jsl i t x=>exact hl i fun j=>.own j
 | jptr i t x k o=>exact hl i fun j=>.own j
 | bview i o n t=>exact hl i fun j=>.own j
 | _=>exact fun k hk=>.inl hk
theorem WY_:∀ (l:List AV) (ρ:List Nat),Yi_ l ρ fun _ ρ'=>∀ k ∈ ρ',k ∈ ρ\/k ∈ zH_ l
 | [],ρ=>fun k hk=>.inl hk
 | v :: r,ρ=>by
   obtain ⟨v',ρ1,h1,_⟩:=XM_ v ρ 0
   have hs:=Vn_ v ρ
   rw [h1] at hs
   obtain ⟨r',ρ2,k1,_⟩:=Kh_ 0 r ρ1
   have ks:=WY_ r ρ1
   rw [k1] at ks
   simp only [Yi_,h1,k1]
   intro k hk
   have e:zH_ (v :: r)=v.ids0++zH_ r:=by simp [zH_]
   rw [e,List.mem_append]
   rcases ks k hk with h | h
   ·exact (hs k h).imp id .inl
   ·exact .inr (.inr h)
theorem GA_ (v:AV) (ρ:List Nat):bT_ v ρ fun _ ρ'=>∀ k ∈ ρ',k ∈ ρ\/k ∈ v.ids1:=by
 have h0:=Vn_ v ρ
 cases v with
 | agg l=>
   obtain ⟨l',ρ1,h1,_⟩:=Kh_ 0 l ρ
   have hs:=WY_ l ρ
   rw [h1] at hs
   simp only [bT_,h1];exact hs
 | _=>exact h0
theorem WX_:∀ (l:List AV) (ρ:List Nat),Yh_ l ρ fun _ ρ'=>∀ k ∈ ρ',k ∈ ρ\/k ∈ Qw_ l
 | [],ρ=>fun k hk=>.inl hk
 | v :: r,ρ=>by
   obtain ⟨v',ρ1,h1,_⟩:=U2_ v ρ 0
   have hs:=GA_ v ρ
   rw [h1] at hs
   obtain ⟨r',ρ2,k1,_⟩:=Kg_ 0 r ρ1
   have ks:=WX_ r ρ1
   rw [k1] at ks
   simp only [Yh_,h1,k1]
   intro k hk
   have e:Qw_ (v :: r)=v.ids1++Qw_ r:=by simp [Qw_]
   rw [e,List.mem_append]
   rcases ks k hk with h | h
   ·exact (hs k h).imp id .inl
   ·exact .inr (.inr h)
theorem zaZ_ (v:AV) (ρ:List Nat):hV_ v ρ fun _ ρ'=>∀ k ∈ ρ',k ∈ ρ\/k ∈ v.ids:=by
 have h0:=GA_ v ρ
 cases v with
 | fn f l c=>
   obtain ⟨l',ρ1,h1,_⟩:=Kg_ 0 l ρ
   have hs:=WX_ l ρ
   rw [h1] at hs
   obtain ⟨c',ρ2,k1,_⟩:=Kg_ 0 c ρ1
   have ks:=WX_ c ρ1
   rw [k1] at ks
   simp only [hV_,h1,k1]
   intro k hk
   simp only [AV.ids,List.mem_append]
   rcases ks k hk with h | h
   ·exact (hs k h).imp id .inl
   ·exact .inr (.inr h)
 | tup l=>
   obtain ⟨l',ρ1,h1,_⟩:=Kg_ 0 l ρ
   have hs:=WX_ l ρ
   rw [h1] at hs
   simp only [hV_,h1];exact hs
 | _=>exact h0
theorem uJ_:∀ (l:List AV) (ρ:List Nat),XL_ l ρ fun _ ρ'=>∀ k ∈ ρ',k ∈ ρ\/k ∈ l.flatMap AV.ids
 | [],ρ=>fun k hk=>.inl hk
 | v :: r,ρ=>by
   obtain ⟨v',ρ1,h1,_⟩:=HT_ v ρ 0
   have hs:=zaZ_ v ρ
   rw [h1] at hs
   obtain ⟨r',ρ2,k1,_⟩:=Jh_ 0 r ρ1
   have ks:=uJ_ r ρ1
   rw [k1] at ks
   simp only [XL_,h1,k1]
   intro k hk
   rw [List.flatMap_cons,List.mem_append]
   rcases ks k hk with h | h
   ·exact (hs k h).imp id .inl
   ·exact .inr (.inr h)
def Obj.ids:Obj->List Nat
 | .box l=>zH_ l
 | .miter v _ _=>v.ids0
 | .rowm _ _ _ L=>zH_ L
 | _=>[]
def y1_ (st:zc_) (F:Nat->Prop):Prop:=∀ i,F i->∀ o,st.get i=some o->∀ j ∈ o.ids,F j
theorem Jg_ {st:zc_} {F:Nat->Prop} (hF:y1_ st F):∀ (n j:Nat) (ρ:List Nat) (K:List Obj->List Nat->Prop),(∀ i ∈ ρ,F i)->KH_ st n j ρ K->KH_ st n j ρ fun _ ρ'=>∀ i ∈ ρ',F i
 | 0,_,_,_,_,h=>h
 | n+1,j,ρ,K,hρ,h=>by
   unfold KH_ at h ⊢
   cases hd:ρ.drop j with
   | nil=>exact hρ
   | cons i r=>
     rw [hd] at h
     have hi:F i:=hρ i (List.mem_of_mem_drop (by rw [hd];exact List.mem_cons_self ..))
     cases hg:st.get i with
     | none=>simp only [hg] at h
     | some o=>
       simp only [hg] at h ⊢
       have keep:∀ {o':Obj},KH_ st n (j+1) ρ (fun l ρ=>K (o' :: l) ρ)->KH_ st n (j+1) ρ fun _ ρ'=>∀ i ∈ ρ',F i:=fun {o'} h=>Jg_ hF n (j+1) ρ _ hρ h
       cases o with
       | box l=>
         simp only [Ww_,Wg_] at h ⊢
         obtain ⟨l',ρ1,h1,_⟩:=Kh_ 0 (l.map jz_) ρ
         have hs:=WY_ (l.map jz_) ρ
         rw [h1] at hs h ⊢
         refine Jg_ hF n (j+1) ρ1 _ (fun k hk=>?_) h
         rcases hs k hk with h | h
         ·exact hρ k h
         ·rw [yJ_] at h;exact hF i hi (.box l) hg k h
       | rowm t x i0 L=>
         simp only [Ww_] at h ⊢
         obtain ⟨l',ρ1,h1,_⟩:=Kh_ 0 L ρ
         have hs:=WY_ L ρ
         rw [h1] at hs h ⊢
         refine Jg_ hF n (j+1) ρ1 _ (fun k hk=>?_) h
         rcases hs k hk with h | h
         ·exact hρ k h
         ·exact hF i hi (.rowm t x i0 L) hg k h
       | miter v nn s=>
         simp only [Ww_] at h ⊢
         obtain ⟨v',ρ1,h1,_⟩:=XM_ v ρ 0
         have hs:=Vn_ v ρ
         rw [h1] at hs h ⊢
         refine Jg_ hF n (j+1) ρ1 _ (fun k hk=>?_) h
         rcases hs k hk with h | h
         ·exact hρ k h
         ·exact hF i hi (.miter v nn s) hg k h
       | dead=>exact keep h
       | row fz t x=>exact keep h
       | map q kt vt l=>exact keep h
       | iter s p=>exact keep h
       | lrec r c=>exact keep h
       | rowp t x l c=>exact keep h
       | reg wr kn=>exact keep h
theorem WP_ {I:Nat->Prop} {w:World} {m:M} {fr:zd_} {a:Act} {L:List Opd} (hf:FOn L fr I w m a):∀ {xs:List Operand} {ys:List Opd},Zd_ xs ys=true->(∀ y ∈ ys,y ∈ L)->
 ∀ i (h:i < (ys.map (Opd.ev fr)).length) (h':i < (xs.map a.eval).length),RV I w m (ys.map (Opd.ev fr))[i] (xs.map a.eval)[i]
 | [],[],_,_=>fun i h=>by simp at h
 | x :: xs,y :: ys,h,hL=>fun i h1 h2=>by
   simp only [Zd_,Bool.and_eq_true] at h
   cases i with
   | zero=>exact hf.rv (hL y (by simp)) h.1
   | succ i=>exact WP_ hf h.2 (fun y hy=>hL y (by simp [hy])) i (by simpa using h1) (by simpa using h2)
 | [],_ :: _,h,_=>by cases h
 | _ :: _,[],h,_=>by cases h
def Gn_ (st st1:zc_) (i:Nat):Bool:=match st.get i with
 | some (.row false _ _)=>match st1.get i with | some (.row true _ _)=>true | _=>false
 | _=>false
def kq_ (P:Program) (o:Oper) (L:List Opd) (fr:zd_) (F:Nat->Prop) (wr:Bool) (st:zc_) (nx:Nat) (K:AV->zc_->Nat->Prop):Prop:=
 ∃ v st1 nx' T,nx<=nx'/\K v st1 nx'/\(∀ i,i ∉ T->st1.get i=st.get i)/\(∀ i ∈ T,(F i/\st.get i ≠ none/\(wr=true\/st1.get i=st.get i\/Gn_ st st1 i=true))\/(nx<=i/\i < nx'))/\
   ∀ {X0:Bool->Nat->Prop} {I0:Nat->Prop} {w0:World} {σ:Sto} {I:Nat->Prop} {w:World} {m:M} {a:Act},FOn L fr I w m a->HS X0 I0 w0 σ I w m->(∀ i,F i->σ i=st.get i)->(∀ i,nx<=i->i < nx'->¬ m.used i)->
     xl_ P o a w (V9_ X0 I0 w0 I w m (upd σ T st1) v nx nx')
theorem kq_.of {P:Program} {o:Oper} {L:List Opd} {fr:zd_} {F:List Nat} {F':Nat->Prop} {wr wr':Bool} {st:zc_} {nx:Nat} {K:AV->zc_->Nat->Prop} (h:MOK P o L fr F wr st nx K) (hF:∀ i ∈ F,F' i) (hw:wr=true->wr'=true):kq_ P o L fr F' wr' st nx K:=by
 obtain ⟨v,st1,nx',T,h1,h2,h3,h4,h5⟩:=h
 exact ⟨v,st1,nx',T,h1,h2,h3,fun i hi=>(h4 i hi).imp (fun ⟨a,b,c⟩=>⟨hF i b,c,.inl (hw a)⟩) id,fun hf hs ha hN=>h5 hf hs (fun i hi=>ha i (hF i hi)) hN⟩
theorem zbA_ (g:Nat->Nat) (u:AV):(Z7_ g u).ni0=u.ni0:=by cases u<;>rfl
theorem yU_ (g:Nat->Nat):∀ l:List AV,Kj_ AV.ni0 (l.map (Z7_ g))=Kj_ AV.ni0 l
 | []=>rfl
 | a :: r=>by simp only [List.map_cons,Kj_,zbA_,yU_ g r]
theorem zbz_ (g:Nat->Nat) (u:AV):(k1_ g u).ni1=u.ni1:=by
 cases u with
 | agg l=>exact yU_ g l
 | _=>rfl
theorem uU_ (g:Nat->Nat):∀ l:List AV,Kj_ AV.ni1 (l.map (k1_ g))=Kj_ AV.ni1 l
 | []=>rfl
 | a :: r=>by simp only [List.map_cons,Kj_,zbz_,uU_ g r]
theorem Hp_ (g:Nat->Nat) (u:AV):(kF_ g u).ni=u.ni:=by
 cases u with
 | agg l=>exact yU_ g l
 | tup l=>exact uU_ g l
 | _=>rfl
theorem U6_ {a b:Bool} (h:V8_ a b=true):a=true/\b=true:=by
 cases a with
 | true=>exact ⟨rfl,h⟩
 | false=>cases h
def zet_ (objs objs':List Obj):Prop:=∀ (j:Nat) (wr kn:Bool),objs'[j]?=some (Obj.reg wr kn)->∃ kn0,objs[j]?=some (Obj.reg wr kn0)
theorem Xb_:∀ {objs objs':List Obj},Q7_ objs objs'=true->∀ (j:Nat) (wr kn:Bool),objs'[j]?=some (Obj.reg wr kn)->∃ kn0,objs[j]?=some (Obj.reg wr kn0)
 | _,[],_,j,wr,kn,e=>by cases e
 | [],o :: r,h,0,wr,kn,e=>by
   cases e;cases h
 | [],o :: r,h,j+1,wr,kn,e=>by
   have h':Q7_ [] r=true:=by unfold Q7_ at h;cases o<;>first | exact h | cases h
   obtain ⟨_,h2⟩:=Xb_ h' j wr kn (by simpa using e)
   cases h2
 | p :: q,o :: r,h,0,wr,kn,e=>by
   cases e
   unfold Q7_ at h
   cases p with
   | reg b k=>cases wr<;>cases b<;>first | exact ⟨_,rfl⟩ | cases h
   | _=>cases h
 | p :: q,o :: r,h,j+1,wr,kn,e=>by
   have h':Q7_ q r=true:=by
    unfold Q7_ at h
    cases o with
    | reg a k=>cases p with
      | reg b k2=>cases a<;>cases b<;>first | exact h | cases h
      | _=>cases h
    | _=>exact h
   obtain ⟨a,h2⟩:=Xb_ h' j wr kn (by simpa using e)
   exact ⟨a,by simpa using h2⟩
theorem Y7_:∀ {objs:List Obj},xg_ objs=true->∀ (j:Nat) (kn:Bool),objs[j]? ≠ some (Obj.reg true kn)
 | [],_,j,kn,e=>by cases e
 | o :: r,h,0,kn,e=>by cases e;cases h
 | o :: r,h,j+1,kn,e=>by
   have h':xg_ r=true:=by
    unfold xg_ at h
    cases o with
    | reg a k=>cases a<;>first | exact h | cases h
    | _=>exact h
   exact Y7_ h' j kn (by simpa using e)
structure Told (ρ js:List Nat) (nx:Nat) (st:zc_) (objs:List Obj) (v:AV) (objs':List Obj) (K:AV->zc_->Nat->Prop) (wr:Bool):Prop where
 le:objs.length<=objs'.length
 ex:∃ (st1:zc_) (T Jf:List Nat),K (kF_ (un ρ nx) v) st1 (nx+(objs'.length - objs.length))/\(∀ i,i ∉ T->st1.get i=st.get i)/\
  (∀ i ∈ T,((i ∈ ρ\/i ∈ js)/\(wr=true\/st1.get i=st.get i\/Gn_ st st1 i=true))\/(nx<=i/\i < nx+(objs'.length - objs.length)))/\
  ((Jf=js)\/(Jf=[]/\v.ni=true/\∀ o ∈ objs',o.ni=true))/\
  (∀ i ∈ Jf,i ∈ T/\∃ fz t x,st.get i=some (.row fz t x)/\st1.get i=some (.row true t x))/\
  (∀ i,(∀ j,j < objs'.length->i ≠ un ρ nx j)->i ∉ Jf->st1.get i=st.get i)/\
  (∀ j (h:j < objs'.length),∃ o',st1.get (un ρ nx j)=some o'/\(un ρ nx j ∈ T\/(j < ρ.length/\st1.get (un ρ nx j)=st.get (un ρ nx j)))/\o'.mut=objs'[j].mut/\o'.live=objs'[j].live/\Keep o' objs'[j]/\∀ (J:Nat->Prop) (u:World) (q:M) i,zM_ J u q i (wW_ (un ρ nx) objs'[j])->zM_ J u q i o')
section
variable {ρ js:List Nat} {nx:Nat} {st:zc_} {objs:List Obj} {v:AV} {objs':List Obj} {K:AV->zc_->Nat->Prop}
theorem uQ_ (hn:ρ.Nodup) (hl:∀ i ∈ ρ,i < nx) (hk:objs.length=ρ.length) (hj:∀ i ∈ js,i ∉ ρ) (hjn:∀ i ∈ js,i < nx) (ev:HV_ ρ js nx objs.length st v objs' K):Told ρ js nx st objs v objs' K true:=by
 unfold HV_ at ev
 cases hle:Nat.ble objs.length objs'.length with
 | false=>rw [hle] at ev;exact ev.elim
 | true=>
   rw [hle] at ev
   have hle':=Nat.le_of_ble_eq_true hle
   simp only [Ba_,He_] at ev
   obtain ⟨g1,g2⟩:=Hf_ hn hl objs' 0 st
   have g1:∀ k (h:k < objs'.length),(unS ρ nx 0 objs' st).get (un ρ nx k)=some (wW_ (un ρ nx) objs'[k]):=fun k h=>by have:=g1 k h;rwa [Nat.zero_add] at this
   have g2:∀ i,(∀ k,k < objs'.length->i ≠ un ρ nx k)->(unS ρ nx 0 objs' st).get i=st.get i:=fun i h=>g2 i fun k hk=>by rw [Nat.zero_add];exact h k hk
   have him:∀ k,k < objs'.length->un ρ nx k ∈ (List.range objs'.length).map (un ρ nx):=fun k hk=>List.mem_map.2 ⟨k,by simpa using hk,rfl⟩
   have hin:∀ k,k < objs'.length->un ρ nx k ∈ ρ\/(nx<=un ρ nx k/\un ρ nx k < nx+(objs'.length - objs.length)):=fun k hk=>by
    rcases Nat.lt_or_ge k ρ.length with h | h
    ·rw [zP_ h];exact .inl (List.getElem_mem h)
    ·rw [x1_ h];right;omega
   have hjne:∀ i ∈ js,∀ k,k < objs'.length->i ≠ un ρ nx k:=fun i hi k hk e=>by
    rcases hin k hk with h | h
    ·exact hj i hi (e ▸ h)
    ·have:=hjn i hi;omega
   have plain:∀ (hnil:js=[]\/(v.ni=true/\∀ o ∈ objs',o.ni=true)),K (kF_ (un ρ nx) v) (unS ρ nx 0 objs' st) (nx+(objs'.length - objs.length))->Told ρ js nx st objs v objs' K true:=fun hnil ev=>by
    refine ⟨hle',_,(List.range objs'.length).map (un ρ nx),[],ev,fun i hi=>g2 i fun k hk e=>hi (e ▸ him k hk),fun i hi=>?_,?_,fun i hi=>(by cases hi),fun i h1 _=>g2 i h1,fun k hk=>?_⟩
    ·obtain ⟨k,hk,rfl⟩:=List.mem_map.1 hi
     exact (hin k (by simpa using hk)).imp (fun h=>⟨.inl h,.inl rfl⟩) id
    ·rcases hnil with h | h
     ·exact .inl h.symm
     ·exact .inr ⟨rfl,h⟩
    ·exact ⟨_,g1 k hk,.inl (him k hk),(Xa_ _ _).1,(Xa_ _ _).2,⟨fun t x e=>Hm_ e,fun wr kn e=>Hq_ e⟩,fun _ _ _ _ h=>h⟩
   cases js with
   | nil=>exact plain (.inl rfl) ev
   | cons j0 jr=>
     simp only [] at ev
     cases hni:V8_ (kF_ (un ρ nx) v).ni (niO objs') with
     | true=>
       rw [hni] at ev
       obtain ⟨n1,n2⟩:=U6_ hni
       rw [Hp_] at n1
       exact plain (.inr ⟨n1,Uz_ n2⟩) ev
     | false=>
       rw [hni] at ev
       obtain ⟨st1,e1,e2,e3⟩:=KW_ ev
       refine ⟨hle',st1,(List.range objs'.length).map (un ρ nx)++(j0 :: jr),j0 :: jr,e1,fun i hi=>?_,fun i hi=>?_,.inl rfl,fun i hi=>⟨List.mem_append.2 (.inr hi),?_⟩,fun i h1 h2=>?_,fun k hk=>?_⟩
       ·simp only [List.mem_append,not_or] at hi
        rw [e2 i hi.2];exact g2 i fun k hk e=>hi.1 (e ▸ him k hk)
       ·rcases List.mem_append.1 hi with hi | hi
        ·obtain ⟨k,hk,rfl⟩:=List.mem_map.1 hi
         exact (hin k (by simpa using hk)).imp (fun h=>⟨.inl h,.inl rfl⟩) id
        ·exact .inl ⟨.inr hi,.inl rfl⟩
       ·obtain ⟨fz,t,x,q1,q2⟩:=e3 i hi
        exact ⟨fz,t,x,by rw [<- g2 i (hjne i hi)];exact q1,q2⟩
       ·rw [e2 i h2];exact g2 i h1
       ·refine ⟨wW_ (un ρ nx) objs'[k],?_,.inl (List.mem_append.2 (.inl (him k hk))),(Xa_ _ _).1,(Xa_ _ _).2,⟨fun t x e=>Hm_ e,fun wr kn e=>Hq_ e⟩,fun _ _ _ _ h=>h⟩
        rw [e2 _ fun h=>hjne _ h k hk rfl];exact g1 k hk
theorem VB_ {J:Nat->Prop} {u:World} {q:M}:∀ {l:List AV} {r:List Value},z0_ J u q (l.map jz_) r->z0_ J u q l r
 | [],_,h=>h
 | v :: l,[],h=>h.elim
 | v :: l,c :: r,h=>⟨by have h1:=h.1;cases v<;>exact h1,VB_ h.2⟩
theorem zM_.unnrm {J:Nat->Prop} {u:World} {q:M} {i:Nat} {o o':Obj} (h:Z6_ nx ρ o o') (k:zM_ J u q i (wW_ (un ρ nx) o')):zM_ J u q i o:=by
 cases o with
 | box l=>
   cases o' with
   | box l'=>
     obtain ⟨b,cs,T,fz,h1,h2,h3,h4⟩:=k
     refine ⟨b,cs,T,fz,h1,h2,h3,?_⟩
     rw [h.1] at h4
     exact VB_ h4
   | _=>exact h.elim
 | dead=>trivial
 | reg wr kn=>trivial
 | rowm t x i0 L=>
   obtain ⟨L',rfl,h1,_⟩:=h
   rw [<- h1];exact k
 | row fz t x=>
   cases o' with
   | box l=>exact h.elim
   | row fz' t' x'=>cases (show _=_ from h);exact k
   | _=>cases (show _=_ from h)
 | map q kt vt l=>
   cases o' with
   | box l=>exact h.elim
   | map q' kt' vt' l'=>cases (show _=_ from h);exact k
   | _=>cases (show _=_ from h)
 | iter s p=>
   cases o' with
   | box l=>exact h.elim
   | iter s' p'=>cases (show _=_ from h);exact k
   | _=>cases (show _=_ from h)
 | lrec r c=>
   cases o' with
   | box l=>exact h.elim
   | lrec r' c'=>cases (show _=_ from h);exact k
   | _=>cases (show _=_ from h)
 | rowp t x l c=>
   cases o' with
   | box l=>exact h.elim
   | rowp t' x' l' c'=>cases (show _=_ from h);exact k
   | _=>cases (show _=_ from h)
 | miter v n s=>
   obtain ⟨v',rfl,h1,_⟩:=h
   obtain ⟨b,mb,k1,k2,k3⟩:=k
   rw [h1] at k3
   exact ⟨b,mb,k1,k2,k3⟩
theorem zby_ (hn:ρ.Nodup) (hl:∀ i ∈ ρ,i < nx) (hk:objs.length=ρ.length) (hj:∀ i ∈ js,i ∉ ρ) (hjn:∀ i ∈ js,i < nx)
 (hob:∀ k (h:k < objs.length) (h':k < ρ.length),∃ o,st.get ρ[k]=some o/\Z6_ nx ρ o objs[k])
 (ev:un2 ρ nx v fun v=>roK js nx st v objs K):Told ρ js nx st objs v objs K false:=by
 rw [Ba_] at ev
 unfold roK at ev
 have hrow:∀ {o o':Obj} {t:Ty} {x:List t.den},Z6_ nx ρ o o'->o=.row true t x->o'=.row true t x:=fun {o o' t x} h e=>by
  subst e
  cases o'<;>first | exact h.elim | exact (show _=_ from h).symm | cases (show _=_ from h)
 have hregc:∀ {o o':Obj} {wr kn:Bool},Z6_ nx ρ o o'->o=Obj.reg wr kn->o'=Obj.reg wr kn:=fun {o o' wr kn} h e=>by
  subst e
  cases o'<;>first | exact h.elim | exact (show _=_ from h).symm | cases (show _=_ from h)
 have hsub:nx+(objs.length - objs.length)=nx:=by omega
 have plain:∀ (hnil:js=[]\/(v.ni=true/\∀ o ∈ objs,o.ni=true)),K (kF_ (un ρ nx) v) st nx->Told ρ js nx st objs v objs K false:=fun hnil ev=>by
  refine ⟨Nat.le_refl _,st,[],[],by rw [hsub];exact ev,fun i hi=>rfl,fun i hi=>(by cases hi),?_,fun i hi=>(by cases hi),fun i _ _=>rfl,fun k hk=>?_⟩
  ·rcases hnil with h | h
   ·exact .inl h.symm
   ·exact .inr ⟨rfl,h⟩
  ·obtain ⟨o,h1,h2⟩:=hob k hk (by omega)
   refine ⟨o,by rw [zP_ (by omega)];exact h1,.inr ⟨by omega,rfl⟩,h2.same.1.symm,h2.same.2.symm,⟨fun t x e=>hrow h2 e,fun wr kn e=>hregc h2 e⟩,fun _ _ _ _ h=>zM_.unnrm h2 h⟩
 cases js with
 | nil=>exact plain (.inl rfl) ev
 | cons j0 jr=>
   simp only [] at ev
   cases hni:V8_ (kF_ (un ρ nx) v).ni (niO objs) with
   | true=>
     rw [hni] at ev
     obtain ⟨n1,n2⟩:=U6_ hni
     rw [Hp_] at n1
     exact plain (.inr ⟨n1,Uz_ n2⟩) ev
   | false=>
     rw [hni] at ev
     obtain ⟨st1,e1,e2,e3⟩:=KW_ ev
     refine ⟨Nat.le_refl _,st1,j0 :: jr,j0 :: jr,by rw [hsub];exact e1,e2,fun i hi=>.inl ⟨.inr hi,.inr ?_⟩,.inl rfl,fun i hi=>⟨hi,e3 i hi⟩,fun i _ h2=>e2 i h2,fun k hk=>?_⟩
     ·obtain ⟨fz,t,x,q1,q2⟩:=e3 i hi
      cases fz with
      | true=>exact .inl (q2.trans q1.symm)
      | false=>right;unfold Gn_;rw [q1,q2]
     ·obtain ⟨o,h1,h2⟩:=hob k hk (by omega)
      have hne:un ρ nx k ∉ j0 :: jr:=fun h=>hj _ h (by rw [zP_ (by omega)];exact List.getElem_mem _)
      refine ⟨o,by rw [e2 _ hne,zP_ (by omega)];exact h1,.inr ⟨by omega,e2 _ hne⟩,h2.same.1.symm,h2.same.2.symm,⟨fun t x e=>hrow h2 e,fun wr kn e=>hregc h2 e⟩,fun _ _ _ _ h=>zM_.unnrm h2 h⟩
end
theorem Z6_.loc {I:Nat->Prop} {w:World} {m:M} {ρ js:List Nat} {nx i:Nat} {o o':Obj} (h':i < ρ.length) (hc:Z6_ nx ρ o o') (hok:zM_ I w m ρ[i] o):zM_ (Ib I m js) w (qc_ m ρ nx) i o':=by
 have huse:∀ j,j < ρ.length->Un (qc_ m ρ nx) m (un ρ nx) j:=fun j hj=>⟨hj,rfl,rfl,rfl,rfl,rfl⟩
 have ub:(qc_ m ρ nx).blk i=m.blk ρ[i]:=by simp only [qc_,zP_ h']
 cases o with
 | box l=>
   cases o' with
   | box l'=>
     obtain ⟨b,cs,T,fz,h1,h2,h3,h4⟩:=hok
     refine ⟨b,cs,T,fz,by rw [ub];exact h1,h2,h3,?_⟩
     have h5:=XR_ h4
     rw [<- hc.1] at h5
     exact ZS_ (fun _ h=>.inl h) (fun _ _=>rfl) (M.le_refl _) _ _ (J5_ (fun j hj=>huse j (hc.2 j hj)) h5)
   | _=>exact hc.elim
 | dead=>
   cases o' with
   | dead=>trivial
   | box l=>exact hc.elim
   | _=>cases (show _=_ from hc)
 | reg wr kn=>
   cases o' with
   | reg wr kn=>trivial
   | box l=>exact hc.elim
   | _=>cases (show _=_ from hc)
 | row fz t x=>
   cases o' with
   | box l=>exact hc.elim
   | row fz' t' x'=>
     cases (show _=_ from hc)
     obtain ⟨h1,h2,h3,h4,h5⟩:=hok
     refine ⟨by simp only [qc_,zP_ h'];exact h1,by simp only [qc_,zP_ h'];exact h2,by simp only [qc_,zP_ h'];exact h3,by simp only [qc_,zP_ h'];exact h4,?_⟩
     simp only [qc_,zP_ h']
     exact h5.imp id fun ⟨b,cs,T,f,h6,h7,h8,h9,h10⟩=>⟨b,cs,T,f,h6,h7,h8,h9,h10.mono (fun _ h=>.inl h) (fun _ _=>rfl)⟩
   | _=>cases (show _=_ from hc)
 | map q kt vt l=>
   cases o' with
   | box l=>exact hc.elim
   | map q' kt' vt' l'=>
     cases (show _=_ from hc)
     obtain ⟨b,es,c,h1,h2,h3⟩:=hok
     exact ⟨b,es,c,by rw [ub];exact h1,h2,h3.mono (fun _ h=>.inl h) (fun _ _=>rfl)⟩
   | _=>cases (show _=_ from hc)
 | iter s p=>
   cases o' with
   | box l=>exact hc.elim
   | iter s' p'=>
     cases (show _=_ from hc)
     obtain ⟨b,t,h1,h2,h3⟩:=hok
     exact ⟨b,t,by rw [ub];exact h1,h2,h3⟩
   | _=>cases (show _=_ from hc)
 | lrec r c=>
   cases o' with
   | box l=>exact hc.elim
   | lrec r' c'=>
     cases (show _=_ from hc)
     obtain ⟨b,h1,h2⟩:=hok
     exact ⟨b,by rw [ub];exact h1,h2⟩
   | _=>cases (show _=_ from hc)
 | rowp t x l c=>
   cases o' with
   | box l=>exact hc.elim
   | rowp t' x' l' c'=>
     cases (show _=_ from hc)
     obtain ⟨h1,h2,h3,h4,q1,q2,q3,h5⟩:=hok
     refine ⟨by simp only [qc_,zP_ h'];exact h1,by simp only [qc_,zP_ h'];exact h2,by simp only [qc_,zP_ h'];exact h3,by simp only [qc_,zP_ h'];exact h4,by simp only [qc_,zP_ h'];exact q1,by simp only [qc_,zP_ h'];exact q2,q3,?_⟩
     simp only [qc_,zP_ h']
     exact h5.imp id fun ⟨b,cs,T,f,h6,h7,h8,h9,h10⟩=>⟨b,cs,T,f,h6,h7,h8,h9,h10.mono (fun _ h=>.inl h) (fun _ _=>rfl)⟩
   | _=>cases (show _=_ from hc)
 | rowm t x i0 L=>
   obtain ⟨L',rfl,e1,e2⟩:=hc
   obtain ⟨h1,h2,h3,h4,h5,r,cl,b,vs,T,fz,h6,h7,h8,h9,h10,h11,h12,h13⟩:=hok
   have hL:∃ r' cl',L'=.jsl r' t [] :: cl'/\un ρ nx r'=r/\cl'.map (Z7_ (un ρ nx))=cl:=by
    rw [h6] at e1
    cases L' with
    | nil=>cases e1
    | cons v cl'=>
      simp only [List.map_cons,List.cons.injEq] at e1
      obtain ⟨e3,e4⟩:=e1
      cases v<;>simp only [Z7_,reduceCtorEq,AV.jsl.injEq] at e3
      obtain ⟨e5,rfl,e6⟩:=e3
      cases eq_of_heq e6
      exact ⟨_,cl',rfl,e5,e4⟩
   obtain ⟨r',cl',rfl,rfl,rfl⟩:=hL
   have hr':r' < ρ.length:=e2 r' (by simp [zH_,AV.ids0])
   refine ⟨by simp only [qc_,zP_ h'];exact h1,by simp only [qc_,zP_ h'];exact h2,by simp only [qc_,zP_ h'];exact h3,by simp only [qc_,zP_ h'];exact h4,h5,r',cl',b,vs,T,fz,rfl,hr',by simpa using h8,by rw [ub];exact h9,h10,h11,by simp only [qc_,zP_ h'];exact h12,fun k hk=>?_⟩
   obtain ⟨es,q1,q2,q3,q4,q5⟩:=h13 k hk
   exact ⟨es,q1,fun h=>Zm_ (fun _ h=>.inl h) (fun _ _=>rfl) t _ _ (q2 h),q3,fun h=>ZS_ (fun _ h=>.inl h) (fun _ _=>rfl) (M.le_refl _) _ _ (J5_ (fun j hj=>huse j (e2 j (by simp only [zH_,List.flatMap_cons,List.mem_append];exact .inr hj))) (q4 h)),q5⟩
 | miter v n s=>
   obtain ⟨v',rfl,e1,e2⟩:=hc
   obtain ⟨b,mb,h1,h2,h3⟩:=hok
   rw [<- e1] at h3
   exact ⟨b,mb,by rw [ub];exact h1,h2,kp_ (fun _ h=>.inl h) (fun _ _=>rfl) (M.le_refl _) _ _ (y0_ (fun j hj=>huse j (e2 j hj)) h3)⟩
theorem Z6_.reg {nx:Nat} {ρ:List Nat} {o o':Obj} (h:Z6_ nx ρ o o') {wr kn:Bool} (e:o'=Obj.reg wr kn):o=Obj.reg wr kn:=by
 subst e
 cases o<;>first | exact h.elim | exact (show _=_ from h) | (obtain ⟨_,e,_⟩:=h;cases e)
theorem yR_ {I:Nat->Prop} {w:World} {m:M} {σ:Sto} {ρ js:List Nat} {nx:Nat} {objs:List Obj} (H:HRel I w m σ) (hnod:ρ.Nodup) (hk:objs.length=ρ.length)
 (hob:∀ k (h:k < objs.length) (h':k < ρ.length),∃ o,σ ρ[k]=some o/\Z6_ nx ρ o objs[k])
 (hj1:∀ i ∈ js,i ∉ ρ) (hj2:∀ i ∈ js,∃ o,σ i=some o/\o.live=true):HRel (Ib I m js) w (qc_ m ρ nx) (ofL objs):=by
 have get:∀ {i o},ofL objs i=some o->∃ (h:i < objs.length) (h':i < ρ.length),objs[i]=o:=fun {i o} e=>by
  unfold ofL at e
  obtain ⟨h,e⟩:=List.getElem?_eq_some_iff.1 e
  exact ⟨h,by omega,e⟩
 have ub:∀ {i} (h:i < ρ.length),(qc_ m ρ nx).blk i=m.blk ρ[i]:=fun {i} h=>by simp only [qc_,zP_ h]
 have hObj:∀ i o,ofL objs i=some o->zM_ (Ib I m js) w (qc_ m ρ nx) i o:=fun i o e=>by
  obtain ⟨h,h',rfl⟩:=get e
  obtain ⟨o,ho,hc⟩:=hob i h h'
  exact hc.loc h' (H.obj _ o ho)
 refine ⟨fun i hi=>?_,hObj,fun i j o o' b e e' hl hl' hb hb'=>?_,fun i o b e hm hb hI=>?_,fun i t x b e hb=>?_,fun b hb=>?_,fun i wr kn b e hd=>?_,fun i j wr kn wr' kn' b e e' hd hd'=>?_⟩
 ·cases e:ofL objs i with
  | none=>exact absurd e hi
  | some o=>obtain ⟨_,h,_⟩:=get e;exact h
 ·obtain ⟨h,h',rfl⟩:=get e
  obtain ⟨k,k',rfl⟩:=get e'
  obtain ⟨o1,q1,q2⟩:=hob i h h'
  obtain ⟨o2,q3,q4⟩:=hob j k k'
  rw [ub h'] at hb;rw [ub k'] at hb'
  have:=H.inj _ _ o1 o2 b q1 q3 (by rw [<- q2.same.2];exact hl) (by rw [<- q4.same.2];exact hl') hb hb'
  rcases Nat.lt_trichotomy i j with hij | hij | hij
  ·exact absurd this ((List.pairwise_iff_getElem.1 hnod) i j h' k' hij)
  ·exact hij
  ·exact absurd this.symm ((List.pairwise_iff_getElem.1 hnod) j i k' h' hij)
 ·obtain ⟨h,h',rfl⟩:=get e
  obtain ⟨o1,q1,q2⟩:=hob i h h'
  rw [ub h'] at hb
  rcases hI with hI | ⟨j,hj,hbj⟩
  ·exact H.notI _ o1 b q1 (by rw [<- q2.same.1];exact hm) hb hI
  ·obtain ⟨o2,q3,q4⟩:=hj2 j hj
   have:=H.inj _ _ o1 o2 b q1 q3 (by rw [<- q2.same.2];exact vP_ hm) q4 hb hbj
   exact hj1 j hj (this ▸ List.getElem_mem h')
 ·obtain ⟨h,h',e'⟩:=get e
  obtain ⟨o1,q1,q2⟩:=hob i h h'
  rw [ub h'] at hb
  rw [e'] at q2
  have:o1=.row true t x:=by cases o1<;>first | exact q2.elim | exact (show _=_ from q2) | (obtain ⟨_,e,_⟩:=q2;cases e)
  subst this
  exact .inl (H.isI _ t x b q1 hb)
 ·rcases hb with hb | ⟨i,hi,hb⟩
  ·exact H.Ilt b hb
  ·obtain ⟨o,q1,q2⟩:=hj2 i hi
   exact (H.obj i o q1).lt q2 hb
 ·obtain ⟨h,h',e'⟩:=get e
  obtain ⟨o1,q1,q2⟩:=hob i h h'
  rw [q2.reg e'] at q1
  simp only [qc_,zP_ h'] at hd ⊢
  obtain ⟨g1,g2,g3,g4⟩:=H.gar _ wr kn b q1 hd
  refine ⟨g1,fun hI=>?_,fun j o' hj hl hbj=>?_,g4⟩
  ·rcases hI with hI | ⟨j,hj,hbj⟩
   ·exact g2 hI
   ·obtain ⟨o2,q3,q4⟩:=hj2 j hj
    exact g3 j o2 q3 q4 hbj
  ·obtain ⟨k,k',rfl⟩:=get hj
   obtain ⟨o2,q3,q4⟩:=hob j k k'
   rw [zP_ k'] at hbj
   exact g3 _ o2 q3 (by rw [<- q4.same.2];exact hl) hbj
 ·obtain ⟨h,h',e1⟩:=get e
  obtain ⟨k,k',e2⟩:=get e'
  obtain ⟨o1,q1,q2⟩:=hob i h h'
  obtain ⟨o2,q3,q4⟩:=hob j k k'
  rw [q2.reg e1] at q1
  rw [q4.reg e2] at q3
  simp only [qc_,zP_ h',zP_ k'] at hd hd'
  have:=H.rdj _ _ _ _ _ _ b q1 q3 hd hd'
  rcases Nat.lt_trichotomy i j with hij | hij | hij
  ·exact absurd this ((List.pairwise_iff_getElem.1 hnod) i j h' k' hij)
  ·exact hij
  ·exact absurd this.symm ((List.pairwise_iff_getElem.1 hnod) j i k' h' hij)
theorem WV_ {P:Program} {o:Oper} {a:Act} {w:World} {g:Operand} {f:FuncId} {fs cs:Array Value} {args:Array Operand} {ts:Array TypeId} (ho:o.op=.call ⟨.value g,args,ts⟩) (hg:a.eval g=.func (.func f) fs cs) (hc:Jm_ P f):
 (execOp a.eval o).run P w=.ok (.enter f (fs++args.map a.eval++cs)) w:=by
 obtain ⟨fn,h1,h2,h3⟩:=hc
 unfold execOp
 rw [ho]
 have h2' : ¬ fn.name = "runtime.NumGoroutine" := by simpa using h2
 have h3':¬ fn.body=none:=by intro e;rw [e] at h3;cases h3
 simp [resolve,hg,Deferred.ofValue,invoke,callFunc,h1,h2',h3']
theorem jm_ {I:Nat->Prop} {w:World} {m:M}:∀ {l:List AV} {r:List Value},q5_ I w m l r->l.length=r.length/\∀ i (h:i < l.length) (h':i < r.length),RV1 I w m l[i] r[i]
 | [],[],_=>⟨rfl,fun i h=>by simp at h⟩
 | a :: l,v :: r,h=>by
   obtain ⟨h1,h2⟩:=jm_ h.2
   refine ⟨by simp [h1],fun i h3 h4=>?_⟩
   cases i with
   | zero=>exact h.1
   | succ i=>exact h2 i (by simpa using h3) (by simpa using h4)
 | [],_ :: _,h=>h.elim
 | _ :: _,[],h=>h.elim
def RVs (I:Nat->Prop) (w:World) (m:M) (l:List AV) (r:List Value):Prop:=l.length=r.length/\∀ i (h:i < l.length) (h':i < r.length),RV I w m l[i] r[i]
theorem RVs.append {I:Nat->Prop} {w:World} {m:M} {l l':List AV} {r r':List Value} (h:RVs I w m l r) (k:RVs I w m l' r'):RVs I w m (l++l') (r++r'):=by
 refine ⟨by simp [h.1,k.1],fun i h1 h2=>?_⟩
 by_cases hi:i < l.length
 ·rw [List.getElem_append_left hi,List.getElem_append_left (by have:=h.1;omega)];exact h.2 i hi (by have:=h.1;omega)
 ·rw [List.getElem_append_right (by omega),List.getElem_append_right (by have:=h.1;omega)]
  simp only [List.length_append] at h1 h2
  have e:=h.1
  have:=k.2 (i - l.length) (by omega) (by omega)
  simp only [e] at this ⊢;exact this
def hW_ (Γ:Env) (v:AV):Bool:=match v.asFn with
 | .fn f _ _=>match Γ.get f with | some (.ro _)=>false | _=>true
 | _=>true
section
variable {P:Program} {Γ:Env} {o:Oper} {fr:zd_} {F:Nat->Prop} {st:zc_} {nx:Nat} {K:AV->zc_->Nat->Prop}
theorem hX_ {P:Program} {f:FuncId} {s:SumK} {args:List AV} {js:List Nat} (hS:ze_ P f s.sum) (hst:∀ i,st.get i ≠ none->i < nx) (hF:y1_ st F) (hargs:∀ i ∈ args.flatMap AV.ids,F i) (hjn:∀ i ∈ js,i < nx)
 (ev:Vo_ s args js st nx K):∃ largs ρ objs v objs' wr,largs.map (kF_ (un ρ nx))=args/\(∀ j ∈ largs.flatMap AV.ids,j < ρ.length)/\ρ.Nodup/\(∀ i ∈ ρ,F i/\i < nx)/\objs.length=ρ.length/\
   (∀ k (h:k < objs.length) (h':k < ρ.length),∃ o,st.get ρ[k]=some o/\Z6_ nx ρ o objs[k])/\(∀ i ∈ js,i ∉ ρ)/\s.sum largs objs (fun v' o'=>v'=v/\o'=objs')/\Told ρ js nx st objs v objs' K wr/\(wr=true->∃ S,s=.rw S)/\zet_ objs objs'/\(∀ (j:Nat) (kn:Bool),objs[j]? ≠ some (Obj.reg true kn)):=by
 unfold Vo_ at ev
 obtain ⟨largs,ρ1,h1,h2,h3,h4⟩:=Jh_ nx args []
 have hs1:=uJ_ args []
 rw [h1] at ev hs1
 have hs2:=Jg_ hF 1000 0 ρ1 _ (fun i hi=>by rcases hs1 i hi with h | h;· cases h
                                            ·exact hargs i h) ev
 rcases Kf_ st nx 1000 0 ρ1 (Nat.zero_le _) with h | ⟨objs,ρ,k1,k2,k3,k4⟩
 ·exact absurd ev (h _)
 ·rw [k1] at ev hs2
  rw [Nat.zero_add] at k3
  have k4:∀ k (h:k < objs.length) (h':k < ρ.length),∃ o,st.get ρ[k]=some o/\Z6_ nx ρ o objs[k]:=fun k h h'=>by
   have:=k4 k h (by omega)
   simpa only [Nat.zero_add] using this
  have hnod:ρ.Nodup:=(h2.trans k2).nodup List.nodup_nil
  have hlt:∀ i ∈ ρ,i < nx:=fun i hi=>by
   obtain ⟨k,hk,rfl⟩:=List.mem_iff_getElem.1 hi
   obtain ⟨o,ho,_⟩:=k4 k (by omega) hk
   exact hst _ (by rw [ho];intro h;cases h)
  have hargs':largs.map (kF_ (un ρ nx))=args:=by
   rw [<- h3]
   refine List.map_congr_left fun v hv=>Jv_ fun j hj=>k2.un (h4 j (List.mem_flatMap.2 ⟨v,hv,hj⟩))
  have hids:∀ j ∈ largs.flatMap AV.ids,j < ρ.length:=fun j hj=>Nat.lt_of_lt_of_le (h4 j hj) k2.len
  cases hd0:V8_ (XJ_ js ρ) (xg_ objs) with
  | false=>rw [hd0] at ev;exact ev.elim
  | true=>
    rw [hd0] at ev
    obtain ⟨hd,hnw⟩:=U6_ hd0
    have hdj:=XI_ hd
    have hj:=fun i hi=>hdj i hi
    cases s with
    | ro S=>
      obtain ⟨v,o',⟨hK,rfl⟩,hu⟩:=hS.2.1 (args:=largs) (objs:=objs) (K:=fun v o=>(un2 ρ nx v fun v=>roK js nx st v objs K)/\o=objs) (by simpa [SumK.sum] using ev)
      exact ⟨largs,ρ,_,v,_,false,hargs',hids,hnod,fun i hi=>⟨hs2 i hi,hlt i hi⟩,k3,k4,hj,hu,zby_ hnod hlt k3 hj hjn k4 hK,fun h=>(by cases h),fun j wr kn e=>⟨kn,e⟩,Y7_ hnw⟩
    | nd S=>exact ev.elim
    | rw S=>
      obtain ⟨v,objs',hK,hu⟩:=hS.2.1 ev
      cases hrb:Q7_ objs objs' with
      | false=>rw [hrb] at hK;exact hK.elim
      | true=>
      rw [hrb] at hK
      exact ⟨largs,ρ,objs,v,objs',true,hargs',hids,hnod,fun i hi=>⟨hs2 i hi,hlt i hi⟩,k3,k4,hj,hu,uQ_ hnod hlt k3 hj hjn hK,fun _=>⟨S,rfl⟩,Xb_ hrb,Y7_ hnw⟩
theorem HW_ {I:Nat->Prop} {w:World} {m:M} {v:AV} {cv:Value} (h:RV I w m v cv):RV I w m v.asFn cv:=by
 cases v with
 | fnp f i=>obtain ⟨b,h1,rfl,h3⟩:=h;exact ⟨#[],_,rfl,trivial,⟨b,h1,rfl,h3⟩,trivial⟩
 | _=>exact h
def U3_ (f':Opd) (args':List Opd) (fr:zd_):List Nat:=match (f'.ev fr).asFn with
 | .fn _ l c=>(l++args'.map (·.ev fr)++c).flatMap AV.ids
 | _=>[]
theorem za1_ {own:Bool} {f':Opd} {args':List Opd} (hΓ:qi_ P Γ) (hst:∀ i,st.get i ≠ none->i < nx) (hok:zy_ P o.op (.call own f' args')=true) (hF:y1_ st F) (hfoot:∀ i ∈ U3_ f' args' fr,F i)
 (ev:zu_ Γ (.call own f' args') fr st nx K):kq_ P o (f' :: args') fr F (hW_ Γ (f'.ev fr)) st nx K:=by
 simp only [zu_,Jb_] at ev
 split at ev
 ·rename_i f first cap hfe
  simp only [zy_] at hok
  split at hok
  ·rename_i fo args ts ho
   simp only [Bool.and_eq_true] at hok
   obtain ⟨hf1,hf2⟩:=hok
   rcases jy_ (first++args'.map (·.ev fr)++cap) with h | ⟨l',e1,e2,e3⟩
   ·exact absurd ev (h _)
   rw [e1] at ev
   cases hg:Γ.get f with
   | none=>rw [hg] at ev;exact ev.elim
   | some s=>
     rw [hg] at ev
     simp only [] at ev
     have hS0:=XF_ hΓ hg
     have hnd:∀ S,s ≠ .nd S:=fun S e=>by
      subst e
      have cg:∀ {args js K'},¬ Vo_ (.nd S) args js st nx K':=fun {args js K'} h=>by
       unfold Vo_ at h
       obtain ⟨l2,ρ1,h1,_⟩:=Jh_ nx args []
       rw [h1] at h
       rcases Kf_ st nx 1000 0 ρ1 (Nat.zero_le _) with h2 | ⟨objs,ρ,k1,_⟩
       ·exact h2 _ h
       ·rw [k1] at h
        cases hd:V8_ (XJ_ js ρ) (xg_ objs) with
        | true=>rw [hd] at h;exact h
        | false=>rw [hd] at h;exact h
      unfold za3_ at ev
      cases own with
      | true=>exact cg ev
      | false=>
        obtain ⟨args2,js,q1,_⟩:=WA_ ev
        exact cg q1
     have hS:ze_ P f s.sum:=by
      cases s with
      | nd S=>exact absurd rfl (hnd S)
      | ro S=>exact hS0
      | rw S=>exact hS0
     have hlF:∀ i ∈ l'.flatMap AV.ids,F i:=fun i hi=>by
      rw [e2] at hi
      exact hfoot i (by simp only [U3_,hfe];exact hi)
     have key:∃ args2 js,Vo_ s args2 js st nx K/\(∀ i ∈ js,i ∈ l'.flatMap AV.ids/\Hb_ st i)/\(∀ i ∈ args2.flatMap AV.ids,i ∈ l'.flatMap AV.ids)/\
      ∀ {I:Nat->Prop} {w:World} {m:M} {σ:Sto} {cs:List Value},HRel I w m σ->(∀ i ∈ l'.flatMap AV.ids,σ i=st.get i)->kn_ I w m l' cs->kn_ (Ib I m js) w m args2 cs:=by
      unfold za3_ at ev
      cases own with
      | true=>exact ⟨l',[],ev,fun i hi=>(by cases hi),fun i hi=>hi,fun {I w m σ cs} _ _ h=>K1_ (fun _ h=>.inl h) (fun _ _=>rfl) m.le_refl _ _ h⟩
      | false=>
        obtain ⟨args2,js,q1,_,_,q4,q5,q6⟩:=WA_ ev
        exact ⟨args2,js,q1,fun i hi=>(q4 i hi).resolve_left (by simp),q5,q6⟩
     obtain ⟨args2,js,ev2,k1,k2,k3⟩:=key
     have hlive:∀ i ∈ js,∃ o,st.get i=some o/\o.live=true:=fun i hi=>by
      rcases (k1 i hi).2 with ⟨fz,t,x,h⟩ | ⟨l,h⟩
      ·exact ⟨_,h,rfl⟩
      ·exact ⟨_,h,rfl⟩
     have hjF:∀ i ∈ js,F i:=fun i hi=>hlF i (k1 i hi).1
     have hjn:∀ i ∈ js,i < nx:=fun i hi=>by
      obtain ⟨o,ho,_⟩:=hlive i hi
      exact hst i (by rw [ho];intro h;cases h)
     obtain ⟨largs,ρ,objs,v,objs',wr,t1,t2,t3,t4,t5,t6,t7,t8,t9,t10,t11,t12⟩:=hX_ hS hst hF (fun i hi=>hlF i (k2 i hi)) hjn ev2
     obtain ⟨hle,st1,T,Jf,u1,u2,u3,u4,u5,u6,u7⟩:=t9
     have hρs:∀ i ∈ ρ,st.get i ≠ none:=fun i hi=>by
      obtain ⟨k,hk,rfl⟩:=List.mem_iff_getElem.1 hi
      obtain ⟨o,ho,_⟩:=t6 k (by omega) hk
      rw [ho];intro h;cases h
     refine ⟨_,st1,nx+(objs'.length - objs.length),T,Nat.le_add_right _ _,u1,u2,fun i hi=>?_,fun {X0 I0 w0 σ I w m a} hf hs ha hN=>?_⟩
     ·rcases u3 i hi with ⟨hm,hw⟩ | h
      ·refine .inl ⟨?_,?_,?_⟩
       ·rcases hm with h | h
        ·exact (t4 i h).1
        ·exact hjF i h
       ·rcases hm with h | h
        ·exact hρs i h
        ·obtain ⟨o,ho,_⟩:=hlive i h
         rw [ho];intro h;cases h
       ·rcases hw with h | h
        ·obtain ⟨S,rfl⟩:=t10 h
         left;simp only [hfe,hW_,hg]
        ·exact .inr h
      ·exact .inr h
     ·-- the run
      have hfv:=HW_ (hf.rv (List.mem_cons_self ..) hf1)
      rw [hfe] at hfv
      obtain ⟨fs,cs,hfo,hfs,hcs⟩:=(hfv:∃ fs cs:Array Value,a.eval fo=.func (.func f) fs cs/\q5_ I w m first fs.toList/\q5_ I w m cap cs.toList)
      have one:∀ {l:List AV} {r:List Value},q5_ I w m l r->RVs I w m l r:=fun h=>⟨(jm_ h).1,fun i h1 h2=>Jj_ (qz_ ((jm_ h).2 i h1 h2))⟩
      have hall:RVs I w m (first++args'.map (·.ev fr)++cap) (fs.toList++args.toList.map a.eval++cs.toList):=
       ((one hfs).append ⟨by simp [j3_ hf2],WP_ hf hf2 fun y hy=>List.mem_cons_of_mem _ hy⟩).append (one hcs)
      have hl':=e3 hall.1 hall.2
      have hagree:∀ i ∈ l'.flatMap AV.ids,σ i=st.get i:=fun i hi=>ha i (hlF i hi)
      have hl2:=k3 hs.H hagree hl'
      have hσρ:∀ i ∈ ρ,σ i=st.get i:=fun i hi=>ha i (t4 i hi).1
      have hob:∀ k (h:k < objs.length) (h':k < ρ.length),∃ o,σ ρ[k]=some o/\Z6_ nx ρ o objs[k]:=fun k h h'=>by
       rw [hσρ _ (List.getElem_mem h')];exact t6 k h h'
      have hlive':∀ i ∈ js,∃ o,σ i=some o/\o.live=true:=fun i hi=>by rw [ha i (hjF i hi)];exact hlive i hi
      have hHl:=yR_ (js:=js) (nx:=nx) hs.H t3 t5 hob t7 hlive'
      have huse:∀ j,j < ρ.length->Un (qc_ m ρ nx) m (un ρ nx) j:=fun j hj=>⟨hj,rfl,rfl,rfl,rfl,rfl⟩
      rw [<- t1] at hl2
      have hl3:=J4_ (fun j hj=>huse j (t2 j hj)) hl2
      intro N Q k
      unfold Oper.wp
      rw [WV_ ho hfo hS.1,Oper.upon_enter]
      refine (hS.2.2 (cargs:=fs++args.map a.eval++cs) hHl (by simpa using hl3) (fun i hi=>by rw [t5];exact hi) t8).mono ?_
      rintro e w' ⟨v',cv,objs2,I',m',rfl,⟨rfl,rfl⟩,hL⟩
      have himg:∀ i,nx<=i->i < nx+(objs2.length - objs.length)->∃ j,j < objs2.length/\i=un ρ nx j:=fun i h1 h2=>⟨ρ.length+(i - nx),by omega,by rw [x1_ (by omega)];omega⟩
      have hJ:∀ i ∈ Jf,i ∈ js:=fun i hi=>by
       rcases u4 with h | ⟨h,_⟩
       ·exact h ▸ hi
       ·rw [h] at hi;cases hi
      have hIf:∃ If,(If=I'/\Jf=js)\/(If=I/\Jf=[]/\v'.ni=true/\∀ o ∈ objs2,o.ni=true):=by
       rcases u4 with h | ⟨h1,h2,h3⟩
       ·exact ⟨I',.inl ⟨rfl,h⟩⟩
       ·exact ⟨I,.inr ⟨rfl,h1,h2,h3⟩⟩
      obtain ⟨If,hIf⟩:=hIf
      obtain ⟨r1,r2,r3⟩:=Vy_ (σ':=upd σ T st1) hs t3 (fun i hi=>(t4 i hi).2) t5 (fun j h h'=>by
       obtain ⟨o,ho,hc⟩:=hob j h' h
       exact ⟨o,ho,hc.same.1,hc.same.2,fun wr kn e=>hc.reg e⟩)
       (fun i h1 h2=>hN i h1 (by omega)) hL hIf t7 (fun i hi=>⟨hjn i hi,hlive' i hi⟩)
       (fun j h=>by
         obtain ⟨o',q1,q2,q3,q4,q5,q6⟩:=u7 j h
         refine ⟨o',?_,q3,q4,q5,q6⟩
         by_cases hT:un ρ nx j ∈ T
         ·rw [Jo_ hT];exact q1
         ·rw [kR_ hT]
          rcases q2 with q2 | ⟨q2,q7⟩
          ·exact absurd q2 hT
          ·rw [<- q1,q7,zP_ q2];exact hσρ _ (List.getElem_mem q2))
       (fun i hi=>by
         obtain ⟨q1,fz,t,x,q2,q3⟩:=u5 i hi
         exact ⟨fz,t,x,by rw [ha i (hjF i (hJ i hi))];exact q2,by rw [Jo_ q1];exact q3⟩)
       (fun i h1 h2=>by
         by_cases hT:i ∈ T
         ·rw [Jo_ hT,u6 i h1 h2]
          rcases u3 i hT with ⟨hm,_⟩ | ⟨h3,h4⟩
          ·rcases hm with h | h
           ·exact (hσρ i h).symm
           ·exact (ha i (hjF i h)).symm
          ·obtain ⟨j,hj,e⟩:=himg i h3 h4
           exact absurd e (h1 j hj)
         ·exact kR_ hT) t11 t12
      refine k cv If w' _ ⟨r3,r1,r2,fun i hi=>?_⟩
      rcases hi with h | h
      ·exact .inl h
      ·exact .inr (by rw [t5];exact h)
  ·cases hok
 ·exact ev.elim
theorem bU_ {f':Opd} {args':List Opd} {X0:Bool->Nat->Prop} {I0 I:Nat->Prop} {w0 w:World} {m:M} {a:Act} (hΓ:qi_ P Γ) (hst:∀ i,st.get i ≠ none->i < nx) (hok:zy_ P o.op (.calln f' args')=true)
 (hf:FOn (f' :: args') fr I w m a) (hs:HS X0 I0 w0 st.get I w m) (hN:∀ i,nx<=i->¬ m.used i)
 (ev:zu_ Γ (.calln f' args') fr st nx K):xl_ P o a w fun cv I' w' m'=>∃ v st1 nx',nx<=nx'/\K v st1 nx'/\V9_ X0 I0 w0 I w m st1.get v nx nx' cv I' w' m':=by
 simp only [zu_,Jb_] at ev
 split at ev
 ·rename_i f first cap hfe
  simp only [zy_] at hok
  split at hok
  ·rename_i fo args ts ho
   simp only [Bool.and_eq_true] at hok
   obtain ⟨hf1,hf2⟩:=hok
   rcases jy_ (first++args'.map (·.ev fr)++cap) with h | ⟨l',e1,e2,e3⟩
   ·exact absurd ev (h _)
   rw [e1] at ev
   split at ev
   ·rename_i S hg
    have hS:h6_ P f S:=XF_ hΓ hg
    obtain ⟨args2,js,ev2,k1,q6⟩:∃ args2 js,za2_ S args2 js st nx K/\(∀ i ∈ js,i ∈ l'.flatMap AV.ids/\Hb_ st i)/\∀ {I:Nat->Prop} {w:World} {m:M} {cs:List Value},kn_ I w m l' cs->kn_ (Ib I m js) w m args2 cs:=
     ⟨l',[],ev,fun i hi=>(by cases hi),fun {I w m cs} h=>K1_ (fun _ h=>.inl h) (fun _ _=>rfl) m.le_refl _ _ h⟩
    have hlive:∀ i ∈ js,∃ o,st.get i=some o/\o.live=true:=fun i hi=>by
     rcases (k1 i hi).2 with ⟨fz,t,x,h⟩ | ⟨l,h⟩
     ·exact ⟨_,h,rfl⟩
     ·exact ⟨_,h,rfl⟩
    have hjn:∀ i ∈ js,i < nx:=fun i hi=>by
     obtain ⟨o,ho,_⟩:=hlive i hi
     exact hst i (by rw [ho];intro h;cases h)
    unfold za2_ at ev2
    obtain ⟨largs,ρ1,h1,h2,h3,h4⟩:=Jh_ nx args2 []
    rw [h1] at ev2
    rcases Kf_ st nx 1000 0 ρ1 (Nat.zero_le _) with h | ⟨objs,ρ,c1,c2,c3,c4⟩
    ·exact absurd ev2 (h _)
    ·rw [c1] at ev2
     rw [Nat.zero_add] at c3
     have c4:∀ k (h:k < objs.length) (h':k < ρ.length),∃ o,st.get ρ[k]=some o/\Z6_ nx ρ o objs[k]:=fun k h h'=>by
      have:=c4 k h (by omega)
      simpa only [Nat.zero_add] using this
     have hnod:ρ.Nodup:=(h2.trans c2).nodup List.nodup_nil
     have hlt:∀ i ∈ ρ,i < nx:=fun i hi=>by
      obtain ⟨k,hk,rfl⟩:=List.mem_iff_getElem.1 hi
      obtain ⟨o,ho,_⟩:=c4 k (by omega) hk
      exact hst _ (by rw [ho];intro h;cases h)
     have t1:largs.map (kF_ (un ρ nx))=args2:=by
      rw [<- h3]
      refine List.map_congr_left fun v hv=>Jv_ fun j hj=>c2.un (h4 j (List.mem_flatMap.2 ⟨v,hv,hj⟩))
     have t2:∀ j ∈ largs.flatMap AV.ids,j < ρ.length:=fun j hj=>Nat.lt_of_lt_of_le (h4 j hj) c2.len
     cases hd0:V8_ (XJ_ js ρ) (xg_ objs) with
     | false=>rw [hd0] at ev2;exact ev2.elim
     | true=>
       rw [hd0] at ev2
       obtain ⟨hd,hnw⟩:=U6_ hd0
       have t7:∀ i ∈ js,i ∉ ρ:=fun i hi=>XI_ hd i hi
       have hfv:=HW_ (hf.rv (List.mem_cons_self ..) hf1)
       rw [hfe] at hfv
       obtain ⟨fs,cs,hfo,hfs,hcs⟩:=(hfv:∃ fs cs:Array Value,a.eval fo=.func (.func f) fs cs/\q5_ I w m first fs.toList/\q5_ I w m cap cs.toList)
       have one:∀ {l:List AV} {r:List Value},q5_ I w m l r->RVs I w m l r:=fun h=>⟨(jm_ h).1,fun i h1 h2=>Jj_ (qz_ ((jm_ h).2 i h1 h2))⟩
       have hall:RVs I w m (first++args'.map (·.ev fr)++cap) (fs.toList++args.toList.map a.eval++cs.toList):=
        ((one hfs).append ⟨by simp [j3_ hf2],WP_ hf hf2 fun y hy=>List.mem_cons_of_mem _ hy⟩).append (one hcs)
       have hl':=e3 hall.1 hall.2
       have hl2:=q6 hl'
       have hHl:=yR_ (js:=js) (nx:=nx) hs.H hnod c3 c4 t7 hlive
       have huse:∀ j,j < ρ.length->Un (qc_ m ρ nx) m (un ρ nx) j:=fun j hj=>⟨hj,rfl,rfl,rfl,rfl,rfl⟩
       rw [<- t1] at hl2
       have hl3:=J4_ (fun j hj=>huse j (t2 j hj)) hl2
       intro N Q k
       unfold Oper.wp
       rw [WV_ ho hfo hS.1,Oper.upon_enter]
       refine (hS.2 (cargs:=fs++args.map a.eval++cs) hHl (by simpa using hl3) (fun i hi=>by rw [c3];exact hi) ev2).mono ?_
       rintro e w' ⟨v',cv,objs2,I',m',rfl,hback,hL⟩
       cases hrb:Q7_ objs objs2 with
       | false=>rw [hrb] at hback;exact hback.elim
       | true=>
       rw [hrb] at hback
       obtain ⟨hle,st1,T,Jf,u1,u2,u3,u4,u5,u6,u7⟩:=uQ_ hnod hlt c3 t7 hjn hback
       have himg:∀ i,nx<=i->i < nx+(objs2.length - objs.length)->∃ j,j < objs2.length/\i=un ρ nx j:=fun i h1 h2=>⟨ρ.length+(i - nx),by omega,by rw [x1_ (by omega)];omega⟩
       have hJ:∀ i ∈ Jf,i ∈ js:=fun i hi=>by
        rcases u4 with h | ⟨h,_⟩
        ·exact h ▸ hi
        ·rw [h] at hi;cases hi
       have hIf:∃ If,(If=I'/\Jf=js)\/(If=I/\Jf=[]/\v'.ni=true/\∀ o ∈ objs2,o.ni=true):=by
        rcases u4 with h | ⟨h1,h2,h3⟩
        ·exact ⟨I',.inl ⟨rfl,h⟩⟩
        ·exact ⟨I,.inr ⟨rfl,h1,h2,h3⟩⟩
       obtain ⟨If,hIf⟩:=hIf
       have hupd:upd st.get T st1=st1.get:=funext fun k=>by
        unfold upd
        split
        ·rfl
        ·rename_i hk;exact (u2 k hk).symm
       obtain ⟨r1,r2,r3⟩:=Vy_ (σ':=st1.get) hs hnod hlt c3 (fun j h h'=>by
        obtain ⟨o,ho,hc⟩:=c4 j h' h
        exact ⟨o,ho,hc.same.1,hc.same.2,fun wr kn e=>hc.reg e⟩)
        (fun i h1 h2=>hN i h1) hL hIf t7 (fun i hi=>⟨hjn i hi,hlive i hi⟩)
        (fun j h=>by
          obtain ⟨o',q1,q2,q3,q4,q5,q6⟩:=u7 j h
          exact ⟨o',q1,q3,q4,q5,q6⟩)
        (fun i hi=>by
          obtain ⟨q1,fz,t,x,q2,q3⟩:=u5 i hi
          exact ⟨fz,t,x,q2,q3⟩)
        (fun i h1 h2=>u6 i h1 h2) (Xb_ hrb) (Y7_ hnw)
       refine k cv If w' _ ⟨_,st1,_,Nat.le_add_right _ _,u1,r3,r1,r2,fun i hi=>?_⟩
       rcases hi with h | h
       ·exact .inl h
       ·exact .inr (by rw [c3];exact h)
   ·exact ev.elim
  ·cases hok
 ·exact ev.elim
end
end Go.Eng
namespace Go.Eng
set_option linter.unusedVariables false
set_option linter.unusedSimpArgs false
open Go.RowKit
def M.pushR (m:M) (id:Nat) (r:Reg):M:=
 {blk:=m.blk,cap:=m.cap,len:=m.len,sz:=m.sz,used:=fun i=>m.used i\/i=id,rg:=fun i=>if i=id then r else m.rg i}
theorem M.pushR_le {m:M} {id:Nat} {r:Reg} (h:¬ m.used id):m.le (m.pushR id r):=
 ⟨fun i hi=>.inl hi,fun i hi=>by
  have hne:i ≠ id:=fun e=>h (e ▸ hi)
  exact ⟨rfl,rfl,rfl,rfl,if_neg hne⟩⟩
theorem HS.newreg {X0:Bool->Nat->Prop} {I0 I:Nat->Prop} {w0 w:World} {m:M} {σ σ':Sto} (h:HS X0 I0 w0 σ I w m) {id:Nat} {r:Reg} (hid:¬ m.used id) (hσ:∀ i,σ' i=if i=id then some (Obj.reg true true) else σ i)
 (hD:∀ b,r.dp b->b < w.heap.size/\¬ I b/\(∀ j o,σ j=some o->o.live=true->m.blk j ≠ some b)/\(∀ j wr kn,σ j=some (Obj.reg wr kn)->¬ (m.rg j).dp b)/\gd_ r.wc w true true b/\(X0 true b\/w0.heap.size<=b)):
 HS X0 I0 w0 σ' I w (m.pushR id r)/\Evo I w m I w (m.pushR id r):=by
 have hle:=M.pushR_le (r:=r) hid
 have hE:Evo I w m I w (m.pushR id r):=⟨fun _ h=>h,fun _ _=>rfl,hle⟩
 have hne:∀ {i o},σ i=some o->i ≠ id:=fun {i o} e e'=>hid (e' ▸ h.H.lt i (by rw [e];intro h;cases h))
 have rgo:∀ {i o},σ i=some o->(m.pushR id r).rg i=m.rg i:=fun {i o} e=>by simp only [M.pushR];rw [if_neg (hne e)]
 have rgn:(m.pushR id r).rg id=r:=if_pos rfl
 have old:∀ {j o},σ' j=some o->(∀ a k,o ≠ .reg a k)->σ j=some o:=fun {j o} e hn=>by
  rw [hσ] at e
  split at e
  ·cases e;exact absurd rfl (hn true true)
  ·exact e
 have oldR:∀ {j a k},σ' j=some (Obj.reg a k)->(j=id/\a=true/\k=true)\/σ j=some (Obj.reg a k):=fun {j a k} e=>by
  rw [hσ] at e
  split at e
  ·cases e;exact .inl ⟨‹_›,rfl,rfl⟩
  ·exact .inr e
 have lv:∀ {o:Obj},o.live=true->∀ a k,o ≠ .reg a k:=fun {o} hl a k e=>by subst e;cases hl
 have ml:∀ {o:Obj},o.mut=true->o.live=true:=fun {o} h=>vP_ h
 refine ⟨⟨⟨fun j hj=>?_,fun j o e=>?_,fun j k o o' c e e' hl hl' hb hb'=>h.H.inj j k o o' c (old e (lv hl)) (old e' (lv hl')) hl hl' hb hb',fun j o c e hm hb=>h.H.notI j o c (old e (lv (ml hm))) hm hb,fun j t x c e hb=>h.H.isI j t x c (old e (fun _ _ h=>by cases h)) hb,h.H.Ilt,fun j a k c e hdc=>?_,fun j j' a k a' k' c e e' hdc hdc'=>?_⟩,
  h.fr0,h.Isub,h.Inew,fun j o c e hm hb=>h.own j o c (old e (lv (ml hm))) hm hb,fun j o c e hl hb=>h.ownL j o c (old e (lv hl)) hl hb,h.Ifz,fun j k c e hdc=>?_⟩,hE⟩
 ·rw [hσ] at hj
  split at hj
  ·rename_i e;exact .inr e
  ·exact .inl (h.H.lt j hj)
 ·by_cases hr:∃ a k,o=Obj.reg a k
  ·obtain ⟨a,k,rfl⟩:=hr;trivial
  ·have e0:=old e fun a k e=>hr ⟨a,k,e⟩
   exact (h.H.obj j o e0).mono (fun _ h=>h) (fun _ _=>rfl) hle (h.H.lt j (by rw [e0];intro h;cases h)) fun _ _ _=>rfl
 ·rcases oldR e with ⟨rfl,rfl,rfl⟩ | e0
  ·rw [rgn] at hdc ⊢
   obtain ⟨q1,q2,q3,q4,q5,q6⟩:=hD c hdc
   exact ⟨q1,q2,fun p o' ep hl hb=>q3 p o' (old ep (lv hl)) hl hb,q5⟩
  ·rw [rgo e0] at hdc ⊢
   obtain ⟨q1,q2,q3,q4⟩:=h.H.gar j a k c e0 hdc
   exact ⟨q1,q2,fun p o' ep hl hb=>q3 p o' (old ep (lv hl)) hl hb,q4⟩
 ·rcases oldR e with ⟨rfl,rfl,rfl⟩ | e0<;>rcases oldR e' with ⟨rfl,rfl,rfl⟩ | e0'
  ·rfl
  ·rw [rgn] at hdc;rw [rgo e0'] at hdc'
   exact absurd hdc' ((hD c hdc).2.2.2.1 _ _ _ e0')
  ·rw [rgn] at hdc';rw [rgo e0] at hdc
   exact absurd hdc ((hD c hdc').2.2.2.1 _ _ _ e0)
  ·rw [rgo e0] at hdc;rw [rgo e0'] at hdc'
   exact h.H.rdj j j' _ _ _ _ c e0 e0' hdc hdc'
 ·rcases oldR e with ⟨rfl,_,rfl⟩ | e0
  ·rw [rgn] at hdc;exact (hD c hdc).2.2.2.2.2
  ·rw [rgo e0] at hdc;exact h.regw j k c e0 hdc
theorem HS.still {X0:Bool->Nat->Prop} {I0 I:Nat->Prop} {w0 w w':World} {m:M} {σ:Sto} (h:HS X0 I0 w0 σ I w m) (hfr:Fr (fun _=>False) w w'):HS X0 I0 w0 σ I w' m/\Evo I w m I w' m:=by
 have hE:Evo I w m I w' m:=⟨fun _ h=>h,fun b hb=>hfr.block b (h.H.Ilt b hb) id,m.le_refl⟩
 exact ⟨h.step hE (fun _=>False) (fun _ _=>rfl) (hfr.weak fun _ h=>h.elim) (fun b hb=>.inl hb) (fun b hb=>Nat.lt_of_lt_of_le (h.H.Ilt b hb) hfr.size) (fun _ _ h=>h.elim) (fun _ _ _ h=>h.elim) (fun _ _ _ _ _ h=>h.elim) (fun _ _ _ h=>h.elim) (fun _ _ _ _ h=>h.elim) (fun _ _ _ h=>h.elim) (fun b hb=>.inl hb),hE⟩
def noMr (r:Reg):M:=⟨fun _=>none,fun _=>0,fun _=>0,fun _=>0,fun i=>i=0,fun _=>r⟩
def noMz:M:=⟨fun _=>none,fun _=>0,fun _=>0,fun _=>0,fun _=>False,noR⟩
theorem RVs.tail {I:Nat->Prop} {w:World} {m:M} {v:AV} {l:List AV} {c:Value} {r:List Value} (h:RVs I w m (v :: l) (c :: r)):RV I w m v c/\RVs I w m l r:=
 ⟨h.2 0 (by simp) (by simp),by have:=h.1;simpa using this,fun i h1 h2=>by have:=h.2 (i+1) (by simpa using h1) (by simpa using h2);simpa using this⟩
section
variable {st:zc_}
theorem zab_ {v:AV} {K0:AV->Prop} (ev:zac_ st v K0):∃ v',K0 v'/\∀ {I J:Nat->Prop} {w:World} {m m':M} {σ:Sto} {cv:Value},(∀ b,I b->J b)->(∀ i ∈ v.ids,σ i=st.get i)->
 (∀ i wr b,σ i=some (Obj.reg wr true)->(m.rg i).dp b->J b/\w.heap[b]?=(m.rg i).wc.heap[b]?)->RV I w m v cv->RV2 J w m' v' cv:=by
 unfold zac_ at ev
 split at ev
 ·rename_i i t x
  split at ev
  ·rename_i wr kn hg
   split at ev
   ·refine ⟨_,ev,fun {I J w m m' σ cv} hIJ ha hr hv=>?_⟩
    obtain ⟨⟨ao,len,cap,rfl,hs⟩,hu⟩:=hv
    have hi:σ i=some (Obj.reg wr true):=by rw [ha i (by simp [AV.ids,AV.ids1,AV.ids0]),hg]
    exact ⟨ao,len,cap,rfl,gc_ (fun b hb=>(hr i wr b hi hb).1) (fun b hb=>(hr i wr b hi hb).2) hs⟩
   ·exact ev.elim
  ·exact ev.elim
 ·refine ⟨_,ev,fun {I J w m m' σ cv} hIJ ha hr hv=>?_⟩
  obtain ⟨ao,len,cap,rfl,hs⟩:=hv
  exact ⟨ao,len,cap,rfl,gc_ hIJ (fun _ _=>rfl) hs⟩
 ·exact ⟨_,ev,fun {I J w m m' σ cv} hIJ ha hr hv=>hv⟩
 ·exact ⟨_,ev,fun {I J w m m' σ cv} hIJ ha hr hv=>hv⟩
 ·exact ⟨_,ev,fun {I J w m m' σ cv} hIJ ha hr hv=>hv⟩
 ·exact ⟨_,ev,fun {I J w m m' σ cv} hIJ ha hr hv=>hv⟩
 ·exact ⟨_,ev,fun {I J w m m' σ cv} hIJ ha hr hv=>hv⟩
 ·exact ev.elim
theorem g1_:∀ {l:List AV} {K0:List AV->Prop},HF_ st l K0->∃ l',K0 l'/\∀ {I J:Nat->Prop} {w:World} {m m':M} {σ:Sto} {cs:List Value},(∀ b,I b->J b)->(∀ i ∈ l.flatMap AV.ids,σ i=st.get i)->
 (∀ i wr b,σ i=some (Obj.reg wr true)->(m.rg i).dp b->J b/\w.heap[b]?=(m.rg i).wc.heap[b]?)->RVs I w m l cs->kn_ J w m' l' cs
 | [],K0,ev=>⟨[],ev,fun {I J w m m' σ cs} _ _ _ h=>by
   cases cs with
   | nil=>trivial
   | cons c r=>have:=h.1;simp at this⟩
 | v :: l,K0,ev=>by
   unfold HF_ at ev
   obtain ⟨v',e1,h1⟩:=zab_ ev
   obtain ⟨l',e2,h2⟩:=g1_ e1
   refine ⟨v' :: l',e2,fun {I J w m m' σ cs} hIJ ha hr h=>?_⟩
   cases cs with
   | nil=>have:=h.1;simp at this
   | cons c r=>
     obtain ⟨k1,k2⟩:=h.tail
     rw [List.flatMap_cons] at ha
     exact ⟨h1 hIJ (fun i hi=>ha i (List.mem_append.2 (.inl hi))) hr k1,h2 hIJ (fun i hi=>ha i (List.mem_append.2 (.inr hi))) hr k2⟩
end
section
variable {P:Program} {Γ:Env} {o:Oper} {fr:zd_} {st:zc_} {nx:Nat} {K:AV->zc_->Nat->Prop}
theorem bV_ {f':Opd} {args':List Opd} {wr:Bool} (hΓ:qi_ P Γ) (hok:zy_ P o.op (.callL f' args')=true)
 (ev:zu_ Γ (.callL f' args') fr st nx K):MOK P o (f' :: args') fr (zZ_ (f' :: args') fr) wr st nx K:=by
 simp only [zu_] at ev
 split at ev
 ·rename_i f l c hfe
  split at ev
  ·simp only [zy_] at hok
   split at hok
   ·rename_i fo args ts ho
    simp only [Bool.and_eq_true] at hok
    obtain ⟨hf1,hf2⟩:=hok
    obtain ⟨l',ev,hl⟩:=g1_ ev
    split at ev
    ·rename_i S hg
     have hS:ze_ P f (SumK.ro S).sum:=XF_ hΓ hg
     obtain ⟨v,o',hK,hu⟩:=hS.2.1 (args:=l') (objs:=[]) (K:=fun v _=>match v with | .bool b=>K (.bool b) st nx | .int k n=>K (.int k n) st nx | _=>False) ev
     have hv:K v st nx/\((∃ b,v=.bool b)\/∃ k n,v=.int k n):=by
      split at hK
      ·exact ⟨hK,.inl ⟨_,rfl⟩⟩
      ·exact ⟨hK,.inr ⟨_,_,rfl⟩⟩
      ·exact hK.elim
     refine ⟨v,st,nx,[],Nat.le_refl _,hv.1,fun i _=>rfl,fun i hi=>(by cases hi),fun {X0 I0 w0 σ I w m a} hf hs ha hN=>?_⟩
     have hfv:=hf.rv (List.mem_cons_self ..) hf1
     rw [hfe] at hfv
     obtain ⟨fs,cs,hfo,hfs,hcs⟩:=(hfv:∃ fs cs:Array Value,a.eval fo=.func (.func f) fs cs/\q5_ I w m [] fs.toList/\q5_ I w m [] cs.toList)
     have e1:fs.toList=[]:=by
      cases hh:fs.toList with
      | nil=>rfl
      | cons=>rw [hh] at hfs;exact hfs.elim
     have e2:cs.toList=[]:=by
      cases hh:cs.toList with
      | nil=>rfl
      | cons=>rw [hh] at hcs;exact hcs.elim
     have hall:RVs I w m (args'.map (·.ev fr)) (args.toList.map a.eval):=⟨by simp [j3_ hf2],WP_ hf hf2 fun y hy=>List.mem_cons_of_mem _ hy⟩
     have hl2:=hl (J:=fun b=>I b\/∃ i wr,σ i=some (Obj.reg wr true)/\(m.rg i).dp b) (m':=noMz) (fun b hb=>.inl hb) (fun i hi=>ha i (by
      unfold zZ_
      rw [List.flatMap_map] at hi
      rw [List.flatMap_cons]
      exact List.mem_append.2 (.inr hi))) (fun i wr b hi hb=>⟨.inr ⟨i,wr,hi,hb⟩,(hs.H.gar i wr true b hi hb).2.2.2.2.1 rfl⟩) hall
     intro N Q k
     unfold Oper.wp
     rw [WV_ ho hfo hS.1,Oper.upon_enter]
     refine (hS.2.2 (cargs:=fs++args.map a.eval++cs) (m:=noMz) (objs:=[]) ⟨fun i hi=>absurd rfl hi,fun i o e=>by simp [ofL] at e,fun i j o o' b e=>by simp [ofL] at e,fun i o b e=>by simp [ofL] at e,fun i t x b e=>by simp [ofL] at e,fun b hb=>?_,fun i wr kn b e=>by simp [ofL] at e,fun i j wr kn wr' kn' b e=>by simp [ofL] at e⟩ (by simp only [Array.toList_append,e1,e2,Array.toList_map,List.nil_append,List.append_nil];exact hl2) (fun i hi=>hi.elim) hu).mono ?_
     ·rcases hb with hb | ⟨i,wr,hi,hb⟩
      ·exact hs.H.Ilt b hb
      ·exact (hs.H.gar i wr true b hi hb).1
     ·rintro e w' ⟨v',cv,objs2,I',m',rfl,⟨rfl,rfl⟩,hL⟩
      have hfr:Fr (fun _=>False) w w':=hL.fr.weak fun b hb=>by
       rcases hb with ⟨i,o,e,_⟩ | ⟨i,kn,e,_⟩<;>simp at e
      obtain ⟨s1,s2⟩:=hs.still hfr
      refine k cv I w' m ⟨?_,s1.ext fun i=>?_,s2,fun i hi=>.inl hi⟩
      ·have hrv:=hL.rv
       rcases hv.2 with ⟨b,rfl⟩ | ⟨k,n,rfl⟩<;>exact hrv
      ·exact kR_ (by simp)
    ·exact ev.elim
   ·cases hok
  ·exact ev.elim
 ·exact ev.elim
theorem bW_ {f':Opd} {args':List Opd} {wr:Bool} (hΓ:qi_ P Γ) (hok:zy_ P o.op (.callF f' args')=true)
 (ev:zu_ Γ (.callF f' args') fr st nx K):MOK P o (f' :: args') fr (zZ_ (f' :: args') fr) wr st nx K:=by
 simp only [zu_] at ev
 split at ev
 ·rename_i f l c hfe
  split at ev
  ·rename_i x'
   split at ev
   ·rename_i t y hxe
    split at ev
    ·rename_i S hg
     simp only [zy_] at hok
     split at hok
     ·rename_i fo args ts ho
      simp only [Bool.and_eq_true] at hok
      obtain ⟨hf1,hf2⟩:=hok
      have hS:ze_ P f (SumK.ro S).sum:=XF_ hΓ hg
      obtain ⟨v,o',hK,hu⟩:=hS.2.1 (args:=[.jsl 0 t y]) (objs:=[.reg false true]) (K:=fun v _=>match v with | .imm t' z=>K (.jsl nx t' z) ((nx,.reg true true) :: st) (nx+1) | _=>False) ev
      split at hK
      ·rename_i t' z
       refine ⟨_,_,nx+1,[nx],by omega,hK,fun i hi=>?_,fun i hi=>.inr (by simp only [List.mem_singleton] at hi;omega),fun {X0 I0 w0 σ I w m a} hf hs ha hN=>?_⟩
       ·rw [zc_.get_cons,if_neg (by simpa using hi)]
       ·have hfv:=hf.rv (List.mem_cons_self ..) hf1
        rw [hfe] at hfv
        obtain ⟨fs,cs,hfo,hfs,hcs⟩:=(hfv:∃ fs cs:Array Value,a.eval fo=.func (.func f) fs cs/\q5_ I w m [] fs.toList/\q5_ I w m [] cs.toList)
        have e1:fs.toList=[]:=by
         cases hh:fs.toList with
         | nil=>rfl
         | cons=>rw [hh] at hfs;exact hfs.elim
        have e2:cs.toList=[]:=by
         cases hh:cs.toList with
         | nil=>rfl
         | cons=>rw [hh] at hcs;exact hcs.elim
        have hall:RVs I w m ([x'].map (·.ev fr)) (args.toList.map a.eval):=⟨by simp [j3_ hf2],WP_ hf hf2 fun y hy=>List.mem_cons_of_mem _ hy⟩
        have hargs:kn_ (fun _=>False) w (noMr ⟨I,w⟩) [.jsl 0 t y] (args.toList.map a.eval):=by
         cases hal:args.toList.map a.eval with
         | nil=>rw [hal] at hall;have:=hall.1;simp at this
         | cons c0 r0=>
           rw [hal] at hall
           cases r0 with
           | cons=>have:=hall.1;simp at this
           | nil=>
             have h0:=hall.2 0 (by simp) (by simp)
             simp only [List.map_cons,List.map_nil,List.getElem_cons_zero,hxe] at h0
             exact ⟨⟨h0,rfl⟩,trivial⟩
        have one:∀ {i o},ofL [.reg false true] i=some o->i=0/\o=Obj.reg false true:=fun {i o} e=>by
         cases i with
         | zero=>cases e;exact ⟨rfl,rfl⟩
         | succ i=>simp [ofL] at e
        intro N Q k
        unfold Oper.wp
        rw [WV_ ho hfo hS.1,Oper.upon_enter]
        refine (hS.2.2 (cargs:=fs++args.map a.eval++cs) (m:=noMr ⟨I,w⟩) (objs:=[.reg false true]) (I:=fun _=>False) ⟨fun i hi=>?_,fun i o e=>?_,fun i j o o' b e e' hl=>?_,fun i o b e hm=>?_,fun i t x b e=>?_,fun b hb=>hb.elim,fun i wr kn b e hd=>?_,fun i j wr kn wr' kn' b e e' _ _=>?_⟩ (by simp only [Array.toList_append,e1,e2,Array.toList_map,List.nil_append,List.append_nil];exact hargs) (fun i hi=>by rw [show i=0 from hi];exact Nat.one_pos) hu).mono ?_
        ·cases e:ofL [.reg false true] i with
         | none=>exact absurd e hi
         | some o=>exact (one e).1
        ·rw [(one e).2];trivial
        ·rw [(one e).2] at hl;cases hl
        ·rw [(one e).2] at hm;cases hm
        ·have:=(one e).2;cases this
        ·have:=(one e).2
         cases this
         refine ⟨hs.H.Ilt b hd,id,fun j o' e' hl=>?_,.inl rfl,fun _=>rfl,fun h=>(by cases h)⟩
         rw [(one e').2] at hl;cases hl
        ·rw [(one e).1,(one e').1]
        ·rintro e w' ⟨v',cv,objs2,I',m',rfl,⟨rfl,rfl⟩,hL⟩
         have noX:∀ b,¬ XL (noMr ⟨I,w⟩) [.reg false true] b:=fun b hb=>by
          rcases hb with ⟨i,o,e,hm,_⟩ | ⟨i,kn,e,_⟩
          ·rw [(one e).2] at hm;cases hm
          ·have:=(one e).2;cases this
         have hfr:Fr (fun _=>False) w w':=hL.fr.weak fun b hb=>noX b hb
         obtain ⟨s1,s2⟩:=hs.still hfr
         have hnew:∀ b,I' b->w.heap.size<=b:=fun b hb=>by
          rcases hL.new b hb with h | h | h
          ·exact h.elim
          ·exact h
          ·exact (noX b h).elim
         obtain ⟨r1,r2⟩:=s1.newreg (σ':=upd σ [nx] ((nx,.reg true true) :: st)) (id:=nx) (r:=⟨I',w'⟩) (hN nx (Nat.le_refl _) (by omega)) (fun i=>by
          unfold upd
          simp only [List.mem_singleton,zc_.get_cons]
          split<;>rfl) (fun b hb=>by
          have hb':=hnew b hb
          refine ⟨hL.H.Ilt b hb,fun hI=>?_,fun j o' e hl hbj=>?_,fun j wr kn e hd=>?_,⟨.inl rfl,fun _=>rfl,fun _=>?_⟩,.inr (Nat.le_trans hs.fr0.size hb')⟩
          ·have:=hs.H.Ilt b hI;omega
          ·have:=(hs.H.obj j o' e).lt hl hbj;omega
          ·have:=(hs.H.gar j wr kn b e hd).1;omega
          ·exact (hL.fz b hb).resolve_left id)
         have hrv:∃ ao len cap,cv=.slice ao len cap/\RS I' w' t' z ao len cap:=hL.rv
         refine k cv I w' (m.pushR nx ⟨I',w'⟩) ⟨⟨?_,.inr rfl⟩,r1,s2.trans r2,fun i hi=>?_⟩
         ·rw [show (m.pushR nx ⟨I',w'⟩).rg nx=⟨I',w'⟩ from if_pos rfl]
          exact hrv
         ·exact hi.imp id fun h=>by omega
      ·exact hK.elim
     ·cases hok
    ·exact ev.elim
   ·exact ev.elim
  ·exact ev.elim
 ·exact ev.elim
end
end Go.Eng
