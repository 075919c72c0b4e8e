/- Parts of the proof: EOps10. No condition. -/
import Derived.Test.YtimkdohmkfjfaaaGreatDoorXJ05
import Derived.WalkKit
import Derived.MapFrom
import Derived.DeepKeys3
import Derived.Lib.Overlaps
namespace Go.Eng
set_option linter.unusedVariables false
set_option linter.unusedSimpArgs false
open Go.RowKit
section ops
variable {P:Program} {Γ:Env} {o:Oper} {L:List Opd} {fr:zg_} {F:List Nat} {wr:Bool} {st:zc_} {nx:Nat} {K:AV->zc_->Nat->Prop}
theorem zck_ {x:Operand} (h:Hu_ x=true) (a:Act):a.eval x=.slice none 0 0:=by
 unfold Hu_ at h
 split at h
 ·rfl
 ·cases h
theorem Hs_ {t:Ty} (hok:zD_ P o.op (.nilrow t)=true) (ev:zu_ Γ (.nilrow t) fr st nx K):MOK P o [] fr F wr st nx K:=by
 simp only [zu_] at ev
 simp only [zD_] at hok
 have hop:∃ x,Hu_ x=true/\∀ a:Act,execOp a.eval o=(do pure (.value (<- (pure (a.eval x):Sem Value)))):=by
  split at hok
  ·rename_i x ho;exact ⟨x,hok,fun a=>by unfold execOp;rw [ho];rfl⟩
  ·rename_i x ho;exact ⟨x,hok,fun a=>by unfold execOp;rw [ho];rfl⟩
  ·cases hok
 obtain ⟨x,hx,hex⟩:=hop
 refine jz_ ev (fun _ _ h=>by cases h) fun {I w m a σ} hf hH ha hu=>⟨_,hex a,.slice none 0 0,w,none,0,0,t.size,by rw [zck_ hx a];rfl,Fr.refl _ _,fun b hb=>(by cases hb),fun _=>?_,fun _=>?_⟩
 ·exact ⟨M.push_sz _ _ _ _ _ _,(M.push_len _ _ _ _ _ _).symm,Nat.zero_le _,by rw [M.push_cap];exact Nat.zero_le _,.inl ⟨M.push_blk _ _ _ _ _ _,M.push_cap _ _ _ _ _ _⟩⟩
 ·exact ⟨none,0,0,rfl,.inr rfl,(M.push_len _ _ _ _ _ _).symm,(M.push_cap _ _ _ _ _ _).symm,Nat.le_refl _,Nat.zero_le _,.inl ⟨M.push_blk _ _ _ _ _ _,rfl,rfl⟩⟩
theorem zcn_ {t k e:TypeId} {ts:Array TypeId} {ty:TypeId} {b:Nat} {es:Array MapEntry} {c:Nat} {w:World} (h0:ts[0]?=some t) (ht:P.underlying t=some (.map k e)) (hb:w.heap[b]?=some (.map es c)):
 (Builtin.len_ ts ty #[.map (some b)]).run P w=.ok (.int .i64 es.size) w:=by
 simp [Builtin.len_,h0,run_underlying ht,goInt,MapKept.run_getObj_map hb]
theorem zaI_ {x':Opd} (hok:zD_ P o.op (.mlen x')=true) (ev:zu_ Γ (.mlen x') fr st nx K):MOK P o [x'] fr (z0_ [x'] fr) wr st nx K:=by
 simp only [zu_] at ev
 simp only [zD_] at hok
 split at hok
 ·rename_i args ts ho
  simp only [Bool.and_eq_true] at hok
  obtain ⟨h1,h2⟩:=hok
  obtain ⟨x,rfl,hx⟩:=vZ_ h1
  split at h2
  ·rename_i t ht
   obtain ⟨k,e,he⟩:=G2_ h2
   split at ev
   ·rename_i i hb
    split at ev
    ·rename_i q kt vt l hl
     obtain ⟨hn,ev⟩:=zi_ ev
     refine zC_ ev fun {I w m a σ} hf hH ha=>⟨Builtin.len_ ts o.type #[a.eval x],by rw [qr_ ho];simp [builtin],.int .i64 l.length,?_,?_⟩
     ·exact Zk_ (QB_ (by unfold maxLen;omega))
     ·have hi:σ i=some (.map q kt vt l):=by rw [ha i (zr_ qd_ hb i (by simp [AV.ids,AV.ids1,AV.ids0])),hl]
      obtain ⟨b,es,c,q1,q2,q3⟩:=hH.obj i _ hi
      have hv:=hf.rv qd_ hx;rw [hb] at hv
      obtain ⟨b',q4,q5,_⟩:=hv
      rw [q1] at q4;cases q4
      rw [q5,zcn_ ht he q2,q3.1]
    ·exact ev.elim
   ·exact ev.elim
  ·cases h2
 ·cases hok
theorem Ye_ {I:Nat->Prop} {w:World} {t:Ty} {ys:List t.den} {cv:Value} (h:Src I w t ys cv) (n:Nat) (hn:n<=ys.length):∃ news:List Value,news.length=n*t.size/\(∀ v ∈ news,v.oneCell'=true)/\(EA I w t (ys.take n) fun k=>news[k]?)/\
 (Builtin.firstCells t.size n cv).run P w=.ok news.toArray w/\(Builtin.lenOf cv).run P w=.ok ys.length w:=by
 obtain ⟨ao,len,cap,rfl,h1,h2,h3⟩:=h
 subst h1
 have hl:(ys.take n).length=n:=by simp;omega
 rcases Nat.eq_zero_or_pos n with h0 | h0
 ·subst h0
  refine ⟨[],by simp,fun v hv=>(by cases hv),by simpa using EA.nil,?_,rfl⟩
  cases ao with
  | none=>rfl
  | some q=>simp [Builtin.firstCells,loadCells,loadCellsFrom]
 ·obtain ⟨b,ofs,rfl,h4⟩:=h3 (by omega)
  obtain ⟨news,g1,g2,g3,g4⟩:=uu_ (h4.take n)
  rw [hl] at g1
  refine ⟨news,g1,g3,g4,?_,rfl⟩
  have:=Zx_ (P:=P) (w:=w) (b:=b) (off:=ofs) news 0 #[] (fun j hj=>by rw [Nat.add_zero,g2 j hj])
  simp only [Builtin.firstCells,loadCells]
  rw [<- g1,this];simp
theorem hZ_ {I:Nat->Prop} {w:World} {s:ByteArray} (n:Nat) (hn:n<=s.size):∃ news:List Value,news.length=n/\(∀ v ∈ news,v.oneCell'=true)/\(EA I w (.int .u8) ((zK_ s).take n) fun k=>news[k]?)/\
 (Builtin.firstCells 1 n (.string s)).run P w=.ok news.toArray w:=by
 refine ⟨((zK_ s).take n).map (Value.int .u8),by simp [Zr_];omega,fun v hv=>?_,fun i hi=>?_,?_⟩
 ·obtain ⟨x,_,rfl⟩:=List.mem_map.1 hv;rfl
 ·have hm:((zK_ s).take n)[i] ∈ zK_ s:=List.mem_of_mem_take (List.getElem_mem hi)
  have hr:0<=((zK_ s).take n)[i]/\((zK_ s).take n)[i]<=255:=by
   unfold zK_ at hm
   obtain ⟨b,_,hb⟩:=List.mem_map.1 hm
   have:=b.toNat_lt
   unfold zK_
   constructor<;>(rw [<- hb];omega)
  refine ⟨[.int .u8 ((zK_ s).take n)[i]],⟨rfl,by simpa [inK,IntKind.min,IntKind.max,IntKind.signed,IntKind.bits] using hr⟩,fun j hj=>?_⟩
  have:j=0:=by simp at hj;omega
  subst this
  simp only [Ty.size,Nat.mul_one,Nat.add_zero,List.getElem_cons_zero]
  rw [List.getElem?_map,List.getElem?_eq_getElem hi];rfl
 ·have e:((s.extract 0 n).data.map fun b=>Value.int .u8 b.toNat)=(((zK_ s).take n).map (Value.int .u8)).toArray:=by
   apply Array.ext'
   have h:=zbW_ (s:=s) (A:=0) (B:=n) hn
   rw [List.drop_zero] at h
   rw [<- h]
   simp [zK_]
   rfl
  simp only [Builtin.firstCells]
  rw [e];rfl
theorem hy_ {I:Nat->Prop} {w:World} {m:M} {i:Nat} {t:Ty} {x ys:List t.den} {ao:Option Addr} {off n k:Nat} {news:List Value} (hok:zL_ I w m i (.row false t x)) (ha:k=0\/∃ b,m.blk i=some b/\ao=some ⟨b,off*t.size,none⟩) (hk:k<=n) (hn:off+n<=x.length) (hy:k<=ys.length)
 (h1:news.length=k*t.size) (h2:∀ v ∈ news,v.oneCell'=true) (h3:EA I w t (ys.take k) fun j=>news[j]?):
 ∃ w',(match ao with | some a=>storeCells a news | none=>pure ()).run P w=.ok () w'/\Fr (fun b=>m.blk i=some b) w w'/\(qq_ I w w'->zL_ I w' m i (.row false t (x.take off++ys.take k++x.drop (off+k)))):=by
 rcases Nat.eq_zero_or_pos k with h0 | h0
 ·subst h0
  have hnews:news=[]:=List.eq_nil_of_length_eq_zero (by simpa using h1)
  subst hnews
  refine ⟨w,by cases ao<;>rfl,Fr.refl _ _,fun _=>?_⟩
  simpa using hok
 ·obtain ⟨b,hb,rfl⟩:=ha.resolve_left (by omega)
  obtain ⟨q1,q2,q3,q4,q5⟩:=hok
  rcases q5 with ⟨q5,_⟩ | ⟨b',cs,T,fz,q5,q6,q7,q8,q9⟩
  ·rw [hb] at q5;cases q5
  ·rw [hb] at q5;cases q5
   have q9:EA I w t x fun k=>cs[k]?:=q9
   have hcs:cs.toList.length=cs.size:=Array.length_toList
   have hfit:(off+k)*t.size<=cs.size:=by rw [q8];exact Nat.mul_le_mul_right _ (by omega)
   rw [Nat.add_mul] at hfit
   obtain ⟨w',r1,r2,r3,r4,r5,r6,r7⟩:=Zt_ (P:=P) news 0 (off*t.size) w cs q6 q7.1 (by omega) h2
   have hsize:=k9_ cs news (off*t.size) (by omega)
   have hget:∀ j,((cs.toList.take (off*t.size+0)++news++cs.toList.drop (off*t.size+0+news.length)).toArray)[j]?=if j < off*t.size then cs[j]? else if j < off*t.size+news.length then news[j - off*t.size]? else cs[j]?:=fun j=>by
    rw [List.getElem?_toArray,Nat.add_zero,jl_ _ _ _ (by omega)]
    simp only [Array.getElem?_toList]
   have hl1:(x.take off).length=off:=by simp;omega
   have hl2:(ys.take k).length=k:=by simp;omega
   have hl3:(x.take off++ys.take k).length=off+k:=by rw [List.length_append,hl1,hl2]
   have hl4:(x.take off++ys.take k++x.drop (off+k)).length=x.length:=by rw [List.length_append,hl3,List.length_drop];omega
   refine ⟨w',r1,⟨r5,r6,r7,by omega,fun j _ hj=>r4 j (fun e=>hj (by rw [e];exact hb))⟩,fun hs=>⟨q1,by rw [hl4];exact q2,by rw [hl4];exact q3,q4,.inr ⟨b,_,T,fz,hb,r2,by rw [hsize];exact q7,by rw [hsize];exact q8,?_⟩⟩⟩
   refine EA.append (EA.append (((q9.take off).mono (fun _ h=>h) hs).congr fun j hj=>?_) ((h3.mono (fun _ h=>h) hs).congr fun j hj=>?_)) (((q9.drop (off+k)).mono (fun _ h=>h) hs).congr fun j hj=>?_)
   ·rw [hl1] at hj
    show ((cs.toList.take (off*t.size+0)++news++cs.toList.drop (off*t.size+0+news.length)).toArray)[j]?=_
    rw [hget,if_pos hj]
   ·rw [hl2] at hj
    show ((cs.toList.take (off*t.size+0)++news++cs.toList.drop (off*t.size+0+news.length)).toArray)[(x.take off).length*t.size+j]?=_
    rw [hget,hl1,if_neg (by omega),if_pos (by omega)];congr 1;omega
   ·show ((cs.toList.take (off*t.size+0)++news++cs.toList.drop (off*t.size+0+news.length)).toArray)[(x.take off++ys.take k).length*t.size+j]?=_
    rw [hget,hl3,Nat.add_mul,if_neg (by omega),if_neg (by omega)]
theorem uP_ {I:Nat->Prop} {w:World} {m:M} {k:IntKind} {ys:List Int}:∀ (os:List Int) (j:Nat) (c:List Value),c.length=os.length->(∀ q (hq:q < os.length),c[q]?=some (.int k (if j+q < ys.length then ys.getD (j+q) 0 else os[q])))->(∀ n ∈ os,inK k n)->(∀ n ∈ ys,inK k n)->z1_ I w m (uQ_ k ys j os) c
 | [],j,c,h,_,_,_=>by
   have hc:c=[]:=List.eq_nil_of_length_eq_zero (by simpa using h)
   rw [hc];exact trivial
 | o :: r,j,c,h,hc,ho,hy=>by
   cases c with
   | nil=>simp at h
   | cons v c=>
     have h0:=hc 0 (by simp)
     simp only [List.getElem?_cons_zero,Nat.add_zero,Option.some.injEq,List.getElem_cons_zero] at h0
     refine ⟨⟨h0,?_⟩,uP_ r (j+1) c (by simpa using h) (fun q hq=>?_) (fun n hn=>ho n (by simp [hn])) hy⟩
     ·split
      ·rename_i hlt
       rw [List.getD_eq_getElem?_getD,List.getElem?_eq_getElem hlt]
       exact hy _ (List.getElem_mem hlt)
      ·exact ho o (by simp)
     ·have:=hc (q+1) (by simp;omega)
      simp only [List.getElem?_cons_succ,List.getElem_cons_succ] at this
      rw [this,show j+(q+1)=j+1+q by omega]
theorem g0_ {I:Nat->Prop} {w:World} {k:IntKind} {ys:List Int} {f:Nat->Option Value} (h:EA I w (.int k) ys f):(∀ n ∈ ys,inK k n)/\∀ j (hj:j < ys.length),f j=some (.int k ys[j]):=by
 have key:∀ j (hj:j < ys.length),inK k ys[j]/\f j=some (.int k ys[j]):=fun j hj=>by
  obtain ⟨es,h1,h2⟩:=h j hj
  obtain ⟨rfl,h3⟩:=h1
  have:=h2 0 (by simp)
  simp only [Ty.size,Nat.mul_one,Nat.add_zero,List.getElem_cons_zero] at this
  exact ⟨h3,this⟩
 refine ⟨fun n hn=>?_,fun j hj=>(key j hj).2⟩
 obtain ⟨j,hj,rfl⟩:=List.mem_iff_getElem.1 hn
 exact (key j hj).1
theorem h1_ {t:Ty} {st:zc_} {v:AV} {K:List t.den->Prop} (ev:srcK t st v K):v.ids0=v.ids/\∃ ys,K ys/\
 ∀ {I:Nat->Prop} {w:World} {m:M} {σ:Sto} {cv:Value},HRel I w m σ->(∀ i ∈ v.ids0,σ i=st.get i)->RV I w m v cv->
   ys.length<=maxLen/\(Builtin.lenOf cv).run P w=.ok ys.length w/\∀ n ≤ ys.length,∃ news:List Value,news.length=n*t.size/\(∀ v ∈ news,v.oneCell'=true)/\(EA I w t (ys.take n) fun k=>news[k]?)/\(Builtin.firstCells t.size n cv).run P w=.ok news.toArray w:=by
 unfold srcK at ev
 split at ev
 ·rename_i l
  obtain ⟨rfl,ev⟩:=Zi_ ev
  refine ⟨rfl,l,ev,fun {I w m σ cv} hH ha hv=>?_⟩
  obtain ⟨s,rfl,rfl,hs⟩:=hv
  refine ⟨by rw [Zr_];exact hs,by rw [Zr_];rfl,fun n hn=>?_⟩
  rw [Zr_] at hn
  obtain ⟨news,g1,g2,g3,g4⟩:=hZ_ (P:=P) (I:=I) (w:=w) n hn
  exact ⟨news,by simpa [Ty.size] using g1,g2,g3,g4⟩
 ·obtain ⟨ys,hK,h⟩:=wy_ ev
  obtain ⟨d1,d2⟩:=uO_ ev
  refine ⟨d1,ys,hK,fun {I w m σ cv} hH ha hv=>?_⟩
  have hs:=h hH ha (d2 hv)
  have hlen:ys.length<=maxLen:=by obtain ⟨_,_,_,_,e,hl,_⟩:=hs;omega
  refine ⟨hlen,?_,fun n hn=>?_⟩
  ·obtain ⟨_,_,_,_,_,k⟩:=Ye_ (P:=P) hs 0 (Nat.zero_le _);exact k
  ·obtain ⟨news,g1,g2,g3,g4,_⟩:=Ye_ (P:=P) hs n hn
   exact ⟨news,g1,g2,g3,g4⟩
theorem zbn_ {t:Ty} {x' y':Opd} (hok:zD_ P o.op (.copy t x' y')=true) (ev:zu_ Γ (.copy t x' y') fr st nx K):MOK P o [x',y'] fr (z0_ [x',y'] fr) true st nx K:=by
 simp only [zu_,zc_.setK_eq,Zp_] at ev
 simp only [zD_] at hok
 split at hok
 ·rename_i args ts ho
  simp only [Bool.and_eq_true] at hok
  obtain ⟨h1,h2⟩:=hok
  obtain ⟨x,y,rfl,hx,hy⟩:=xG_ h1
  split at h2
  ·rename_i tt ht
   split at h2
   ·rename_i e he
    have he:=qJ_ he
    simp only [Bool.and_eq_true,decide_eq_true_eq] at h2
    obtain ⟨h4,hpos⟩:=h2
    obtain ⟨i0,hi0,hsz⟩:=qh_ h4
    have hex:∀ a:Act,execOp a.eval o=(do pure (.value (<- Builtin.copy_ ts o.type #[a.eval x,a.eval y]))):=fun a=>by rw [qr_ ho];simp [builtin]
    obtain ⟨d1,ys,ev1,hd⟩:=h1_ (P:=P) ev
    have hyF:∀ j ∈ (y'.ev fr).ids0,j ∈ z0_ [x',y'] fr:=fun j hj=>zr_ ZH_ rfl j (by rw [<- d1];exact hj)
    have hrun:∀ {a:Act} {w w':World} {ao:Option Addr} {len cap:Nat} {news:List Value},a.eval x=.slice ao len cap->(Builtin.lenOf (a.eval y)).run P w=.ok ys.length w->(Builtin.firstCells t.size (min ys.length len) (a.eval y)).run P w=.ok news.toArray w->(match ao with | some a=>storeCells a news | none=>pure ()).run P w=.ok () w'->
     (execOp a.eval o).run P w=.ok (.value (.int .i64 (min ys.length len:Nat))) w':=fun {a w w' ao len cap news} q1 q2 q3 q4=>by
     refine wt_ (hex a) ?_
     have q3':(Builtin.firstCells i0.size (Nat.min ys.length len) (a.eval y)).run P w=.ok news.toArray w:=by rw [hsz];exact q3
     cases ao with
     | none=>
       have q4':w=w':=by cases q4;rfl
       subst q4'
       simp [Builtin.copy_,ht,q1,run_underlying he,q2,z4_ hi0,q3',goInt]
     | some ad=>
       have q4':(storeCells ad news).run P w=.ok () w':=q4
       simp [Builtin.copy_,ht,q1,run_underlying he,q2,z4_ hi0,q3',q4',goInt]
    split at ev1
    ·-- a whole row
     rename_i i hb
     split at ev1
     ·rename_i t' x0 hl
      obtain ⟨rfl,ev2⟩:=Zi_ ev1
      refine Y8_ (QY_ (ob:=.row false t' x0) (ob':=.row false t' (ys.take x0.length++x0.drop ys.length)) hl rfl rfl (zr_ z2_ hb i (by simp [AV.ids,AV.ids1,AV.ids0])) rfl ev2 fun {I w m a σ} _ hf hH ha=>?_)
      have hi:σ i=some (.row false t' x0):=by rw [ha i (zr_ z2_ hb i (by simp [AV.ids,AV.ids1,AV.ids0])),hl]
      have hv:=hf.rv z2_ hx;rw [hb] at hv
      obtain ⟨ao,len,cap,e1,hO⟩:=hv
      have hok:=hH.obj i _ hi
      obtain ⟨l1,l2,l3,l4,l5⟩:=Ut_ hok hO
      obtain ⟨g0,g1,g2⟩:=hd hH (fun j hj=>ha j (hyF j hj)) (hf.rv ZH_ hy)
      obtain ⟨news,n1,n2,n3,n4⟩:=g2 (min ys.length len) (Nat.min_le_left _ _)
      obtain ⟨_,_,_,_,_,h6⟩:=hO
      obtain ⟨w',r1,r2,r3⟩:=hy_ (P:=P) (ao:=ao) (off:=0) (n:=len) (k:=min ys.length len) (ys:=ys) hok (by
       rcases h6 with ⟨_,_,h6⟩ | ⟨b,h6,h7⟩
       ·left;omega
       ·right;exact ⟨b,h6,by rw [Nat.zero_mul];exact h7⟩) (Nat.min_le_right _ _) (by omega) (Nat.min_le_left _ _) n1 n2 n3
      refine ⟨.int .i64 (min ys.length len:Nat),w',.inl (hrun e1 g1 n4 r1),r2,fun hs=>?_,fun _=>by rw [l1];exact Zk_ (QB_ (by have:=Nat.min_le_left ys.length x0.length;omega))⟩
      have:=r3 hs
      have e2:x0.take 0++ys.take (min ys.length len)++x0.drop (0+min ys.length len)=ys.take x0.length++x0.drop ys.length:=by
       subst l1
       rw [List.take_zero,List.nil_append,Nat.zero_add]
       by_cases hc:ys.length<=x0.length
       ·rw [Nat.min_eq_left hc,List.take_length,List.take_of_length_le hc]
       ·rw [Nat.min_eq_right (by omega),List.drop_of_length_le (by omega:x0.length<=x0.length),List.drop_of_length_le (by omega)]
      rw [e2] at this;exact this
     ·exact ev1.elim
    ·-- a part of a row
     rename_i i off n hb
     split at ev1
     ·rename_i t' x0 hl
      obtain ⟨rfl,ev2⟩:=Zi_ ev1
      obtain ⟨hn,ev3⟩:=zi_ ev2
      have hn:off+n<=x0.length:=hn
      refine Y8_ (QY_ (ob:=.row false t' x0) (ob':=.row false t' (x0.take off++ys.take n++x0.drop (off+min ys.length n))) hl rfl rfl (zr_ z2_ hb i (by simp [AV.ids,AV.ids1,AV.ids0])) rfl ev3 fun {I w m a σ} _ hf hH ha=>?_)
      have hi:σ i=some (.row false t' x0):=by rw [ha i (zr_ z2_ hb i (by simp [AV.ids,AV.ids1,AV.ids0])),hl]
      have hv:=hf.rv z2_ hx;rw [hb] at hv
      obtain ⟨ao,len,cap,e1,s1,s2,s3,s4,s5,s6⟩:=hv
      subst s2
      have hok:=hH.obj i _ hi
      obtain ⟨g0,g1,g2⟩:=hd hH (fun j hj=>ha j (hyF j hj)) (hf.rv ZH_ hy)
      obtain ⟨news,n1,n2,n3,n4⟩:=g2 (min ys.length len) (Nat.min_le_left _ _)
      have hsz':m.sz i=t'.size:=hok.1
      obtain ⟨w',r1,r2,r3⟩:=hy_ (P:=P) (ao:=ao) (off:=off) (n:=len) (k:=min ys.length len) (ys:=ys) hok (by
       rcases s6 with ⟨_,_,h6⟩ | ⟨b,ofs,h6,h7,h8⟩
       ·left;omega
       ·rcases Nat.eq_zero_or_pos len with h9 | h9
        ·left;omega
        ·right;exact ⟨b,h6,by rw [h7,h8 (by omega),hsz']⟩) (Nat.min_le_right _ _) hn (Nat.min_le_left _ _) n1 n2 n3
      refine ⟨.int .i64 (min ys.length len:Nat),w',.inl (hrun e1 g1 n4 r1),r2,fun hs=>?_,fun _=>Zk_ (QB_ (by have:=Nat.min_le_left ys.length len;omega))⟩
      have:=r3 hs
      have e2:ys.take (min ys.length len)=ys.take len:=by
       by_cases hc:ys.length<=len
       ·rw [Nat.min_eq_left hc,List.take_length,List.take_of_length_le hc]
       ·rw [Nat.min_eq_right (by omega)]
      rw [e2] at this;exact this
     ·exact ev1.elim
    ·-- cells of a box
     rename_i i off n t' hb
     split at ev1
     ·rename_i l hl
      cases t with
      | int k=>
        dsimp only at ev1
        split at ev1
        ·rename_i heq _
         subst heq
         split at ev1
         ·rename_i hle0
          have hle:=Nat.le_of_ble_eq_true hle0
          obtain ⟨os,ev2,hos⟩:=wn_ ev1
          refine Y8_ (QY_ (ob:=.box l) (ob':=.box (put l off (uQ_ k ys 0 os))) hl rfl rfl (zr_ z2_ hb i (by simp [AV.ids,AV.ids1,AV.ids0])) rfl ev2 fun {I w m a σ} _ hf hH ha=>?_)
          have hi:σ i=some (.box l):=by rw [ha i (zr_ z2_ hb i (by simp [AV.ids,AV.ids1,AV.ids0])),hl]
          have hv:=hf.rv z2_ hx;rw [hb] at hv
          obtain ⟨b,cap,q1,e1,q2,q3,q4⟩:=hv
          obtain ⟨b',cs,T,fz,p1,p2,p3,p4⟩:=hH.obj i _ hi
          rw [q1] at p1;cases p1
          obtain ⟨g0,g1,g2⟩:=hd hH (fun j hj=>ha j (hyF j hj)) (hf.rv ZH_ hy)
          obtain ⟨news,n1,n2,n3,n4⟩:=g2 (min ys.length n) (Nat.min_le_left _ _)
          simp only [Ty.size,Nat.mul_one] at n1 n4
          obtain ⟨o1,o2⟩:=hos (Wc_ n (jc_ off p4))
          have hlen:=Za_ p4
          have hcs:cs.toList.length=cs.size:=Array.length_toList
          have hosl:os.length=n:=by
           have:=congrArg List.length o1
           simp only [List.length_take,List.length_drop,List.length_map] at this
           omega
          have hmin:=Nat.min_le_right ys.length n
          obtain ⟨w',r1,r2,r3,r4,r5,r6,r7⟩:=Zt_ (P:=P) news 0 off w cs p2 p3 (by omega) n2
          have hsize:=k9_ cs news off (by omega)
          refine ⟨.int .i64 (min ys.length n:Nat),w',.inl (hrun e1 g1 (by simpa [Ty.size] using n4) r1),⟨r5,r6,r7,by omega,fun j _ hj=>r4 j (fun e=>hj (by rw [e];exact q1))⟩,fun hs=>⟨b,_,T,fz,q1,r2,by rw [hsize];exact p3,?_⟩,fun _=>Zk_ (QB_ (by have:=Nat.min_le_left ys.length n;omega))⟩
          obtain ⟨g5,g6⟩:=g0_ n3
          obtain ⟨full,f1,f2,f3,f4⟩:=g2 ys.length (Nat.le_refl _)
          rw [List.take_length] at f3
          have hys:=(g0_ f3).1
          have hseg:(cs.toList.take (off+0)++news++cs.toList.drop (off+0+news.length))=cs.toList.take off++(news++(os.map (Value.int k)).drop news.length)++cs.toList.drop (off+(news++(os.map (Value.int k)).drop news.length).length):=by
           have hl2:(news++(os.map (Value.int k)).drop news.length).length=n:=by simp;omega
           rw [hl2,<- o1,Nat.add_zero,List.append_assoc,List.append_assoc,List.append_assoc]
           congr 2
           rw [List.drop_take,List.drop_drop]
           have:cs.toList.drop (off+n)=(cs.toList.drop (off+news.length)).drop (n - news.length):=by rw [List.drop_drop];congr 1;omega
           rw [this,List.take_append_drop]
          simp only
          rw [hseg]
          refine Zy_ (fun _ h=>h) hs m.le_refl _ _ (Km_ off p4 (uP_ os 0 _ (by simp;omega) (fun q hq=>?_) o2 hys) ?_)
          ·rw [Nat.zero_add]
           by_cases hq2:q < news.length
           ·rw [List.getElem?_append_left hq2,if_pos (by omega)]
            have hql:q < (ys.take (min ys.length n)).length:=by rw [List.length_take];omega
            have h7:news[q]?=some (.int k ((ys.take (min ys.length n))[q]'hql)):=g6 q hql
            rw [h7,List.getElem_take,List.getD_eq_getElem?_getD,List.getElem?_eq_getElem (by omega)];rfl
           ·rw [List.getElem?_append_right (by omega),if_neg (by omega),List.getElem?_drop,List.getElem?_map,show news.length+(q - news.length)=q by omega,List.getElem?_eq_getElem hq];rfl
          ·have:∀ (os:List Int) (j:Nat),(uQ_ k ys j os).length=os.length:=fun os=>by
            induction os with
            | nil=>intro j;rfl
            | cons o r ih=>intro j;simp [uQ_,ih]
           rw [this];omega
         ·exact ev1.elim
        ·exact ev1.elim
      | _=>exact ev1.elim
     ·exact ev1.elim
    ·exact ev1.elim
   ·cases h2
  ·cases h2
 ·cases hok
end ops
end Go.Eng
namespace Go.Eng
set_option linter.unusedVariables false
set_option linter.unusedSimpArgs false
open Go.RowKit
theorem uT_ {u:Value} (h:HA_ u=false):u.cells.toList=[u]:=by
 cases u<;>first | rfl | cases h
theorem zbK_ {I:Nat->Prop} {w:World} {m:M} {v:AV} {cv:Value} {c:List AV} (h:RV I w m v cv) (ha:v.isAgg=false) (hc:v.flat=some c):HA_ cv=false:=by
 cases v with
 | undef=>cases hc
 | skp=>cases hc
 | tup=>cases hc
 | agg=>cases ha
 | fn f l c=>obtain ⟨fs,cs,rfl,_⟩:=h;rfl
 | int=>obtain ⟨rfl,_⟩:=h;rfl
 | bool=>cases (show cv=_ from h);rfl
 | kb=>cases (show cv=_ from h);rfl
 | str=>obtain ⟨s,rfl,_⟩:=h;rfl
 | nilp=>cases (show cv=_ from h);rfl
 | nilm=>cases (show cv=_ from h);rfl
 | nils=>cases (show cv=_ from h);rfl
 | ptr=>obtain ⟨_,_,rfl,_⟩:=h;rfl
 | imm=>obtain ⟨_,_,_,rfl,_⟩:=h;rfl
 | iptr=>obtain ⟨_,_,rfl,_⟩:=h;rfl
 | own=>obtain ⟨_,_,_,rfl,_⟩:=h;rfl
 | view=>obtain ⟨_,_,_,rfl,_⟩:=h;rfl
 | rptr=>obtain ⟨_,_,rfl,_⟩:=h;rfl
 | mapv=>obtain ⟨_,_,rfl,_⟩:=h;rfl
 | bview=>obtain ⟨_,_,_,rfl,_⟩:=h;rfl
 | yv=>cases (show cv=_ from h);rfl
 | fnp=>obtain ⟨_,_,rfl,_⟩:=h;rfl
 | jsl=>obtain ⟨⟨_,_,_,rfl,_⟩,_⟩:=h;rfl
 | jptr=>obtain ⟨⟨_,_,rfl,_⟩,_⟩:=h;rfl
theorem Ws_ {t:Ty} {v:AV} {K:t.den->Prop} (ev:BW_ t v K):∃ x,K x/\∀ {I:Nat->Prop} {w:World} {m:M} {cv:Value},RV I w m v cv->wR_ I w t x cv:=by
 unfold BW_ at ev
 split at ev
 ·rename_i hg
  unfold oneK at ev
  split at ev
  ·rename_i c hc
   obtain ⟨x,hx,ev⟩:=jt_ ev
   ·refine ⟨x,ev,fun {I w m cv} h=>⟨kn_ (Qm_ h hc) hx,?_⟩⟩
    cases ht:BP_ t with
    | true=>
      rw [ht] at hg
      cases v with
      | agg l=>obtain ⟨cs,rfl,_⟩:=h;rfl
      | _=>cases hg
    | false=>
      rw [ht] at hg
      refine zbK_ h ?_ hc
      cases ha:v.isAgg with
      | false=>rfl
      | true=>rw [ha] at hg;cases hg
  ·exact ev.elim
 ·exact ev.elim
theorem zbD_ (t:Ty) (x:t.den):∃ a,(∀ K,zbE_ t x K=K a)/\∀ {I:Nat->Prop} {w:World} {m:M} {cv:Value},wR_ I w t x cv->RV1 I w m a cv:=by
 have sc:∀ {a:AV} {t:Ty} {x:t.den},BP_ t=false->t.cells x=[a]->∀ {I:Nat->Prop} {w:World} {m:M} {cv:Value},wR_ I w t x cv->RV1 I w m a cv:=fun {a t x} ht hc {I w m cv} h=>by
  have h1:=qI_ (m:=m) t x _ h.1
  rw [hc,uT_ (h.2.trans ht)] at h1
  exact kJ_ h1.1
 have ag:∀ {t:Ty} {x:t.den},BP_ t=true->∀ {I:Nat->Prop} {w:World} {m:M} {cv:Value},wR_ I w t x cv->RV1 I w m (.agg (t.cells x)) cv:=fun {t x} ht {I w m cv} h=>by
  have h1:=qI_ (m:=m) t x _ h.1
  have h2:=h.2.trans ht
  cases cv<;>first | exact ⟨_,rfl,h1⟩ | cases h2
 cases t with
 | int k=>exact ⟨.int k x,fun _=>rfl,sc rfl rfl⟩
 | bool=>exact ⟨.bool x,fun _=>rfl,sc rfl rfl⟩
 | str=>exact ⟨.str x,fun _=>rfl,sc rfl rfl⟩
 | nil=>exact ⟨.agg [],fun _=>rfl,ag (t:=.nil) (x:=x) rfl⟩
 | cons a b=>exact ⟨.agg (Ty.cells (.cons a b) x),fun K=>by show ZG_ _ _=_;exact Zp_ _ _,ag (t:=.cons a b) rfl⟩
 | sl t=>exact ⟨.imm t x,fun _=>rfl,sc rfl rfl⟩
section lists
variable {α β:Type} [DecidableEq α]
theorem WC_:∀ (l:List (α × β)) (k:α),(∀ h:Zu_ l k < l.length,l[Zu_ l k].1=k/\zt_ l k=some l[Zu_ l k].2)/\(¬ Zu_ l k < l.length->zt_ l k=none)
 | [],_=>⟨fun h=>absurd h (by simp),fun _=>rfl⟩
 | (a,b) :: r,k=>by
   obtain ⟨h1,h2⟩:=WC_ r k
   by_cases e:a=k
   ·have e1:Zu_ ((a,b) :: r) k=0:=if_pos e
    have e2:zt_ ((a,b) :: r) k=some b:=if_pos e
    refine ⟨fun h=>?_,fun h=>absurd (by rw [e1];simp) h⟩
    simp only [e1,e2,List.getElem_cons_zero];exact ⟨e,True.intro⟩
   ·have e1:Zu_ ((a,b) :: r) k=Zu_ r k+1:=if_neg e
    have e2:zt_ ((a,b) :: r) k=zt_ r k:=if_neg e
    refine ⟨fun h=>?_,fun h=>?_⟩
    ·have h':Zu_ r k < r.length:=by rw [e1] at h;simpa using h
     simp only [e1,e2,List.getElem_cons_succ];exact h1 h'
    ·rw [e2];exact h2 fun h'=>h (by rw [e1];simpa using h')
theorem bA_:∀ (l:List (α × β)) (k:α) (v:β),QX_ l k v=if Zu_ l k < l.length then l.set (Zu_ l k) (k,v) else l++[(k,v)]
 | [],_,_=>rfl
 | (a,b) :: r,k,v=>by
   by_cases e:a=k
   ·have e1:Zu_ ((a,b) :: r) k=0:=if_pos e
    rw [e1,if_pos (by simp)]
    show (if a=k then _ else _)=_
    rw [if_pos e];rfl
   ·have e1:Zu_ ((a,b) :: r) k=Zu_ r k+1:=if_neg e
    rw [e1]
    show (if a=k then _ else _)=_
    rw [if_neg e,bA_ r k v]
    by_cases h:Zu_ r k < r.length
    ·rw [if_pos h,if_pos (by simpa using h)];rfl
    ·rw [if_neg h,if_neg (by simpa using h)];rfl
end lists
section ops
variable {P:Program} {Γ:Env} {o:Oper} {L:List Opd} {fr:zg_} {F:List Nat} {wr:Bool} {st:zc_} {nx:Nat} {K:AV->zc_->Nat->Prop}
theorem zbJ_ {I:Nat->Prop} {w:World} {k:IntKind} {n:(Ty.int k).den} {cv:Value} (h:wR_ I w (.int k) n cv):cv=.int k n/\inK k n:=by
 obtain ⟨h1,h2⟩:=h
 rw [uT_ h2] at h1
 simp only [RC,List.cons.injEq,and_true] at h1
 exact h1
theorem vK_ {β:Type} {d:TypeDesc} {k:IntKind} {n:Int}:∀ (l:List (Int × β)) (es:List MapEntry) (i:Nat),l.length=es.length->(∀ j (h:j < l.length) (h':j < es.length),es[j].key=.int k l[j].1)->d=.int k->
 Instr.findNow d (.int k n) es i=some (if Zu_ l n < l.length then (es[Zu_ l n]?).map (fun e=>(i+Zu_ l n,e.val)) else none)
 | [],[],i,_,_,_=>rfl
 | [],_ :: _,_,h,_,_=>by cases h
 | _ :: _,[],_,h,_,_=>by cases h
 | (a,b) :: l,e :: es,i,hl,h,hd=>by
   subst hd
   have h0:=h 0 (by simp) (by simp)
   simp only [List.getElem_cons_zero] at h0
   have hs:Instr.sameNow (.int k) (.int k n) e.key=some (n == a):=by rw [h0];simp [Instr.sameNow]
   unfold Instr.findNow
   rw [hs]
   by_cases e1:a=n
   ·have em:Zu_ ((a,b) :: l) n=0:=if_pos e1
    rw [em,if_pos (by simp)]
    subst e1
    simp
   ·have em:Zu_ ((a,b) :: l) n=Zu_ l n+1:=if_neg e1
    have hb:(n == a)=false:=by simp;exact fun e=>e1 e.symm
    rw [em,hb]
    simp only []
    rw [vK_ l es (i+1) (by simpa using hl) (fun j h1 h2=>by have:=h (j+1) (by simpa using h1) (by simpa using h2);simpa using this) rfl]
    by_cases hm:Zu_ l n < l.length
    ·rw [if_pos hm,if_pos (by simpa using hm),List.getElem?_cons_succ,show i+1+Zu_ l n=i+(Zu_ l n+1) by omega]
    ·rw [if_neg hm,if_neg (by simpa using hm)]
theorem BE_ {w:World} {e:Bool} {k:IntKind} {n:Int} {a:TypeId} (ha:P.underlying a=some (.int k)):(Instr.checkKey e 10000 a (.int k n)).run P w=.ok () w:=by
 show (Instr.checkKey e (9999+1) a (.int k n)).run P w=.ok () w
 unfold Instr.checkKey
 rw [Sem.run_bind,run_underlying ha]
 rfl
theorem Bb_ {k:IntKind} {n:Int} {w:World}:(Instr.keyThatStays (.int k n) (.int k n)).run P w=.ok (.int k n) w:=by
 simp [Instr.keyThatStays,Instr.sameBits]
def zN_:(t:Ty)->t.den->List Value
 | .int k,n=>[.int k n]
 | .bool,b=>[.bool b]
 | .cons a b,x=>zN_ a x.1++zN_ b x.2
 | _,_=>[]
def QP_:(t:Ty)->t.den->Value
 | .int k,n=>.int k n
 | .bool,b=>.bool b
 | t,x=>.agg (zN_ t x).toArray
def jC_:(t:Ty)->t.den->Prop
 | .int k,n=>inK k n
 | .bool,_=>True
 | .nil,_=>True
 | .cons a b,x=>jC_ a x.1/\jC_ b x.2
 | _,_=>False
theorem bc_ {I:Nat->Prop} {w:World}:∀ (t:Ty) (ks:List Leaf) (x:t.den) (cs:List Value),Qz_ t=some ks->RC I w t x cs->cs=zN_ t x/\jC_ t x
 | .int _,_,_,_,_,h=>by simp only [RC] at h;exact h
 | .bool,_,_,_,_,h=>by simp only [RC] at h;exact ⟨h,trivial⟩
 | .str,_,_,_,h,_=>by cases h
 | .nil,_,_,_,_,h=>by simp only [RC] at h;exact ⟨h,trivial⟩
 | .cons a b,ks,x,cs,h,hr=>by
   simp only [RC] at hr
   obtain ⟨c1,c2,rfl,h1,h2⟩:=hr
   unfold Qz_ at h
   split at h
   ·rename_i x1 x2 e1 e2
    obtain ⟨rfl,r1⟩:=bc_ a _ _ _ e1 h1
    obtain ⟨rfl,r2⟩:=bc_ b _ _ _ e2 h2
    exact ⟨rfl,r1,r2⟩
   ·cases h
 | .sl _,_,_,_,h,_=>by cases h
theorem Ko_.app:∀ {ks ks':List Leaf} {vs vs':List Value},Ko_ ks vs->Ko_ ks' vs'->Ko_ (ks++ks') (vs++vs')
 | [],_,[],_,_,h=>h
 | _ :: _,_,_ :: _,_,h,h'=>⟨h.1,Ko_.app h.2 h'⟩
 | [],_,_ :: _,_,h,_=>h.elim
 | _ :: _,_,[],_,h,_=>h.elim
theorem vJ_:∀ (t:Ty) (ks:List Leaf) (x:t.den),Qz_ t=some ks->jC_ t x->Ko_ ks (zN_ t x)
 | .int k,_,x,h,hr=>by cases h;exact ⟨⟨_,rfl,hr⟩,trivial⟩
 | .bool,_,x,h,hr=>by cases h;exact ⟨⟨_,rfl⟩,trivial⟩
 | .str,_,_,h,_=>by cases h
 | .nil,_,_,h,_=>by cases h;trivial
 | .cons a b,ks,x,h,hr=>by
   unfold Qz_ at h
   split at h
   ·rename_i x1 x2 e1 e2
    cases h
    exact Ko_.app (vJ_ a _ _ e1 hr.1) (vJ_ b _ _ e2 hr.2)
   ·cases h
 | .sl _,_,_,h,_=>by cases h
theorem QA_:∀ (t:Ty) (ks:List Leaf) (x:t.den),Qz_ t=some ks->(zN_ t x).length=ks.length
 | .int k,_,x,h=>by cases h;rfl
 | .bool,_,x,h=>by cases h;rfl
 | .str,_,_,h=>by cases h
 | .nil,_,_,h=>by cases h;rfl
 | .cons a b,ks,x,h=>by
   unfold Qz_ at h
   split at h
   ·rename_i x1 x2 e1 e2
    cases h
    show (zN_ a x.1++zN_ b x.2).length=_
    rw [List.length_append,List.length_append,QA_ a _ _ e1,QA_ b _ _ e2]
   ·cases h
 | .sl _,_,_,h=>by cases h
theorem ga_:∀ (t:Ty) (ks:List Leaf) (x y:t.den),Qz_ t=some ks->(zN_ t x).map QR_=(zN_ t y).map QR_->x=y
 | .int k,_,x,y,_,e=>by simpa [zN_,QR_] using e
 | .bool,_,x,y,_,e=>by simpa [zN_,QR_] using e
 | .str,_,_,_,h,_=>by cases h
 | .nil,_,_,_,_,_=>rfl
 | .cons a b,ks,x,y,h,e=>by
   unfold Qz_ at h
   split at h
   ·rename_i x1 x2 e1 e2
    have e':(zN_ a x.1).map QR_++(zN_ b x.2).map QR_=(zN_ a y.1).map QR_++(zN_ b y.2).map QR_:=by
     rw [<- List.map_append,<- List.map_append];exact e
    obtain ⟨q1,q2⟩:=List.append_inj e' (by rw [List.length_map,List.length_map,QA_ a _ _ e1,QA_ a _ _ e1])
    exact Prod.ext (ga_ a _ _ _ e1 q1) (ga_ b _ _ _ e2 q2)
   ·cases h
 | .sl _,_,_,_,h,_=>by cases h
structure KeyP (P:Program) (a:TypeId) (kt:Ty):Prop where
 val:∀ {I:Nat->Prop} {w:World} {x:kt.den} {u:Value},wR_ I w kt x u->u=QP_ kt x/\jC_ kt x
 check:∀ (w:World) (e:Bool) (x:kt.den),jC_ kt x->(Instr.checkKey e 10000 a (QP_ kt x)).run P w=.ok () w
 find:∀ {β:Type} (w:World) (x:kt.den) (l:List (kt.den × β)) (es:List MapEntry),jC_ kt x->l.length=es.length->(∀ j (h:j < l.length) (h':j < es.length),es[j].key=QP_ kt l[j].1/\jC_ kt l[j].1)->(Instr.findKey a (QP_ kt x) es).run P w=.ok (if Zu_ l x < l.length then (es[Zu_ l x]?).map (fun e=>(Zu_ l x,e.val)) else none) w
 stays:∀ (w:World) (x:kt.den),jC_ kt x->(Instr.keyThatStays (QP_ kt x) (QP_ kt x)).run P w=.ok (QP_ kt x) w
theorem vL_ {β:Type} {a:TypeId} {kt:Ty} (heq:∀ (w:World) (x y:kt.den),jC_ kt x->jC_ kt y->(Op.equal a (QP_ kt x) (QP_ kt y)).run P w=.ok (decide (x=y)) w) (w:World) (x:kt.den) (hx:jC_ kt x):∀ (l:List (kt.den × β)) (es:List MapEntry) (i:Nat),l.length=es.length->(∀ j (h:j < l.length) (h':j < es.length),es[j].key=QP_ kt l[j].1/\jC_ kt l[j].1)->
 (Instr.findAsking a (QP_ kt x) es i).run P w=.ok (if Zu_ l x < l.length then (es[Zu_ l x]?).map (fun e=>(i+Zu_ l x,e.val)) else none) w
 | [],[],i,_,_=>rfl
 | [],_ :: _,_,h,_=>by cases h
 | _ :: _,[],_,h,_=>by cases h
 | (p,b) :: l,e :: es,i,hl,h=>by
   have h0:=h 0 (by simp) (by simp)
   simp only [List.getElem_cons_zero] at h0
   have hs:=heq w x p hx h0.2
   unfold Instr.findAsking
   rw [Sem.run_bind,h0.1,hs]
   by_cases e1:p=x
   ·have em:Zu_ ((p,b) :: l) x=0:=if_pos e1
    rw [em,if_pos (by simp)]
    subst e1
    simp
   ·have em:Zu_ ((p,b) :: l) x=Zu_ l x+1:=if_neg e1
    have hb:decide (x=p)=false:=decide_eq_false fun e=>e1 e.symm
    rw [em,hb]
    simp only [Result.andThen_ok]
    have ih:=vL_ heq w x hx l es (i+1) (by simpa using hl) (fun j h1 h2=>by have:=h (j+1) (by simpa using h1) (by simpa using h2);simpa using this)
    rw [if_neg (by decide),ih]
    by_cases hm:Zu_ l x < l.length
    ·rw [if_pos hm,if_pos (by simpa using hm),List.getElem?_cons_succ,show i+1+Zu_ l x=i+(Zu_ l x+1) by omega]
    ·rw [if_neg hm,if_neg (by simpa using hm)]
theorem vW_:∀ (n:Nat) (l:List Value),(∀ v ∈ l,Instr.sameBits n v v=true)->((l.zip l).all fun (x,y)=>Instr.sameBits n x y)=true
 | _,[],_=>rfl
 | n,v :: l,h=>by
   rw [List.zip_cons_cons,List.all_cons,vW_ n l fun u hu=>h u (List.mem_cons_of_mem _ hu),Bool.and_true]
   exact h v (List.mem_cons_self ..)
theorem vV_ (n:Nat):∀ (t:Ty) (x:t.den),∀ v ∈ zN_ t x,Instr.sameBits n v v=true
 | .int k,x,v,h=>by rw [List.mem_singleton.1 h];simp [Instr.sameBits]
 | .bool,x,v,h=>by rw [List.mem_singleton.1 h];simp [Instr.sameBits]
 | .str,_,_,h=>by cases h
 | .nil,_,_,h=>by cases h
 | .cons a b,x,v,h=>by
   rcases List.mem_append.1 h with h | h
   ·exact vV_ n a x.1 v h
   ·exact vV_ n b x.2 v h
 | .sl _,_,_,h=>by cases h
theorem bF_ {a:TypeId} {kt:Ty} (h:bG_ P a kt=true):KeyP P a kt:=by
 unfold bG_ at h
 split at h
 ·rename_i k
  split at h
  ·rename_i k' hk
   simp only [beq_iff_eq] at h
   subst h
   refine ⟨fun {I w x u} hr=>?_,fun w e x _=>BE_ hk,fun {β} w x l es _ hl he=>?_,fun w x _=>Bb_⟩
   ·obtain ⟨h1,h2⟩:=zbJ_ hr
    exact ⟨h1,h2⟩
   ·have h:=vK_ (β:=β) (d:=.int k) (k:=k) (n:=x) l es 0 hl (fun j h1 h2=>(he j h1 h2).1) rfl
    simp only [Nat.zero_add] at h
    unfold Instr.findKey
    rw [Sem.run_bind,run_underlying hk]
    simp only [Result.andThen]
    show (match Instr.findNow (.int k) (.int k x) es 0 with | some r=>pure r | none=>Instr.findAsking a (.int k x) es:Sem _).run P w=_
    rw [h];rfl
  ·cases h
 ·rename_i ta tb
  simp only [Bool.and_eq_true] at h
  obtain ⟨⟨hw,hk⟩,hl⟩:=h
  split at hl
  ·rename_i ks ks' e1 e2
   have he:=of_decide_eq_true hl
   subst he
   have hlen:=GX_ e2 hw
   have fm:∀ x:(Ty.cons ta tb).den,jC_ (.cons ta tb) x->(QP_ (.cons ta tb) x).formed P a=true:=fun x hx=>by
    have hs:(zN_ (.cons ta tb) x).toArray.size=P.cellsOf a:=by rw [<- hlen,<- QA_ _ _ x e1];simp
    unfold gb_ at hw
    show (Value.agg (zN_ (.cons ta tb) x).toArray).formed P a=true
    simp only [Value.formed]
    split at hw
    ·rename_i e;rw [e];simp [hs]
    ·rename_i e;rw [e];simp [hs]
    ·cases hw
   have kl:∀ x:(Ty.cons ta tb).den,jC_ (.cons ta tb) x->P.keyLits 8 a (QP_ (.cons ta tb) x).cells.toList=some ((zN_ (.cons ta tb) x).map QR_):=fun x hx=>by
    have:(QP_ (.cons ta tb) x).cells.toList=zN_ (.cons ta tb) x:=by show (zN_ (.cons ta tb) x).toArray.toList=_;simp
    rw [this]
    exact WE_ 8 a ks _ e2 (vJ_ _ _ _ e1 hx)
   have heq:∀ (w:World) (x y:(Ty.cons ta tb).den),jC_ (.cons ta tb) x->jC_ (.cons ta tb) y->(Op.equal a (QP_ (.cons ta tb) x) (QP_ (.cons ta tb) y)).run P w=.ok (decide (x=y)) w:=fun w x y hx hy=>by
    obtain ⟨r,hr,hri⟩:=run_equalIn_deep (P:=P) 9992 8 a hk w 8 8 (QP_ (.cons ta tb) x) (QP_ (.cons ta tb) y) _ _ (fm x hx) (fm y hy) (kl x hx) (kl y hy)
    have hrb:r=decide (x=y):=by
     cases r with
     | true=>exact (decide_eq_true (ga_ _ _ _ _ e1 (hri.1 rfl))).symm
     | false=>exact (decide_eq_false fun e=>by subst e;cases hri.2 rfl).symm
    subst hrb;exact hr
   refine ⟨fun {I w x u} hr=>?_,fun w e x hx=>?_,fun {β} w x l es hx hll he=>?_,fun w x hx=>?_⟩
   ·obtain ⟨h1,h2⟩:=hr
    obtain ⟨c1,c2⟩:=bc_ _ _ _ _ e1 h1
    refine ⟨?_,c2⟩
    cases u with
    | agg cs=>
      show Value.agg cs=Value.agg (zN_ (.cons ta tb) x).toArray
      rw [<- c1];rfl
    | _=>cases h2
   ·exact run_checkKey_deep e 9992 8 a hk w 8 (QP_ (.cons ta tb) x) _ (fm x hx) (kl x hx)
   ·rw [run_findKey_eq w hw]
    have:=vL_ heq w x hx l es 0 hll he
    simpa using this
   ·have hb:Instr.sameBits 10000 (QP_ (.cons ta tb) x) (QP_ (.cons ta tb) x)=true:=by
     show Instr.sameBits (9999+1) (.agg (zN_ (.cons ta tb) x).toArray) (.agg (zN_ (.cons ta tb) x).toArray)=true
     unfold Instr.sameBits
     rw [Bool.and_eq_true]
     exact ⟨by simp,vW_ _ _ (by simpa using vV_ 9999 (.cons ta tb) x)⟩
    simp [Instr.keyThatStays,hb]
  ·cases hl
 ·cases h
theorem hs_ {I:Nat->Prop} {w w':World} {q:Bool} {kt vt:Ty} {l:List (kt.den × vt.den)} {es:Array MapEntry} {c:Nat} {n:kt.den} {a:TypeId} (hE:ki_ I w q kt vt l es c) (KP:KeyP P a kt) (hn:jC_ kt n):
 (Instr.findKey a (QP_ kt n) es.toList).run P w'=.ok (if Zu_ l n < l.length then (es[Zu_ l n]?).map (fun e=>(Zu_ l n,e.val)) else none) w':=by
 have h:=KP.find w' n l es.toList hn (by simpa using hE.1) (fun j h1 h2=>by
  have:=(hE.2.1 j h1 (by simpa using h2)).1
  have:=KP.val this
  simpa using this)
 simp only [Array.getElem?_toList] at h
 exact h
theorem zbQ_ {t:TypeId} {ty:Ty} {z:ty.den} (h:xT_ P t ty z=true) (h2:yR_ P t ty=true):∃ v,(∀ w:World,(zeroValue t).run P w=.ok v w)/\∀ (I:Nat->Prop) (w:World),wR_ I w ty z v:=by
 obtain ⟨i,v,e1,e2,e3⟩:=um_ h
 refine ⟨v,fun w=>k3_ e1 e2,fun I w=>⟨e3 I w,?_⟩⟩
 unfold yR_ at h2
 rw [e1] at h2
 simp only [e2,beq_iff_eq] at h2
 rw [<- h2];cases v<;>rfl
theorem Hx_ {I:Nat->Prop} {w:World} {q:Bool} {kt vt:Ty} {l:List (kt.den × vt.den)} {es:Array MapEntry} {c b:Nat} {n:kt.den} {t a e:TypeId} {z:vt.den} {ok:Bool} (hE:ki_ I w q kt vt l es c) (ht:P.underlying t=some (.map a e)) (KP:KeyP P a kt) (hn:jC_ kt n)
 (hz:xT_ P e vt z=true) (hz2:yR_ P e vt=true) (hb:w.heap[b]?=some (.map es c)):
 ∃ r,wR_ I w vt ((zt_ l n).getD z) r/\(Instr.lookup t (.map (some b)) (QP_ kt n) ok).run P w=.ok (if ok then .tuple #[r,.bool (zt_ l n).isSome] else r) w:=by
 obtain ⟨v,z1,z2⟩:=zbQ_ hz hz2
 obtain ⟨h1,h2⟩:=WC_ l n
 have hf:=hs_ (P:=P) (w':=w) (n:=n) hE KP hn
 have hck:∀ e:Bool,(Instr.checkKey e 10000 a (QP_ kt n)).run P w=.ok () w:=fun e=>KP.check w e n hn
 by_cases hm:Zu_ l n < l.length
 ·obtain ⟨k1,k2⟩:=h1 hm
  have hes:Zu_ l n < es.size:=by rw [<- hE.1];exact hm
  rw [if_pos hm,Array.getElem?_eq_getElem hes] at hf
  refine ⟨es[Zu_ l n].val,?_,?_⟩
  ·rw [k2];exact (hE.2.1 _ hm hes).2
  ·simp [Instr.lookup,run_underlying ht,MapKept.run_getObj_map hb,hck,hf,k2,Result.andThen]
 ·rw [if_neg hm] at hf
  refine ⟨v,?_,?_⟩
  ·rw [h2 hm];exact z2 I w
  ·simp [Instr.lookup,run_underlying ht,MapKept.run_getObj_map hb,hck,hf,h2 hm,z1,Result.andThen]
theorem zaK_ {kt vt:Ty} {z:vt.den} {ok:Bool} {x' k':Opd} (hok:zD_ P o.op (.mget kt vt z ok x' k')=true) (ev:zu_ Γ (.mget kt vt z ok x' k') fr st nx K):MOK P o [x',k'] fr (z0_ [x',k'] fr) wr st nx K:=by
 simp only [zu_] at ev
 simp only [zD_] at hok
 split at hok
 ·rename_i t x k ok' ho
  simp only [Bool.and_eq_true,beq_iff_eq] at hok
  obtain ⟨⟨⟨rfl,hx⟩,hk⟩,ht⟩:=hok
  split at ht
  ·rename_i a b hm
   simp only [Bool.and_eq_true] at ht
   obtain ⟨⟨ha,hz⟩,hz2⟩:=ht
   have KP:=bF_ ha
   obtain ⟨n,ev,hn⟩:=Ws_ ev
   split at ev
   ·rename_i i hb
    split at ev
    ·rename_i q kt' vt' l hl
     split at ev
     ·rename_i e1 e2 _ _
      subst e1;subst e2
      simp only [] at ev
      obtain ⟨av,ea,hav⟩:=zbD_ vt' ((zt_ l n).getD z)
      have main:∀ {I:Nat->Prop} {w:World} {m:M} {a:Act} {σ:Sto},FOn [x',k'] fr I w m a->HRel I w m σ->(∀ i ∈ z0_ [x',k'] fr,σ i=st.get i)->∃ r,wR_ I w vt' ((zt_ l n).getD z) r/\(Instr.lookup t (a.eval x) (a.eval k) ok').run P w=.ok (if ok' then .tuple #[r,.bool (zt_ l n).isSome] else r) w:=fun {I w m a σ} hf hH ha'=>by
       have hi:σ i=some (.map q kt' vt' l):=by rw [ha' i (zr_ z2_ hb i (by simp [AV.ids,AV.ids1,AV.ids0])),hl]
       obtain ⟨b',es,c,q1,q2,q3⟩:=hH.obj i _ hi
       have hv:=hf.rv z2_ hx;rw [hb] at hv
       obtain ⟨b'',q4,q5,_⟩:=hv
       rw [q1] at q4;cases q4
       obtain ⟨hkv,hkR⟩:=KP.val (hn (hf.rv ZH_ hk))
       rw [q5,hkv]
       exact Hx_ q3 hm KP hkR hz hz2 q2
      have hex:∀ a:Act,execOp a.eval o=(do pure (.value (<- Instr.lookup t (a.eval x) (a.eval k) ok'))):=fun a=>by unfold execOp;rw [ho]
      cases ok' with
      | true=>
        simp only [ea] at ev
        refine zC_ ev fun {I w m a σ} hf hH ha'=>?_
        obtain ⟨r,r1,r2⟩:=main hf hH ha'
        exact ⟨_,hex a,_,⟨#[r,.bool (zt_ l n).isSome],rfl,hav r1,rfl,trivial⟩,r2⟩
      | false=>
        simp only [ea] at ev
        refine zC_ ev fun {I w m a σ} hf hH ha'=>?_
        obtain ⟨r,r1,r2⟩:=main hf hH ha'
        exact ⟨_,hex a,_,Jb_ (qH_ (hav r1)),r2⟩
     ·exact ev.elim
    ·exact ev.elim
   ·exact ev.elim
  ·cases ht
 ·cases hok
theorem Ys_ {w:World} {b:Nat} {es:Array MapEntry} {c:Nat} {y:Go.Obj} (h:w.heap[b]?=some (.map es c)):(setObj b y).run P w=.ok () {w with heap:=w.heap.setIfInBounds b y}:=by
 simp [setObj,Sem.run,h]
theorem Yt_ {w:World} {b:Nat} {x y:Go.Obj} (h:w.heap[b]?=some x):({w with heap:=w.heap.setIfInBounds b y}:World).heap[b]?=some y:=by
 have:=ZY_ h
 simp [this]
theorem uv_ {w:World} {m:M} {i b:Nat} {y:Go.Obj} (hb:m.blk i=some b):Fr (fun b=>m.blk i=some b) w {w with heap:=w.heap.setIfInBounds b y}:=
 ⟨rfl,rfl,rfl,by simp,fun k _ hk=>by
  have hne:k ≠ b:=fun e=>hk (by rw [e];exact hb)
  simp [Array.getElem?_setIfInBounds_ne (Ne.symm hne)]⟩
theorem hw_ {I:Nat->Prop} {w:World} {kt vt:Ty} {l:List (kt.den × vt.den)} {es:Array MapEntry} {c j:Nat} {f:MapEntry->MapEntry} {p:kt.den × vt.den} (h:ki_ I w true kt vt l es c) (hj:j < l.length)
 (hf:∀ h':j < es.size,wR_ I w kt p.1 (f es[j]).key/\wR_ I w vt p.2 (f es[j]).val/\(f es[j]).born=es[j].born):ki_ I w true kt vt (l.set j p) (es.modify j f) c:=by
 obtain ⟨h1,h2,h3,h4⟩:=h
 obtain ⟨h5,h6⟩:=h4 rfl
 have hj':j < es.size:=by omega
 obtain ⟨f1,f2,f3⟩:=hf hj'
 refine ⟨by simp [h1],fun i hi hi'=>?_,fun i hi=>?_,fun _=>⟨by simp [h5],fun i hi=>?_⟩⟩
 ·simp only [List.length_set] at hi
  simp only [Array.size_modify] at hi'
  rw [Array.getElem_modify]
  by_cases e:j=i
  ·subst e
   rw [if_pos rfl,List.getElem_set_self];exact ⟨f1,f2⟩
  ·rw [if_neg e,List.getElem_set_ne e];exact h2 i hi hi'
 ·simp only [Array.size_modify] at hi
  rw [Array.getElem_modify]
  split
  ·rename_i e;subst e;rw [f3];exact h3 _ hi
  ·exact h3 _ hi
 ·simp only [Array.size_modify] at hi
  rw [Array.getElem_modify]
  split
  ·rename_i e;subst e;rw [f3];exact h6 _ hi
  ·exact h6 _ hi
theorem gx_ {I:Nat->Prop} {w:World} {kt vt:Ty} {l:List (kt.den × vt.den)} {es:Array MapEntry} {c:Nat} {p:kt.den × vt.den} {u v:Value} (h:ki_ I w true kt vt l es c) (hu:wR_ I w kt p.1 u) (hv:wR_ I w vt p.2 v):
 ki_ I w true kt vt (l++[p]) (es.push {key:=u,val:=v,born:=c}) (c+1):=by
 obtain ⟨h1,h2,h3,h4⟩:=h
 obtain ⟨h5,h6⟩:=h4 rfl
 refine ⟨by simp [h1],fun i hi hi'=>?_,fun i hi=>?_,fun _=>⟨by simp [h5],fun i hi=>?_⟩⟩
 ·simp only [Array.size_push] at hi'
  rw [Array.getElem_push]
  by_cases e:i < es.size
  ·rw [dif_pos e,List.getElem_append_left (by omega)];exact h2 i (by omega) e
  ·rw [dif_neg e,List.getElem_append_right (by omega)]
   simp only [List.getElem_singleton];exact ⟨hu,hv⟩
 ·simp only [Array.size_push] at hi
  rw [Array.getElem_push]
  by_cases e:i < es.size
  ·rw [dif_pos e];exact Nat.lt_succ_of_lt (h3 i e)
  ·rw [dif_neg e];exact Nat.lt_succ_self _
 ·simp only [Array.size_push] at hi
  rw [Array.getElem_push]
  by_cases e:i < es.size
  ·rw [dif_pos e];exact h6 i e
  ·rw [dif_neg e]
   show c=i
   omega
theorem zaF_ {kt vt:Ty} {x' k' v':Opd} (hok:zD_ P o.op (.mput kt vt x' k' v')=true) (ev:zu_ Γ (.mput kt vt x' k' v') fr st nx K):MOK P o [x',k',v'] fr (z0_ [x',k',v'] fr) true st nx K:=by
 simp only [zu_,zc_.setK_eq] at ev
 simp only [zD_] at hok
 split at hok
 ·rename_i t x k v ho
  simp only [Bool.and_eq_true,beq_iff_eq] at hok
  obtain ⟨⟨⟨hx,hk⟩,hv⟩,ht⟩:=hok
  split at ht
  ·rename_i a b hm
   have KP:=bF_ ht
   obtain ⟨n,ev,hn⟩:=Ws_ ev
   obtain ⟨y,ev,hy⟩:=Ws_ ev
   split at ev
   ·rename_i i hb
    split at ev
    ·rename_i kt' vt' l hl
     split at ev
     ·rename_i e1 e2 _ _
      subst e1;subst e2
      simp only [] at ev
      have hiF:i ∈ z0_ [x',k',v'] fr:=zr_ (x:=x') (by simp) hb i (by simp [AV.ids,AV.ids1,AV.ids0])
      refine Y8_ (QY_ (ob:=.map true kt' vt' l) (ob':=.map true kt' vt' (QX_ l n y)) hl rfl rfl hiF rfl ev fun {I w m a' σ} _ hf hH ha'=>?_)
      have hi:σ i=some (.map true kt' vt' l):=by rw [ha' i hiF,hl]
      obtain ⟨bb,es,c,q1,q2,q3⟩:=hH.obj i _ hi
      have hvx:=hf.rv (y:=x') (by simp) hx;rw [hb] at hvx
      obtain ⟨b'',q4,q5,_⟩:=hvx
      rw [q1] at q4;cases q4
      have hkr:=hn (hf.rv (y:=k') (by simp) hk)
      obtain ⟨hkv,hkR⟩:=KP.val hkr
      have hck:∀ e:Bool,(Instr.checkKey e 10000 a (QP_ kt' n)).run P w=.ok () w:=fun e=>KP.check w e n hkR
      have hst:=KP.stays w n hkR
      have hyr:=hy (hf.rv (y:=v') (by simp) hv)
      have hfr:=hs_ (P:=P) (w':=w) (n:=n) q3 KP hkR
      have hex:execOp a'.eval o=(do Instr.mapUpdate t (a'.eval x) (a'.eval k) (a'.eval v);pure .skip):=by unfold execOp;rw [ho]
      rw [bA_]
      by_cases hmi:Zu_ l n < l.length
      ·have hes:Zu_ l n < es.size:=by rw [<- q3.1];exact hmi
       rw [if_pos hmi,Array.getElem?_eq_getElem hes] at hfr
       have hkey:es[Zu_ l n].key=QP_ kt' n:=by
        have h1:=(KP.val (q3.2.1 _ hmi hes).1).1
        rw [((WC_ l n).1 hmi).1] at h1;exact h1
       refine ⟨undef,_,.inr ⟨Xv_ hex (w':={w with heap:=w.heap.setIfInBounds bb (.map (es.modify (Zu_ l n) fun e=>{e with key:=QP_ kt' n,val:=a'.eval v}) c)}) ?_,rfl⟩,uv_ q1,fun hs=>⟨bb,_,c,q1,Yt_ q2,?_⟩,fun _=>trivial⟩
       ·rw [q5,hkv]
        simp [Instr.mapUpdate,run_underlying hm,MapKept.run_getObj_map q2,hck,hfr,hes,hkey,hst,Ys_ q2,Result.andThen]
       ·rw [if_pos hmi]
        refine hw_ (q3.mono (fun _ h=>h) hs) hmi fun h'=>⟨?_,?_,rfl⟩
        ·have z9:=(show wR_ I _ kt' n (a'.eval k) from ⟨Zm_ (fun _ h=>h) hs _ _ _ hkr.1,hkr.2⟩);rw [hkv] at z9;exact z9
        ·exact ⟨Zm_ (fun _ h=>h) hs _ _ _ hyr.1,hyr.2⟩
      ·rw [if_neg hmi] at hfr
       refine ⟨undef,_,.inr ⟨Xv_ hex (w':={w with heap:=w.heap.setIfInBounds bb (.map (es.push {key:=QP_ kt' n,val:=a'.eval v,born:=c}) (c+1))}) ?_,rfl⟩,uv_ q1,fun hs=>⟨bb,_,c+1,q1,Yt_ q2,?_⟩,fun _=>trivial⟩
       ·rw [q5,hkv]
        simp [Instr.mapUpdate,run_underlying hm,MapKept.run_getObj_map q2,hck,hfr,Ys_ q2,Result.andThen]
       ·rw [if_neg hmi]
        refine gx_ (q3.mono (fun _ h=>h) hs) ?_ ?_
        ·have z9:=(show wR_ I _ kt' n (a'.eval k) from ⟨Zm_ (fun _ h=>h) hs _ _ _ hkr.1,hkr.2⟩);rw [hkv] at z9;exact z9
        ·exact ⟨Zm_ (fun _ h=>h) hs _ _ _ hyr.1,hyr.2⟩
     ·exact ev.elim
    ·exact ev.elim
   ·exact ev.elim
  ·cases ht
 ·cases hok
end ops
end Go.Eng
namespace Go.Eng
set_option linter.unusedVariables false
set_option linter.unusedSimpArgs false
open Go.RowKit
section hs
variable {X0:Bool->Nat->Prop} {I0 I:Nat->Prop} {w0 w:World} {m:M} {σ σ':Sto}
end hs
section ops
variable {P:Program} {Γ:Env} {o:Oper} {L:List Opd} {fr:zg_} {F:List Nat} {wr:Bool} {st:zc_} {nx:Nat} {K:AV->zc_->Nat->Prop}
end ops
end Go.Eng
