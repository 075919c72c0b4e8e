/- Parts of the proof: EOps10. No condition. -/
import Derived.Test.YtheklpaoigbdnaaDoorXG05
import Derived.WalkKit
import Derived.MapFrom
import Derived.DeepKeys3
import Derived.Lib.Overlaps
namespace Go.Eng
set_option linter.unusedVariables false
set_option linter.unusedSimpArgs false
open Go.RowKit
section ops
variable {P:Program} {Γ:Env} {o:Oper} {L:List Opd} {fr:zd_} {F:List Nat} {wr:Bool} {st:za_} {nx:Nat} {K:AV->za_->Nat->Prop}
theorem wU_ {I:Nat->Prop} {w:World} {t:Ty} {ys:List t.den} {cv:Value} (h:Src I w t ys cv) (n:Nat) (hn:n<=ys.length):∃ news:List Value,news.length=n*t.size/\(∀ v ∈ news,v.oneCell'=true)/\(EA I w t (ys.take n) fun k=>news[k]?)/\
 (Builtin.firstCells t.size n cv).run P w=.ok news.toArray w/\(Builtin.lenOf cv).run P w=.ok ys.length w:=by
 obtain ⟨ao,len,cap,rfl,h1,h2,h3⟩:=h
 subst h1
 have hl:(ys.take n).length=n:=by simp;omega
 rcases Nat.eq_zero_or_pos n with h0 | h0
 ·subst h0
  refine ⟨[],by simp,fun v hv=>(by cases hv),by simpa using EA.nil,?_,rfl⟩
  cases ao with
  | none=>rfl
  | some q=>simp [Builtin.firstCells,loadCells,loadCellsFrom]
 ·obtain ⟨b,ofs,rfl,h4⟩:=h3 (by omega)
  obtain ⟨news,g1,g2,g3,g4⟩:=Jc_ (h4.take n)
  rw [hl] at g1
  refine ⟨news,g1,g3,g4,?_,rfl⟩
  have:=zB_ (P:=P) (w:=w) (b:=b) (off:=ofs) news 0 #[] (fun j hj=>by rw [Nat.add_zero,g2 j hj])
  simp only [Builtin.firstCells,loadCells]
  rw [<- g1,this];simp
theorem vn_ {I:Nat->Prop} {w:World} {s:ByteArray} (n:Nat) (hn:n<=s.size):∃ news:List Value,news.length=n/\(∀ v ∈ news,v.oneCell'=true)/\(EA I w (.int .u8) ((zn_ s).take n) fun k=>news[k]?)/\
 (Builtin.firstCells 1 n (.string s)).run P w=.ok news.toArray w:=by
 refine ⟨((zn_ s).take n).map (Value.int .u8),by simp [zT_];omega,fun v hv=>?_,fun i hi=>?_,?_⟩
 ·obtain ⟨x,_,rfl⟩:=List.mem_map.1 hv;rfl
 ·have hm:((zn_ s).take n)[i] ∈ zn_ s:=List.mem_of_mem_take (List.getElem_mem hi)
  have hr:0<=((zn_ s).take n)[i]/\((zn_ s).take n)[i]<=255:=by
   unfold zn_ at hm
   obtain ⟨b,_,hb⟩:=List.mem_map.1 hm
   have:=b.toNat_lt
   unfold zn_
   constructor<;>(rw [<- hb];omega)
  refine ⟨[.int .u8 ((zn_ s).take n)[i]],⟨rfl,by simpa [inK,IntKind.min,IntKind.max,IntKind.signed,IntKind.bits] using hr⟩,fun j hj=>?_⟩
  have:j=0:=by simp at hj;omega
  subst this
  simp only [Ty.size,Nat.mul_one,Nat.add_zero,List.getElem_cons_zero]
  rw [List.getElem?_map,List.getElem?_eq_getElem hi];rfl
 ·have e:((s.extract 0 n).data.map fun b=>Value.int .u8 b.toNat)=(((zn_ s).take n).map (Value.int .u8)).toArray:=by
   apply Array.ext'
   have h:=gu_ (s:=s) (A:=0) (B:=n) hn
   rw [List.drop_zero] at h
   rw [<- h]
   simp [zn_]
   rfl
  simp only [Builtin.firstCells]
  rw [e];rfl
theorem WU_ {I:Nat->Prop} {w:World} {m:M} {i:Nat} {t:Ty} {x ys:List t.den} {ao:Option Addr} {off n k:Nat} {news:List Value} (hok:zq_ I w m i (.row false t x)) (ha:k=0\/∃ b,m.blk i=some b/\ao=some ⟨b,off*t.size,none⟩) (hk:k<=n) (hn:off+n<=x.length) (hy:k<=ys.length)
 (h1:news.length=k*t.size) (h2:∀ v ∈ news,v.oneCell'=true) (h3:EA I w t (ys.take k) fun j=>news[j]?):
 ∃ w',(match ao with | some a=>storeCells a news | none=>pure ()).run P w=.ok () w'/\Fr (fun b=>m.blk i=some b) w w'/\(ZO_ I w w'->zq_ I w' m i (.row false t (x.take off++ys.take k++x.drop (off+k)))):=by
 rcases Nat.eq_zero_or_pos k with h0 | h0
 ·subst h0
  have hnews:news=[]:=List.eq_nil_of_length_eq_zero (by simpa using h1)
  subst hnews
  refine ⟨w,by cases ao<;>rfl,Fr.refl _ _,fun _=>?_⟩
  simpa using hok
 ·obtain ⟨b,hb,rfl⟩:=ha.resolve_left (by omega)
  obtain ⟨q1,q2,q3,q4,q5⟩:=hok
  rcases q5 with ⟨q5,_⟩ | ⟨b',cs,T,fz,q5,q6,q7,q8,q9⟩
  ·rw [hb] at q5;cases q5
  ·rw [hb] at q5;cases q5
   have q9:EA I w t x fun k=>cs[k]?:=q9
   have hcs:cs.toList.length=cs.size:=Array.length_toList
   have hfit:(off+k)*t.size<=cs.size:=by rw [q8];exact Nat.mul_le_mul_right _ (by omega)
   rw [Nat.add_mul] at hfit
   obtain ⟨w',r1,r2,r3,r4,r5,r6,r7⟩:=z0_ (P:=P) news 0 (off*t.size) w cs q6 q7.1 (by omega) h2
   have hsize:=QR_ cs news (off*t.size) (by omega)
   have hget:∀ j,((cs.toList.take (off*t.size+0)++news++cs.toList.drop (off*t.size+0+news.length)).toArray)[j]?=if j < off*t.size then cs[j]? else if j < off*t.size+news.length then news[j - off*t.size]? else cs[j]?:=fun j=>by
    rw [List.getElem?_toArray,Nat.add_zero,jr_ _ _ _ (by omega)]
    simp only [Array.getElem?_toList]
   have hl1:(x.take off).length=off:=by simp;omega
   have hl2:(ys.take k).length=k:=by simp;omega
   have hl3:(x.take off++ys.take k).length=off+k:=by rw [List.length_append,hl1,hl2]
   have hl4:(x.take off++ys.take k++x.drop (off+k)).length=x.length:=by rw [List.length_append,hl3,List.length_drop];omega
   refine ⟨w',r1,⟨r5,r6,r7,by omega,fun j _ hj=>r4 j (fun e=>hj (by rw [e];exact hb))⟩,fun hs=>⟨q1,by rw [hl4];exact q2,by rw [hl4];exact q3,q4,.inr ⟨b,_,T,fz,hb,r2,by rw [hsize];exact q7,by rw [hsize];exact q8,?_⟩⟩⟩
   refine EA.append (EA.append (((q9.take off).mono (fun _ h=>h) hs).congr fun j hj=>?_) ((h3.mono (fun _ h=>h) hs).congr fun j hj=>?_)) (((q9.drop (off+k)).mono (fun _ h=>h) hs).congr fun j hj=>?_)
   ·rw [hl1] at hj
    show ((cs.toList.take (off*t.size+0)++news++cs.toList.drop (off*t.size+0+news.length)).toArray)[j]?=_
    rw [hget,if_pos hj]
   ·rw [hl2] at hj
    show ((cs.toList.take (off*t.size+0)++news++cs.toList.drop (off*t.size+0+news.length)).toArray)[(x.take off).length*t.size+j]?=_
    rw [hget,hl1,if_neg (by omega),if_pos (by omega)];congr 1;omega
   ·show ((cs.toList.take (off*t.size+0)++news++cs.toList.drop (off*t.size+0+news.length)).toArray)[(x.take off++ys.take k).length*t.size+j]?=_
    rw [hget,hl3,Nat.add_mul,if_neg (by omega),if_neg (by omega)]
theorem Xt_ {I:Nat->Prop} {w:World} {m:M} {k:IntKind} {ys:List Int}:∀ (os:List Int) (j:Nat) (c:List Value),c.length=os.length->(∀ q (hq:q < os.length),c[q]?=some (.int k (if j+q < ys.length then ys.getD (j+q) 0 else os[q])))->(∀ n ∈ os,inK k n)->(∀ n ∈ ys,inK k n)->zO_ I w m (Xu_ k ys j os) c
 | [],j,c,h,_,_,_=>by
   have hc:c=[]:=List.eq_nil_of_length_eq_zero (by simpa using h)
   rw [hc];exact trivial
 | o :: r,j,c,h,hc,ho,hy=>by
   cases c with
   | nil=>simp at h
   | cons v c=>
     have h0:=hc 0 (by simp)
     simp only [List.getElem?_cons_zero,Nat.add_zero,Option.some.injEq,List.getElem_cons_zero] at h0
     refine ⟨⟨h0,?_⟩,Xt_ r (j+1) c (by simpa using h) (fun q hq=>?_) (fun n hn=>ho n (by simp [hn])) hy⟩
     ·split
      ·rename_i hlt
       rw [List.getD_eq_getElem?_getD,List.getElem?_eq_getElem hlt]
       exact hy _ (List.getElem_mem hlt)
      ·exact ho o (by simp)
     ·have:=hc (q+1) (by simp;omega)
      simp only [List.getElem?_cons_succ,List.getElem_cons_succ] at this
      rw [this,show j+(q+1)=j+1+q by omega]
theorem yZ_ {I:Nat->Prop} {w:World} {k:IntKind} {ys:List Int} {f:Nat->Option Value} (h:EA I w (.int k) ys f):(∀ n ∈ ys,inK k n)/\∀ j (hj:j < ys.length),f j=some (.int k ys[j]):=by
 have key:∀ j (hj:j < ys.length),inK k ys[j]/\f j=some (.int k ys[j]):=fun j hj=>by
  obtain ⟨es,h1,h2⟩:=h j hj
  obtain ⟨rfl,h3⟩:=h1
  have:=h2 0 (by simp)
  simp only [Ty.size,Nat.mul_one,Nat.add_zero,List.getElem_cons_zero] at this
  exact ⟨h3,this⟩
 refine ⟨fun n hn=>?_,fun j hj=>(key j hj).2⟩
 obtain ⟨j,hj,rfl⟩:=List.mem_iff_getElem.1 hn
 exact (key j hj).1
theorem vp_ {t:Ty} {st:za_} {v:AV} {K:List t.den->Prop} (ev:GC_ t st v K):v.ids0=v.ids/\∃ ys,K ys/\
 ∀ {I:Nat->Prop} {w:World} {m:M} {σ:Sto} {cv:Value},HRel I w m σ->(∀ i ∈ v.ids0,σ i=st.get i)->RV I w m v cv->
   ys.length<=maxLen/\(Builtin.lenOf cv).run P w=.ok ys.length w/\∀ n ≤ ys.length,∃ news:List Value,news.length=n*t.size/\(∀ v ∈ news,v.oneCell'=true)/\(EA I w t (ys.take n) fun k=>news[k]?)/\(Builtin.firstCells t.size n cv).run P w=.ok news.toArray w:=by
 unfold GC_ at ev
 split at ev
 ·rename_i l
  obtain ⟨rfl,ev⟩:=zL_ ev
  refine ⟨rfl,l,ev,fun {I w m σ cv} hH ha hv=>?_⟩
  obtain ⟨s,rfl,rfl,hs⟩:=hv
  refine ⟨by rw [zT_];exact hs,by rw [zT_];rfl,fun n hn=>?_⟩
  rw [zT_] at hn
  obtain ⟨news,g1,g2,g3,g4⟩:=vn_ (P:=P) (I:=I) (w:=w) n hn
  exact ⟨news,by simpa [Ty.size] using g1,g2,g3,g4⟩
 ·obtain ⟨ys,hK,h⟩:=k4_ ev
  obtain ⟨d1,d2⟩:=Xs_ ev
  refine ⟨d1,ys,hK,fun {I w m σ cv} hH ha hv=>?_⟩
  have hs:=h hH ha (d2 hv)
  have hlen:ys.length<=maxLen:=by obtain ⟨_,_,_,_,e,hl,_⟩:=hs;omega
  refine ⟨hlen,?_,fun n hn=>?_⟩
  ·obtain ⟨_,_,_,_,_,k⟩:=wU_ (P:=P) hs 0 (Nat.zero_le _);exact k
  ·obtain ⟨news,g1,g2,g3,g4,_⟩:=wU_ (P:=P) hs n hn
   exact ⟨news,g1,g2,g3,g4⟩
theorem UV_ {t:Ty} {x' y':Opd} (hok:zp_ P o.op (.copy t x' y')=true) (ev:zl_ Γ (.copy t x' y') fr st nx K):MOK P o [x',y'] fr (zY_ [x',y'] fr) true st nx K:=by
 simp only [zl_,za_.setK_eq,z7_] at ev
 simp only [zp_] at hok
 split at hok
 ·rename_i args ts ho
  simp only [Bool.and_eq_true] at hok
  obtain ⟨h1,h2⟩:=hok
  obtain ⟨x,y,rfl,hx,hy⟩:=Q0_ h1
  split at h2
  ·rename_i tt ht
   split at h2
   ·rename_i e he
    have he:=zP_ he
    simp only [Bool.and_eq_true,decide_eq_true_eq] at h2
    obtain ⟨h4,hpos⟩:=h2
    obtain ⟨i0,hi0,hsz⟩:=zQ_ h4
    have hex:∀ a:Act,execOp a.eval o=(do pure (.value (<- Builtin.copy_ ts o.type #[a.eval x,a.eval y]))):=fun a=>by rw [z2_ ho];simp [builtin]
    obtain ⟨d1,ys,ev1,hd⟩:=vp_ (P:=P) ev
    have hyF:∀ j ∈ (y'.ev fr).ids0,j ∈ zY_ [x',y'] fr:=fun j hj=>zj_ Zd_ rfl j (by rw [<- d1];exact hj)
    have hrun:∀ {a:Act} {w w':World} {ao:Option Addr} {len cap:Nat} {news:List Value},a.eval x=.slice ao len cap->(Builtin.lenOf (a.eval y)).run P w=.ok ys.length w->(Builtin.firstCells t.size (min ys.length len) (a.eval y)).run P w=.ok news.toArray w->(match ao with | some a=>storeCells a news | none=>pure ()).run P w=.ok () w'->
     (execOp a.eval o).run P w=.ok (.value (.int .i64 (min ys.length len:Nat))) w':=fun {a w w' ao len cap news} q1 q2 q3 q4=>by
     refine qR_ (hex a) ?_
     have q3':(Builtin.firstCells i0.size (Nat.min ys.length len) (a.eval y)).run P w=.ok news.toArray w:=by rw [hsz];exact q3
     cases ao with
     | none=>
       have q4':w=w':=by cases q4;rfl
       subst q4'
       simp [Builtin.copy_,ht,q1,run_underlying he,q2,zt_ hi0,q3',goInt]
     | some ad=>
       have q4':(storeCells ad news).run P w=.ok () w':=q4
       simp [Builtin.copy_,ht,q1,run_underlying he,q2,zt_ hi0,q3',q4',goInt]
    split at ev1
    ·-- a whole row
     rename_i i hb
     split at ev1
     ·rename_i t' x0 hl
      obtain ⟨rfl,ev2⟩:=zL_ ev1
      refine Jq_ (qr_ (ob:=.row false t' x0) (ob':=.row false t' (ys.take x0.length++x0.drop ys.length)) hl rfl rfl (zj_ zX_ hb i (by simp [AV.ids,AV.ids1,AV.ids0])) rfl ev2 fun {I w m a σ} _ hf hH ha=>?_)
      have hi:σ i=some (.row false t' x0):=by rw [ha i (zj_ zX_ hb i (by simp [AV.ids,AV.ids1,AV.ids0])),hl]
      have hv:=hf.rv zX_ hx;rw [hb] at hv
      obtain ⟨ao,len,cap,e1,hO⟩:=hv
      have hok:=hH.obj i _ hi
      obtain ⟨l1,l2,l3,l4,l5⟩:=VA_ hok hO
      obtain ⟨g0,g1,g2⟩:=hd hH (fun j hj=>ha j (hyF j hj)) (hf.rv Zd_ hy)
      obtain ⟨news,n1,n2,n3,n4⟩:=g2 (min ys.length len) (Nat.min_le_left _ _)
      obtain ⟨_,_,_,_,_,h6⟩:=hO
      obtain ⟨w',r1,r2,r3⟩:=WU_ (P:=P) (ao:=ao) (off:=0) (n:=len) (k:=min ys.length len) (ys:=ys) hok (by
       rcases h6 with ⟨_,_,h6⟩ | ⟨b,h6,h7⟩
       ·left;omega
       ·right;exact ⟨b,h6,by rw [Nat.zero_mul];exact h7⟩) (Nat.min_le_right _ _) (by omega) (Nat.min_le_left _ _) n1 n2 n3
      refine ⟨.int .i64 (min ys.length len:Nat),w',.inl (hrun e1 g1 n4 r1),r2,fun hs=>?_,fun _=>by rw [l1];exact zS_ (qB_ (by have:=Nat.min_le_left ys.length x0.length;omega))⟩
      have:=r3 hs
      have e2:x0.take 0++ys.take (min ys.length len)++x0.drop (0+min ys.length len)=ys.take x0.length++x0.drop ys.length:=by
       subst l1
       rw [List.take_zero,List.nil_append,Nat.zero_add]
       by_cases hc:ys.length<=x0.length
       ·rw [Nat.min_eq_left hc,List.take_length,List.take_of_length_le hc]
       ·rw [Nat.min_eq_right (by omega),List.drop_of_length_le (by omega:x0.length<=x0.length),List.drop_of_length_le (by omega)]
      rw [e2] at this;exact this
     ·exact ev1.elim
    ·-- a part of a row
     rename_i i off n hb
     split at ev1
     ·rename_i t' x0 hl
      obtain ⟨rfl,ev2⟩:=zL_ ev1
      obtain ⟨hn,ev3⟩:=zf_ ev2
      have hn:off+n<=x0.length:=hn
      refine Jq_ (qr_ (ob:=.row false t' x0) (ob':=.row false t' (x0.take off++ys.take n++x0.drop (off+min ys.length n))) hl rfl rfl (zj_ zX_ hb i (by simp [AV.ids,AV.ids1,AV.ids0])) rfl ev3 fun {I w m a σ} _ hf hH ha=>?_)
      have hi:σ i=some (.row false t' x0):=by rw [ha i (zj_ zX_ hb i (by simp [AV.ids,AV.ids1,AV.ids0])),hl]
      have hv:=hf.rv zX_ hx;rw [hb] at hv
      obtain ⟨ao,len,cap,e1,s1,s2,s3,s4,s5,s6⟩:=hv
      subst s2
      have hok:=hH.obj i _ hi
      obtain ⟨g0,g1,g2⟩:=hd hH (fun j hj=>ha j (hyF j hj)) (hf.rv Zd_ hy)
      obtain ⟨news,n1,n2,n3,n4⟩:=g2 (min ys.length len) (Nat.min_le_left _ _)
      have hsz':m.sz i=t'.size:=hok.1
      obtain ⟨w',r1,r2,r3⟩:=WU_ (P:=P) (ao:=ao) (off:=off) (n:=len) (k:=min ys.length len) (ys:=ys) hok (by
       rcases s6 with ⟨_,_,h6⟩ | ⟨b,ofs,h6,h7,h8⟩
       ·left;omega
       ·rcases Nat.eq_zero_or_pos len with h9 | h9
        ·left;omega
        ·right;exact ⟨b,h6,by rw [h7,h8 (by omega),hsz']⟩) (Nat.min_le_right _ _) hn (Nat.min_le_left _ _) n1 n2 n3
      refine ⟨.int .i64 (min ys.length len:Nat),w',.inl (hrun e1 g1 n4 r1),r2,fun hs=>?_,fun _=>zS_ (qB_ (by have:=Nat.min_le_left ys.length len;omega))⟩
      have:=r3 hs
      have e2:ys.take (min ys.length len)=ys.take len:=by
       by_cases hc:ys.length<=len
       ·rw [Nat.min_eq_left hc,List.take_length,List.take_of_length_le hc]
       ·rw [Nat.min_eq_right (by omega)]
      rw [e2] at this;exact this
     ·exact ev1.elim
    ·-- cells of a box
     rename_i i off n t' hb
     split at ev1
     ·rename_i l hl
      cases t with
      | int k=>
        dsimp only at ev1
        split at ev1
        ·rename_i heq _
         subst heq
         split at ev1
         ·rename_i hle0
          have hle:=Nat.le_of_ble_eq_true hle0
          obtain ⟨os,ev2,hos⟩:=kX_ ev1
          refine Jq_ (qr_ (ob:=.box l) (ob':=.box (put l off (Xu_ k ys 0 os))) hl rfl rfl (zj_ zX_ hb i (by simp [AV.ids,AV.ids1,AV.ids0])) rfl ev2 fun {I w m a σ} _ hf hH ha=>?_)
          have hi:σ i=some (.box l):=by rw [ha i (zj_ zX_ hb i (by simp [AV.ids,AV.ids1,AV.ids0])),hl]
          have hv:=hf.rv zX_ hx;rw [hb] at hv
          obtain ⟨b,cap,q1,e1,q2,q3,q4⟩:=hv
          obtain ⟨b',cs,T,fz,p1,p2,p3,p4⟩:=hH.obj i _ hi
          rw [q1] at p1;cases p1
          obtain ⟨g0,g1,g2⟩:=hd hH (fun j hj=>ha j (hyF j hj)) (hf.rv Zd_ hy)
          obtain ⟨news,n1,n2,n3,n4⟩:=g2 (min ys.length n) (Nat.min_le_left _ _)
          simp only [Ty.size,Nat.mul_one] at n1 n4
          obtain ⟨o1,o2⟩:=hos (Kw_ n (Q4_ off p4))
          have hlen:=zZ_ p4
          have hcs:cs.toList.length=cs.size:=Array.length_toList
          have hosl:os.length=n:=by
           have:=congrArg List.length o1
           simp only [List.length_take,List.length_drop,List.length_map] at this
           omega
          have hmin:=Nat.min_le_right ys.length n
          obtain ⟨w',r1,r2,r3,r4,r5,r6,r7⟩:=z0_ (P:=P) news 0 off w cs p2 p3 (by omega) n2
          have hsize:=QR_ cs news off (by omega)
          refine ⟨.int .i64 (min ys.length n:Nat),w',.inl (hrun e1 g1 (by simpa [Ty.size] using n4) r1),⟨r5,r6,r7,by omega,fun j _ hj=>r4 j (fun e=>hj (by rw [e];exact q1))⟩,fun hs=>⟨b,_,T,fz,q1,r2,by rw [hsize];exact p3,?_⟩,fun _=>zS_ (qB_ (by have:=Nat.min_le_left ys.length n;omega))⟩
          obtain ⟨g5,g6⟩:=yZ_ n3
          obtain ⟨full,f1,f2,f3,f4⟩:=g2 ys.length (Nat.le_refl _)
          rw [List.take_length] at f3
          have hys:=(yZ_ f3).1
          have hseg:(cs.toList.take (off+0)++news++cs.toList.drop (off+0+news.length))=cs.toList.take off++(news++(os.map (Value.int k)).drop news.length)++cs.toList.drop (off+(news++(os.map (Value.int k)).drop news.length).length):=by
           have hl2:(news++(os.map (Value.int k)).drop news.length).length=n:=by simp;omega
           rw [hl2,<- o1,Nat.add_zero,List.append_assoc,List.append_assoc,List.append_assoc]
           congr 2
           rw [List.drop_take,List.drop_drop]
           have:cs.toList.drop (off+n)=(cs.toList.drop (off+news.length)).drop (n - news.length):=by rw [List.drop_drop];congr 1;omega
           rw [this,List.take_append_drop]
          simp only
          rw [hseg]
          refine ZC_ (fun _ h=>h) hs m.le_refl _ _ (Q2_ off p4 (Xt_ os 0 _ (by simp;omega) (fun q hq=>?_) o2 hys) ?_)
          ·rw [Nat.zero_add]
           by_cases hq2:q < news.length
           ·rw [List.getElem?_append_left hq2,if_pos (by omega)]
            have hql:q < (ys.take (min ys.length n)).length:=by rw [List.length_take];omega
            have h7:news[q]?=some (.int k ((ys.take (min ys.length n))[q]'hql)):=g6 q hql
            rw [h7,List.getElem_take,List.getD_eq_getElem?_getD,List.getElem?_eq_getElem (by omega)];rfl
           ·rw [List.getElem?_append_right (by omega),if_neg (by omega),List.getElem?_drop,List.getElem?_map,show news.length+(q - news.length)=q by omega,List.getElem?_eq_getElem hq];rfl
          ·have:∀ (os:List Int) (j:Nat),(Xu_ k ys j os).length=os.length:=fun os=>by
            induction os with
            | nil=>intro j;rfl
            | cons o r ih=>intro j;simp [Xu_,ih]
           rw [this];omega
         ·exact ev1.elim
        ·exact ev1.elim
      | _=>exact ev1.elim
     ·exact ev1.elim
    ·exact ev1.elim
   ·cases h2
  ·cases h2
 ·cases hok
end ops
end Go.Eng
namespace Go.Eng
set_option linter.unusedVariables false
set_option linter.unusedSimpArgs false
open Go.RowKit
section lists
variable {α β:Type} [DecidableEq α]
end lists
section ops
variable {P:Program} {Γ:Env} {o:Oper} {L:List Opd} {fr:zd_} {F:List Nat} {wr:Bool} {st:za_} {nx:Nat} {K:AV->za_->Nat->Prop}
def Wu_:(t:Ty)->t.den->List Value
 | .int k,n=>[.int k n]
 | .bool,b=>[.bool b]
 | .cons a b,x=>Wu_ a x.1++Wu_ b x.2
 | _,_=>[]
def vS_:(t:Ty)->t.den->Value
 | .int k,n=>.int k n
 | .bool,b=>.bool b
 | t,x=>.agg (Wu_ t x).toArray
def vT_:(t:Ty)->t.den->Prop
 | .int k,n=>inK k n
 | .bool,_=>True
 | .nil,_=>True
 | .cons a b,x=>vT_ a x.1/\vT_ b x.2
 | _,_=>False
structure KeyP (P:Program) (a:TypeId) (kt:Ty):Prop where
 val:∀ {I:Nat->Prop} {w:World} {x:kt.den} {u:Value},G5_ I w kt x u->u=vS_ kt x/\vT_ kt x
 check:∀ (w:World) (e:Bool) (x:kt.den),vT_ kt x->(Instr.checkKey e 10000 a (vS_ kt x)).run P w=.ok () w
 find:∀ {β:Type} (w:World) (x:kt.den) (l:List (kt.den × β)) (es:List MapEntry),vT_ kt x->l.length=es.length->(∀ j (h:j < l.length) (h':j < es.length),es[j].key=vS_ kt l[j].1/\vT_ kt l[j].1)->(Instr.findKey a (vS_ kt x) es).run P w=.ok (if gP_ l x < l.length then (es[gP_ l x]?).map (fun e=>(gP_ l x,e.val)) else none) w
 stays:∀ (w:World) (x:kt.den),vT_ kt x->(Instr.keyThatStays (vS_ kt x) (vS_ kt x)).run P w=.ok (vS_ kt x) w
end ops
end Go.Eng
namespace Go.Eng
set_option linter.unusedVariables false
set_option linter.unusedSimpArgs false
open Go.RowKit
section hs
variable {X0:Bool->Nat->Prop} {I0 I:Nat->Prop} {w0 w:World} {m:M} {σ σ':Sto}
theorem gR_ {i:Nat} {ob ob':Obj} (hs:HS X0 I0 w0 σ I w m) (hσ:σ i=some ob) (hm:ob.mut=true) (hm':ob'.mut=true) (ho:zq_ I w m i ob') (hget:∀ j,σ' j=if j=i then some ob' else σ j):HS X0 I0 w0 σ' I w m:=by
 have hml:∀ {o:Obj},o.mut=true->o.live=true:=fun {o} h=>by cases o<;>first | rfl | cases h
 refine hs.step (Evo.refl _ _ _) (fun j=>j=i) (fun j hj=>by rw [hget,if_neg hj]) (Fr.refl _ _) (fun b h=>.inl h) (fun b h=>hs.H.Ilt b h)
  (fun j o' hj e=>?_) (fun j o' b hj e hl hb=>?_) (fun j k o' o'' b hj hk _ _ _ _ _ _=>hj.trans hk.symm) (fun j o' b hj e hm2 hb=>?_) (fun j t x b hj e hb=>?_)
 ·subst hj;rw [hget,if_pos rfl] at e;cases e
  exact ⟨hs.H.lt j (by rw [hσ];intro h;cases h),ho⟩
 ·subst hj;exact .inr ⟨j,ob,rfl,hσ,hml hm,fun _=>hm,hb⟩
 ·subst hj;exact hs.H.notI j ob b hσ hm hb
 ·subst hj;rw [hget,if_pos rfl] at e;cases e;cases hm'
theorem gS_ {i nx cap len sz:Nat} {ob ob':Obj} (hs:HS X0 I0 w0 σ I w m) (hσ:σ i=some ob) (hm:ob.mut=true) (hm':ob'.mut=true) (hu:¬ m.used nx) (ho:zq_ I w (m.push nx (m.blk i) cap len sz) nx ob')
 (hget:∀ j,σ' j=if j=nx then some ob' else if j=i then some .dead else σ j):HS X0 I0 w0 σ' I w (m.push nx (m.blk i) cap len sz)/\Evo I w m I w (m.push nx (m.blk i) cap len sz):=by
 have hml:∀ {o:Obj},o.mut=true->o.live=true:=fun {o} h=>by cases o<;>first | rfl | cases h
 have hui:m.used i:=hs.H.lt i (by rw [hσ];intro h;cases h)
 have hne:i ≠ nx:=fun e=>hu (e ▸ hui)
 have hE:Evo I w m I w (m.push nx (m.blk i) cap len sz):=⟨fun _ h=>h,fun _ _=>rfl,M.push_le hu⟩
 have hgn:∀ o',σ' nx=some o'->o'=ob':=fun o' e=>by rw [hget,if_pos rfl] at e;exact (Option.some.inj e).symm
 have hgi:∀ o',σ' i=some o'->o'=.dead:=fun o' e=>by rw [hget,if_neg hne,if_pos rfl] at e;exact (Option.some.inj e).symm
 refine ⟨hs.step hE (fun j=>j=i\/j=nx) (fun j hj=>by rw [hget,if_neg (fun h=>hj (.inr h)),if_neg (fun h=>hj (.inl h))]) (Fr.refl _ _) (fun b h=>.inl h) (fun b h=>hs.H.Ilt b h)
  (fun j o' hj e=>?_) (fun j o' b hj e hl hbb=>?_) (fun j k o' o'' b hj hk e e' hl hl' _ _=>?_) (fun j o' b hj e hm2 hbb hI=>?_) (fun j t' x' b hj e hbb=>?_),hE⟩
 ·rcases hj with rfl | rfl
  ·cases hgi o' e;exact ⟨.inl hui,trivial⟩
  ·cases hgn o' e;exact ⟨.inr rfl,ho⟩
 ·rcases hj with rfl | rfl
  ·cases hgi o' e;cases hl
  ·rw [M.push_blk] at hbb
   exact .inr ⟨i,ob,.inl rfl,hσ,hml hm,fun _=>hm,hbb⟩
 ·rcases hj with rfl | rfl<;>rcases hk with rfl | rfl
  ·rfl
  ·cases hgi o' e;cases hl
  ·cases hgi o'' e';cases hl'
  ·rfl
 ·rcases hj with rfl | rfl
  ·cases hgi o' e;cases hm2
  ·rw [M.push_blk] at hbb
   exact hs.H.notI i ob b hσ hm hbb hI
 ·rcases hj with rfl | rfl
  ·cases hgi _ e
  ·rw [<- hgn _ e] at hm';cases hm'
end hs
section ops
variable {P:Program} {Γ:Env} {o:Oper} {L:List Opd} {fr:zd_} {F:List Nat} {wr:Bool} {st:za_} {nx:Nat} {K:AV->za_->Nat->Prop}
theorem U0_ {x':Opd} {X0:Bool->Nat->Prop} {I0 I:Nat->Prop} {w0 w:World} {m:M} {a:Act} (hok:zp_ P o.op (.capp x')=true) (hf:FOn [x'] fr I w m a) (hs:HS X0 I0 w0 st.get I w m) (ev:zl_ Γ (.capp x') fr st nx K):
 ∃ v st1,K v st1 nx/\Kg_ P o a w (xi_ X0 I0 w0 I w m st1.get v nx nx):=by
 simp only [zl_,za_.setK_eq] at ev
 simp only [zp_] at hok
 split at hok
 ·rename_i args ts ho
  simp only [Bool.and_eq_true] at hok
  obtain ⟨h1,h2⟩:=hok
  obtain ⟨x,rfl,hx⟩:=j4_ h1
  split at h2
  ·rename_i tt ht
   obtain ⟨e,he⟩:=K0_ h2
   split at ev
   ·rename_i i hb
    split at ev
    ·rename_i t x0 hl
     have hok:=hs.H.obj i _ hl
     have hv:=hf.rv qn_ hx;rw [hb] at hv
     obtain ⟨ao,len,cap,e1,q1,q2,q3,q4,q5,q6⟩:=hv
     obtain ⟨k1,k2,k3,k4,k5⟩:=hok
     have hc:=ev.go (m.cap i) ⟨k3,by unfold maxLen at k4;omega⟩
     refine ⟨_,_,hc,ZS_ (cv:=.int .i64 (m.cap i:Nat)) (w':=w) (I':=I) (m':=m) (qR_ (S:=Builtin.cap_ ts o.type #[a.eval x]) (by rw [z2_ ho];simp [builtin]) ?_) ⟨zS_ (qB_ k4),gR_ (ob':=.rowp t x0 x0.length (m.cap i)) hs hl rfl rfl ⟨k1,k2,k3,k4,rfl,by omega,Nat.le_refl _,k5⟩ (fun j=>by rw [za_.get_set]),Evo.refl _ _ _,fun _ h=>.inl h⟩⟩
     rw [e1,q3]
     simp [Builtin.cap_,ht,run_underlying he,goInt]
    ·exact ev.elim
   ·exact ev.elim
  ·cases h2
 ·cases hok
theorem Xc_ {I:Nat->Prop} {w:World} {m:M} {i l c:Nat} {t:Ty} {x:List t.den} (h:zq_ I w m i (.rowp t x l c)):
 m.sz i=t.size/\l=m.len i/\x.length<=l/\l<=m.cap i/\m.cap i<=maxLen/\c=m.cap i/\((m.blk i=none/\m.cap i=0)\/∃ b,m.blk i=some b/\EA I w t x fun k=>w.cell? ⟨b,k,none⟩):=by
 obtain ⟨h1,h2,h3,h4,q1,q2,q3,h5⟩:=h
 refine ⟨h1,h2,q3,q2,h4,q1,?_⟩
 rcases h5 with h5 | ⟨b,cs,T,f,h6,h7,_,h8,h9⟩
 ·exact .inl h5
 ·refine .inr ⟨b,h6,?_⟩
  have h9:EA I w t x fun k=>cs[k]?:=h9
  exact h9.congr fun k hk=>by rw [Zs_ h7]
theorem vs_ {size:Nat} {x' hi':Opd} (hok:zp_ P o.op (.sliceX size x' hi')=true) (ev:zl_ Γ (.sliceX size x' hi') fr st nx K):MOK P o [x',hi'] fr (zY_ [x',hi'] fr) true st nx K:=by
 simp only [zl_,za_.setK_eq] at ev
 simp only [zp_] at hok
 split at hok
 ·rename_i t x lo hi mx ho
  simp only [Bool.and_eq_true,Option.isNone_iff_eq_none] at hok
  obtain ⟨⟨⟨⟨hx,rfl⟩,hhi⟩,rfl⟩,h5⟩:=hok
  split at h5
  ·rename_i e he
   have he:=zP_ he
   obtain ⟨i0,hi0,hn⟩:=zQ_ h5
   have hex:∀ (a:Act),execOp a.eval o=(do pure (.value (<- Instr.sliceAt t (a.eval x) none (hi.map a.eval) none))):=fun a=>by unfold execOp;rw [ho];rfl
   split at ev
   ·rename_i i hb
    split at ev
    ·rename_i t' x0 l c hl
     split at ev
     ·rename_i hsz
      obtain ⟨kb,B,hB,ev1⟩:=zR_ ev
      obtain ⟨⟨n1,n2⟩,hK⟩:=zf_ ev1
      have n1:(l:Int)<=B:=n1
      have n2:B<=(c:Int):=n2
      have hiF:i ∈ zY_ [x',hi'] fr:=zj_ zX_ hb i (by simp [AV.ids,AV.ids1,AV.ids0])
      refine ⟨.own nx,_,nx+1,[i,nx],Nat.le_succ _,hK,fun j hj=>?_,fun j hj=>?_,fun {X0 I0 w0 σ I w m a} hf hs ha hN=>?_⟩
      ·simp only [List.mem_cons,List.not_mem_nil,or_false,not_or] at hj
       rw [za_.get_cons,if_neg hj.2,za_.get_set,if_neg hj.1]
      ·simp only [List.mem_cons,List.not_mem_nil,or_false] at hj
       rcases hj with rfl | rfl
       ·exact .inl ⟨rfl,hiF,by rw [hl];intro h;cases h⟩
       ·exact .inr ⟨Nat.le_refl _,Nat.lt_succ_self _⟩
      ·have hu:=hN nx (Nat.le_refl _) (Nat.lt_succ_self _)
       have hσ:σ i=some (.rowp t' x0 l c):=by rw [ha i hiF,hl]
       have hok:=hs.H.obj i _ hσ
       have hv:=hf.rv zX_ hx;rw [hb] at hv
       obtain ⟨ao,len,cap,e1,q1,q2,q3,q4,q5,q6⟩:=hv
       have rb:=kT_ hf hhi (fun y hy=>by simp only [z3_,List.mem_singleton] at hy;subst hy;exact Zd_) (d:=(len:Int)) (.inr ⟨hi',kb,rfl,hB⟩)
       obtain ⟨k1,k2,k3,k4,p1,p2,p3,k5⟩:=hok
       have hB':B.toNat<=cap:=by omega
       have hrun:(Instr.sliceAt t (a.eval x) none (hi.map a.eval) none).run P w=.ok (.slice ao B.toNat cap) w:=by
        rw [e1,Zy_ he hi0 (ja_ (A:=0) (B:=B.toNat) (.inl ⟨rfl,rfl⟩) (by
         rcases rb with ⟨_,h,_⟩ | ⟨k,y,rfl,_,h⟩
         ·cases h
         ·exact .inr ⟨k,by simp only [Option.map_some,h];rw [Int.toNat_of_nonneg (by omega)]⟩) (Nat.zero_le _) hB')]
        have:(if cap=0 then ao else ao.map (·.add (0*i0.size)))=ao:=by
         split
         ·rfl
         ·cases ao with
          | none=>rfl
          | some q=>simp [Addr.add]
        rw [this];simp
       obtain ⟨g1,g2⟩:=gS_ (cap:=m.cap i) (len:=B.toNat) (sz:=m.sz i) (σ':=upd σ [i,nx] ((nx,Obj.rowp t' x0 B.toNat c) :: st.set i .dead)) (ob':=.rowp t' x0 B.toNat c) hs hσ rfl rfl hu
        ⟨by rw [M.push_sz];exact k1,(M.push_len _ _ _ _ _ _).symm,by rw [M.push_cap];exact k3,by rw [M.push_cap];exact k4,by rw [M.push_cap];exact p1,by rw [M.push_cap];omega,by omega,by rw [M.push_blk,M.push_cap];exact k5⟩
        (fun j=>by
          unfold upd
          simp only [List.mem_cons,List.not_mem_nil,or_false,za_.get_cons,za_.get_set]
          by_cases h1:j=nx
          ·simp [h1]
          ·by_cases h2:j=i
           ·simp [h2]
           ·simp [h1,h2])
       have hown:RV I w (m.push nx (m.blk i) (m.cap i) B.toNat (m.sz i)) (.own nx) (.slice ao B.toNat cap):=⟨ao,B.toNat,cap,rfl,.inr rfl,(M.push_len _ _ _ _ _ _).symm,by rw [M.push_cap];exact q3,hB',q5,by rw [M.push_blk];exact q6⟩
       refine ZS_ (qR_ (hex a) hrun) ⟨hown,g1,g2,fun j hj=>?_⟩
       rcases hj with h | h
       ·exact .inl h
       ·subst h;exact .inr ⟨Nat.le_refl _,Nat.lt_succ_self _⟩
     ·exact ev.elim
    ·exact ev.elim
   ·exact ev.elim
  ·cases h5
 ·cases hok
theorem vt_ {size:Nat} {x':Opd} {lo' hi':Option Opd} (hok:zp_ P o.op (.sliceP size x' lo' hi')=true) (ev:zl_ Γ (.sliceP size x' lo' hi') fr st nx K):MOK P o ([x']++z3_ lo'++z3_ hi') fr (zY_ ([x']++z3_ lo'++z3_ hi') fr) wr st nx K:=by
 simp only [zl_] at ev
 simp only [zp_] at hok
 split at hok
 ·rename_i t x lo hi mx ho
  simp only [Bool.and_eq_true,Option.isNone_iff_eq_none] at hok
  obtain ⟨⟨⟨⟨hx,hlo⟩,hhi⟩,rfl⟩,h5⟩:=hok
  split at h5
  ·rename_i e he
   have he:=zP_ he
   obtain ⟨i,hi0,hn⟩:=zQ_ h5
   have hmem:x' ∈ [x']++z3_ lo'++z3_ hi':=by simp
   have hex:∀ (a:Act),execOp a.eval o=(do pure (.value (<- Instr.sliceAt t (a.eval x) (lo.map a.eval) (hi.map a.eval) none))):=fun a=>by unfold execOp;rw [ho];rfl
   split at ev
   ·rename_i j hb
    split at ev
    ·rename_i t' x0 l c hl
     split at ev
     ·rename_i hsz
      have hsz:=Nat.eq_of_beq_eq_true hsz
      obtain ⟨A,ev1,hA⟩:=Zp_ ev
      obtain ⟨B,ev2,hB⟩:=Zp_ ev1
      obtain ⟨⟨h0,hAB,hBl⟩,hK⟩:=zf_ ev2
      refine zF_ hK fun {I w m a σ} hf hH ha=>⟨_,hex a,?_⟩
      have hv:=hf.rv hmem hx;rw [hb] at hv
      have hj:σ j=some (.rowp t' x0 l c):=by rw [ha j (zj_ hmem hb j (by simp [AV.ids,AV.ids1,AV.ids0])),hl]
      obtain ⟨k1,k2,k3,k4,k5,k6,k7⟩:=Xc_ (hH.obj j _ hj)
      obtain ⟨ao,len,cap,e1,g1,g2,g3,g4,g5,g6⟩:=hv
      have ra:=kT_ hf hlo (fun y hy=>by simp [hy]) hA
      have rb:=kT_ hf hhi (fun y hy=>by simp [hy]) hB
      refine ⟨.slice (if cap=A.toNat then ao else ao.map (·.add (A.toNat*i.size))) (B.toNat - A.toNat) (cap - A.toNat),⟨_,_,_,rfl,g1,by omega,by omega,by omega,k5,?_⟩,?_⟩
      ·rcases g6 with ⟨g6,rfl,g7⟩ | ⟨b,g6,rfl⟩
       ·exact .inl ⟨g6,by simp,by omega⟩
       ·by_cases e:cap=A.toNat
        ·exact .inr ⟨b,0,g6,by rw [if_pos e],fun h=>by omega⟩
        ·exact .inr ⟨b,0+A.toNat*i.size,g6,by rw [if_neg e];simp [z9_],fun _=>by rw [k1,hsz,hn];omega⟩
      ·rw [e1,Zy_ he hi0 (ja_ (A:=A.toNat) (B:=B.toNat) ?_ ?_ (by omega) (by omega))]
       ·rcases ra with ⟨rfl,_,rfl⟩ | ⟨k,y,rfl,_,h⟩
        ·exact .inl ⟨rfl,rfl⟩
        ·exact .inr ⟨k,by simp only [Option.map_some,h];rw [Int.toNat_of_nonneg h0]⟩
       ·rcases rb with ⟨rfl,_,rfl⟩ | ⟨k,y,rfl,_,h⟩
        ·exact .inl ⟨rfl,by simp;omega⟩
        ·exact .inr ⟨k,by simp only [Option.map_some,h];rw [Int.toNat_of_nonneg (by omega)]⟩
     ·exact ev.elim
    ·exact ev.elim
   ·exact ev.elim
  ·cases h5
 ·cases hok
theorem Ue_ : Extern.allNextRows.lookup "slices.overlaps" = none := by rfl
theorem gJ_ : Extern.allGenericRows.lookup "slices.overlaps" = none := by rfl
theorem ug_ : Extern.allTypedRows.lookup "slices.overlaps" = some Extern.SlicesOverlaps.overlaps := by rfl
theorem gH_ {f:Nat} (h:GK_ P f=true) {w:World} {a b:Addr} {la ca lb cb:Nat} (hne:a.block ≠ b.block) {csA csB:Array Value} {TA TB:TypeId} {fA fB:Nat × Nat} {u:Prop}
 (hA:w.heap[a.block]?=some (.cells csA TA fA)) (hB:w.heap[b.block]?=some (.cells csB TB fB)) (hzA:FzR u fA csA.size) (hu:¬ u) (h0:a.off < csA.size) (hB0:csB.size ≠ 0):
 (callFunc f #[.slice (some a) la ca,.slice (some b) lb cb]).run P w=.ok (.value (.bool false)) w:=by
 unfold GK_ at h
 split at h
 ·rename_i fn hfn
  simp only [Bool.and_eq_true,Bool.not_eq_true',Option.isNone_iff_eq_none,beq_iff_eq] at h
  obtain ⟨⟨⟨⟨⟨⟨⟨h1,h2⟩,h3⟩,h4⟩,h5⟩,h6⟩,h7⟩,h8⟩:=h
  split at h8
  ·rename_i t ht
   split at h8
   ·rename_i e he
    have he:=zP_ he
    obtain ⟨i,hi⟩:=Option.isSome_iff_exists.1 h8
    have hfa:w.frozen? a=false:=by
     obtain ⟨ab,ao,asp⟩:=a
     have:=hzA.1 ao h0
     obtain ⟨lo,hi⟩:=fA
     simp only [World.frozen?,hA,Bool.and_eq_false_iff,decide_eq_false_iff_not]
     by_cases h1:lo<=ao
     ·exact .inr (this h1)
     ·exact .inl h1
    have hfe:w.frozen? {block:=a.block,off:=csA.size}=false:=by
     have:=hzA.2.resolve_left hu
     obtain ⟨lo,hi⟩:=fA
     simp only [World.frozen?,hA,Bool.and_eq_false_iff,decide_eq_false_iff_not]
     by_cases h1:lo<=csA.size
     ·exact .inr fun h=>this ⟨h1,h⟩
     ·exact .inl h1
    have hf2:Extern.find fn=some (Extern.SlicesOverlaps.overlaps fn.params fn.resultTypes):=by
     unfold Extern.find
     simp [h4,h5,h6,h7,gJ_,ug_]
    have hf1:Extern.findNext fn=none:=by
     unfold Extern.findNext
     simp [h3,h7,Ue_]
    have hsa:w.shape? a.block=some (TA,csA.size):=by simp [World.shape?,hA]
    have hsb:w.shape? b.block=some (TB,csB.size):=by simp [World.shape?,hB]
    rw [run_callFunc_extern hfn (by simpa using h1) (by rw [h2];rfl) hf1 hf2]
    have hrun:(Extern.SlicesOverlaps.overlaps fn.params fn.resultTypes #[.slice (some a) la ca,.slice (some b) lb cb]).run P w=.ok (.bool false) w:=by
     have hnb:(a.block != b.block)=true:=by simpa using hne
     have hnb':(a.block == b.block)=false:=by simpa using hne
     change Sem.run P (α:=Value) (do
      let some t := fn.params[0]? | stuck "slices.overlaps: no parameter types"
      let .slice elem <- underlying t | stuck "slices.overlaps: slice type expected"
      let size <- sizeOf elem
      match (some a:Option Addr),(some b:Option Addr) with
      | some a,some b=>
        if la=0\/lb=0\/size=0 then pure (Value.bool false)
        else if a.block != b.block && (<- frozen a) && (<- frozen b) then unsupported .addressObserved
        else do
         if a.block != b.block then do
          noView a;noView b
          if <- mayBeOne a b then return Value.bool ((<- choose (.extern "sameAddr.stringBytes" 2)) == 1)
         pure (Value.bool (a.block == b.block && a.off < b.off+lb*size && b.off < a.off+la*size))
      | _,_=>pure (Value.bool false)) w=_
     by_cases h0:la=0\/lb=0\/i.size=0
     ·simp [ht,run_underlying he,zt_ hi,h0]
     ·obtain ⟨kB,hkB⟩:∃ k,csB.size=k+1:=⟨csB.size - 1,by omega⟩
      rw [hkB] at hsb
      simp [ht,run_underlying he,zt_ hi,h0,hnb,hnb',frozen,noView,viewAt,mayBeOne,stringish,shape,Sem.run,hsa,hsb,hfa,hfe]
    rw [hrun];rfl
   ·cases h8
  ·cases h8
 ·cases h
theorem UQ_ {f:Nat} {g:Operand} {args:Array Operand} {ts:Array TypeId} {a:Act} (ho:o.op=.call ⟨.value g,args,ts⟩) (hg:a.eval g=.func (.func f) #[] #[]):execOp a.eval o=callFunc f (args.map a.eval):=by
 unfold execOp
 rw [ho]
 simp [resolve,hg,Deferred.ofValue,invoke]
theorem gI_ {f:Nat} {x' y':Opd} (hok:zp_ P o.op (.ovl f x' y')=true) (ev:zl_ Γ (.ovl f x' y') fr st nx K):MOK P o [.f f,x',y'] fr (zY_ [.f f,x',y'] fr) wr st nx K:=by
 simp only [zl_] at ev
 simp only [zp_] at hok
 split at hok
 ·rename_i g args ts ho
  simp only [Bool.and_eq_true] at hok
  obtain ⟨⟨hg,h1⟩,h2⟩:=hok
  obtain ⟨x,y,rfl,hx,hy⟩:=Q0_ h1
  split at ev
  ·rename_i i j off n hbx hby
   split at ev
   ·rename_i fz t x0 hl
    split at ev
    ·exact ev.elim
    ·rename_i hnt _
     split at ev
     ·rename_i t' y0 l c hl'
      split at ev
      ·exact ev.elim
      ·rename_i hij
       have hij:i ≠ j:=fun e=>by subst e;rw [Nat.beq_refl] at hij;cases hij
       obtain ⟨⟨n1,n2,n3,n4⟩,hK⟩:=zf_ ev
       have mx:x' ∈ [.f f,x',y']:=by simp
       have my:y' ∈ [.f f,x',y']:=by simp
       refine ⟨_,st,nx,[],Nat.le_refl _,hK,fun _ _=>rfl,fun i hi=>(by cases hi),fun {X0 I0 w0 σ I w m a} hf hs ha _=>?_⟩
       have hi:σ i=some (.row fz t x0):=by rw [ha i (zj_ mx hbx i (by simp [AV.ids,AV.ids1,AV.ids0])),hl]
       have hj:σ j=some (.rowp t' y0 l c):=by rw [ha j (zj_ my hby j (by simp [AV.ids,AV.ids1,AV.ids0])),hl']
       have hvg:=hf.rv (List.mem_cons_self ..) hg
       obtain ⟨fs,cs,hfo,hfs,hcs⟩:=(hvg:∃ fs cs:Array Value,a.eval g=.func (.func f) fs cs/\ZQ_ I w m [] fs.toList/\ZQ_ I w m [] cs.toList)
       have e1:fs=#[]:=by
        cases hf:fs.toList with
        | nil=>exact Array.toList_inj.1 hf
        | cons=>rw [hf] at hfs;exact hfs.elim
       have e2:cs=#[]:=by
        cases hf:cs.toList with
        | nil=>exact Array.toList_inj.1 hf
        | cons=>rw [hf] at hcs;exact hcs.elim
       subst e1;subst e2
       have hv:=hf.rv mx hx;rw [hbx] at hv
       obtain ⟨ao,len,cap,ea,q1,q2,q3,q4,q5,q6⟩:=hv
       have hv':=hf.rv my hy;rw [hby] at hv'
       obtain ⟨ao',len',cap',eb,p1,p2,p3,p4,p5,p6⟩:=hv'
       obtain ⟨k1,k2,k3,k4,k5⟩:=hs.H.obj i _ hi
       obtain ⟨r1,r2,r3,r4,r5,r6,r7,r8⟩:=hs.H.obj j _ hj
       rcases k5 with ⟨_,k5⟩ | ⟨b,cs,T,fz1,k5,k6,k7,k8,_⟩
       ·omega
       rcases r8 with ⟨_,r8⟩ | ⟨b',cs',T',fz1',r8,r9,r10,r11,_⟩
       ·omega
       rcases q6 with ⟨q6,_⟩ | ⟨b1,q6,q7⟩
       ·rw [k5] at q6;cases q6
       rw [k5] at q6;cases q6
       rcases p6 with ⟨p6,_⟩ | ⟨b1',o',p6,p7,p8⟩
       ·rw [r8] at p6;cases p6
       rw [r8] at p6;cases p6
       have hne:b ≠ b':=fun e=>hij (hs.H.inj i j _ _ b hi hj rfl rfl k5 (e ▸ r8))
       have hs1:0 < cs.size:=by rw [k8];exact Nat.mul_pos (by omega) n3
       have hs2:0 < cs'.size:=by rw [r11];exact Nat.mul_pos (by omega) n4
       have hrun:(execOp a.eval o).run P w=.ok (.value (.bool false)) w:=by
        rw [UQ_ ho hfo]
        have e3:#[x,y].map a.eval=#[.slice (some ⟨b,0,none⟩) len cap,.slice (some ⟨b',o',none⟩) len' cap']:=by
         rw [List.map_toArray,List.map_cons,List.map_cons,List.map_nil,ea,eb,q7,p7]
        rw [e3]
        exact gH_ h2 (a:=⟨b,0,none⟩) (b:=⟨b',o',none⟩) hne k6 r9 k7 hnt hs1 (by omega)
       rw [Qs_]
       exact ZS_ hrun ⟨ZT_,hs,Evo.refl _ _ _,fun _ h=>.inl h⟩
     ·exact ev.elim
   ·exact ev.elim
  ·exact ev.elim
 ·cases hok
theorem uE_ {I:Nat->Prop} {w:World} {m:M} {i:Nat} {t:Ty} {x ys:List t.den} {l c:Nat} {ao:Option Addr} {off k:Nat} {news:List Value} (hok:zq_ I w m i (.rowp t x l c)) (ha:k=0\/∃ b,m.blk i=some b/\ao=some ⟨b,off*t.size,none⟩) (hoff:off<=x.length) (hl:off+k=l) (hy:ys.length=k)
 (h1:news.length=k*t.size) (h2:∀ v ∈ news,v.oneCell'=true) (h3:EA I w t ys fun j=>news[j]?):
 ∃ w',(match ao with | some a=>storeCells a news | none=>pure ()).run P w=.ok () w'/\Fr (fun b=>m.blk i=some b) w w'/\(ZO_ I w w'->zq_ I w' m i (.row false t (x.take off++ys))):=by
 obtain ⟨q1,q2,q3,q4,q5,q6,q7,q8⟩:=hok
 have hl1:(x.take off).length=off:=by simp;omega
 have hl4:(x.take off++ys).length=l:=by rw [List.length_append,hl1,hy];exact hl
 rcases Nat.eq_zero_or_pos k with h0 | h0
 ·subst h0
  have hnews:news=[]:=List.eq_nil_of_length_eq_zero (by simpa using h1)
  subst hnews
  have hys:ys=[]:=List.eq_nil_of_length_eq_zero hy
  subst hys
  refine ⟨w,by cases ao<;>rfl,Fr.refl _ _,fun _=>⟨q1,by rw [hl4];exact q2,by rw [hl4];exact q6,q4,?_⟩⟩
  rcases q8 with q8 | ⟨b,cs,T,fz,r1,r2,r3,r4,r5⟩
  ·exact .inl q8
  ·have r5:EA I w t x fun k=>cs[k]?:=r5
   refine .inr ⟨b,cs,T,fz,r1,r2,r3,r4,?_⟩
   rw [List.append_nil];exact r5.take off
 ·obtain ⟨b,hb,rfl⟩:=ha.resolve_left (by omega)
  rcases q8 with ⟨q8,_⟩ | ⟨b',cs,T,fz,r1,r2,r3,r4,r5⟩
  ·rw [hb] at q8;cases q8
  ·rw [hb] at r1;cases r1
   have r5:EA I w t x fun k=>cs[k]?:=r5
   have hcs:cs.toList.length=cs.size:=Array.length_toList
   have hfit:(off+k)*t.size<=cs.size:=by rw [r4];exact Nat.mul_le_mul_right _ (by omega)
   rw [Nat.add_mul] at hfit
   obtain ⟨w',g1,g2,g3,g4,g5,g6,g7⟩:=z0_ (P:=P) news 0 (off*t.size) w cs r2 r3.1 (by omega) h2
   have hsize:=QR_ cs news (off*t.size) (by omega)
   have hget:∀ j,((cs.toList.take (off*t.size+0)++news++cs.toList.drop (off*t.size+0+news.length)).toArray)[j]?=if j < off*t.size then cs[j]? else if j < off*t.size+news.length then news[j - off*t.size]? else cs[j]?:=fun j=>by
    rw [List.getElem?_toArray,Nat.add_zero,jr_ _ _ _ (by omega)]
    simp only [Array.getElem?_toList]
   refine ⟨w',g1,⟨g5,g6,g7,by omega,fun j _ hj=>g4 j (fun e=>hj (by rw [e];exact hb))⟩,fun hs=>⟨q1,by rw [hl4];exact q2,by rw [hl4];exact q6,q4,.inr ⟨b,_,T,fz,hb,g2,by rw [hsize];exact r3,by rw [hsize];exact r4,?_⟩⟩⟩
   refine EA.append (((r5.take off).mono (fun _ h=>h) hs).congr fun j hj=>?_) ((h3.mono (fun _ h=>h) hs).congr fun j hj=>?_)
   ·rw [hl1] at hj
    show ((cs.toList.take (off*t.size+0)++news++cs.toList.drop (off*t.size+0+news.length)).toArray)[j]?=_
    rw [hget,if_pos hj]
   ·rw [hy] at hj
    show ((cs.toList.take (off*t.size+0)++news++cs.toList.drop (off*t.size+0+news.length)).toArray)[(x.take off).length*t.size+j]?=_
    rw [hget,hl1,if_neg (by omega),if_pos (by omega)];congr 1;omega
theorem uF_ {t:Ty} {x' y':Opd} (hok:zp_ P o.op (.copyP t x' y')=true) (ev:zl_ Γ (.copyP t x' y') fr st nx K):MOK P o [x',y'] fr (zY_ [x',y'] fr) true st nx K:=by
 simp only [zl_,za_.setK_eq] at ev
 simp only [zp_] at hok
 split at hok
 ·rename_i args ts ho
  simp only [Bool.and_eq_true] at hok
  obtain ⟨h1,h2⟩:=hok
  obtain ⟨x,y,rfl,hx,hy⟩:=Q0_ h1
  split at h2
  ·rename_i tt ht
   split at h2
   ·rename_i e he
    have he:=zP_ he
    simp only [Bool.and_eq_true,decide_eq_true_eq] at h2
    obtain ⟨h4,hpos⟩:=h2
    obtain ⟨i0,hi0,hsz⟩:=zQ_ h4
    have hex:∀ a:Act,execOp a.eval o=(do pure (.value (<- Builtin.copy_ ts o.type #[a.eval x,a.eval y]))):=fun a=>by rw [z2_ ho];simp [builtin]
    split at ev
    ·rename_i i off n j off' n' hbx hby
     split at ev
     ·rename_i hij
      have hij:=Nat.eq_of_beq_eq_true hij
      subst hij
      split at ev
      ·rename_i t' x0 l c hl
       obtain ⟨rfl,ev2⟩:=zL_ ev
       obtain ⟨⟨n1,n2,n3⟩,hK⟩:=zf_ ev2
       have n1:off<=x0.length:=n1
       have n2:off'+min n n'<=x0.length:=n2
       refine Jq_ (qr_ (ob:=.rowp t' x0 l c) (ob':=.row false t' (x0.take off++(x0.drop off').take (min n n'))) hl rfl rfl (zj_ zX_ hbx i (by simp [AV.ids,AV.ids1,AV.ids0])) rfl hK fun {I w m a σ} _ hf hH ha=>?_)
       have hi:σ i=some (.rowp t' x0 l c):=by rw [ha i (zj_ zX_ hbx i (by simp [AV.ids,AV.ids1,AV.ids0])),hl]
       have hv:=hf.rv zX_ hx;rw [hbx] at hv
       have hu:=hf.rv Zd_ hy;rw [hby] at hu
       obtain ⟨ao,len,cap,e1,s1,s2,s3,s4,s5,s6⟩:=hv
       obtain ⟨ao',len',cap',e2,p1,p2,p3,p4,p5,p6⟩:=hu
       subst s2;subst p2
       have hok:=hH.obj i _ hi
       obtain ⟨k1,k2,k3,k4,k5,k6,k7⟩:=Xc_ hok
       have hys:((x0.drop off').take (min len len')).length=min len len':=by simp;omega
       obtain ⟨news,g1,g2,g3,g4⟩:∃ news:List Value,news.length=min len len'*t'.size/\(∀ v ∈ news,v.oneCell'=true)/\(EA I w t' ((x0.drop off').take (min len len')) fun k=>news[k]?)/\(Builtin.firstCells t'.size (min len' len) (a.eval y)).run P w=.ok news.toArray w:=by
        rcases Nat.eq_zero_or_pos (min len len') with h0 | h0
        ·refine ⟨[],by rw [h0];simp,fun v hv=>(by cases hv),by rw [h0,List.take_zero];exact EA.nil,?_⟩
         rw [Nat.min_comm,h0,e2]
         cases ao' with
         | none=>rfl
         | some q=>simp [Builtin.firstCells,loadCells,loadCellsFrom]
        ·rcases k7 with ⟨_,k7⟩ | ⟨b,k7,k8⟩
         ·omega
         ·rcases p6 with ⟨p6,_⟩ | ⟨b',ofs,p6,p7,p8⟩
          ·rw [k7] at p6;cases p6
          ·rw [k7] at p6;cases p6
           obtain ⟨news,m1,m2,m3,m4⟩:=Jc_ ((k8.drop off').take (min len len'))
           rw [hys] at m1
           refine ⟨news,m1,m3,m4,?_⟩
           have hofs:=p8 (by omega)
           have:=zB_ (P:=P) (w:=w) (b:=b) (off:=ofs) news 0 #[] (fun j hj=>by rw [Nat.add_zero,hofs,k1];exact m2 j hj)
           rw [e2,p7,Nat.min_comm]
           simp only [Builtin.firstCells,loadCells]
           rw [<- m1,this];simp
       obtain ⟨w',r1,r2,r3⟩:=uE_ (P:=P) (ao:=ao) (off:=off) (k:=min len len') hok (by
        rcases Nat.eq_zero_or_pos (min len len') with h9 | h9
        ·left;exact h9
        ·rcases s6 with ⟨_,_,h6⟩ | ⟨b,ofs,h6,h7,h8⟩
         ·omega
         ·right;exact ⟨b,h6,by rw [h7,h8 (by omega),k1]⟩) n1 n3 hys g1 g2 g3
       refine ⟨.int .i64 (min len' len:Nat),w',.inl (qR_ (hex a) ?_),r2,r3,fun _=>zS_ (qB_ (by omega))⟩
       have q3':(Builtin.firstCells i0.size (Nat.min len' len) (a.eval y)).run P w=.ok news.toArray w:=by rw [hsz];exact g4
       have q2':(Builtin.lenOf (a.eval y)).run P w=.ok len' w:=by rw [e2];rfl
       cases ao with
       | none=>
         have q4':w=w':=by cases r1;rfl
         subst q4'
         simp [Builtin.copy_,ht,e1,run_underlying he,q2',zt_ hi0,q3',goInt]
       | some ad=>
         have q4':(storeCells ad news).run P w=.ok () w':=r1
         simp [Builtin.copy_,ht,e1,run_underlying he,q2',zt_ hi0,q3',q4',goInt]
      ·exact ev.elim
     ·exact ev.elim
    ·exact ev.elim
   ·cases h2
  ·cases h2
 ·cases hok
theorem g5_ {t:Ty} {z:t.den} {x':Opd} (hok:zp_ P o.op (.clr t z x')=true) (ev:zl_ Γ (.clr t z x') fr st nx K):MOK P o [x'] fr (zY_ [x'] fr) true st nx K:=by
 simp only [zl_,za_.setK_eq] at ev
 simp only [zp_] at hok
 split at hok
 ·rename_i args ts ho
  simp only [Bool.and_eq_true] at hok
  obtain ⟨h1,h2⟩:=hok
  obtain ⟨x,rfl,hx⟩:=j4_ h1
  split at h2
  ·rename_i tt ht
   split at h2
   ·rename_i e he
    have he:=zP_ he
    simp only [Bool.and_eq_true] at h2
    obtain ⟨h4,h5⟩:=h2
    obtain ⟨i0,hi0,hsz⟩:=zQ_ h4
    obtain ⟨i',v,hi',hv0,hz⟩:=Jb_ h5
    rw [hi0] at hi';cases hi'
    have hvs:v.cells.size=t.size:=by
     have:=zU_ t _ _ (hz (fun _=>False) default);simpa using this
    have hone:∀ q ∈ v.cells.toList,q.oneCell'=true:=xh_ t _ _ (hz (fun _=>False) default)
    have hex:∀ a:Act,execOp a.eval o=(do pure (.value (<- Builtin.clear_ ts o.type #[a.eval x]))):=fun a=>by rw [z2_ ho];simp [builtin]
    split at ev
    ·rename_i i off n hb
     split at ev
     ·rename_i t' x0 hl
      obtain ⟨rfl,ev2⟩:=zL_ ev
      obtain ⟨n1,hK⟩:=zf_ ev2
      have n1:off+n<=x0.length:=n1
      refine Jq_ (qr_ (ob:=.row false t' x0) (ob':=.row false t' (x0.take off++List.replicate n z++x0.drop (off+n))) hl rfl rfl (zj_ qn_ hb i (by simp [AV.ids,AV.ids1,AV.ids0])) rfl hK fun {I w m a σ} _ hf hH ha=>?_)
      have hi:σ i=some (.row false t' x0):=by rw [ha i (zj_ qn_ hb i (by simp [AV.ids,AV.ids1,AV.ids0])),hl]
      have hv:=hf.rv qn_ hx;rw [hb] at hv
      obtain ⟨ao,len,cap,e1,s1,s2,s3,s4,s5,s6⟩:=hv
      subst s2
      have hok:=hH.obj i _ hi
      have hzl:(Builtin.zeroCells v.cells len).toList.length=len*t'.size:=by rw [Array.length_toList,Z3_,hvs]
      have hz1:∀ u ∈ (Builtin.zeroCells v.cells len).toList,u.oneCell'=true:=fun u hu=>by
       simp only [Builtin.zeroCells,Array.mem_toList_iff,Array.mem_map,Array.mem_range] at hu
       obtain ⟨j,hj,rfl⟩:=hu
       have hpos:0 < v.cells.size:=by
        rcases Nat.eq_zero_or_pos v.cells.size with h | h
        ·rw [h] at hj;omega
        ·exact h
       have hm:=Nat.mod_lt j hpos
       rw [getElem!_pos v.cells _ hm]
       exact hone _ (by simp)
      have hrl:(List.replicate len z).length=len:=List.length_replicate
      have hsz':m.sz i=t'.size:=hok.1
      obtain ⟨w',r1,r2,r3⟩:=WU_ (P:=P) (ao:=ao) (off:=off) (n:=len) (k:=len) (ys:=List.replicate len z) hok (by
       rcases s6 with ⟨_,_,h6⟩ | ⟨b,ofs,h6,h7,h8⟩
       ·left;omega
       ·rcases Nat.eq_zero_or_pos len with h9 | h9
        ·left;omega
        ·right;exact ⟨b,h6,by rw [h7,h8 (by omega),hsz']⟩) (Nat.le_refl _) n1 (by omega) hzl hz1 (by rw [List.take_of_length_le (l:=List.replicate len z) (by omega)];exact jm_ (hz _ _))
      refine ⟨.tuple #[],w',.inl (qR_ (hex a) ?_),r2,fun hs=>by have:=r3 hs;rwa [List.take_of_length_le (l:=List.replicate len z) (by omega)] at this,fun _=>trivial⟩
      rcases Nat.eq_zero_or_pos len with h0 | h0
      ·have hnil:(Builtin.zeroCells v.cells len).toList=[]:=List.eq_nil_of_length_eq_zero (by rw [hzl,h0,Nat.zero_mul])
       have:w=w':=by
        rw [hnil] at r1
        cases ao with
        | none=>cases r1;rfl
        | some q=>cases (show Result.ok () w=Result.ok () w' from r1);rfl
       subst this
       rw [e1,h0]
       cases ao with
       | none=>simp [Builtin.clear_,ht,run_underlying he]
       | some q=>simp [Builtin.clear_,ht,run_underlying he]
      ·cases ao with
       | none=>
         rcases s6 with ⟨_,_,h6⟩ | ⟨b,ofs,_,h7,_⟩
         ·omega
         ·cases h7
       | some q=>
         obtain ⟨nn,rfl⟩:∃ k,len=k+1:=⟨len - 1,by omega⟩
         have r1':(storeCells q (Builtin.zeroCells v.cells (nn+1)).toList).run P w=.ok () w':=r1
         rw [e1]
         simp [Builtin.clear_,ht,run_underlying he,Z2_ hi0 hv0,r1']
     ·exact ev.elim
    ·exact ev.elim
   ·cases h2
  ·cases h2
 ·cases hok
theorem yQ_ {u:Prop} {t ue e:TypeId} {i:TypeInfo} {v:Value} {w:World} {ty:TypeId} {ao:Option Addr} {sLen sCap n:Nat} {k:IntKind} {ik:IntKind} {olds:List Value} (ht:P.underlying t=some (.slice e)) (hu:P.underlying ue=some (.int ik)) (hi:P.info? e=some i) (hz:i.zero=some v) (hv:v.cells.size=i.size)
 (hroom:¬ sLen+n<=sCap) (h0n:0 < n) (hs0:0 < i.size) (hb:(sLen+n)*i.bytes<=140737488355328) (h47:sLen+n<=140737488355328) (hb0:0 < i.bytes)
 (g1:olds.length=sLen*i.size) (g2:W9_ P w (Builtin.firstCells i.size sLen (.slice ao sLen sCap)) olds) (g3:∀ b0 cs T fz,ao=some ⟨b0,0,none⟩->w.heap[b0]?=some (.cells cs T fz)->∀ k,k < sLen*i.size->olds[k]?=cs[k]?):
 ∃ w' cap',(Builtin.append_ #[t,ue] ty #[.slice ao sLen sCap,.int k n]).run P w=.ok (.slice (some ⟨w.heap.size,0,none⟩) (sLen+n) cap') w'/\Appended u w w' i.size ao (some ⟨w.heap.size,0,none⟩) sLen n cap' (Builtin.zeroCells v.cells n).toList/\Fr (fun _=>False) w w':=by
 have hw:IntKind.i64.wrap (n:Int)=n:=wy_ ⟨by simp [IntKind.min,IntKind.signed,IntKind.bits]<;>omega,by simp [IntKind.max,IntKind.signed,IntKind.bits];omega⟩
 have hneg:¬ ((n:Int) < 0):=by omega
 have h63':¬ (9223372036854775807 < (sLen:Int)+n):=by omega
 have hnb:(n:Int)*i.bytes<=140737488355328:=by
  have:n*i.bytes<=(sLen+n)*i.bytes:=Nat.mul_le_mul_right _ (by omega)
  have h:((n*i.bytes:Nat):Int)<=140737488355328:=by omega
  rwa [Int.natCast_mul] at h
 have hnb':¬ (281474976710656 < (n:Int)*i.bytes):=by omega
 have hn:(Builtin.zeroCells v.cells n).toList.length=n*i.size:=by rw [Array.length_toList,Z3_,hv]
 have hfit:=growslice_fits (need:=sLen+n) (old:=sCap) (bytes:=i.bytes) (by omega) hb
 have hfit':¬ (281474976710656 < Builtin.nextslicecap (sLen+n) sCap*i.bytes):=by omega
 have hb1:i.bytes ≠ 0:=by omega
 have h0':¬ (n*i.size=0):=by have:=Nat.mul_pos h0n hs0;omega
 refine ⟨_,_,?_,vc_ (u:=u) (z:=v.cells) (e:=e) (sCap:=sCap) hv (by unfold maxLen;omega) hn g1 g3,⟨rfl,rfl,rfl,by simp,fun k hk _=>XG_ w.drew _ hk⟩⟩
 have y1:=g2 w.drew (fun _=>rfl)
 simp [Builtin.append_,run_underlying ht,run_underlying hu,zt_ hi,hroom,asInt,asIntOf,hw,typeInfo,hi,hnb',hneg,hfit',hb1,h63',Question.forced,y1,h0',Z2_ hi hz,newRow,grownCap]
theorem yR_ {t:Ty} {bytes:Nat} {z:t.den} {x' n':Opd} (hok:zp_ P o.op (.appendzP t bytes z x' n')=true) (ev:zl_ Γ (.appendzP t bytes z x' n') fr st nx K):MOK P o [x',n'] fr (zY_ [x',n'] fr) true st nx K:=by
 simp only [zl_,za_.setK_eq] at ev
 simp only [zp_] at hok
 split at hok
 ·rename_i args ts ho
  simp only [Bool.and_eq_true] at hok
  obtain ⟨h1,h2⟩:=hok
  obtain ⟨x,y,rfl,hx,hy⟩:=Q0_ h1
  split at h2
  ·rename_i tt u hts
   simp only [Bool.and_eq_true] at h2
   obtain ⟨h2,h3⟩:=h2
   have hu:∃ ik,P.underlying u=some (.int ik):=by
    unfold Ux_ at h3
    split at h3
    ·exact ⟨_,by assumption⟩
    ·cases h3
   obtain ⟨ik,hu⟩:=hu
   split at h2
   ·rename_i e he
    have he:=zP_ he
    simp only [Bool.and_eq_true,decide_eq_true_eq] at h2
    obtain ⟨⟨⟨⟨h4,h5⟩,h6⟩,h7⟩,h8⟩:=h2
    obtain ⟨ti,hti,hsz⟩:=zQ_ h4
    obtain ⟨i',hi',hby⟩:=K8_ h5
    rw [hti] at hi';cases hi'
    obtain ⟨i',v,hi',hv,hz⟩:=Jb_ h8
    rw [hti] at hi';cases hi'
    have hvs:v.cells.size=t.size:=by
     have:=zU_ t _ _ (hz (fun _=>False) default);simpa using this
    have hts':ts=#[tt,u]:=Array.toList_inj.1 hts
    subst hts'
    have hex:∀ a:Act,execOp a.eval o=(do pure (.value (<- Builtin.append_ #[tt,u] o.type #[a.eval x,a.eval y]))):=fun a=>by rw [z2_ ho];simp [builtin]
    obtain ⟨kk,N,hN,ev1⟩:=zR_ ev
    split at ev1
    ·rename_i i off kn hb
     split at ev1
     ·split at ev1
      ·rename_i t' x0 l c hl
       obtain ⟨rfl,ev2⟩:=zL_ ev1
       obtain ⟨⟨n0,n1,n2,n3,n4,n5⟩,hK⟩:=zf_ ev2
       have n1:(c:Int) < kn+N:=n1
       have n2:kn<=x0.length:=n2
       have n3:x0.length=l:=n3
       have n4:((kn:Int)+N)*bytes<=140737488355328:=n4
       have n5:(kn:Int)+N<=140737488355328:=n5
       have hiF:i ∈ zY_ [x',n'] fr:=zj_ zX_ hb i (by simp [AV.ids,AV.ids1,AV.ids0])
       refine ⟨.own nx,_,nx+1,[i,nx],Nat.le_succ _,hK,fun j hj=>?_,fun j hj=>?_,fun {X0 I0 w0 σ I w m a} hf hs ha hNu=>?_⟩
       ·simp only [List.mem_cons,List.not_mem_nil,or_false,not_or] at hj
        rw [za_.get_cons,if_neg hj.2,za_.get_set,if_neg hj.1]
       ·simp only [List.mem_cons,List.not_mem_nil,or_false] at hj
        rcases hj with rfl | rfl
        ·exact .inl ⟨rfl,hiF,by rw [hl];intro h;cases h⟩
        ·exact .inr ⟨Nat.le_refl _,Nat.lt_succ_self _⟩
       ·have hun:=hNu nx (Nat.le_refl _) (Nat.lt_succ_self _)
        have hσ:σ i=some (.rowp t' x0 l c):=by rw [ha i hiF,hl]
        have hui:m.used i:=hs.H.lt i (by rw [hσ];intro h;cases h)
        have hne:i ≠ nx:=fun e=>hun (e ▸ hui)
        have hok:=hs.H.obj i _ hσ
        have hv1:=hf.rv zX_ hx;rw [hb] at hv1
        obtain ⟨ao,len,cap,e1,s1,s2,s3,s4,s5,s6⟩:=hv1
        subst s2
        have hv2:=hf.rv Zd_ hy;rw [hN] at hv2
        have hv2:a.eval y=.int kk (N.toNat:Int):=by rw [(zi_ hv2).1];congr 1;omega
        obtain ⟨k1,k2,k3,k4,k5,k6,k7,k8⟩:=hok
        have hrow:zq_ I w m i (.row false t' x0):=⟨k1,by omega,k3,k4,k8⟩
        have hold:∃ olds:List Value,olds.length=len*t'.size/\W9_ P w (Builtin.firstCells t'.size len (.slice ao len cap)) olds/\(∀ b0 cs T fz,ao=some ⟨b0,0,none⟩->w.heap[b0]?=some (.cells cs T fz)->∀ k,k < len*t'.size->olds[k]?=cs[k]?)/\
         (x0.take len=[]\/∃ (b:Nat) (cs:Array Value) (T:TypeId) (fz:Nat × Nat),ao=some ⟨b,0,none⟩/\w.heap[b]?=some (.cells cs T fz)/\EA I w t' (x0.take len) fun k=>cs[k]?):=by
         rcases Nat.eq_zero_or_pos len with h0 | h0
         ·subst h0
          refine ⟨[],by simp,fun w' _=>?_,fun b0 cs T fz _ _ k hk=>by omega,.inl (by simp)⟩
          cases ao with
          | none=>rfl
          | some q=>simp [Builtin.firstCells,loadCells,loadCellsFrom]
         ·rcases k8 with ⟨_,k8⟩ | ⟨b,cs,T,fz,r1,r2,r3,r4,r5⟩
          ·omega
          ·rcases s6 with ⟨s6,_⟩ | ⟨b',ofs,s6,s7,s8⟩
           ·rw [r1] at s6;cases s6
           ·rw [r1] at s6;cases s6
            have hofs:=s8 (by omega)
            rw [Nat.zero_mul] at hofs
            subst hofs
            have r5:EA I w t' x0 fun k=>cs[k]?:=r5
            have hfit:len*t'.size<=cs.size:=by rw [r4];exact Nat.mul_le_mul_right _ (by omega)
            refine ⟨cs.toList.take (len*t'.size),by simp;omega,fun w' hw=>?_,fun b0 cs0 T0 fz0 e e' k hk=>?_,.inr ⟨b,cs,T,fz,s7,r2,r5.take len⟩⟩
            ·have:=zB_ (P:=P) (w:=w') (b:=b) (off:=0) (cs.toList.take (len*t'.size)) 0 #[] (fun j hj=>by
              simp only [List.length_take,Array.length_toList] at hj
              rw [hw,Zs_ r2];simp)
             rw [s7]
             simp only [Builtin.firstCells,loadCells]
             rw [show (cs.toList.take (len*t'.size)).length=len*t'.size by simp;omega] at this
             rw [this];simp
            ·rw [s7] at e;cases e
             rw [r2] at e';cases e'
             rw [List.getElem?_take,if_pos hk,Array.getElem?_toList]
        obtain ⟨olds,g1,g2,g3,g4⟩:=hold
        have hnb:(len+N.toNat)*bytes<=140737488355328:=by
         have:(((len+N.toNat)*bytes:Nat):Int)<=140737488355328:=by rw [Int.natCast_mul,Int.natCast_add,Int.toNat_of_nonneg n0];exact n4
         omega
        obtain ⟨w',cap',r1,r2,r3⟩:=yQ_ (P:=P) (u:=t'=.int .u8) (ty:=o.type) (ao:=ao) (sLen:=len) (sCap:=cap) (n:=N.toNat) (k:=kk) (w:=w) (olds:=olds) he hu hti hv (by rw [hsz];exact hvs) (by omega) (by omega) (by omega) (by rw [hby];exact hnb) (by omega) (by omega) (by rw [hsz];exact g1) (by rw [hsz];exact g2) (by rw [hsz];exact g3)
        rw [hsz] at r2
        have hll:(List.replicate N.toNat z).length=N.toNat:=List.length_replicate
        have htl:(x0.take len).length=len:=by simp;omega
        have hsame:ZO_ I w w':=fun b hb=>r3.block b (hs.H.Ilt b hb) id
        obtain ⟨blk,g5,g6,g7⟩:=kr_ (nx:=nx) (m:=m) (x0:=x0.take len) (ys:=List.replicate N.toNat z) hsame (by rw [htl,hll];exact r2) (by rw [Array.length_toList,Z3_,hvs,hll]) (jm_ (hz _ _)) g4
        rw [htl,hll] at g7
        have hblk:blk=some w.heap.size:=by
         obtain ⟨ao1,_,_,e2,_,_,_,_,_,h6⟩:=g7
         cases e2
         rw [M.push_blk] at h6
         rcases h6 with ⟨_,h6,_⟩ | ⟨b,h6,h7⟩
         ·cases h6
         ·cases h7;exact h6
        subst hblk
        have hE:Evo I w m I w' (m.push nx (some w.heap.size) cap' (x0.take len++List.replicate N.toNat z).length t'.size):=⟨fun _ h=>h,hsame,M.push_le hun⟩
        have hget:∀ j,upd σ [i,nx] ((nx,Obj.row false t' (x0.take len++List.replicate N.toNat z)) :: st.set i (.row false t' x0)) j=if j=nx then some (.row false t' (x0.take len++List.replicate N.toNat z)) else if j=i then some (.row false t' x0) else σ j:=fun j=>by
         unfold upd
         simp only [List.mem_cons,List.not_mem_nil,or_false,za_.get_cons,za_.get_set]
         by_cases h1:j=nx
         ·simp [h1]
         ·by_cases h2:j=i
          ·simp [h2]
          ·simp [h1,h2]
        have hgn:∀ o',upd σ [i,nx] ((nx,Obj.row false t' (x0.take len++List.replicate N.toNat z)) :: st.set i (.row false t' x0)) nx=some o'->o'=.row false t' (x0.take len++List.replicate N.toNat z):=fun o' e=>by rw [hget,if_pos rfl] at e;exact (Option.some.inj e).symm
        have hgi:∀ o',upd σ [i,nx] ((nx,Obj.row false t' (x0.take len++List.replicate N.toNat z)) :: st.set i (.row false t' x0)) i=some o'->o'=.row false t' x0:=fun o' e=>by rw [hget,if_neg hne,if_pos rfl] at e;exact (Option.some.inj e).symm
        have hib:(m.push nx (some w.heap.size) cap' (x0.take len++List.replicate N.toNat z).length t'.size).blk i=m.blk i:=((M.push_le hun).2 i hui).1
        have hilt:∀ b,m.blk i=some b->b < w.heap.size:=fun b e=>(hs.H.obj i _ hσ).lt rfl e
        have hrow':zq_ I w m i (.row false t' x0):=hrow
        refine ZS_ (qR_ (hex a) (by rw [e1,hv2];exact r1)) ⟨g7,hs.step hE (fun j=>j=i\/j=nx) (fun j hj=>by rw [hget,if_neg (fun h=>hj (.inr h)),if_neg (fun h=>hj (.inl h))]) (r3.weak fun b h=>h.elim) (fun b h=>.inl h) (fun b h=>Nat.lt_of_lt_of_le (hs.H.Ilt b h) r3.size)
         (fun j o' hj e=>?_) (fun j o' b hj e hl' hbb=>?_) (fun j k o' o'' b hj hk e e' hl' hl'' hbb hbb'=>?_) (fun j o' b hj e hm2 hbb hI=>?_) (fun j t2 x2 b hj e hbb=>?_),hE,fun j hj=>?_⟩
        ·rcases hj with rfl | rfl
         ·cases hgi o' e
          exact ⟨.inl hui,zq_.mono (fun _ h=>h) hsame (M.push_le hun) hui (fun hl' b hb=>r3.block b (hilt b hb) id) hrow⟩
         ·cases hgn o' e;exact ⟨.inr rfl,g6⟩
        ·rcases hj with rfl | rfl
         ·rw [hib] at hbb
          exact .inr ⟨_,_,.inl rfl,hσ,rfl,fun _=>rfl,hbb⟩
         ·rw [M.push_blk] at hbb;cases hbb;exact .inl (Nat.le_refl _)
        ·rcases hj with rfl | rfl<;>rcases hk with rfl | rfl
         ·rfl
         ·rw [hib] at hbb;rw [M.push_blk] at hbb';cases hbb';have:=hilt _ hbb;omega
         ·rw [hib] at hbb';rw [M.push_blk] at hbb;cases hbb;have:=hilt _ hbb';omega
         ·rfl
        ·rcases hj with rfl | rfl
         ·rw [hib] at hbb;exact hs.H.notI _ _ b hσ rfl hbb hI
         ·rw [M.push_blk] at hbb;cases hbb;have:=hs.H.Ilt _ hI;omega
        ·rcases hj with rfl | rfl
         ·cases hgi _ e
         ·cases hgn _ e
        ·rcases hj with h | h
         ·exact .inl h
         ·subst h;exact .inr ⟨Nat.le_refl _,Nat.lt_succ_self _⟩
      ·exact ev1.elim
     ·exact ev1.elim
    ·exact ev1.elim
   ·cases h2
  ·cases h2
 ·cases hok
end ops
end Go.Eng
