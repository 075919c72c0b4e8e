/- Parts of the proof: EOps6. No condition. -/
import Derived.Test.YtimkdohmkfjfaaaGreatDoorXH03
import Derived.Laws.BytesString
import Derived.Laws.Append
namespace Go.Eng
set_option linter.unusedVariables false
set_option linter.unusedSimpArgs false
open Go.RowKit
section ops
variable {P:Program} {Γ:Env} {o:Oper} {fr:zd_} {F:List Nat} {wr:Bool} {st:zc_} {nx:Nat} {K:AV->zc_->Nat->Prop}
theorem kV_ {t e:TypeId} {ts:Array TypeId} {ty:TypeId} {b:Option Addr} {n c:Nat} {w:World} (h0:ts[0]?=some t) (ht:P.underlying t=some (.slice e)):
 (Builtin.len_ ts ty #[.slice b n c]).run P w=.ok (.int .i64 n) w:=by
 simp [Builtin.len_,h0,run_underlying ht,goInt]
theorem Wz_ (j:Nat):∀ (l r:List AV),YR_ j (l++r)=YR_ j l++YR_ j r
 | [],_=>rfl
 | v :: l,r=>by show _ :: YR_ j (l++r)=_;rw [Wz_ j l r];rfl
theorem vY_ {I:Nat->Prop} {w:World} {m:M} {j:Nat} (hu:m.used j):∀ (t:Ty) (x:t.den) (cs:List Value),RC (m.rg j).dp (m.rg j).wc t x cs->zM_ I w m (YR_ j (t.cells x)) cs
 | .int k,n,cs,h=>by simp only [RC] at h;obtain ⟨rfl,h⟩:=h;exact ⟨⟨rfl,h⟩,trivial⟩
 | .bool,b,cs,h=>by simp only [RC] at h;subst h;exact ⟨rfl,trivial⟩
 | .str,l,cs,h=>by simp only [RC] at h;obtain ⟨s,rfl,h⟩:=h;exact ⟨⟨s,rfl,h⟩,trivial⟩
 | .nil,_,cs,h=>by simp only [RC] at h;subst h;exact trivial
 | .cons a b,x,cs,h=>by
   simp only [RC] at h
   obtain ⟨c1,c2,rfl,h1,h2⟩:=h
   show zM_ I w m (YR_ j (a.cells x.1++b.cells x.2)) (c1++c2)
   rw [Wz_]
   exact kx_ (vY_ hu a _ _ h1) (vY_ hu b _ _ h2)
 | .sl t,l,cs,h=>by
   obtain ⟨ao,len,cap,rfl,h'⟩:=JG_.1 h
   exact ⟨⟨⟨ao,len,cap,rfl,h'⟩,hu⟩,trivial⟩
def uI_ (v v':Value):Prop:=v'=v\/∃ k n n',v=.int k n/\v'=.int k n'
theorem G9_ {I:Nat->Prop} {w:World} {m:M} {j:Nat}:∀ (l:List AV) (es es':List Value),zM_ I w m (YR_ j l) es->es'.length=es.length->(∀ q (h:q < es.length) (h':q < es'.length),uI_ es[q] es'[q])->zM_ I w m (bD_ j l) es'
 | [],[],[],_,_,_=>trivial
 | [],[],_ :: _,_,e,_=>by cases e
 | [],_ :: _,_,h,_,_=>h.elim
 | v :: l,[],_,h,_,_=>h.elim
 | v :: l,e :: es,[],_,e2,_=>by cases e2
 | v :: l,e :: es,e' :: es',h,e2,hl=>by
   have h0:=hl 0 (by simp) (by simp)
   refine ⟨?_,G9_ l es es' h.2 (by simpa using e2) fun q a b=>by have:=hl (q+1) (by simpa using a) (by simpa using b);simpa using this⟩
   have h0:uI_ e e':=h0
   have one:e'.oneCell'=true:=by
    rcases h0 with rfl | ⟨k,n,n',rfl,rfl⟩
    ·exact WU_ h.1
    ·rfl
   cases v with
   | imm t x=>
     obtain ⟨⟨ao,len,cap,e3,h3⟩,hu⟩:=(h.1:RV0 I w m (.jsl j t x) e)
     rcases h0 with rfl | ⟨k,n,n',h4,_⟩
     ·exact ⟨⟨ao,len,cap,e3,h3⟩,hu⟩
     ·rw [h4] at e3;cases e3
   | _=>exact one
theorem GE_ {u w:World} {b base:Nat} (h:ShB u w b):∀ (es:List Value),(∀ q (hq:q < es.length),u.cell? ⟨b,base+q,none⟩=some es[q])->∃ es':List Value,es'.length=es.length/\(∀ q (hq:q < es'.length),w.cell? ⟨b,base+q,none⟩=some es'[q])/\∀ q (h:q < es.length) (h':q < es'.length),uI_ es[q] es'[q]:=by
 have one:∀ o v,u.cell? ⟨b,o,none⟩=some v->∃ v',w.cell? ⟨b,o,none⟩=some v'/\uI_ v v':=fun o v e=>by
  rcases h with h | ⟨cs,cs',T,fz,h1,h2,h3,h4⟩
  ·exact ⟨v,by simp only [World.cell?,h];exact e,.inl rfl⟩
  ·rw [ZI_ h1] at e
   rw [ZI_ h2]
   rcases h4 o with h5 | ⟨k,n,n',h5,h6,_⟩
   ·exact ⟨v,by rw [h5];exact e,.inl rfl⟩
   ·rw [h5] at e;cases e
    exact ⟨_,h6,.inr ⟨k,n,n',rfl,rfl⟩⟩
 intro es
 have key:∀ (es:List Value) (o:Nat),(∀ q (hq:q < es.length),u.cell? ⟨b,o+q,none⟩=some es[q])->∃ es':List Value,es'.length=es.length/\(∀ q (hq:q < es'.length),w.cell? ⟨b,o+q,none⟩=some es'[q])/\∀ q (h:q < es.length) (h':q < es'.length),uI_ es[q] es'[q]:=fun es=>by
  induction es with
  | nil=>intro o _;exact ⟨[],rfl,fun q hq=>by simp at hq,fun q hq=>by simp at hq⟩
  | cons v r ih=>
    intro o hc
    obtain ⟨v',g1,g2⟩:=one o v (by have:=hc 0 (by simp);simpa using this)
    obtain ⟨r',k1,k2,k3⟩:=ih (o+1) fun q hq=>by have:=hc (q+1) (by simpa using hq);rw [show o+1+q=o+(q+1) by omega];simpa using this
    refine ⟨v' :: r',by simp [k1],fun q hq=>?_,fun q a c=>?_⟩
    ·cases q with
     | zero=>simpa using g1
     | succ q=>have:=k2 q (by simpa using hq);rw [show o+(q+1)=o+1+q by omega];simpa using this
    ·cases q with
     | zero=>simpa using g2
     | succ q=>have:=k3 q (by simpa using a) (by simpa using c);simpa using this
 exact key es base
theorem HB_ {x':Opd} (hok:zu_ P o.op (.len x')=true) (ev:zt_ Γ (.len x') fr st nx K):MOK P o [x'] fr (Zd_ [x'] fr) wr st nx K:=by
 simp only [zt_] at ev
 simp only [zu_] at hok
 split at hok
 ·rename_i args ts ho
  simp only [Bool.and_eq_true] at hok
  obtain ⟨h1,h2⟩:=hok
  obtain ⟨x,rfl,hx⟩:=XT_ h1
  split at h2
  ·rename_i t ht
   obtain ⟨e,he⟩:=JR_ h2
   have hex:∀ (a:Act),execOp a.eval o=(do pure (.value (<- Builtin.len_ ts o.type #[a.eval x]))):=fun a=>by rw [qz_ ho];simp [builtin]
   split at ev
   ·rename_i t' l hb
    refine zz_ ev fun {I w m a σ} hf hH ha=>⟨_,hex a,?_⟩
    have hv:=hf.rv qf_ hx;rw [hb] at hv
    obtain ⟨ao,len,cap,e1,h3,h4,h5,_⟩:=hv
    exact ⟨_,zY_ (Qm_ (by omega)),by rw [e1,h3];exact kV_ ht he⟩
   ·rename_i hb
    refine zz_ ev fun {I w m a σ} hf hH ha=>⟨_,hex a,?_⟩
    have hv:=hf.rv qf_ hx;rw [hb] at hv
    have hv:a.eval x=.slice none 0 0:=hv
    exact ⟨_,zY_ (n:=((0:Nat):Int)) (Qm_ (Nat.zero_le _)),by rw [hv];exact kV_ ht he⟩
   ·rename_i i hb
    split at ev
    ·rename_i fz t' l hl
     refine zz_ ev fun {I w m a σ} hf hH ha=>⟨_,hex a,?_⟩
     have hv:=hf.rv qf_ hx;rw [hb] at hv
     have hi:σ i=some (.row fz t' l):=by rw [ha i (zx_ qf_ hb i (by simp [AV.ids,AV.ids1,AV.ids0])),hl]
     obtain ⟨k1,k2,k3,k4,k5⟩:=ZU_ (hH.obj i _ hi)
     obtain ⟨ao,len,cap,e1,h3,h4,h5,h6,h7,_⟩:=hv
     exact ⟨_,zY_ (Qm_ (by omega)),by rw [e1,show len=l.length by omega];exact kV_ ht he⟩
    ·exact ev.elim
   ·rename_i i off n hb
    refine zz_ ev fun {I w m a σ} hf hH ha=>⟨_,hex a,?_⟩
    have hv:=hf.rv qf_ hx;rw [hb] at hv
    obtain ⟨ao,len,cap,e1,h3,h4,h5,h6,h7,_⟩:=hv
    exact ⟨_,zY_ (Qm_ (by omega)),by rw [e1,h4];exact kV_ ht he⟩
   ·rename_i i t' l hb
    refine zz_ ev fun {I w m a σ} hf hH ha=>⟨_,hex a,?_⟩
    have hv:=hf.rv qf_ hx;rw [hb] at hv
    obtain ⟨⟨ao,len,cap,e1,h3,h4,h5,_⟩,_⟩:=hv
    exact ⟨_,zY_ (Qm_ (by omega)),by rw [e1,h3];exact kV_ ht he⟩
   ·exact ev.elim
  ·cases h2
 ·cases hok
theorem kp_ {t e:TypeId} {i:TypeInfo} {b ofs len cap:Nat} {k:IntKind} {n:Int} {w:World} (h1:P.underlying t=some (.slice e)) (h2:P.info? e=some i) (h0:0<=n) (hlt:n < (len:Int)):
 (Instr.indexAt t (.slice (some ⟨b,ofs,none⟩) len cap) (.int k n)).run P w=.ok (.pointer (some ⟨b,ofs+n.toNat*i.size,none⟩)) w:=by
 simp [Instr.indexAt,asIntOf,run_underlying h1,h0,hlt,zP_ h2,ZL_]
theorem uc_ {size:Nat} {x' y':Opd} (hok:zu_ P o.op (.indexSl size x' y')=true) (ev:zt_ Γ (.indexSl size x' y') fr st nx K):MOK P o [x',y'] fr (Zd_ [x',y'] fr) wr st nx K:=by
 simp only [zt_] at ev
 simp only [zu_] at hok
 split at hok
 ·rename_i t x y ho
  simp only [Bool.and_eq_true] at hok
  obtain ⟨⟨hx,hy⟩,h3⟩:=hok
  split at h3
  ·rename_i e he
   have he:=qy_ he
   obtain ⟨i,hi,hn⟩:=qa_ h3
   have hex:∀ (a:Act),execOp a.eval o=(do pure (.value (<- Instr.indexAt t (a.eval x) (a.eval y)))):=fun a=>by unfold execOp;rw [ho]
   split at ev
   ·rename_i t' l k n hb' hb
    split at ev
    ·rename_i hsz
     have hsz:=Nat.eq_of_beq_eq_true hsz
     obtain ⟨⟨h0,hlt⟩,hK⟩:=zh_ ev
     refine zz_ hK fun {I w m a σ} hf hH ha=>⟨_,hex a,?_⟩
     have hv:=hf.rv z4_ hx;rw [hb'] at hv
     have hu:=hf.rv ZD_ hy;rw [hb] at hu
     obtain ⟨ao,len,cap,e1,h4,h5,h6,h7⟩:=hv
     obtain ⟨b,ofs,rfl,hbI,h8⟩:=h7 (by omega)
     refine ⟨.pointer (some ⟨b,ofs+n.toNat*t'.size+0,none⟩),⟨b,ofs,rfl,hbI,by omega,h8⟩,?_⟩
     rw [e1,(zj_ hu).1,kp_ he hi h0 (by omega),hn,hsz];rfl
    ·exact ev.elim
   ·rename_i j k n hb' hb
    split at ev
    ·rename_i fz t' l hl
     split at ev
     ·rename_i hsz
      have hsz:=Nat.eq_of_beq_eq_true hsz
      obtain ⟨⟨h0,hlt⟩,hK⟩:=zh_ ev
      refine zz_ hK fun {I w m a σ} hf hH ha=>⟨_,hex a,?_⟩
      have hv:=hf.rv z4_ hx;rw [hb'] at hv
      have hu:=hf.rv ZD_ hy;rw [hb] at hu
      have hj:σ j=some (.row fz t' l):=by rw [ha j (zx_ z4_ hb' j (by simp [AV.ids,AV.ids1,AV.ids0])),hl]
      obtain ⟨k1,k2,k3,k4,k5⟩:=ZU_ (hH.obj j _ hj)
      obtain ⟨ao,len,cap,e1,h3,h4,h5,h6,h7,h8⟩:=hv
      rcases h8 with ⟨_,_,h8⟩ | ⟨b,h8,rfl⟩
      ·omega
      ·refine ⟨.pointer (some ⟨b,n.toNat*m.sz j+0,none⟩),⟨b,h8,rfl,h3⟩,?_⟩
       rw [e1,(zj_ hu).1,kp_ he hi h0 (by omega),hn,<- hsz,k1];simp
     ·exact ev.elim
    ·exact ev.elim
   ·rename_i j off q k n hb' hb
    split at ev
    ·rename_i fz t' l hl
     split at ev
     ·rename_i hsz
      have hsz:=Nat.eq_of_beq_eq_true hsz
      obtain ⟨⟨h0,hlt⟩,hK⟩:=zh_ ev
      refine zz_ hK fun {I w m a σ} hf hH ha=>⟨_,hex a,?_⟩
      have hv:=hf.rv z4_ hx;rw [hb'] at hv
      have hu:=hf.rv ZD_ hy;rw [hb] at hu
      have hj:σ j=some (.row fz t' l):=by rw [ha j (zx_ z4_ hb' j (by simp [AV.ids,AV.ids1,AV.ids0])),hl]
      obtain ⟨k1,k2,k3,k4,k5⟩:=ZU_ (hH.obj j _ hj)
      obtain ⟨ao,len,cap,e1,h3,h4,h5,h6,h7,h8⟩:=hv
      rcases h8 with ⟨_,_,h8⟩ | ⟨b,ofs,h8,rfl,h9⟩
      ·omega
      ·refine ⟨.pointer (some ⟨b,(off+n.toNat)*m.sz j+0,none⟩),⟨b,h8,rfl,h3⟩,?_⟩
       rw [e1,(zj_ hu).1,kp_ he hi h0 (by omega),hn,<- hsz,h9 (by omega),k1,Nat.add_mul];simp
     ·exact ev.elim
    ·exact ev.elim
   ·rename_i j t' l k n hb' hb
    split at ev
    ·rename_i hsz
     have hsz:=Nat.eq_of_beq_eq_true hsz
     obtain ⟨⟨h0,hlt⟩,hK⟩:=zh_ ev
     refine zz_ hK fun {I w m a σ} hf hH ha=>⟨_,hex a,?_⟩
     have hv:=hf.rv z4_ hx;rw [hb'] at hv
     have hu:=hf.rv ZD_ hy;rw [hb] at hu
     obtain ⟨⟨ao,len,cap,e1,h4,h5,h6,h7⟩,hus⟩:=hv
     obtain ⟨b,ofs,rfl,hbI,h8⟩:=h7 (by omega)
     refine ⟨.pointer (some ⟨b,ofs+n.toNat*t'.size+0,none⟩),⟨⟨b,ofs,rfl,hbI,by omega,h8⟩,hus⟩,?_⟩
     rw [e1,(zj_ hu).1,kp_ he hi h0 (by omega),hn,hsz];rfl
    ·exact ev.elim
   ·exact ev.elim
  ·cases h3
 ·cases hok
theorem z5_ {w:World} {b off:Nat}:∀ (vs:List Value) (i:Nat) (acc:Array Value),
 (∀ j (h:j < vs.length),w.cell? ⟨b,off+i+j,none⟩=some vs[j])->(loadCellsFrom ⟨b,off,none⟩ i vs.length acc).run P w=.ok (acc++vs.toArray) w
 | [],_,acc,_=>by simp [loadCellsFrom]
 | v :: vs,i,acc,h=>by
   have ha:=ZL_ b off i
   have h0:=h 0 (by simp)
   simp only [Nat.add_zero,List.getElem_cons_zero] at h0
   simp only [List.length_cons,loadCellsFrom,Sem.run_bind,ha,run_load,h0,Result.andThen_ok]
   rw [z5_ vs (i+1) (acc.push v) fun j hj=>by
    have:=h (j+1) (by simp;omega)
    simp only [List.getElem_cons_succ] at this
    rw [<- this];congr 2;omega]
   simp
theorem q7_ {n:Option Nat} {off:Nat} {l:List AV} {K':AV->Prop} (ev:cut n off l K'):
 ∃ v,K' v/\∀ {P:Program} {I:Nat->Prop} {w:World} {m:M} {t:TypeId} {R:List Value} {b base:Nat},nOk P t n=true->zM_ I w m l R->(∀ j (h:j < R.length),w.cell? ⟨b,base+j,none⟩=some R[j])->
   ∃ cv,RV I w m v cv/\(Instr.loadAt t (.pointer (some ⟨b,base+off,none⟩))).run P w=.ok cv w:=by
 rcases hy_ ev with ⟨rfl,v,t,hd,hK⟩ | ⟨k,rfl,hle,hK⟩
 ·refine ⟨v,hK,fun {P I w m t R b base} hn hR hc=>?_⟩
  obtain ⟨d,i,hd',hi,h⟩:=w5_ hn
  rcases h with ⟨_,h⟩ | ⟨hb,_,hs⟩
  ·cases h
  ·obtain ⟨cv,h1,h2⟩:=uD_ hR hd
   have hoff:off < R.length:=by
    rcases Nat.lt_or_ge off R.length with h | h
    ·exact h
    ·rw [List.getElem?_eq_none h] at h1;cases h1
   have hcell:w.cell? ⟨b,base+off,none⟩=some cv:=by
    rw [hc off hoff];rw [List.getElem?_eq_getElem hoff] at h1;exact h1
   exact ⟨cv,bV_ h2,by simp [Instr.loadAt,Instr.sureAddr,loadVar,wZ_ hd',hb,run_load,hcell]⟩
 ·refine ⟨_,hK,fun {P I w m t R b base} hn hR hc=>?_⟩
  obtain ⟨d,i,hd',hi,h⟩:=w5_ hn
  rcases h with ⟨hb,h⟩ | ⟨_,h,_⟩
  ·cases h
   have hlR:=Zg_ hR
   have hl:((R.drop off).take i.size).length=i.size:=by simp;omega
   have hrun:=z5_ (P:=P) (w:=w) (b:=b) (off:=base+off) ((R.drop off).take i.size) 0 #[] (fun j hj=>by
    rw [hl] at hj
    rw [show base+off+0+j=base+(off+j) by omega,hc (off+j) (by omega)]
    simp)
   rw [hl] at hrun
   refine ⟨.agg ((R.drop off).take i.size).toArray,⟨_,rfl,by simpa using Jr_ _ (k5_ off hR)⟩,?_⟩
   simp [Instr.loadAt,Instr.sureAddr,loadVar,wZ_ hd',hb,zP_ hi,loadCells,hrun]
  ·cases h
theorem G8_ {n:Option Nat} {x':Opd} (hok:zu_ P o.op (.load n x')=true) (ev:zt_ Γ (.load n x') fr st nx K):MOK P o [x'] fr (Zd_ [x'] fr) wr st nx K:=by
 simp only [zt_] at ev
 simp only [zu_] at hok
 split at hok
 ·rename_i t x ho
  simp only [Bool.and_eq_true] at hok
  obtain ⟨hn,hx⟩:=hok
  have hex:∀ (a:Act),execOp a.eval o=(do pure (.value (<- Instr.loadAt t (a.eval x)))):=fun a=>by unfold execOp;rw [ho]
  split at ev
  ·rename_i i off hb
   split at ev
   ·rename_i l hl
    obtain ⟨v,hK,h⟩:=q7_ ev
    refine zz_ hK fun {I w m a σ} hf hH ha=>⟨_,hex a,?_⟩
    have hv:=hf.rv qf_ hx;rw [hb] at hv
    have hi:σ i=some (.box l):=by rw [ha i (zx_ qf_ hb i (by simp [AV.ids,AV.ids1,AV.ids0])),hl]
    obtain ⟨b,cs,T,fz,h1,h2,_,h3⟩:=hH.obj i _ hi
    obtain ⟨b',h4,h5,_⟩:=hv
    rw [h1] at h4;cases h4
    obtain ⟨cv,h6,h7⟩:=h (base:=0) hn h3 (XK_ h2)
    rw [Nat.zero_add] at h7
    exact ⟨cv,h6,by rw [h5];exact h7⟩
   ·exact ev.elim
  ·rename_i t' y i off hb
   obtain ⟨v,hK,h⟩:=q7_ ev
   refine zz_ hK fun {I w m a σ} hf hH ha=>⟨_,hex a,?_⟩
   have hv:=hf.rv qf_ hx;rw [hb] at hv
   obtain ⟨b,ofs,e1,hbI,hi,h1⟩:=hv
   obtain ⟨es,h2,h3⟩:=h1 i hi
   have hget:y.getD i t'.dflt=y[i]:=by simp [hi]
   rw [hget] at h
   obtain ⟨cv,h6,h7⟩:=h (base:=ofs+i*t'.size) (m:=m) hn (QC_ t' _ _ h2) h3
   exact ⟨cv,h6,by rw [e1];exact h7⟩
  ·rename_i j i off hb
   split at ev
   ·rename_i fz t' y hl
    obtain ⟨hlt,ev⟩:=zh_ ev
    obtain ⟨v,hK,h⟩:=q7_ ev
    refine zz_ hK fun {I w m a σ} hf hH ha=>⟨_,hex a,?_⟩
    have hv:=hf.rv qf_ hx;rw [hb] at hv
    have hj:σ j=some (.row fz t' y):=by rw [ha j (zx_ qf_ hb j (by simp [AV.ids,AV.ids1,AV.ids0])),hl]
    obtain ⟨k1,k2,k3,k4,k5⟩:=ZU_ (hH.obj j _ hj)
    obtain ⟨b',h4,h5,_⟩:=hv
    rcases k5 with ⟨k5,_⟩ | ⟨b,k5,k6⟩
    ·rw [k5] at h4;cases h4
    ·rw [k5] at h4;cases h4
     obtain ⟨es,h6,h7⟩:=k6 i hlt
     have hget:y.getD i t'.dflt=y[i]:=by simp [hlt]
     rw [hget] at h
     obtain ⟨cv,h8,h9⟩:=h (base:=i*t'.size) (m:=m) hn (QC_ t' _ _ h6) h7
     exact ⟨cv,h8,by rw [h5,k1];exact h9⟩
   ·exact ev.elim
  ·rename_i j t' y i off hb
   split at ev
   ·rename_i wr kn hl
    have main:∀ {I:Nat->Prop} {w:World} {m:M} {a:Act} {σ:Sto},FOn [x'] fr I w m a->HRel I w m σ->(∀ i ∈ Zd_ [x'] fr,σ i=st.get i)->∃ b base es,a.eval x=.pointer (some ⟨b,base+off,none⟩)/\m.used j/\RC (m.rg j).dp (m.rg j).wc t' (y.getD i t'.dflt) es/\(∀ q (hq:q < es.length),(m.rg j).wc.cell? ⟨b,base+q,none⟩=some es[q])/\v0_ (m.rg j).wc w wr kn b:=fun {I w m a σ} hf hH ha=>by
     have hv:=hf.rv qf_ hx;rw [hb] at hv
     obtain ⟨⟨b,ofs,e1,hd,hi,h1⟩,hu⟩:=hv
     obtain ⟨es,h2,h3⟩:=h1 i hi
     have hget:y.getD i t'.dflt=y[i]:=by simp [hi]
     have hj:σ j=some (.reg wr kn):=by rw [ha j (zx_ qf_ hb j (by simp [AV.ids,AV.ids1,AV.ids0])),hl]
     exact ⟨b,ofs+i*t'.size,es,e1,hu,by rw [hget];exact h2,h3,(hH.gar j wr kn b hj hd).2.2.2⟩
    split at ev
    ·obtain ⟨v,hK,h⟩:=q7_ ev
     refine zz_ hK fun {I w m a σ} hf hH ha=>⟨_,hex a,?_⟩
     obtain ⟨b,base,es,e1,hu,h2,h3,h4⟩:=main hf hH ha
     have h5:=h4.2.1 rfl
     obtain ⟨cv,h6,h7⟩:=h (base:=base) (m:=m) (I:=I) (w:=w) (b:=b) hn (vY_ hu _ _ _ h2) (fun q hq=>by rw [<- h3 q hq];simp only [World.cell?,h5])
     exact ⟨cv,h6,by rw [e1];exact h7⟩
    ·obtain ⟨v,hK,h⟩:=q7_ ev
     refine zz_ hK fun {I w m a σ} hf hH ha=>⟨_,hex a,?_⟩
     obtain ⟨b,base,es,e1,hu,h2,h3,h4⟩:=main hf hH ha
     obtain ⟨es',g1,g2,g3⟩:=GE_ h4.1 es h3
     obtain ⟨cv,h6,h7⟩:=h (base:=base) (m:=m) (I:=I) (w:=w) (b:=b) hn (G9_ _ _ _ (vY_ (I:=I) (w:=w) hu _ _ _ h2) g1 g3) g2
     exact ⟨cv,h6,by rw [e1];exact h7⟩
   ·exact ev.elim
  ·exact ev.elim
 ·cases hok
theorem gY_ {k:IntKind} {x':Opd} (hok:zu_ P o.op (.loadI k x')=true) (ev:zt_ Γ (.loadI k x') fr st nx K):MOK P o [x'] fr (Zd_ [x'] fr) wr st nx K:=by
 simp only [zt_] at ev
 simp only [zu_] at hok
 split at hok
 ·rename_i t x ho
  simp only [Bool.and_eq_true] at hok
  obtain ⟨hn,hx⟩:=hok
  split at ev
  ·rename_i i off hb
   split at ev
   ·rename_i l hl
    obtain ⟨hoff,hK⟩:=zh_ ev
    obtain ⟨ns,hK,h⟩:=jV_ hK
    refine zz_ hK fun {I w m a σ} hf hH ha=>⟨Instr.loadAt t (a.eval x),by unfold execOp;rw [ho],?_⟩
    have hv:=hf.rv qf_ hx;rw [hb] at hv
    have hi:σ i=some (.box l):=by rw [ha i (zx_ qf_ hb i (by simp [AV.ids,AV.ids1,AV.ids0])),hl]
    obtain ⟨b,cs,T,fz,h1,h2,_,h3⟩:=hH.obj i _ hi
    obtain ⟨b',h4,h5,_⟩:=hv
    rw [h1] at h4;cases h4
    obtain ⟨d,ti,hd,hti,hh⟩:=w5_ hn
    rcases hh with ⟨_,hh⟩ | ⟨hb',_,_⟩
    ·cases hh
    ·obtain ⟨h8,h9⟩:=h h3
     have hlen:=Zg_ h3
     have hn':off < ns.length:=by
      have:cs.toList.length=ns.length:=by rw [h8];simp
      omega
     have hg:ns.getD off 0=ns[off]:=by simp [hn']
     have hcell:w.cell? ⟨b,off,none⟩=some (.int k ns[off]):=by
      have:=XK_ h2 off (by omega)
      rw [Nat.zero_add] at this
      rw [this];simp only [h8,List.getElem_map]
     rw [hg]
     exact ⟨_,zY_ (h9 _ (List.getElem_mem hn')),by simp [Instr.loadAt,h5,Instr.sureAddr,loadVar,wZ_ hd,hb',run_load,hcell]⟩
   ·exact ev.elim
  ·exact ev.elim
 ·cases hok
theorem q5_ {t e:TypeId} {i:TypeInfo} {ao:Option Addr} {len cap A B C:Nat} {lo hi mx:Option Value} {w:World} (h1:P.underlying t=some (.slice e)) (h2:P.info? e=some i)
 (hb:(Instr.sliceBounds true len cap lo hi mx).run P w=.ok (A,B,C) w):
 (Instr.sliceAt t (.slice ao len cap) lo hi mx).run P w=.ok (.slice (if C=A then ao else ao.map (·.add (A*i.size))) (B - A) (C - A)) w:=by
 simp [Instr.sliceAt,Instr.slice,run_underlying h1,zP_ h2,hb]
theorem uG_ {I:Nat->Prop} {w:World} {t:Ty} {l:List t.den} {ao:Option Addr} {len cap A B C:Nat} (h:RS I w t l ao len cap) (hAB:A<=B) (hB:B<=len) (hC:B<=C) (hC':C<=cap):
 RS I w t ((l.take B).drop A) (if C=A then ao else ao.map (·.add (A*t.size))) (B - A) (C - A):=by
 obtain ⟨h1,h2,h3,h4⟩:=wP_.1 h
 refine wP_.2 ⟨by simp;omega,by omega,by omega,fun h0=>?_⟩
 obtain ⟨b,o,rfl,hb,h5⟩:=h4 (by omega)
 rw [if_neg (by omega)]
 exact ⟨b,o+A*t.size,by simp [ZL_],hb,((h5.take B).drop A).congr fun k _=>by rw [Nat.add_assoc]⟩
theorem gF_ {size:Nat} {x':Opd} {lo' hi' mx':Option Opd} (hok:zu_ P o.op (.slice size x' lo' hi' mx')=true) (ev:zt_ Γ (.slice size x' lo' hi' mx') fr st nx K):
 MOK P o ([x']++ZY_ lo'++ZY_ hi'++ZY_ mx') fr (Zd_ ([x']++ZY_ lo'++ZY_ hi'++ZY_ mx') fr) wr st nx K:=by
 simp only [zu_] at hok
 split at hok
 ·rename_i t x lo hi mx ho
  simp only [Bool.and_eq_true] at hok
  obtain ⟨⟨⟨⟨hx,hlo⟩,hhi⟩,hmx⟩,h5⟩:=hok
  split at h5
  ·rename_i e he
   have he:=qy_ he
   obtain ⟨i,hi0,hn⟩:=qa_ h5
   have hmem:x' ∈ [x']++ZY_ lo'++ZY_ hi'++ZY_ mx':=by simp
   have hex:∀ (a:Act),execOp a.eval o=(do pure (.value (<- Instr.sliceAt t (a.eval x) (lo.map a.eval) (hi.map a.eval) (mx.map a.eval)))):=fun a=>by unfold execOp;rw [ho]
   have two:∀ {A B:Int} {len cap:Nat} {I:Nat->Prop} {w:World} {m:M} {a:Act},mx'=none->FOn ([x']++ZY_ lo'++ZY_ hi'++ZY_ mx') fr I w m a->
    ((lo'=none/\A=0)\/∃ y k,lo'=some y/\y.ev fr=.int k A)->((hi'=none/\B=len)\/∃ y k,hi'=some y/\y.ev fr=.int k B)->0<=A->A<=B->B<=cap->
    (Instr.sliceBounds true len cap (lo.map a.eval) (hi.map a.eval) (mx.map a.eval)).run P w=.ok (A.toNat,B.toNat,cap) w:=fun {A B len cap I w m a} hmx' hf hA hB h0 hAB hB'=>by
    have ra:=Xc_ hf hlo (fun y hy=>by simp [hy]) hA
    have rb:=Xc_ hf hhi (fun y hy=>by simp [hy]) hB
    have:mx=none:=by subst hmx';cases mx with | none=>rfl | some _=>cases hmx
    subst this
    refine UD_ ?_ ?_ (by omega) (by omega)
    ·rcases ra with ⟨rfl,_,rfl⟩ | ⟨k,y,rfl,_,h⟩
     ·exact .inl ⟨rfl,rfl⟩
     ·exact .inr ⟨k,by simp only [Option.map_some,h];rw [Int.toNat_of_nonneg h0]⟩
    ·rcases rb with ⟨rfl,_,rfl⟩ | ⟨k,y,rfl,_,h⟩
     ·exact .inl ⟨rfl,by simp⟩
     ·exact .inr ⟨k,by simp only [Option.map_some,h];rw [Int.toNat_of_nonneg (by omega)]⟩
   have three:∀ {A B C:Int} {len cap:Nat} {I:Nat->Prop} {w:World} {m:M} {a:Act},hi' ≠ none->mx' ≠ none->FOn ([x']++ZY_ lo'++ZY_ hi'++ZY_ mx') fr I w m a->
    ((lo'=none/\A=0)\/∃ y k,lo'=some y/\y.ev fr=.int k A)->((hi'=none/\B=len)\/∃ y k,hi'=some y/\y.ev fr=.int k B)->((mx'=none/\C=0)\/∃ y k,mx'=some y/\y.ev fr=.int k C)->0<=A->A<=B->B=C->B<=cap->
    (Instr.sliceBounds true len cap (lo.map a.eval) (hi.map a.eval) (mx.map a.eval)).run P w=.ok (A.toNat,B.toNat,B.toNat) w:=fun {A B C len cap I w m a} hh' hm' hf hA hB hC h0 hAB hBC hB'=>by
    have ra:=Xc_ hf hlo (fun y hy=>by simp [hy]) hA
    have rb:=Xc_ hf hhi (fun y hy=>by simp [hy]) hB
    have rc:=Xc_ hf hmx (fun y hy=>by simp [hy]) hC
    refine uv_ ?_ ?_ ?_ (by omega) (by omega)
    ·rcases ra with ⟨rfl,_,rfl⟩ | ⟨k,y,rfl,_,h⟩
     ·exact .inl ⟨rfl,rfl⟩
     ·exact .inr ⟨k,by simp only [Option.map_some,h];rw [Int.toNat_of_nonneg h0]⟩
    ·rcases rb with ⟨_,h,_⟩ | ⟨k,y,rfl,_,h⟩
     ·exact absurd h hh'
     ·exact ⟨k,by simp only [Option.map_some,h];rw [Int.toNat_of_nonneg (by omega)]⟩
    ·rcases rc with ⟨_,h,_⟩ | ⟨k,y,rfl,_,h⟩
     ·exact absurd h hm'
     ·exact ⟨k,by simp only [Option.map_some,h,hBC];rw [Int.toNat_of_nonneg (by omega)]⟩
   simp only [zt_] at ev
   split at ev
   ·-- nil
    rename_i hb
    split at ev
    ·refine zz_ ev fun {I w m a σ} hf hH ha=>⟨_,hex a,?_⟩
     have hv:=hf.rv hmem hx;rw [hb] at hv
     have hv:a.eval x=.slice none 0 0:=hv
     refine ⟨.slice none 0 0,rfl,?_⟩
     rw [hv,q5_ he hi0 (two (A:=0) (B:=(0:Nat)) (len:=0) (cap:=0) rfl hf (.inl ⟨rfl,rfl⟩) (.inl ⟨rfl,rfl⟩) (by omega) (by omega) (by omega))]
     simp
    ·exact ev.elim
   ·-- data
    rename_i t' l hb
    split at ev
    ·rename_i hsz
     have hsz:=Nat.eq_of_beq_eq_true hsz
     have fin2:∀ {A B:Int} {y:List t'.den},mx'=none->y=(l.take B.toNat).drop A.toNat->((lo'=none/\A=0)\/∃ y k,lo'=some y/\y.ev fr=.int k A)->((hi'=none/\B=l.length)\/∃ y k,hi'=some y/\y.ev fr=.int k B)->0<=A->A<=B->B<=l.length->K (.imm t' y) st nx->
      MOK P o ([x']++ZY_ lo'++ZY_ hi'++ZY_ mx') fr (Zd_ ([x']++ZY_ lo'++ZY_ hi'++ZY_ mx') fr) wr st nx K:=fun {A B y} hm hy hA hB h0 hAB hBl hK=>by
      refine zz_ hK fun {I w m a σ} hf hH ha=>⟨_,hex a,?_⟩
      have hv:=hf.rv hmem hx;rw [hb] at hv
      obtain ⟨ao,len,cap,e1,hR⟩:=hv
      have hlen:len=l.length:=hR.1
      have hcap:len<=cap:=hR.2.1
      subst hlen
      subst hy
      refine ⟨_,⟨_,_,_,rfl,uG_ (A:=A.toNat) (B:=B.toNat) (C:=cap) hR (by omega) (by omega) (by omega) (Nat.le_refl _)⟩,?_⟩
      rw [e1,q5_ he hi0 (two hm hf hA hB h0 hAB (by omega)),hn,hsz]
     split at ev
     ·rename_i mm
      split at ev
      ·exact ev.elim
      ·rename_i hh
       obtain ⟨A,ev1,hA⟩:=q6_ ev
       obtain ⟨kb,B,hB,ev2⟩:=Zl_ ev1
       obtain ⟨kc,C,hC,ev3⟩:=Zl_ ev2
       obtain ⟨⟨h0,hAB,hBC,hBl⟩,hK⟩:=zh_ ev3
       refine zz_ hK fun {I w m a σ} hf hH ha=>⟨_,hex a,?_⟩
       have hv:=hf.rv hmem hx;rw [hb] at hv
       obtain ⟨ao,len,cap,e1,hR⟩:=hv
       have hlen:len=l.length:=hR.1
       have hcap:len<=cap:=hR.2.1
       subst hlen
       refine ⟨_,⟨_,_,_,rfl,uG_ (A:=A.toNat) (B:=B.toNat) (C:=B.toNat) hR (by omega) (by omega) (by omega) (by omega)⟩,?_⟩
       rw [e1,q5_ he hi0 (three (by simp) (by simp) hf hA (.inr ⟨_,kb,rfl,hB⟩) (.inr ⟨_,kc,rfl,hC⟩) h0 hAB hBC (by omega)),hn,hsz]
     ·split at ev
      ·exact fin2 (A:=0) (B:=l.length) rfl (by simp) (.inl ⟨rfl,rfl⟩) (.inl ⟨rfl,rfl⟩) (by omega) (by omega) (by omega) ev
      ·obtain ⟨k,A,h,ev'⟩:=Zl_ ev
       obtain ⟨⟨h0,hAl⟩,hK⟩:=zh_ ev'
       exact fin2 (A:=A) (B:=l.length) rfl (by simp) (.inr ⟨_,k,rfl,h⟩) (.inl ⟨rfl,rfl⟩) h0 hAl (by omega) hK
      ·obtain ⟨k,B,h,ev'⟩:=Zl_ ev
       obtain ⟨⟨h0,hBl⟩,hK⟩:=zh_ ev'
       exact fin2 (A:=0) (B:=B) rfl (by simp) (.inl ⟨rfl,rfl⟩) (.inr ⟨_,k,rfl,h⟩) (by omega) h0 hBl hK
      ·obtain ⟨k,A,h,ev'⟩:=Zl_ ev
       obtain ⟨k',B,h',ev''⟩:=Zl_ ev'
       obtain ⟨⟨h0,hAB,hBl⟩,hK⟩:=zh_ ev''
       exact fin2 (A:=A) (B:=B) rfl rfl (.inr ⟨_,k,rfl,h⟩) (.inr ⟨_,k',rfl,h'⟩) h0 hAB hBl hK
    ·exact ev.elim
   ·-- a whole row
    rename_i j hb
    split at ev
    ·rename_i fz t' l hl
     split at ev
     ·rename_i hsz
      have hsz:=Nat.eq_of_beq_eq_true hsz
      have hrow:∀ {I:Nat->Prop} {w:World} {m:M} {σ:Sto},HRel I w m σ->(∀ i ∈ Zd_ ([x']++ZY_ lo'++ZY_ hi'++ZY_ mx') fr,σ i=st.get i)->m.sz j=t'.size/\l.length=m.len j/\m.cap j<=maxLen:=fun {I w m σ} hH ha=>by
       have hj:σ j=some (.row fz t' l):=by rw [ha j (zx_ hmem hb j (by simp [AV.ids,AV.ids1,AV.ids0])),hl]
       obtain ⟨k1,k2,k3,k4,k5⟩:=ZU_ (hH.obj j _ hj)
       exact ⟨k1,k2,k4⟩
      have part:∀ {A B C:Nat} {ao:Option Addr} {len cap:Nat} {m:M},RO m j ao len cap->m.sz j=t'.size->m.cap j<=maxLen->A<=B->B<=len->B<=C->C<=cap->RW m j A (B - A) (if C=A then ao else ao.map (·.add (A*i.size))) (B - A) (C - A):=fun {A B C ao len cap m} hO hz hc h1 h2 h3 h4=>by
       obtain ⟨g1,g2,g3,g4,g5,g6⟩:=hO
       refine ⟨g1,rfl,by omega,by omega,hc,?_⟩
       rcases g6 with ⟨g6,rfl,g7⟩ | ⟨b,g6,rfl⟩
       ·exact .inl ⟨g6,by simp,by omega⟩
       ·by_cases e:C=A
        ·exact .inr ⟨b,0,g6,by rw [if_pos e],fun h=>by omega⟩
        ·exact .inr ⟨b,0+A*i.size,g6,by rw [if_neg e];simp [ZL_],fun _=>by rw [hz,hsz,hn];omega⟩
      have fin2:∀ {A B:Int},mx'=none->((lo'=none/\A=0)\/∃ y k,lo'=some y/\y.ev fr=.int k A)->((hi'=none/\B=l.length)\/∃ y k,hi'=some y/\y.ev fr=.int k B)->0<=A->A<=B->B<=l.length->K (.view j A.toNat (B - A).toNat) st nx->
       MOK P o ([x']++ZY_ lo'++ZY_ hi'++ZY_ mx') fr (Zd_ ([x']++ZY_ lo'++ZY_ hi'++ZY_ mx') fr) wr st nx K:=fun {A B} hm hA hB h0 hAB hBl hK=>by
       refine zz_ hK fun {I w m a σ} hf hH ha=>⟨_,hex a,?_⟩
       have hv:=hf.rv hmem hx;rw [hb] at hv
       obtain ⟨k1,k2,k3⟩:=hrow hH ha
       obtain ⟨ao,len,cap,e1,hO⟩:=hv
       have hlen:len=l.length:=by rw [hO.2.1,k2]
       have hcap:len<=cap:=hO.2.2.2.1
       have hp:=part (A:=A.toNat) (B:=B.toNat) (C:=cap) hO k1 k3 (by omega) (by omega) (by omega) (Nat.le_refl _)
       refine ⟨_,⟨_,_,_,rfl,by rw [show (B - A).toNat=B.toNat - A.toNat by omega];exact hp⟩,?_⟩
       rw [e1,q5_ he hi0 (two hm hf hA (by rw [hlen];exact hB) h0 hAB (by omega))]
      split at ev
      ·rename_i mm
       split at ev
       ·exact ev.elim
       ·rename_i hh
        obtain ⟨A,ev1,hA⟩:=q6_ ev
        obtain ⟨kb,B,hB,ev2⟩:=Zl_ ev1
        obtain ⟨kc,C,hC,ev3⟩:=Zl_ ev2
        obtain ⟨⟨h0,hAB,hBC,hBl⟩,hK⟩:=zh_ ev3
        refine zz_ hK fun {I w m a σ} hf hH ha=>⟨_,hex a,?_⟩
        have hv:=hf.rv hmem hx;rw [hb] at hv
        obtain ⟨k1,k2,k3⟩:=hrow hH ha
        obtain ⟨ao,len,cap,e1,hO⟩:=hv
        have hlen:len=l.length:=by rw [hO.2.1,k2]
        have hcap:len<=cap:=hO.2.2.2.1
        have hp:=part (A:=A.toNat) (B:=B.toNat) (C:=B.toNat) hO k1 k3 (by omega) (by omega) (by omega) (by omega)
        refine ⟨_,⟨_,_,_,rfl,by rw [show (B - A).toNat=B.toNat - A.toNat by omega];exact hp⟩,?_⟩
        rw [e1,q5_ he hi0 (three (by simp) (by simp) hf hA (.inr ⟨_,kb,rfl,hB⟩) (.inr ⟨_,kc,rfl,hC⟩) h0 hAB hBC (by omega))]
      ·split at ev
       ·refine zz_ ev fun {I w m a σ} hf hH ha=>⟨_,hex a,?_⟩
        have hv:=hf.rv hmem hx;rw [hb] at hv
        obtain ⟨k1,k2,k3⟩:=hrow hH ha
        obtain ⟨ao,len,cap,e1,hO⟩:=hv
        have hcap:len<=cap:=hO.2.2.2.1
        refine ⟨.slice ao len cap,⟨_,_,_,rfl,hO⟩,?_⟩
        rw [e1,q5_ he hi0 (two (A:=0) (B:=(len:Int)) rfl hf (.inl ⟨rfl,rfl⟩) (.inl ⟨rfl,rfl⟩) (by omega) (by omega) (by omega))]
        have:(if cap=(0:Int).toNat then ao else ao.map (·.add ((0:Int).toNat*i.size)))=ao:=by
         split
         ·rfl
         ·cases ao with
          | none=>rfl
          | some q=>simp [Addr.add]
        rw [this];simp
       ·obtain ⟨A,ev1,hA⟩:=q6_ ev
        obtain ⟨B,ev2,hB⟩:=q6_ ev1
        obtain ⟨⟨h0,hAB,hBl⟩,hK⟩:=zh_ ev2
        exact fin2 rfl hA hB h0 hAB hBl hK
     ·exact ev.elim
    ·exact ev.elim
   ·-- a part of a row
    rename_i j off q hb
    split at ev
    ·rename_i fz t' l hl
     split at ev
     ·rename_i hsz
      have hsz:=Nat.eq_of_beq_eq_true hsz
      split at ev
      ·exact ev.elim
      ·obtain ⟨A,ev1,hA⟩:=q6_ ev
       obtain ⟨B,ev2,hB⟩:=q6_ ev1
       obtain ⟨⟨h0,hAB,hBl⟩,hK⟩:=zh_ ev2
       refine zz_ hK fun {I w m a σ} hf hH ha=>⟨_,hex a,?_⟩
       have hv:=hf.rv hmem hx;rw [hb] at hv
       have hj:σ j=some (.row fz t' l):=by rw [ha j (zx_ hmem hb j (by simp [AV.ids,AV.ids1,AV.ids0])),hl]
       obtain ⟨k1,k2,k3,k4,k5⟩:=ZU_ (hH.obj j _ hj)
       obtain ⟨ao,len,cap,e1,g1,g2,g3,g4,g5,g6⟩:=hv
       refine ⟨.slice (if cap=A.toNat then ao else ao.map (·.add (A.toNat*i.size))) (B.toNat - A.toNat) (cap - A.toNat),⟨_,_,_,rfl,g1,by omega,by omega,by omega,g5,?_⟩,?_⟩
       ·rcases g6 with ⟨g6,rfl,g7⟩ | ⟨b,ofs,g6,rfl,g7⟩
        ·exact .inl ⟨g6,by simp,by omega⟩
        ·by_cases e:cap=A.toNat
         ·exact .inr ⟨b,ofs,g6,by rw [if_pos e],fun h=>by omega⟩
         ·exact .inr ⟨b,ofs+A.toNat*i.size,g6,by rw [if_neg e];simp [ZL_],fun _=>by rw [g7 (by omega),k1,hsz,hn,Nat.add_mul]⟩
       ·rw [e1,q5_ he hi0 (two rfl hf hA (by rw [g2];exact hB) h0 hAB (by omega))]
     ·exact ev.elim
    ·exact ev.elim
   ·exact ev.elim
  ·cases h5
 ·cases hok
theorem UA_ (ns:List Int) (h:∀ n ∈ ns,0<=n/\n<=255):∀ (s:ByteArray),zw_ (ns.foldl (fun r n=>r.push (UInt8.ofNat n.toNat)) s)=zw_ s++ns:=by
 induction ns with
 | nil=>intro s;simp
 | cons n ns ih=>
   intro s
   rw [List.foldl_cons,ih (fun n hn=>h n (by simp [hn]))]
   have hn:=h n (by simp)
   have:zw_ (s.push (UInt8.ofNat n.toNat))=zw_ s++[n]:=by
    unfold zw_
    have e:((UInt8.ofNat n.toNat).toNat:Int)=n:=by
     rw [UInt8.toNat_ofNat'];omega
    simp only [ByteArray.data_push,Array.toList_push,List.map_append,List.map_cons,List.map_nil,e]
   rw [this,List.append_assoc];rfl
theorem Bk_ {I:Nat->Prop} {w:World} {x:Int} {es:List Value} (h:RC I w (.int .u8) x es):es=[.int .u8 x]/\0<=x/\x<=255:=by
 obtain ⟨h1,h2⟩:=h
 refine ⟨h1,?_⟩
 simpa [inK,IntKind.min,IntKind.max,IntKind.signed,IntKind.bits] using h2
theorem gD_ {I:Nat->Prop} {w:World} {ys:List Int} {f:Nat->Option Value} (h:EA I w (.int .u8) ys f):(∀ n ∈ ys,0<=n/\n<=255)/\∀ k (hk:k < ys.length),f k=some (.int .u8 ys[k]):=by
 have key:∀ k (hk:k < ys.length),(0<=ys[k]/\ys[k]<=255)/\f k=some (.int .u8 ys[k]):=fun k hk=>by
  obtain ⟨es,h1,h2⟩:=h k hk
  obtain ⟨rfl,h3⟩:=Bk_ h1
  have:=h2 0 (by simp)
  simp only [Ty.size,Nat.mul_one,Nat.add_zero,List.getElem_cons_zero] at this
  exact ⟨h3,this⟩
 refine ⟨fun n hn=>?_,fun k hk=>(key k hk).2⟩
 obtain ⟨k,hk,rfl⟩:=List.mem_iff_getElem.1 hn
 exact (key k hk).1
theorem HT_ {x':Opd} (hok:zu_ P o.op (.b2s x')=true) (ev:zt_ Γ (.b2s x') fr st nx K):MOK P o [x'] fr (Zd_ [x'] fr) wr st nx K:=by
 simp only [zt_] at ev
 simp only [zu_] at hok
 split at hok
 ·rename_i src dst x ho
  simp only [Bool.and_eq_true] at hok
  obtain ⟨⟨hx,hd⟩,h3⟩:=hok
  have hd:=Xs_ hd
  split at h3
  ·rename_i e he
   have he:=qy_ he
   split at h3
   ·rename_i hu
    obtain ⟨ys,hK,h⟩:=j0_ ev
    refine zz_ hK fun {I w m a σ} hf hH ha=>⟨convert src dst (a.eval x),by unfold execOp;rw [ho],?_⟩
    have hv:=hf.rv qf_ hx
    have hv0:RV0 I w m (x'.ev fr) (a.eval x):=by
     unfold wF_ at ev
     generalize x'.ev fr=v at ev hv
     cases v<;>first | exact hv | exact ev.elim
    obtain ⟨ao,len,cap,e1,h4,h5,h6⟩:=h hH (fun i hi=>ha i (zx_ qf_ rfl i (by
     unfold wF_ at ev
     generalize x'.ev fr=v at ev hi ⊢
     cases v<;>first | exact hi | exact ev.elim))) hv0
    rw [e1]
    rcases Nat.eq_zero_or_pos len with h0 | h0
    ·have hys:ys=[]:=List.eq_nil_of_length_eq_zero (by omega)
     subst hys;subst h0
     cases ao with
     | none=>
       refine ⟨.string ByteArray.empty,⟨_,rfl,rfl,Nat.zero_le _⟩,?_⟩
       rw [run_convert_bytes_string (P:=P) w src dst e none 0 cap he hu hd];simp [Conv.bytesToString]
     | some q=>
       refine ⟨.string ByteArray.empty,⟨_,rfl,rfl,Nat.zero_le _⟩,?_⟩
       rw [run_convert_bytes_string (P:=P) w src dst e _ 0 cap he hu hd,run_bytesToString w q 0 cap [] (by simp [loadCells,loadCellsFrom])]
       rfl
    ·obtain ⟨b,ofs,rfl,h7⟩:=h6 h0
     obtain ⟨h8,h9⟩:=gD_ h7
     have hl:(loadCells ⟨b,ofs,none⟩ len).run P w=.ok (ys.map (Value.int .u8)).toArray w:=by
      have:=z5_ (P:=P) (w:=w) (b:=b) (off:=ofs) (ys.map (Value.int .u8)) 0 #[] (fun j hj=>by
       simp only [List.length_map] at hj
       rw [Nat.add_zero,h9 j hj];simp)
      rw [List.length_map,<- h4] at this
      unfold loadCells
      rw [this];simp
     have hbf:=UA_ ys h8 ByteArray.empty
     refine ⟨.string (ys.foldl (fun r n=>r.push (UInt8.ofNat n.toNat)) ByteArray.empty),⟨_,rfl,by rw [hbf];rfl,?_⟩,?_⟩
     ·rw [<- zZ_,hbf]
      show ([]++ys).length<=maxLen
      simp;omega
     ·rw [run_convert_bytes_string (P:=P) w src dst e _ len cap he hu hd]
      exact run_bytesToString w _ len cap ys hl
   ·cases h3
  ·cases h3
 ·cases hok
end ops
end Go.Eng
namespace Go.Eng
set_option linter.unusedVariables false
set_option linter.unusedSimpArgs false
open Go.RowKit
section ops
variable {P:Program} {Γ:Env} {o:Oper} {fr:zd_} {F:List Nat} {wr:Bool} {st:zc_} {nx:Nat} {K:AV->zc_->Nat->Prop}
theorem Xl_ {t:TypeId} {v:Value} {w:World}:(newVar t v).run P w=.ok ⟨w.heap.size,0,none⟩ (w.alloc (.cells v.cells t)):=by
 simp [newVar,newRow]
theorem Qc_ (w:World) (o:Go.Obj):(w.alloc o).heap[w.heap.size]?=some o:=by
 show (w.heap.push _)[w.heap.size]?=_
 rw [Array.getElem?_push_size]
theorem Gm_ (w:World) (o:Go.Obj) {k:Nat} (h:k < w.heap.size):(w.alloc o).heap[k]?=w.heap[k]?:=by
 show (w.heap.push o)[k]?=_
 rw [Array.getElem?_push_lt h,Array.getElem?_eq_getElem h]
theorem GZ_ {I:Nat->Prop} {w:World} {m:M} {l:List AV} {cs:Array Value} {T:TypeId} (hu:¬ m.used nx) (hl:zM_ I w m l cs.toList) (hs:qF_ I w (w.alloc (.cells cs T))):
 zG_ I (w.alloc (.cells cs T)) (m.push nx (some w.heap.size) 0 0 0) nx (.box l):=
 ⟨w.heap.size,cs,T,(0,0),M.push_blk _ _ _ _ _ _,Qc_ _ _,X2_.zero _,ZN_ (fun _ h=>h) hs (M.push_le hu) _ _ hl⟩
theorem GX_ {I:Nat->Prop} {w w':World} {m:M} {c d e:Nat}:RV I w' (m.push nx (some w.heap.size) c d e) (.ptr nx 0) (.pointer (some ⟨w.heap.size,0,none⟩)):=⟨w.heap.size,M.push_blk _ _ _ _ _ _,rfl,.inr rfl⟩
theorem HR_ {z:List AV} (hok:zu_ P o.op (.box z)=true) (ev:zt_ Γ (.box z) fr st nx K):MOK P o [] fr F wr st nx K:=by
 simp only [zt_] at ev
 simp only [zu_] at hok
 split at hok
 ·rename_i t ho
  obtain ⟨i,v,hi,hv,hc⟩:=Yb_ hok
  refine Kq_ ev (fun _ _ h=>by cases h) fun {I w m a σ} hf hH ha hu=>⟨Instr.alloc t true (.tuple #[]),by unfold execOp;rw [ho],.pointer (some ⟨w.heap.size,0,none⟩),w.alloc (.cells v.cells t),some w.heap.size,0,0,0,?_,Fr.alloc _ _ _,fun b hb=>by cases hb;exact Nat.le_refl _,fun hs=>GZ_ hu (kY_ hc) hs,fun _=>GX_⟩
  simp [Instr.alloc,kJ_ hi hv,Xl_]
 ·cases hok
theorem hK_ {x':Opd} (hok:zu_ P o.op (.boxv x')=true) (ev:zt_ Γ (.boxv x') fr st nx K):MOK P o [x'] fr F wr st nx K:=by
 simp only [zt_,Zy_] at ev
 simp only [zu_] at hok
 split at hok
 ·rename_i t x ho
  split at ev
  ·rename_i c hc
   refine Kq_ ev (fun _ _ h=>by cases h) fun {I w m a σ} hf hH ha hu=>⟨Instr.box t (a.eval x),by unfold execOp;rw [ho],.pointer (some ⟨w.heap.size,0,none⟩),w.alloc (.cells (a.eval x).cells t),some w.heap.size,0,0,0,?_,Fr.alloc _ _ _,fun b hb=>by cases hb;exact Nat.le_refl _,fun hs=>GZ_ hu (QY_ (hf.rv qf_ hok) hc) hs,fun _=>GX_⟩
   simp [Instr.box,Xl_]
  ·exact ev.elim
 ·cases hok
theorem kD_:∀ (t:Ty) (x:t.den) (r:List AV),t.ofCells (t.cells x++r)=some (x,r)
 | .int k,n,r=>by
   simp only [Ty.cells,List.cons_append,List.nil_append,Ty.ofCells]
   split
   ·rfl
   ·rename_i h _;exact absurd rfl h
 | .bool,_,_=>rfl
 | .str,_,_=>rfl
 | .nil,_,_=>rfl
 | .cons a b,x,r=>by
   simp only [Ty.cells,List.append_assoc,Ty.ofCells,kD_ a,kD_ b]
 | .sl t,x,r=>by
   simp only [Ty.cells,List.cons_append,List.nil_append,Ty.ofCells]
   split
   ·rfl
   ·rename_i h _;exact absurd rfl h
theorem uH_ {I:Nat->Prop} {w:World} {m:M} {t:Ty} {x:t.den} {cs:List Value} (h:zM_ I w m (t.cells x) cs):RC I w t x cs:=by
 have e:=kD_ t x []
 rw [List.append_nil] at e
 exact WF_ h (by unfold Ty.one;rw [e])
theorem gw_ {t:TypeId} {ty:Ty} {z:ty.den} (h:uJ_ P t ty z=true):∃ i v,P.info? t=some i/\i.zero=some v/\∀ (I:Nat->Prop) (w:World),RC I w ty z v.cells.toList:=by
 unfold uJ_ at h
 split at h
 ·rename_i i hi
  split at h
  ·rename_i v hv
   simp only [Bool.and_eq_true] at h
   exact ⟨i,v,hi,hv,fun I w=>uH_ (m:=⟨fun _=>none,fun _=>0,fun _=>0,fun _=>0,fun _=>False,noR⟩) (kY_ h.2)⟩
  ·cases h
 ·cases h
theorem VN_ {I:Nat->Prop} {w w':World} {m:M} {t:Ty} {x:List t.den} {cs:Array Value} {T:TypeId} {fz:Nat × Nat} {cap:Nat} (hw:w'.heap[w.heap.size]?=some (.cells cs T fz)) (hz:FzR (t=.int .u8) fz cs.size) (hc:cs.size=cap*t.size) (hl:x.length<=cap) (hm:cap<=maxLen)
 (he:EA I w' t x fun k=>cs[k]?):zG_ I w' (m.push nx (some w.heap.size) cap x.length t.size) nx (.row false t x):=
 ⟨M.push_sz _ _ _ _ _ _,(M.push_len _ _ _ _ _ _).symm,by rw [M.push_cap];exact hl,by rw [M.push_cap];exact hm,.inr ⟨w.heap.size,cs,T,fz,M.push_blk _ _ _ _ _ _,hw,hz,by rw [M.push_cap];exact hc,he⟩⟩
theorem GY_ {I:Nat->Prop} {w w':World} {m:M} {cap len sz:Nat} (hl:len<=cap) (hm:cap<=maxLen):RV I w' (m.push nx (some w.heap.size) cap len sz) (.own nx) (.slice (some ⟨w.heap.size,0,none⟩) len cap):=
 ⟨_,_,_,rfl,.inr rfl,(M.push_len _ _ _ _ _ _).symm,(M.push_cap _ _ _ _ _ _).symm,hl,hm,.inr ⟨w.heap.size,M.push_blk _ _ _ _ _ _,rfl⟩⟩
theorem gV_ {kt vt:Ty} (hok:zu_ P o.op (.mkmap kt vt)=true) (ev:zt_ Γ (.mkmap kt vt) fr st nx K):MOK P o [] fr F wr st nx K:=by
 simp only [zt_] at ev
 simp only [zu_] at hok
 split at hok
 ·rename_i t r ho
  rw [Option.isNone_iff_eq_none] at hok;subst hok
  refine Kq_ ev (fun _ _ h=>by cases h) fun {I w m a σ} hf hH ha hu=>⟨Instr.makeMap t none,by unfold execOp;rw [ho];rfl,.map (some w.heap.size),w.alloc (.map #[] 0),some w.heap.size,0,0,0,?_,Fr.alloc _ _ _,fun b hb=>by cases hb;exact Nat.le_refl _,fun hs=>?_,fun _=>?_⟩
  ·simp [Instr.makeMap]
  ·exact ⟨w.heap.size,#[],0,M.push_blk _ _ _ _ _ _,Qc_ _ _,rfl,fun i h=>absurd h (by simp),fun i h=>absurd h (by simp),fun _=>⟨rfl,fun i h=>absurd h (by simp)⟩⟩
  ·exact ⟨w.heap.size,M.push_blk _ _ _ _ _ _,rfl,.inr rfl⟩
 ·cases hok
theorem uS_ {t:Ty} (hok:zu_ P o.op (.slice0 t)=true) (ev:zt_ Γ (.slice0 t) fr st nx K):MOK P o [] fr F wr st nx K:=by
 simp only [zt_] at ev
 simp only [zu_] at hok
 split at hok
 ·rename_i ty k zN_ ho
  simp only [Bool.and_eq_true,beq_iff_eq,Array.isEmpty_iff] at hok
  obtain ⟨⟨rfl,rfl⟩,h3⟩:=hok
  split at h3
  ·rename_i e he
   have he:=qy_ he
   obtain ⟨i,hi,hn⟩:=qa_ h3
   refine Kq_ ev (fun _ _ h=>by cases h) fun {I w m a σ} hf hH ha hu=>⟨Instr.buildSlice ty 0 ((#[]:Array (Nat × Operand)).map fun (i,x)=>(i,a.eval x)),by unfold execOp;rw [ho],.slice (some ⟨w.heap.size,0,none⟩) 0 0,w.alloc (.cells #[] e),some w.heap.size,0,0,t.size,?_,Fr.alloc _ _ _,fun b hb=>by cases hb;exact Nat.le_refl _,fun hs=>?_,fun _=>?_⟩
   ·have e0:(Array.map (fun _=>(default:Value)) (Array.range 0))=#[]:=by apply Array.ext';simp
    simp [Instr.buildSlice,run_underlying he,zP_ hi,Instr.fill,newRow,e0]
   ·exact VN_ (x:=[]) (Qc_ w _) (FzR.zero _ _) (by simp) (Nat.le_refl _) (Nat.zero_le _) EA.nil
   ·exact GY_ (Nat.le_refl _) (Nat.zero_le _)
  ·cases h3
 ·cases hok
theorem gJ_ (z:Array Value) (n k:Nat) (hk:k < n*z.size):((Array.range (n*z.size)).map fun i=>z[i % z.size]!)[k]?=z.toList[k % z.size]?:=by
 have hpos:0 < z.size:=by
  rcases Nat.eq_zero_or_pos z.size with h | h
  ·rw [h] at hk;omega
  ·exact h
 have hm:=Nat.mod_lt k hpos
 simp [hk,hm]
theorem gU_ {t:Ty} {bytes:Nat} {z:t.den} {n' c':Opd} (hok:zu_ P o.op (.mkrow t bytes z n' c')=true) (ev:zt_ Γ (.mkrow t bytes z n' c') fr st nx K):MOK P o [n',c'] fr F wr st nx K:=by
 simp only [zt_] at ev
 simp only [zu_] at hok
 split at hok
 ·rename_i ty n c ho
  simp only [Bool.and_eq_true] at hok
  obtain ⟨⟨hn,hc⟩,h3⟩:=hok
  split at h3
  ·rename_i e he
   simp only [Bool.and_eq_true] at h3
   obtain ⟨⟨h4,h5⟩,h6⟩:=h3
   have he:=qy_ he
   obtain ⟨i,hi,hsz⟩:=qa_ h4
   obtain ⟨i',hi',hby⟩:=XP_ h5
   rw [hi] at hi';cases hi'
   obtain ⟨i',v,hi',hv,hz⟩:=gw_ h6
   rw [hi] at hi';cases hi'
   obtain ⟨k1,N,hN,ev1⟩:=Zl_ ev
   obtain ⟨k2,C,hC,ev2⟩:=Zl_ ev1
   obtain ⟨⟨h0,hNC,hCb,hC47⟩,hK⟩:=zh_ ev2
   have hvs:v.cells.size=t.size:=by
    have:=Zt_ t _ _ (hz (fun _=>False) default);simpa using this
   refine Kq_ hK (fun _ _ h=>by cases h) fun {I w m a σ} hf hH ha hu=>⟨Instr.makeSlice ty (a.eval n) (a.eval c),by unfold execOp;rw [ho],.slice (some ⟨w.heap.size,0,none⟩) N.toNat C.toNat,
    w.alloc (.cells ((Array.range (C.toNat*v.cells.size)).map fun i=>v.cells[i % v.cells.size]!) e),some w.heap.size,C.toNat,N.toNat,t.size,?_,Fr.alloc _ _ _,fun b hb=>by cases hb;exact Nat.le_refl _,fun hs=>?_,fun _=>GY_ (by omega) (by unfold maxLen;omega)⟩
   ·have r1:=hf.rv z4_ hn;rw [hN] at r1
    have r2:=hf.rv ZD_ hc;rw [hC] at r2
    have w1:IntKind.i64.wrap N=N:=xm_ ⟨by simp [IntKind.min,IntKind.signed,IntKind.bits];omega,by simp [IntKind.max,IntKind.signed,IntKind.bits];omega⟩
    have w2:IntKind.i64.wrap C=C:=xm_ ⟨by simp [IntKind.min,IntKind.signed,IntKind.bits];omega,by simp [IntKind.max,IntKind.signed,IntKind.bits];omega⟩
    have t1:¬ (C < 0):=by omega
    have t2:¬ ((i.bytes:Int)*C > 281474976710656):=by rw [hby,Int.mul_comm];omega
    have t3:¬ (N < 0):=by omega
    have t4:¬ (N > C):=by omega
    have e2:(Array.range (C.toNat*i.size)).map (fun j=>(if C.toNat*i.size=0 then (#[]:Array Value) else v.cells)[j % (if C.toNat*i.size=0 then (#[]:Array Value) else v.cells).size]!)=(Array.range (C.toNat*v.cells.size)).map fun i=>v.cells[i % v.cells.size]! :=by
     rw [hvs,<- hsz]
     by_cases h:C.toNat*i.size=0
     ·rw [h];apply Array.ext';simp
     ·simp only [if_neg h];rw [hvs,<- hsz]
    have t2':¬ (281474976710656 < (i.bytes:Int)*C):=by omega
    have t4':¬ (C < N):=by omega
    rw [(zj_ r1).1,(zj_ r2).1,<- e2]
    by_cases h:C.toNat*i.size=0
    ·simp [Instr.makeSlice,run_underlying he,asInt,asIntOf,typeInfo,hi,w1,w2,t1,t2',t3,t4',zP_ hi,h,newRow]
    ·simp [Instr.makeSlice,run_underlying he,asInt,asIntOf,typeInfo,hi,w1,w2,t1,t2',t3,t4',zP_ hi,h,kJ_ hi hv,newRow]
   ·have:=VN_ (nx:=nx) (m:=m) (t:=t) (x:=List.replicate N.toNat z) (cap:=C.toNat) (Qc_ w (.cells ((Array.range (C.toNat*v.cells.size)).map fun i=>v.cells[i % v.cells.size]!) e)) (FzR.zero _ _) (by simp [hvs]) (by simp;omega) (by unfold maxLen;omega)
     (EA.replicate (es:=v.cells.toList) (hz I _) fun k hk=>by rw [gJ_ _ _ _ (by rw [hvs];exact Nat.lt_of_lt_of_le hk (Nat.mul_le_mul_right _ (by omega))),hvs])
    rw [List.length_replicate] at this;exact this
  ·cases h3
 ·cases hok
theorem Y1_ {t:Ty} {n:Nat} {ps:List (Nat × Nat × Opd)} (hok:zu_ P o.op (.sliceAll t n ps)=true) (ev:zt_ Γ (.sliceAll t n ps) fr st nx K):MOK P o (ps.map (·.2.2)) fr (Zd_ (ps.map (·.2.2)) fr) true st nx K:=by
 simp only [zt_] at ev
 simp only [zu_] at hok
 split at hok
 ·rename_i ty k zN_ ho
  simp only [Bool.and_eq_true,beq_iff_eq] at hok
  obtain ⟨rfl,hok⟩:=hok
  split at hok
  ·rename_i e he
   simp only [Bool.and_eq_true,decide_eq_true_eq] at hok
   obtain ⟨⟨⟨⟨⟨h1,h2⟩,h2'⟩,h3⟩,h4⟩,h5⟩:=hok
   have he:=qy_ he
   obtain ⟨i,hi,hn⟩:=qa_ h1
   rw [hi] at h3
   simp only at h3
   obtain ⟨v,hv⟩:=Option.isSome_iff_exists.1 h3
   have hce:P.cellsOf e=i.size:=by simp [Program.cellsOf,hi]
   obtain ⟨l,ev1,hids,hcat⟩:=Wi_ ev
   obtain ⟨l',st',T,ev2,⟨g1,g2⟩,hg⟩:=kq_ ev1
   obtain ⟨x,hx,ev2⟩:=Q7_.1 ev2
   ·refine ⟨_,st',nx,T,Nat.le_refl _,ev2,g1,fun j hj=>.inl ⟨rfl,hids j (g2 j hj).1,(g2 j hj).2⟩,fun {X0 I0 w0 σ I w m a} hf hs ha _=>?_⟩
    obtain ⟨cs',h6,_,_,h8⟩:=hcat hf h4 (cs:=(Array.range (k*t.size)).map fun j=>v.cells[j % v.cells.size]!) (by simp)
    rw [List.drop_zero] at h8
    obtain ⟨I1,hs1,hE1,hr⟩:=hg hs fun j hj=>ha j (hids j hj)
    obtain ⟨h9,h10,h11⟩:=Wm_ k l' cs'.toList x (hr _ h8) hx
    subst h9
    have hsame:qF_ I1 w (w.alloc (.cells cs' e)):=fun b hb=>Below.heap_alloc _ _ _ (hs1.H.Ilt b hb)
    have hE2:Evo I1 w m (fun b=>I1 b\/b=w.heap.size) (w.alloc (.cells cs' e)) m:=⟨fun _ h=>.inl h,hsame,m.le_refl⟩
    have hsz:(w.alloc (.cells cs' e)).heap.size=w.heap.size+1:=by simp
    refine Kf_ (cv:=.slice (some ⟨w.heap.size,0,none⟩) x.length x.length) (w':=w.alloc (.cells cs' e)) (JY_ (S:=Instr.buildSlice ty x.length (zN_.map fun (i,x)=>(i,a.eval x))) (by unfold execOp;rw [ho]) ?_)
     ⟨⟨_,_,_,rfl,wP_.2 ⟨rfl,Nat.le_refl _,by unfold maxLen;omega,fun _=>⟨w.heap.size,0,rfl,.inr rfl,fun j hj=>?_⟩⟩⟩,
       hs1.step hE2 (fun _=>False) (fun _ _=>rfl) (Fr.alloc _ _ _) (fun b hb=>?_) (fun b hb=>?_) (fun _ _ h=>h.elim) (fun _ _ _ h=>h.elim) (fun _ _ _ _ _ h=>h.elim) (fun _ _ _ h=>h.elim) (fun _ _ _ _ h=>h.elim) (fun _ _ _ h=>h.elim) (fun b hb=>hb.imp id fun h cs T fz e0=>by subst h;rw [Qc_ w _] at e0;cases e0;exact X2_.zero _),hE1.trans hE2,fun _ h=>.inl h⟩
    ·have hfill:Instr.fill (fun j=>some (j*i.size,i.size)) ((Array.range (x.length*i.size)).map fun j=>v.cells[j % v.cells.size]!) (zN_.map fun (i,x)=>(i,a.eval x)).toList=some cs':=by
      rw [<- h6,hce,hn];simp [Array.toList_map]
     have hg:¬ (x.length*i.size > 2 ^ 24):=by rw [hn];omega
     have hz:¬ (x.length*i.size=0):=by rw [hn];omega
     simp only [Instr.buildSlice,Sem.run_bind,run_underlying he,Result.andThen_ok,zP_ hi]
     rw [if_neg hg,if_neg hz]
     simp only [Sem.run_bind,kJ_ hi hv,Sem.run_pure,Result.andThen_ok,hfill,newRow,run_newObj]
     rfl
    ·obtain ⟨es,h12,h13⟩:=h11 j hj
     refine ⟨es,qW_ (fun _ h=>.inl h) hsame t _ _ h12,fun q hq=>?_⟩
     show (w.alloc (.cells cs' e)).cell? ⟨w.heap.size,0+(j*t.size+q),none⟩=_
     rw [ZI_ (Qc_ w _),Nat.zero_add,<- h13 q hq,Array.getElem?_toList]
    ·rcases hb with h | h
     ·exact .inl h
     ·exact .inr (.inl (by omega))
    ·rcases hb with h | h
     ·have:=hs1.H.Ilt b h;omega
     ·omega
  ·cases hok
 ·cases hok
end ops
end Go.Eng
namespace Go.Eng
set_option linter.unusedVariables false
set_option linter.unusedSimpArgs false
open Go.RowKit
def bY_ (X:(Nat->Prop)->World->M->Act->Prop) (P:Program) (o:Oper) (L:List Opd) (fr:zd_) (F:List Nat) (wr:Bool) (st:zc_) (nx:Nat) (K:AV->zc_->Nat->Prop):Prop:=
 ∃ v st1 nx' T,nx<=nx'/\K v st1 nx'/\(∀ i,i ∉ T->st1.get i=st.get i)/\(∀ i ∈ T,(wr=true/\i ∈ F/\st.get i ≠ none)\/(nx<=i/\i < nx'))/\
   ∀ {X0:Bool->Nat->Prop} {I0:Nat->Prop} {w0:World} {σ:Sto} {I:Nat->Prop} {w:World} {m:M} {a:Act},X I w m a->FOn L fr I w m a->HS X0 I0 w0 σ I w m->(∀ i ∈ F,σ i=st.get i)->(∀ i,nx<=i->i < nx'->¬ m.used i)->
     wQ_ P o a w (vZ_ X0 I0 w0 I w m (upd σ T st1) v nx nx')
section ops
variable {P:Program} {Γ:Env} {o:Oper} {L:List Opd} {fr:zd_} {F:List Nat} {wr:Bool} {st:zc_} {nx:Nat} {K:AV->zc_->Nat->Prop} {X:(Nat->Prop)->World->M->Act->Prop}
theorem vt_ (h:bY_ (fun _ _ _ _=>True) P o L fr F wr st nx K):MOK P o L fr F wr st nx K:=by
 obtain ⟨v,st1,nx',T,h1,h2,h3,h4,h5⟩:=h
 exact ⟨v,st1,nx',T,h1,h2,h3,h4,fun hf hs ha hN=>h5 trivial hf hs ha hN⟩
theorem FOn.evo {L:List Opd} {I I':Nat->Prop} {w w':World} {m m':M} {a:Act} (h:FOn L fr I w m a) (e:Evo I w m I' w' m'):FOn L fr I' w' m' a:=fun i hi=>e.rv (h i hi)
theorem gT_ {st1:zc_} {T1:List Nat} (g1:∀ i,i ∉ T1->st1.get i=st.get i) (g2:∀ i ∈ T1,i ∈ F/\st.get i ≠ none)
 (hg:∀ {X0:Bool->Nat->Prop} {I0:Nat->Prop} {w0:World} {σ:Sto} {I:Nat->Prop} {w:World} {m:M} {a:Act},FOn L fr I w m a->HS X0 I0 w0 σ I w m->(∀ i ∈ F,σ i=st.get i)->∃ I',HS X0 I0 w0 (upd σ T1 st1) I' w m/\Evo I w m I' w m/\X I' w m a)
 (h:bY_ X P o L fr F true st1 nx K):MOK P o L fr F true st nx K:=by
 obtain ⟨v,st2,nx',T,h1,h2,h3,h4,h5⟩:=h
 refine ⟨v,st2,nx',T1++T,h1,h2,fun i hi=>?_,fun i hi=>?_,fun {X0 I0 w0 σ I w m a} hf hs ha hN=>?_⟩
 ·simp only [List.mem_append,not_or] at hi;rw [h3 i hi.2,g1 i hi.1]
 ·rcases List.mem_append.1 hi with h | h
  ·exact .inl ⟨rfl,g2 i h⟩
  ·rcases h4 i h with ⟨k1,k2,k3⟩ | h
   ·refine .inl ⟨k1,k2,?_⟩
    by_cases h1:i ∈ T1
    ·exact (g2 i h1).2
    ·rw [<- g1 i h1];exact k3
   ·exact .inr h
 ·obtain ⟨I',k1,k2,k3⟩:=hg hf hs ha
  intro N Q k
  refine h5 k3 (hf.evo k2) k1 (Yd_ g1 ha) hN N Q fun cv I'' w' m' hgood=>k cv I'' w' m' ?_
  obtain ⟨q1,q2,q3,q4⟩:=hgood
  rw [UP_ h3] at q2
  exact ⟨q1,q2,k2.trans q3,q4⟩
theorem kU_ {v:AV} {i:Nat} {ob ob':Obj} (hi:st.get i=some ob) (hm:ob.mut=true) (hm':ob'.mut=true) (hF:i ∈ F) (hwr:wr=true) (hK:K v (st.set i ob') nx)
 (h:∀ {I:Nat->Prop} {w:World} {m:M} {a:Act} {σ:Sto},X I w m a->FOn L fr I w m a->HRel I w m σ->(∀ i ∈ F,σ i=st.get i)->∃ cv w',((execOp a.eval o).run P w=.ok (.value cv) w'\/((execOp a.eval o).run P w=.ok .skip w'/\cv=undef))/\
   Fr (fun b=>m.blk i=some b) w w'/\(qF_ I w w'->zG_ I w' m i ob')/\(qF_ I w w'->RV I w' m v cv)):bY_ X P o L fr F wr st nx K:=by
 refine ⟨v,st.set i ob',nx,[i],Nat.le_refl _,hK,fun j hj=>by rw [zc_.get_set,if_neg (by simpa using hj)],fun j hj=>.inl (by simp only [List.mem_singleton] at hj;subst hj;exact ⟨hwr,hF,by rw [hi];intro h;cases h⟩),fun {X0 I0 w0 σ I w m a} hX hf hs ha _=>?_⟩
 obtain ⟨cv,w',hr,hfr,ho,hv⟩:=h hX hf hs.H ha
 have hσ:σ i=some ob:=by rw [ha i hF,hi]
 have hml:∀ {o:Obj},o.mut=true->o.live=true:=fun {o} h=>by cases o<;>first | rfl | cases h
 have hsame:qF_ I w w':=fun b hb=>hfr.block b (hs.H.Ilt b hb) fun e=>hs.H.notI i ob b hσ hm e hb
 have hE:Evo I w m I w' m:=⟨fun _ h=>h,hsame,m.le_refl⟩
 have hget:∀ j,upd σ [i] (st.set i ob') j=if j=i then some ob' else σ j:=fun j=>by
  unfold upd
  simp only [List.mem_singleton,zc_.get_set]
  split<;>rfl
 have good:vZ_ X0 I0 w0 I w m (upd σ [i] (st.set i ob')) v nx nx cv I w' m:=by
  refine ⟨hv hsame,hs.step hE (fun j=>j=i) (fun j hj=>by rw [hget,if_neg hj]) (hfr.weak fun b hb=>⟨i,ob,rfl,hσ,hm,hb⟩) (fun b h=>.inl h) (fun b h=>Nat.lt_of_lt_of_le (hs.H.Ilt b h) hfr.size)
   (fun j o' hj e=>?_) (fun j o' b hj e hl hb=>?_) (fun j k o' o'' b hj hk _ _ _ _ _ _=>hj.trans hk.symm) (fun j o' b hj e hm2 hb=>?_) (fun j t x b hj e hb=>?_) (fun j wr kn hj e=>by subst hj;rw [hget,if_pos rfl] at e;cases e;cases hm') (fun b hb=>.inl hb),hE,fun _ h=>.inl h⟩
  ·subst hj;rw [hget,if_pos rfl] at e;cases e
   exact ⟨hs.H.lt j (by rw [hσ];intro h;cases h),ho hsame⟩
  ·subst hj;exact .inr ⟨j,ob,rfl,hσ,hml hm,fun _=>hm,hb⟩
  ·subst hj;exact hs.H.notI j ob b hσ hm hb
  ·subst hj;rw [hget,if_pos rfl] at e;cases e;cases hm'
 rcases hr with hr | ⟨hr,rfl⟩
 ·exact Kf_ hr good
 ·exact Va_ hr good
theorem Kz_:∀ (t:Ty) (x:t.den),(t.cells x).length=t.size
 | .int _,_=>rfl
 | .bool,_=>rfl
 | .str,_=>rfl
 | .nil,_=>rfl
 | .cons a b,x=>by simp [Ty.cells,Ty.size,Kz_ a,Kz_ b]
 | .sl _,_=>rfl
theorem wl_ (cs vs:List Value) (off:Nat) (h:off+vs.length<=cs.length) (k:Nat):(cs.take off++vs++cs.drop (off+vs.length))[k]?=if k < off then cs[k]? else if k < off+vs.length then vs[k - off]? else cs[k]?:=by
 have hl:(cs.take off).length=off:=by simp;omega
 by_cases h1:k < off
 ·rw [if_pos h1,List.append_assoc,List.getElem?_append_left (by omega),List.getElem?_take,if_pos h1]
 ·rw [if_neg h1]
  by_cases h2:k < off+vs.length
  ·rw [if_pos h2,List.append_assoc,List.getElem?_append_right (by omega),hl,List.getElem?_append_left (by omega)]
  ·rw [if_neg h2,List.getElem?_append_right (by simp;omega),List.getElem?_drop]
   congr 1;simp;omega
theorem kS_ (cs:Array Value) (vs:List Value) (off:Nat) (h:off+vs.length<=cs.size):((cs.toList.take (off+0)++vs++cs.toList.drop (off+0+vs.length)).toArray).size=cs.size:=by
 simp only [List.size_toArray,List.length_append,List.length_take,List.length_drop,Array.length_toList];omega
def qw_ (x y:Opd) (fr:zd_):List Nat:=match x.ev fr with | .ptr _ _=>Zd_ [x] fr | _=>Zd_ [x,y] fr
theorem gC_ {n:Nat} {x' y':Opd} (hok:zu_ P o.op (.store n x' y')=true) (ev:zt_ Γ (.store n x' y') fr st nx K):MOK P o [x',y'] fr (qw_ x' y' fr) true st nx K:=by
 simp only [zt_,Zy_,zc_.setK_eq] at ev
 simp only [zu_] at hok
 split at hok
 ·rename_i t x y ho
  simp only [Bool.and_eq_true] at hok
  obtain ⟨⟨hs1,hx⟩,hy⟩:=hok
  obtain ⟨ti,hti,hn⟩:=qa_ hs1
  have hex:∀ (a:Act),execOp a.eval o=(do Instr.storeAt t (a.eval x) (a.eval y);pure .skip):=fun a=>by unfold execOp;rw [ho]
  split at ev
  ·-- a box
   rename_i i off c hb hc
   rw [show qw_ x' y' fr=Zd_ [x'] fr by unfold qw_;rw [hb]]
   split at ev
   ·rename_i l hl
    split at ev
    ·rename_i hd
     simp only [Bool.and_eq_true] at hd
     obtain ⟨hcn,hoff⟩:=hd
     have hcn:=Nat.eq_of_beq_eq_true hcn
     have hoff:=Nat.le_of_ble_eq_true hoff
     refine vt_ (kU_ (ob:=.box l) (ob':=.box (put l off c)) hl rfl rfl (zx_ (List.mem_singleton.2 rfl:x' ∈ [x']) hb i (by simp [AV.ids,AV.ids1,AV.ids0])) rfl ev fun {I w m a σ} _ hf hH ha=>?_)
     have hv:=hf.rv z4_ hx;rw [hb] at hv
     have hu:=QY_ (hf.rv ZD_ hy) hc
     have hi:σ i=some (.box l):=by rw [ha i (zx_ (List.mem_singleton.2 rfl:x' ∈ [x']) hb i (by simp [AV.ids,AV.ids1,AV.ids0])),hl]
     obtain ⟨b,cs,T,fz,h1,h2,hz,h3⟩:=hH.obj i _ hi
     obtain ⟨b',h4,h5,_⟩:=hv
     rw [h1] at h4;cases h4
     have hlen:=Zg_ h3
     have hlc:=Zg_ hu
     have hcs:cs.toList.length=cs.size:=Array.length_toList
     obtain ⟨w',r1,r2,r3,r4,r5,r6,r7⟩:=Zk_ (P:=P) (a.eval y).cells.toList 0 off w cs h2 hz (by omega) (QW_ hu)
     have hrun:(Instr.storeAt t (a.eval x) (a.eval y)).run P w=.ok () w':=by
      have hsz:(a.eval y).cells.size=ti.size:=by rw [hn,<- hcn,hlc];simp
      simp [Instr.storeAt,h5,Instr.sureAddr,storeVar,zP_ hti,hsz,r1]
     refine ⟨undef,w',.inr ⟨Us_ (hex a) hrun,rfl⟩,⟨r5,r6,r7,by omega,fun k _ hk=>r4 k (fun e=>hk (by rw [e];exact h1))⟩,fun hs=>⟨b,_,T,fz,h1,r2,?_,?_⟩,fun _=>trivial⟩
     ·rw [kS_ _ _ _ (by omega)];exact hz
     ·have:=k4_ off h3 hu (by omega)
      simp only [Nat.add_zero]
      exact ZN_ (fun _ h=>h) hs m.le_refl _ _ this
    ·exact ev.elim
   ·exact ev.elim
  ·-- an element of a row
   rename_i j i off c hb hc
   rw [show qw_ x' y' fr=Zd_ [x',y'] fr by unfold qw_;rw [hb]]
   obtain ⟨c',st1,T1,ev1,⟨g1,g2⟩,hg⟩:=kq_ ev
   split at ev1
   ·rename_i ty yl hl
    split at ev1
    ·rename_i hd
     simp only [Bool.and_eq_true] at hd
     obtain ⟨hcn,hoff⟩:=hd
     have hcn:=Nat.eq_of_beq_eq_true hcn
     have hoff:=Nat.le_of_ble_eq_true hoff
     obtain ⟨hi,ev2⟩:=zh_ ev1
     obtain ⟨z,hz,ev2⟩:=u0_ ev2
     ·have hjF:j ∈ Zd_ [x',y'] fr:=zx_ z4_ hb j (by simp [AV.ids,AV.ids1,AV.ids0])
      have hids:∀ i ∈ zI_ c,i ∈ Zd_ [x',y'] fr:=fun i hi=>zx_ ZD_ rfl i (uh_ hc i hi)
      refine gT_ (X:=fun I w m a=>zM_ I w m c' (a.eval y).cells.toList) g1 (fun i hi=>⟨hids i (g2 i hi).1,(g2 i hi).2⟩) (fun {X0 I0 w0 σ I w m a} hf hs ha=>?_) (kU_ (ob:=.row false ty yl) (ob':=.row false ty (yl.set i z)) hl rfl rfl hjF rfl ev2 fun {I w m a σ} hX hf hH ha=>?_)
      ·obtain ⟨I',k1,k2,k3⟩:=hg hs fun i hi=>ha i (hids i hi)
       exact ⟨I',k1,k2,k3 _ (QY_ (hf.rv ZD_ hy) hc)⟩
      ·have hv:=hf.rv z4_ hx;rw [hb] at hv
       have hj:σ j=some (.row false ty yl):=by rw [ha j hjF,hl]
       obtain ⟨q1,q2,q3,q4,q5⟩:=hH.obj j _ hj
       obtain ⟨b',h4,h5,_⟩:=hv
       rcases q5 with ⟨q5,_⟩ | ⟨b,cs,T,fz,q5,q6,q7,q8,q9⟩
       ·rw [q5] at h4;cases h4
       ·have e:=Option.some.inj (q5.symm.trans h4)
        subst e
        have q9:EA I w ty yl fun k=>cs[k]?:=q9
        have hlc:=Zg_ hX
        have hvs:(a.eval y).cells.toList.length=n:=by omega
        have hcs:cs.toList.length=cs.size:=Array.length_toList
        have hsz1:(i+1)*ty.size<=cs.size:=by rw [q8];exact Nat.mul_le_mul_right _ (by omega)
        have hfit:i*ty.size+off+(a.eval y).cells.toList.length<=cs.size:=by rw [Nat.add_mul] at hsz1;omega
        obtain ⟨w',r1,r2,r3,r4,r5,r6,r7⟩:=Zk_ (P:=P) (a.eval y).cells.toList 0 (i*ty.size+off) w cs q6 q7.1 (by omega) (QW_ hX)
        have hrun:(Instr.storeAt t (a.eval x) (a.eval y)).run P w=.ok () w':=by
         have hsz:(a.eval y).cells.size=ti.size:=by rw [hn,<- hvs];simp
         simp [Instr.storeAt,h5,Instr.sureAddr,storeVar,zP_ hti,hsz,q1,r1]
        have hsize:=kS_ cs (a.eval y).cells.toList (i*ty.size+off) hfit
        have hget:∀ k,((cs.toList.take (i*ty.size+off+0)++(a.eval y).cells.toList++cs.toList.drop (i*ty.size+off+0+(a.eval y).cells.toList.length)).toArray)[k]?=if k < i*ty.size+off then cs[k]? else if k < i*ty.size+off+(a.eval y).cells.toList.length then (a.eval y).cells.toList[k - (i*ty.size+off)]? else cs[k]?:=fun k=>by
         rw [List.getElem?_toArray,Nat.add_zero,wl_ _ _ _ (by omega)]
         simp only [Array.getElem?_toList]
        refine ⟨undef,w',.inr ⟨Us_ (hex a) hrun,rfl⟩,⟨r5,r6,r7,by omega,fun k _ hk=>r4 k (fun e=>hk (by rw [e];exact q5))⟩,fun hs=>⟨q1,by simpa using q2,by simpa using q3,q4,.inr ⟨b,_,T,fz,q5,r2,by rw [hsize];exact q7,by rw [hsize];exact q8,?_⟩⟩,fun _=>trivial⟩
        obtain ⟨es,e1,e2'⟩:=q9 i hi
        have e2:∀ k (hk:k < es.length),cs[i*ty.size+k]?=some es[k]:=e2'
        have hel:=Zt_ ty _ _ e1
        have hgetD:yl.getD i ty.dflt=yl[i]:=by simp [hi]
        rw [hgetD] at hz
        have hput:=k4_ off (QC_ (m:=m) ty _ _ e1) hX (by rw [Kz_];omega)
        have hRC:=WF_ hput hz
        have hel':=Zt_ ty _ _ hRC
        refine EA.set (EA.mono (fun _ h=>h) hs q9) (qW_ (fun _ h=>h) hs ty _ _ hRC) hi (fun k hk=>?_) (fun k hk hout=>?_)
        ·rw [hel'] at hk
         show ((cs.toList.take (i*ty.size+off+0)++(a.eval y).cells.toList++cs.toList.drop (i*ty.size+off+0+(a.eval y).cells.toList.length)).toArray)[i*ty.size+k]?=_
         rw [hget,<- List.getElem?_eq_getElem (by omega),wl_ es _ off (by omega) k]
         by_cases h1:k < off
         ·rw [if_pos h1,if_pos (by omega),e2 k (by omega),List.getElem?_eq_getElem (by omega)]
         ·rw [if_neg h1,if_neg (by omega)]
          by_cases h2:k < off+(a.eval y).cells.toList.length
          ·rw [if_pos h2,if_pos (by omega)];congr 1;omega
          ·rw [if_neg h2,if_neg (by omega),e2 k (by omega),List.getElem?_eq_getElem (by omega)]
        ·show ((cs.toList.take (i*ty.size+off+0)++(a.eval y).cells.toList++cs.toList.drop (i*ty.size+off+0+(a.eval y).cells.toList.length)).toArray)[k]?=_
         rw [hget]
         rw [Nat.add_mul] at hout
         by_cases h1:k < i*ty.size+off
         ·rw [if_pos h1]
         ·rw [if_neg h1,if_neg (by omega)]
    ·exact ev1.elim
   ·exact ev1.elim
  ·-- a number of a region
   rename_i j ty yl i off c hb hc
   rw [show qw_ x' y' fr=Zd_ [x',y'] fr by unfold qw_;rw [hb]]
   split at ev
   ·rename_i k v0 q
    split at ev
    ·split at ev
     ·rename_i k' v1 rest hdrop
      split at ev
      ·rename_i hk _
       subst hk
       split at ev
       ·rename_i hn1
        have hn1:=Nat.eq_of_beq_eq_true hn1
        split at ev
        ·rename_i wr0 kn0 hl
         split at ev
         ·have hjF:j ∈ Zd_ [x',y'] fr:=zx_ z4_ hb j (by simp [AV.ids,AV.ids1,AV.ids0])
          refine ⟨.undef,st.set j (.reg true false),nx,[j],Nat.le_refl _,ev,fun q hq=>by rw [zc_.get_set,if_neg (by simpa using hq)],fun q hq=>.inl (by simp only [List.mem_singleton] at hq;subst hq;exact ⟨rfl,hjF,by rw [hl];intro h;cases h⟩),fun {X0 I0 w0 σ I w m a} hf hs ha hN=>?_⟩
          have hv:=hf.rv z4_ hx;rw [hb] at hv
          obtain ⟨⟨b,ofs,e1,hd,hi,h1⟩,hu⟩:=hv
          have hval:=QY_ (hf.rv ZD_ hy) hc
          have hj:σ j=some (.reg true kn0):=by rw [ha j hjF,hl]
          obtain ⟨g1,g2,g3,g4⟩:=hs.H.gar j true kn0 b hj hd
          obtain ⟨es,h2,h3⟩:=h1 i hi
          have hget:yl.getD i ty.dflt=yl[i]:=by simp [hi]
          rw [hget] at hdrop
          obtain ⟨cv,q1,q2⟩:=uD_ (QC_ (m:=m) ty _ _ h2) hdrop
          obtain ⟨q2,_⟩:cv=.int k v1/\inK k v1:=q2
          subst q2
          have hlt:off < es.length:=by
           rcases Nat.lt_or_ge off es.length with h | h
           ·exact h
           ·rw [List.getElem?_eq_none h] at q1;cases q1
          rw [List.getElem?_eq_getElem hlt] at q1
          have hwc:(m.rg j).wc.cell? ⟨b,ofs+i*ty.size+off,none⟩=some (.int k v1):=by rw [h3 off hlt];exact q1
          obtain ⟨cs,cs',T,fz,c1,c2,c3,c4⟩:∃ (cs cs':Array Value) (T:TypeId) (fz:Nat × Nat),(m.rg j).wc.heap[b]?=some (.cells cs T fz)/\w.heap[b]?=some (.cells cs' T fz)/\cs'.size=cs.size/\∀ j:Nat,cs'[j]?=cs[j]?\/∃ k n n',cs[j]?=some (.int k n)/\cs'[j]?=some (.int k n')/\inK k n':=by
           rcases g4.1 with h | h
           ·cases hh:(m.rg j).wc.heap[b]? with
            | none=>simp [World.cell?,hh] at hwc
            | some ob=>
              cases ob with
              | cells cs T fz=>exact ⟨cs,cs,T,fz,rfl,h.trans hh,rfl,fun _=>.inl rfl⟩
              | _=>simp [World.cell?,hh] at hwc
           ·exact h
          have hz:X2_ fz cs'.size:=by rw [c3];exact g4.2.2 rfl cs T fz c1
          rw [ZI_ c1] at hwc
          have hlt2:ofs+i*ty.size+off < cs.size:=(Array.getElem?_eq_some_iff.1 hwc).1
          have hy1:(a.eval y).cells.toList=[.int k v0]/\inK k v0:=by
           match hcl:(a.eval y).cells.toList,hval with
           | [u],hval=>obtain ⟨h5,h6⟩:u=.int k v0/\inK k v0:=hval.1;rw [h5];exact ⟨rfl,h6⟩
          obtain ⟨w',r1,r2,r3,r4,r5,r6,r7⟩:=Zk_ (P:=P) [Value.int k v0] 0 (ofs+i*ty.size+off) w cs' c2 hz (by simp;omega) (fun v hv=>by simp only [List.mem_singleton] at hv;subst hv;rfl)
          have hrun:(Instr.storeAt t (a.eval x) (a.eval y)).run P w=.ok () w':=by
           have hsz:(a.eval y).cells.size=ti.size:=by rw [hn,hn1,<- Array.length_toList,hy1.1];rfl
           simp [Instr.storeAt,e1,Instr.sureAddr,storeVar,zP_ hti,hsz,hy1.1,r1]
          have hcs':cs'.toList.length=cs'.size:=Array.length_toList
          have hsize:=kS_ cs' [Value.int k v0] (ofs+i*ty.size+off) (by simp;omega)
          have hget2:∀ p,((cs'.toList.take (ofs+i*ty.size+off+0)++[Value.int k v0]++cs'.toList.drop (ofs+i*ty.size+off+0+[Value.int k v0].length)).toArray)[p]?=if p=ofs+i*ty.size+off then some (.int k v0) else cs'[p]?:=fun p=>by
           rw [List.getElem?_toArray,Nat.add_zero,wl_ _ _ _ (by simp;omega)]
           simp only [Array.getElem?_toList,List.length_singleton]
           by_cases h5:p=ofs+i*ty.size+off
           ·rw [if_pos h5,if_neg (by omega),if_pos (by omega),h5,Nat.sub_self];rfl
           ·rw [if_neg h5]
            by_cases h6:p < ofs+i*ty.size+off
            ·rw [if_pos h6]
            ·rw [if_neg h6,if_neg (by omega)]
          have hσ':∀ p,upd σ [j] (st.set j (.reg true false)) p=if p=j then some (.reg true false) else σ p:=fun p=>by
           unfold upd
           simp only [List.mem_singleton,zc_.get_set]
           split<;>rfl
          obtain ⟨s1,s2⟩:=hs.gstore (w':=w') hj hσ' hd ⟨r5,r6,r7,by omega,fun p _ hp=>r4 p hp⟩ (.inr ⟨cs,_,T,fz,c1,r2,by rw [hsize,c3],fun p=>by
           rw [hget2]
           by_cases h5:p=ofs+i*ty.size+off
           ·rw [if_pos h5,h5];exact .inr ⟨k,v1,v0,hwc,rfl,hy1.2⟩
           ·rw [if_neg h5];exact c4 p⟩) (fun cs2 T2 fz2 e2=>by rw [r2] at e2;cases e2;rw [hsize];exact hz)
          exact Va_ (Us_ (hex a) hrun) ⟨trivial,s1,s2,fun _ h=>.inl h⟩
         ·exact ev.elim
        ·exact ev.elim
       ·exact ev.elim
      ·exact ev.elim
     ·exact ev.elim
    ·exact ev.elim
   ·exact ev.elim
  ·exact ev.elim
 ·cases hok
end ops
end Go.Eng
