/- Parts of the proof: EOps6. No condition. -/
import Derived.Test.YtimkdohmkfjfaaaGreatDoorXK03
import Derived.Laws.BytesString
import Derived.Laws.Append
namespace Go.Eng
set_option linter.unusedVariables false
set_option linter.unusedSimpArgs false
open Go.RowKit
section ops
variable {P:Program} {Γ:Env} {o:Oper} {fr:zd_} {F:List Nat} {wr:Bool} {st:zc_} {nx:Nat} {K:AV->zc_->Nat->Prop}
theorem K0_ {t e:TypeId} {ts:Array TypeId} {ty:TypeId} {b:Option Addr} {n c:Nat} {w:World} (h0:ts[0]?=some t) (ht:P.underlying t=some (.slice e)):
 (Builtin.len_ ts ty #[.slice b n c]).run P w=.ok (.int .i64 n) w:=by
 simp [Builtin.len_,h0,run_underlying ht,goInt]
theorem y3_ (j:Nat):∀ (l r:List AV),X0_ j (l++r)=X0_ j l++X0_ j r
 | [],_=>rfl
 | v :: l,r=>by show _ :: X0_ j (l++r)=_;rw [y3_ j l r];rfl
theorem WJ_ {I:Nat->Prop} {w:World} {m:M} {j:Nat} (hu:m.used j):∀ (t:Ty) (x:t.den) (cs:List Value),RC (m.rg j).dp (m.rg j).wc t x cs->z0_ I w m (X0_ j (t.cells x)) cs
 | .int k,n,cs,h=>by simp only [RC] at h;obtain ⟨rfl,h⟩:=h;exact ⟨⟨rfl,h⟩,trivial⟩
 | .bool,b,cs,h=>by simp only [RC] at h;subst h;exact ⟨rfl,trivial⟩
 | .str,l,cs,h=>by simp only [RC] at h;obtain ⟨s,rfl,h⟩:=h;exact ⟨⟨s,rfl,h⟩,trivial⟩
 | .nil,_,cs,h=>by simp only [RC] at h;subst h;exact trivial
 | .cons a b,x,cs,h=>by
   simp only [RC] at h
   obtain ⟨c1,c2,rfl,h1,h2⟩:=h
   show z0_ I w m (X0_ j (a.cells x.1++b.cells x.2)) (c1++c2)
   rw [y3_]
   exact jB_ (WJ_ hu a _ _ h1) (WJ_ hu b _ _ h2)
 | .sl t,l,cs,h=>by
   obtain ⟨ao,len,cap,rfl,h'⟩:=xk_.1 h
   exact ⟨⟨⟨ao,len,cap,rfl,h'⟩,hu⟩,trivial⟩
def GX_ (v v':Value):Prop:=v'=v\/∃ k n n',v=.int k n/\v'=.int k n'/\inK k n'
theorem zaa_ {I:Nat->Prop} {w:World} {m:M} {j:Nat}:∀ (l:List AV) (es es':List Value),z0_ I w m (X0_ j l) es->es'.length=es.length->(∀ q (h:q < es.length) (h':q < es'.length),GX_ es[q] es'[q])->z0_ I w m (loJL j l) es'
 | [],[],[],_,_,_=>trivial
 | [],[],_ :: _,_,e,_=>by cases e
 | [],_ :: _,_,h,_,_=>h.elim
 | v :: l,[],_,h,_,_=>h.elim
 | v :: l,e :: es,[],_,e2,_=>by cases e2
 | v :: l,e :: es,e' :: es',h,e2,hl=>by
   have h0:=hl 0 (by simp) (by simp)
   refine ⟨?_,zaa_ l es es' h.2 (by simpa using e2) fun q a b=>by have:=hl (q+1) (by simpa using a) (by simpa using b);simpa using this⟩
   have h0:GX_ e e':=h0
   have one:e'.oneCell'=true:=by
    rcases h0 with rfl | ⟨k,n,n',rfl,rfl,_⟩
    ·exact Yo_ h.1
    ·rfl
   cases v with
   | int k n=>
     obtain ⟨e3,h3⟩:e=.int k n/\inK k n:=h.1
     rcases h0 with rfl | ⟨k1,n1,n',h4,h5,h6⟩
     ·exact ⟨n,e3,h3⟩
     ·rw [h4] at e3;cases e3;exact ⟨n',h5,h6⟩
   | imm t x=>
     obtain ⟨⟨ao,len,cap,e3,h3⟩,hu⟩:=(h.1:RV0 I w m (.jsl j t x) e)
     rcases h0 with rfl | ⟨k,n,n',h4,_⟩
     ·exact ⟨⟨ao,len,cap,e3,h3⟩,hu⟩
     ·rw [h4] at e3;cases e3
   | _=>exact one
theorem Bm_ {u w:World} {b base:Nat} (h:ShB u w b):∀ (es:List Value),(∀ q (hq:q < es.length),u.cell? ⟨b,base+q,none⟩=some es[q])->∃ es':List Value,es'.length=es.length/\(∀ q (hq:q < es'.length),w.cell? ⟨b,base+q,none⟩=some es'[q])/\∀ q (h:q < es.length) (h':q < es'.length),GX_ es[q] es'[q]:=by
 have one:∀ o v,u.cell? ⟨b,o,none⟩=some v->∃ v',w.cell? ⟨b,o,none⟩=some v'/\GX_ v v':=fun o v e=>by
  rcases h with h | ⟨cs,cs',T,fz,h1,h2,h3,h4⟩
  ·exact ⟨v,by simp only [World.cell?,h];exact e,.inl rfl⟩
  ·rw [ZW_ h1] at e
   rw [ZW_ h2]
   rcases h4 o with h5 | ⟨k,n,n',h5,h6,h7⟩
   ·exact ⟨v,by rw [h5];exact e,.inl rfl⟩
   ·rw [h5] at e;cases e
    exact ⟨_,h6,.inr ⟨k,n,n',rfl,rfl,h7⟩⟩
 intro es
 have key:∀ (es:List Value) (o:Nat),(∀ q (hq:q < es.length),u.cell? ⟨b,o+q,none⟩=some es[q])->∃ es':List Value,es'.length=es.length/\(∀ q (hq:q < es'.length),w.cell? ⟨b,o+q,none⟩=some es'[q])/\∀ q (h:q < es.length) (h':q < es'.length),GX_ es[q] es'[q]:=fun es=>by
  induction es with
  | nil=>intro o _;exact ⟨[],rfl,fun q hq=>by simp at hq,fun q hq=>by simp at hq⟩
  | cons v r ih=>
    intro o hc
    obtain ⟨v',g1,g2⟩:=one o v (by have:=hc 0 (by simp);simpa using this)
    obtain ⟨r',k1,k2,k3⟩:=ih (o+1) fun q hq=>by have:=hc (q+1) (by simpa using hq);rw [show o+1+q=o+(q+1) by omega];simpa using this
    refine ⟨v' :: r',by simp [k1],fun q hq=>?_,fun q a c=>?_⟩
    ·cases q with
     | zero=>simpa using g1
     | succ q=>have:=k2 q (by simpa using hq);rw [show o+(q+1)=o+1+q by omega];simpa using this
    ·cases q with
     | zero=>simpa using g2
     | succ q=>have:=k3 q (by simpa using a) (by simpa using c);simpa using this
 exact key es base
theorem zb1_ {x':Opd} (hok:zy_ P o.op (.len x')=true) (ev:zu_ Γ (.len x') fr st nx K):MOK P o [x'] fr (zZ_ [x'] fr) wr st nx K:=by
 simp only [zu_] at ev
 simp only [zy_] at hok
 split at hok
 ·rename_i args ts ho
  simp only [Bool.and_eq_true] at hok
  obtain ⟨h1,h2⟩:=hok
  obtain ⟨x,rfl,hx⟩:=Vv_ h1
  split at h2
  ·rename_i t ht
   obtain ⟨e,he⟩:=JN_ h2
   have hex:∀ (a:Act),execOp a.eval o=(do pure (.value (<- Builtin.len_ ts o.type #[a.eval x]))):=fun a=>by rw [qI_ ho];simp [builtin]
   split at ev
   ·rename_i t' l hb
    refine zB_ ev fun {I w m a σ} hf hH ha=>⟨_,hex a,?_⟩
    have hv:=hf.rv Z5_ hx;rw [hb] at hv
    obtain ⟨ao,len,cap,e1,h3,h4,h5,_⟩:=hv
    exact ⟨_,ZN_ (KU_ (by omega)),by rw [e1,h3];exact K0_ ht he⟩
   ·rename_i hb
    refine zB_ ev fun {I w m a σ} hf hH ha=>⟨_,hex a,?_⟩
    have hv:=hf.rv Z5_ hx;rw [hb] at hv
    have hv:a.eval x=.slice none 0 0:=hv
    exact ⟨_,ZN_ (n:=((0:Nat):Int)) (KU_ (Nat.zero_le _)),by rw [hv];exact K0_ ht he⟩
   ·rename_i i hb
    split at ev
    ·rename_i fz t' l hl
     refine zB_ ev fun {I w m a σ} hf hH ha=>⟨_,hex a,?_⟩
     have hv:=hf.rv Z5_ hx;rw [hb] at hv
     have hi:σ i=some (.row fz t' l):=by rw [ha i (zD_ Z5_ hb i (by simp [AV.ids,AV.ids1,AV.ids0])),hl]
     obtain ⟨k1,k2,k3,k4,k5⟩:=qJ_ (hH.obj i _ hi)
     obtain ⟨ao,len,cap,e1,h3,h4,h5,h6,h7,_⟩:=hv
     exact ⟨_,ZN_ (KU_ (by omega)),by rw [e1,show len=l.length by omega];exact K0_ ht he⟩
    ·rename_i t' l k L hl
     refine zB_ ev fun {I w m a σ} hf hH ha=>⟨_,hex a,?_⟩
     have hv:=hf.rv Z5_ hx;rw [hb] at hv
     have hi:σ i=some (.rowm t' l k L):=by rw [ha i (zD_ Z5_ hb i (by simp [AV.ids,AV.ids1,AV.ids0])),hl]
     obtain ⟨k1,k2,k3,k4,k5,_⟩:=hH.obj i _ hi
     obtain ⟨ao,len,cap,e1,h3,h4,h5,h6,h7,_⟩:=hv
     exact ⟨_,ZN_ (KU_ (by omega)),by rw [e1,show len=l.length by omega];exact K0_ ht he⟩
    ·exact ev.elim
   ·rename_i i off n hb
    refine zB_ ev fun {I w m a σ} hf hH ha=>⟨_,hex a,?_⟩
    have hv:=hf.rv Z5_ hx;rw [hb] at hv
    obtain ⟨ao,len,cap,e1,h3,h4,h5,h6,h7,_⟩:=hv
    exact ⟨_,ZN_ (KU_ (by omega)),by rw [e1,h4];exact K0_ ht he⟩
   ·rename_i i t' l hb
    refine zB_ ev fun {I w m a σ} hf hH ha=>⟨_,hex a,?_⟩
    have hv:=hf.rv Z5_ hx;rw [hb] at hv
    obtain ⟨⟨ao,len,cap,e1,h3,h4,h5,_⟩,_⟩:=hv
    exact ⟨_,ZN_ (KU_ (by omega)),by rw [e1,h3];exact K0_ ht he⟩
   ·exact ev.elim
  ·cases h2
 ·cases hok
theorem Kd_ {t e:TypeId} {i:TypeInfo} {b ofs len cap:Nat} {k:IntKind} {n:Int} {w:World} (h1:P.underlying t=some (.slice e)) (h2:P.info? e=some i) (h0:0<=n) (hlt:n < (len:Int)):
 (Instr.indexAt t (.slice (some ⟨b,ofs,none⟩) len cap) (.int k n)).run P w=.ok (.pointer (some ⟨b,ofs+n.toNat*i.size,none⟩)) w:=by
 simp [Instr.indexAt,asIntOf,run_underlying h1,h0,hlt,zQ_ h2,qd_]
theorem Gh_ {size:Nat} {x' y':Opd} (hok:zy_ P o.op (.indexSl size x' y')=true) (ev:zu_ Γ (.indexSl size x' y') fr st nx K):MOK P o [x',y'] fr (zZ_ [x',y'] fr) wr st nx K:=by
 simp only [zu_] at ev
 simp only [zy_] at hok
 split at hok
 ·rename_i t x y ho
  simp only [Bool.and_eq_true] at hok
  obtain ⟨⟨hx,hy⟩,h3⟩:=hok
  split at h3
  ·rename_i e he
   have he:=qt_ he
   obtain ⟨i,hi,hn⟩:=qT_ h3
   have hex:∀ (a:Act),execOp a.eval o=(do pure (.value (<- Instr.indexAt t (a.eval x) (a.eval y)))):=fun a=>by unfold execOp;rw [ho]
   split at ev
   ·rename_i t' l k n hb' hb
    split at ev
    ·rename_i hsz
     have hsz:=Nat.eq_of_beq_eq_true hsz
     obtain ⟨⟨h0,hlt⟩,hK⟩:=zj_ ev
     refine zB_ hK fun {I w m a σ} hf hH ha=>⟨_,hex a,?_⟩
     have hv:=hf.rv ZL_ hx;rw [hb'] at hv
     have hu:=hf.rv qb_ hy;rw [hb] at hu
     obtain ⟨ao,len,cap,e1,h4,h5,h6,h7⟩:=hv
     obtain ⟨b,ofs,rfl,hbI,h8⟩:=h7 (by omega)
     refine ⟨.pointer (some ⟨b,ofs+n.toNat*t'.size+0,none⟩),⟨b,ofs,rfl,hbI,by omega,h8⟩,?_⟩
     rw [e1,(zq_ hu).1,Kd_ he hi h0 (by omega),hn,hsz];rfl
    ·exact ev.elim
   ·rename_i j k n hb' hb
    split at ev
    ·rename_i fz t' l hl
     split at ev
     ·rename_i hsz
      have hsz:=Nat.eq_of_beq_eq_true hsz
      obtain ⟨⟨h0,hlt⟩,hK⟩:=zj_ ev
      refine zB_ hK fun {I w m a σ} hf hH ha=>⟨_,hex a,?_⟩
      have hv:=hf.rv ZL_ hx;rw [hb'] at hv
      have hu:=hf.rv qb_ hy;rw [hb] at hu
      have hj:σ j=some (.row fz t' l):=by rw [ha j (zD_ ZL_ hb' j (by simp [AV.ids,AV.ids1,AV.ids0])),hl]
      obtain ⟨k1,k2,k3,k4,k5⟩:=qJ_ (hH.obj j _ hj)
      obtain ⟨ao,len,cap,e1,h3,h4,h5,h6,h7,h8⟩:=hv
      rcases h8 with ⟨_,_,h8⟩ | ⟨b,h8,rfl⟩
      ·omega
      ·refine ⟨.pointer (some ⟨b,n.toNat*m.sz j+0,none⟩),⟨b,h8,rfl,h3⟩,?_⟩
       rw [e1,(zq_ hu).1,Kd_ he hi h0 (by omega),hn,<- hsz,k1];simp
     ·exact ev.elim
    ·rename_i t' l k0 L hl
     split at ev
     ·rename_i hsz
      have hsz:=Nat.eq_of_beq_eq_true hsz
      obtain ⟨⟨h0,hlt⟩,hK⟩:=zj_ ev
      refine zB_ hK fun {I w m a σ} hf hH ha=>⟨_,hex a,?_⟩
      have hv:=hf.rv ZL_ hx;rw [hb'] at hv
      have hu:=hf.rv qb_ hy;rw [hb] at hu
      have hj:σ j=some (.rowm t' l k0 L):=by rw [ha j (zD_ ZL_ hb' j (by simp [AV.ids,AV.ids1,AV.ids0])),hl]
      obtain ⟨k1,k2,k3,k4,k5,_⟩:=hH.obj j _ hj
      obtain ⟨ao,len,cap,e1,h3,h4,h5,h6,h7,h8⟩:=hv
      rcases h8 with ⟨_,_,h8⟩ | ⟨b,h8,rfl⟩
      ·omega
      ·refine ⟨.pointer (some ⟨b,n.toNat*m.sz j+0,none⟩),⟨b,h8,rfl,h3⟩,?_⟩
       rw [e1,(zq_ hu).1,Kd_ he hi h0 (by omega),hn,<- hsz,k1];simp
     ·exact ev.elim
    ·exact ev.elim
   ·rename_i j off q k n hb' hb
    split at ev
    ·rename_i fz t' l hl
     split at ev
     ·rename_i hsz
      have hsz:=Nat.eq_of_beq_eq_true hsz
      obtain ⟨⟨h0,hlt⟩,hK⟩:=zj_ ev
      refine zB_ hK fun {I w m a σ} hf hH ha=>⟨_,hex a,?_⟩
      have hv:=hf.rv ZL_ hx;rw [hb'] at hv
      have hu:=hf.rv qb_ hy;rw [hb] at hu
      have hj:σ j=some (.row fz t' l):=by rw [ha j (zD_ ZL_ hb' j (by simp [AV.ids,AV.ids1,AV.ids0])),hl]
      obtain ⟨k1,k2,k3,k4,k5⟩:=qJ_ (hH.obj j _ hj)
      obtain ⟨ao,len,cap,e1,h3,h4,h5,h6,h7,h8⟩:=hv
      rcases h8 with ⟨_,_,h8⟩ | ⟨b,ofs,h8,rfl,h9⟩
      ·omega
      ·refine ⟨.pointer (some ⟨b,(off+n.toNat)*m.sz j+0,none⟩),⟨b,h8,rfl,h3⟩,?_⟩
       rw [e1,(zq_ hu).1,Kd_ he hi h0 (by omega),hn,<- hsz,h9 (by omega),k1,Nat.add_mul];simp
     ·exact ev.elim
    ·exact ev.elim
   ·rename_i j t' l k n hb' hb
    split at ev
    ·rename_i hsz
     have hsz:=Nat.eq_of_beq_eq_true hsz
     obtain ⟨⟨h0,hlt⟩,hK⟩:=zj_ ev
     refine zB_ hK fun {I w m a σ} hf hH ha=>⟨_,hex a,?_⟩
     have hv:=hf.rv ZL_ hx;rw [hb'] at hv
     have hu:=hf.rv qb_ hy;rw [hb] at hu
     obtain ⟨⟨ao,len,cap,e1,h4,h5,h6,h7⟩,hus⟩:=hv
     obtain ⟨b,ofs,rfl,hbI,h8⟩:=h7 (by omega)
     refine ⟨.pointer (some ⟨b,ofs+n.toNat*t'.size+0,none⟩),⟨⟨b,ofs,rfl,hbI,by omega,h8⟩,hus⟩,?_⟩
     rw [e1,(zq_ hu).1,Kd_ he hi h0 (by omega),hn,hsz];rfl
    ·exact ev.elim
   ·exact ev.elim
  ·cases h3
 ·cases hok
theorem Z3_ {w:World} {b off:Nat}:∀ (vs:List Value) (i:Nat) (acc:Array Value),
 (∀ j (h:j < vs.length),w.cell? ⟨b,off+i+j,none⟩=some vs[j])->(loadCellsFrom ⟨b,off,none⟩ i vs.length acc).run P w=.ok (acc++vs.toArray) w
 | [],_,acc,_=>by simp [loadCellsFrom]
 | v :: vs,i,acc,h=>by
   have ha:=qd_ b off i
   have h0:=h 0 (by simp)
   simp only [Nat.add_zero,List.getElem_cons_zero] at h0
   simp only [List.length_cons,loadCellsFrom,Sem.run_bind,ha,run_load,h0,Result.andThen_ok]
   rw [Z3_ vs (i+1) (acc.push v) fun j hj=>by
    have:=h (j+1) (by simp;omega)
    simp only [List.getElem_cons_succ] at this
    rw [<- this];congr 2;omega]
   simp
theorem qM_ {n:Option Nat} {off:Nat} {l:List AV} {K':AV->Prop} (ev:cut n off l K'):
 ∃ v,K' v/\∀ {P:Program} {I:Nat->Prop} {w:World} {m:M} {t:TypeId} {R:List Value} {b base:Nat},nOk P t n=true->z0_ I w m l R->(∀ j (h:j < R.length),w.cell? ⟨b,base+j,none⟩=some R[j])->
   ∃ cv,RV I w m v cv/\(Instr.loadAt t (.pointer (some ⟨b,base+off,none⟩))).run P w=.ok cv w:=by
 rcases Gu_ ev with ⟨rfl,v,t,hd,hK⟩ | ⟨k,rfl,hle,hK⟩
 ·refine ⟨v,hK,fun {P I w m t R b base} hn hR hc=>?_⟩
  obtain ⟨d,i,hd',hi,h⟩:=WQ_ hn
  rcases h with ⟨_,h⟩ | ⟨hb,_,hs⟩
  ·cases h
  ·obtain ⟨cv,h1,h2⟩:=VC_ hR hd
   have hoff:off < R.length:=by
    rcases Nat.lt_or_ge off R.length with h | h
    ·exact h
    ·rw [List.getElem?_eq_none h] at h1;cases h1
   have hcell:w.cell? ⟨b,base+off,none⟩=some cv:=by
    rw [hc off hoff];rw [List.getElem?_eq_getElem hoff] at h1;exact h1
   exact ⟨cv,RV_0 h2,by simp [Instr.loadAt,Instr.sureAddr,loadVar,WO_ hd',hb,run_load,hcell]⟩
 ·refine ⟨_,hK,fun {P I w m t R b base} hn hR hc=>?_⟩
  obtain ⟨d,i,hd',hi,h⟩:=WQ_ hn
  rcases h with ⟨hb,h⟩ | ⟨_,h,_⟩
  ·cases h
   have hlR:=Zy_ hR
   have hl:((R.drop off).take i.size).length=i.size:=by simp;omega
   have hrun:=Z3_ (P:=P) (w:=w) (b:=b) (off:=base+off) ((R.drop off).take i.size) 0 #[] (fun j hj=>by
    rw [hl] at hj
    rw [show base+off+0+j=base+(off+j) by omega,hc (off+j) (by omega)]
    simp)
   rw [hl] at hrun
   refine ⟨.agg ((R.drop off).take i.size).toArray,⟨_,rfl,by simpa using W3_ _ (Jl_ off hR)⟩,?_⟩
   simp [Instr.loadAt,Instr.sureAddr,loadVar,WO_ hd',hb,zQ_ hi,loadCells,hrun]
  ·cases h
theorem B9_ {n:Option Nat} {x':Opd} (hok:zy_ P o.op (.load n x')=true) (ev:zu_ Γ (.load n x') fr st nx K):MOK P o [x'] fr (zZ_ [x'] fr) wr st nx K:=by
 simp only [zu_] at ev
 simp only [zy_] at hok
 split at hok
 ·rename_i t x ho
  simp only [Bool.and_eq_true] at hok
  obtain ⟨hn,hx⟩:=hok
  have hex:∀ (a:Act),execOp a.eval o=(do pure (.value (<- Instr.loadAt t (a.eval x)))):=fun a=>by unfold execOp;rw [ho]
  split at ev
  ·rename_i i off hb
   split at ev
   ·rename_i l hl
    obtain ⟨v,hK,h⟩:=qM_ ev
    refine zB_ hK fun {I w m a σ} hf hH ha=>⟨_,hex a,?_⟩
    have hv:=hf.rv Z5_ hx;rw [hb] at hv
    have hi:σ i=some (.box l):=by rw [ha i (zD_ Z5_ hb i (by simp [AV.ids,AV.ids1,AV.ids0])),hl]
    obtain ⟨b,cs,T,fz,h1,h2,_,h3⟩:=hH.obj i _ hi
    obtain ⟨b',h4,h5,_⟩:=hv
    rw [h1] at h4;cases h4
    obtain ⟨cv,h6,h7⟩:=h (base:=0) hn h3 (Gz_ h2)
    rw [Nat.zero_add] at h7
    exact ⟨cv,h6,by rw [h5];exact h7⟩
   ·exact ev.elim
  ·rename_i t' y i off hb
   obtain ⟨v,hK,h⟩:=qM_ ev
   refine zB_ hK fun {I w m a σ} hf hH ha=>⟨_,hex a,?_⟩
   have hv:=hf.rv Z5_ hx;rw [hb] at hv
   obtain ⟨b,ofs,e1,hbI,hi,h1⟩:=hv
   obtain ⟨es,h2,h3⟩:=h1 i hi
   have hget:y.getD i t'.dflt=y[i]:=by simp [hi]
   rw [hget] at h
   obtain ⟨cv,h6,h7⟩:=h (base:=ofs+i*t'.size) (m:=m) hn (qS_ t' _ _ h2) h3
   exact ⟨cv,h6,by rw [e1];exact h7⟩
  ·rename_i j i off hb
   split at ev
   ·rename_i fz t' y hl
    obtain ⟨hlt,ev⟩:=zj_ ev
    obtain ⟨v,hK,h⟩:=qM_ ev
    refine zB_ hK fun {I w m a σ} hf hH ha=>⟨_,hex a,?_⟩
    have hv:=hf.rv Z5_ hx;rw [hb] at hv
    have hj:σ j=some (.row fz t' y):=by rw [ha j (zD_ Z5_ hb j (by simp [AV.ids,AV.ids1,AV.ids0])),hl]
    obtain ⟨k1,k2,k3,k4,k5⟩:=qJ_ (hH.obj j _ hj)
    obtain ⟨b',h4,h5,_⟩:=hv
    rcases k5 with ⟨k5,_⟩ | ⟨b,k5,k6⟩
    ·rw [k5] at h4;cases h4
    ·rw [k5] at h4;cases h4
     obtain ⟨es,h6,h7⟩:=k6 i hlt
     have hget:y.getD i t'.dflt=y[i]:=by simp [hlt]
     rw [hget] at h
     obtain ⟨cv,h8,h9⟩:=h (base:=i*t'.size) (m:=m) hn (qS_ t' _ _ h6) h7
     exact ⟨cv,h8,by rw [h5,k1];exact h9⟩
   ·rename_i t' y k L hl
    rcases QT_ ev with ⟨hik,ev2⟩ | ⟨_,ev2⟩
    case inr=>
     clear ev
     obtain ⟨hik,ev2⟩:=zj_ ev2
     obtain ⟨v,hK,h⟩:=qM_ ev2
     refine zB_ hK fun {I w m a σ} hf hH ha=>⟨_,hex a,?_⟩
     have hv:=hf.rv Z5_ hx;rw [hb] at hv
     have hj:σ j=some (.rowm t' y k L):=by rw [ha j (zD_ Z5_ hb j (by simp [AV.ids,AV.ids1,AV.ids0])),hl]
     obtain ⟨k1,k2,k3,k4,k5,r,cl,b,vs,T,fz,k6,k7,k8,k9,k10,k11,k12,k13⟩:=hH.obj j _ hj
     have hlt:i < y.length:=by omega
     obtain ⟨b',h4,h5,_⟩:=hv
     rw [k9] at h4;cases h4
     obtain ⟨es,_,q2,_,_,q5⟩:=k13 i hlt
     have hget:y.getD i t'.dflt=y[i]:=by simp [hlt]
     rw [hget] at h
     obtain ⟨cv,h8,h9⟩:=h (base:=i*t'.size) (m:=m) (I:=I) (w:=w) (b:=b) hn (qS_ t' _ _ (q2 hik)) (fun q hq=>by rw [ZW_ k10];exact q5 q hq)
     exact ⟨cv,h8,by rw [h5,k1];exact h9⟩
    clear ev
    replace hik:i=k:=of_decide_eq_true hik
    subst hik
    split at ev2
    ·rename_i a0 cs
     obtain ⟨v,hK,h⟩:=qM_ ev2
     refine zB_ hK fun {I w m a σ} hf hH ha=>⟨_,hex a,?_⟩
     have hv:=hf.rv Z5_ hx;rw [hb] at hv
     have hj:σ j=some (.rowm t' y i (a0 :: cs)):=by rw [ha j (zD_ Z5_ hb j (by simp [AV.ids,AV.ids1,AV.ids0])),hl]
     obtain ⟨k1,k2,k3,k4,k5,r,cl,b,vs,T,fz,k6,k7,k8,k9,k10,k11,k12,k13⟩:=hH.obj j _ hj
     cases k6
     obtain ⟨b',h4,h5,_⟩:=hv
     rw [k9] at h4;cases h4
     obtain ⟨es,q1,_,_,q4,q5⟩:=k13 i k5
     obtain ⟨cv,h8,h9⟩:=h (base:=i*t'.size) (m:=m) (I:=I) (w:=w) (b:=b) hn (q4 rfl) (fun q hq=>by rw [ZW_ k10];exact q5 q hq)
     exact ⟨cv,h8,by rw [h5,k1];exact h9⟩
    ·exact ev2.elim
   ·exact ev.elim
  ·rename_i j t' y i off hb
   split at ev
   ·rename_i wr kn hl
    have main:∀ {I:Nat->Prop} {w:World} {m:M} {a:Act} {σ:Sto},FOn [x'] fr I w m a->HRel I w m σ->(∀ i ∈ zZ_ [x'] fr,σ i=st.get i)->∃ b base es,a.eval x=.pointer (some ⟨b,base+off,none⟩)/\m.used j/\RC (m.rg j).dp (m.rg j).wc t' (y.getD i t'.dflt) es/\(∀ q (hq:q < es.length),(m.rg j).wc.cell? ⟨b,base+q,none⟩=some es[q])/\gd_ (m.rg j).wc w wr kn b:=fun {I w m a σ} hf hH ha=>by
     have hv:=hf.rv Z5_ hx;rw [hb] at hv
     obtain ⟨⟨b,ofs,e1,hd,hi,h1⟩,hu⟩:=hv
     obtain ⟨es,h2,h3⟩:=h1 i hi
     have hget:y.getD i t'.dflt=y[i]:=by simp [hi]
     have hj:σ j=some (.reg wr kn):=by rw [ha j (zD_ Z5_ hb j (by simp [AV.ids,AV.ids1,AV.ids0])),hl]
     exact ⟨b,ofs+i*t'.size,es,e1,hu,by rw [hget];exact h2,h3,(hH.gar j wr kn b hj hd).2.2.2⟩
    split at ev
    ·obtain ⟨v,hK,h⟩:=qM_ ev
     refine zB_ hK fun {I w m a σ} hf hH ha=>⟨_,hex a,?_⟩
     obtain ⟨b,base,es,e1,hu,h2,h3,h4⟩:=main hf hH ha
     have h5:=h4.2.1 rfl
     obtain ⟨cv,h6,h7⟩:=h (base:=base) (m:=m) (I:=I) (w:=w) (b:=b) hn (WJ_ hu _ _ _ h2) (fun q hq=>by rw [<- h3 q hq];simp only [World.cell?,h5])
     exact ⟨cv,h6,by rw [e1];exact h7⟩
    ·obtain ⟨v,hK,h⟩:=qM_ ev
     refine zB_ hK fun {I w m a σ} hf hH ha=>⟨_,hex a,?_⟩
     obtain ⟨b,base,es,e1,hu,h2,h3,h4⟩:=main hf hH ha
     obtain ⟨es',g1,g2,g3⟩:=Bm_ h4.1 es h3
     obtain ⟨cv,h6,h7⟩:=h (base:=base) (m:=m) (I:=I) (w:=w) (b:=b) hn (zaa_ _ _ _ (WJ_ (I:=I) (w:=w) hu _ _ _ h2) g1 g3) g2
     exact ⟨cv,h6,by rw [e1];exact h7⟩
   ·exact ev.elim
  ·exact ev.elim
 ·cases hok
theorem kE_ {t e:TypeId} {i:TypeInfo} {ao:Option Addr} {len cap A B C:Nat} {lo hi mx:Option Value} {w:World} (h1:P.underlying t=some (.slice e)) (h2:P.info? e=some i)
 (hb:(Instr.sliceBounds true len cap lo hi mx).run P w=.ok (A,B,C) w):
 (Instr.sliceAt t (.slice ao len cap) lo hi mx).run P w=.ok (.slice (if C=A then ao else ao.map (·.add (A*i.size))) (B - A) (C - A)) w:=by
 simp [Instr.sliceAt,Instr.slice,run_underlying h1,zQ_ h2,hb]
theorem GT_ {I:Nat->Prop} {w:World} {t:Ty} {l:List t.den} {ao:Option Addr} {len cap A B C:Nat} (h:RS I w t l ao len cap) (hAB:A<=B) (hB:B<=len) (hC:B<=C) (hC':C<=cap):
 RS I w t ((l.take B).drop A) (if C=A then ao else ao.map (·.add (A*t.size))) (B - A) (C - A):=by
 obtain ⟨h1,h2,h3,h4⟩:=XT_.1 h
 refine XT_.2 ⟨by simp;omega,by omega,by omega,fun h0=>?_⟩
 obtain ⟨b,o,rfl,hb,h5⟩:=h4 (by omega)
 rw [if_neg (by omega)]
 exact ⟨b,o+A*t.size,by simp [qd_],hb,((h5.take B).drop A).congr fun k _=>by rw [Nat.add_assoc]⟩
theorem bc_ {size:Nat} {x':Opd} {lo' hi' mx':Option Opd} (hok:zy_ P o.op (.slice size x' lo' hi' mx')=true) (ev:zu_ Γ (.slice size x' lo' hi' mx') fr st nx K):
 MOK P o ([x']++qK_ lo'++qK_ hi'++qK_ mx') fr (zZ_ ([x']++qK_ lo'++qK_ hi'++qK_ mx') fr) wr st nx K:=by
 simp only [zy_] at hok
 split at hok
 ·rename_i t x lo hi mx ho
  simp only [Bool.and_eq_true] at hok
  obtain ⟨⟨⟨⟨hx,hlo⟩,hhi⟩,hmx⟩,h5⟩:=hok
  split at h5
  ·rename_i e he
   have he:=qt_ he
   obtain ⟨i,hi0,hn⟩:=qT_ h5
   have hmem:x' ∈ [x']++qK_ lo'++qK_ hi'++qK_ mx':=by simp
   have hex:∀ (a:Act),execOp a.eval o=(do pure (.value (<- Instr.sliceAt t (a.eval x) (lo.map a.eval) (hi.map a.eval) (mx.map a.eval)))):=fun a=>by unfold execOp;rw [ho]
   have two:∀ {A B:Int} {len cap:Nat} {I:Nat->Prop} {w:World} {m:M} {a:Act},mx'=none->FOn ([x']++qK_ lo'++qK_ hi'++qK_ mx') fr I w m a->
    ((lo'=none/\A=0)\/∃ y k,lo'=some y/\y.ev fr=.int k A)->((hi'=none/\B=len)\/∃ y k,hi'=some y/\y.ev fr=.int k B)->0<=A->A<=B->B<=cap->
    (Instr.sliceBounds true len cap (lo.map a.eval) (hi.map a.eval) (mx.map a.eval)).run P w=.ok (A.toNat,B.toNat,cap) w:=fun {A B len cap I w m a} hmx' hf hA hB h0 hAB hB'=>by
    have ra:=vG_ hf hlo (fun y hy=>by simp [hy]) hA
    have rb:=vG_ hf hhi (fun y hy=>by simp [hy]) hB
    have:mx=none:=by subst hmx';cases mx with | none=>rfl | some _=>cases hmx
    subst this
    refine h1_ ?_ ?_ (by omega) (by omega)
    ·rcases ra with ⟨rfl,_,rfl⟩ | ⟨k,y,rfl,_,h⟩
     ·exact .inl ⟨rfl,rfl⟩
     ·exact .inr ⟨k,by simp only [Option.map_some,h];rw [Int.toNat_of_nonneg h0]⟩
    ·rcases rb with ⟨rfl,_,rfl⟩ | ⟨k,y,rfl,_,h⟩
     ·exact .inl ⟨rfl,by simp⟩
     ·exact .inr ⟨k,by simp only [Option.map_some,h];rw [Int.toNat_of_nonneg (by omega)]⟩
   have three:∀ {A B C:Int} {len cap:Nat} {I:Nat->Prop} {w:World} {m:M} {a:Act},hi' ≠ none->mx' ≠ none->FOn ([x']++qK_ lo'++qK_ hi'++qK_ mx') fr I w m a->
    ((lo'=none/\A=0)\/∃ y k,lo'=some y/\y.ev fr=.int k A)->((hi'=none/\B=len)\/∃ y k,hi'=some y/\y.ev fr=.int k B)->((mx'=none/\C=0)\/∃ y k,mx'=some y/\y.ev fr=.int k C)->0<=A->A<=B->B=C->B<=cap->
    (Instr.sliceBounds true len cap (lo.map a.eval) (hi.map a.eval) (mx.map a.eval)).run P w=.ok (A.toNat,B.toNat,B.toNat) w:=fun {A B C len cap I w m a} hh' hm' hf hA hB hC h0 hAB hBC hB'=>by
    have ra:=vG_ hf hlo (fun y hy=>by simp [hy]) hA
    have rb:=vG_ hf hhi (fun y hy=>by simp [hy]) hB
    have rc:=vG_ hf hmx (fun y hy=>by simp [hy]) hC
    refine GF_ ?_ ?_ ?_ (by omega) (by omega)
    ·rcases ra with ⟨rfl,_,rfl⟩ | ⟨k,y,rfl,_,h⟩
     ·exact .inl ⟨rfl,rfl⟩
     ·exact .inr ⟨k,by simp only [Option.map_some,h];rw [Int.toNat_of_nonneg h0]⟩
    ·rcases rb with ⟨_,h,_⟩ | ⟨k,y,rfl,_,h⟩
     ·exact absurd h hh'
     ·exact ⟨k,by simp only [Option.map_some,h];rw [Int.toNat_of_nonneg (by omega)]⟩
    ·rcases rc with ⟨_,h,_⟩ | ⟨k,y,rfl,_,h⟩
     ·exact absurd h hm'
     ·exact ⟨k,by simp only [Option.map_some,h,hBC];rw [Int.toNat_of_nonneg (by omega)]⟩
   simp only [zu_] at ev
   split at ev
   ·-- nil
    rename_i hb
    split at ev
    ·refine zB_ ev fun {I w m a σ} hf hH ha=>⟨_,hex a,?_⟩
     have hv:=hf.rv hmem hx;rw [hb] at hv
     have hv:a.eval x=.slice none 0 0:=hv
     refine ⟨.slice none 0 0,rfl,?_⟩
     rw [hv,kE_ he hi0 (two (A:=0) (B:=(0:Nat)) (len:=0) (cap:=0) rfl hf (.inl ⟨rfl,rfl⟩) (.inl ⟨rfl,rfl⟩) (by omega) (by omega) (by omega))]
     simp
    ·exact ev.elim
   ·-- data
    rename_i t' l hb
    split at ev
    ·rename_i hsz
     have hsz:=Nat.eq_of_beq_eq_true hsz
     have fin2:∀ {A B:Int} {y:List t'.den},mx'=none->y=(l.take B.toNat).drop A.toNat->((lo'=none/\A=0)\/∃ y k,lo'=some y/\y.ev fr=.int k A)->((hi'=none/\B=l.length)\/∃ y k,hi'=some y/\y.ev fr=.int k B)->0<=A->A<=B->B<=l.length->K (.imm t' y) st nx->
      MOK P o ([x']++qK_ lo'++qK_ hi'++qK_ mx') fr (zZ_ ([x']++qK_ lo'++qK_ hi'++qK_ mx') fr) wr st nx K:=fun {A B y} hm hy hA hB h0 hAB hBl hK=>by
      refine zB_ hK fun {I w m a σ} hf hH ha=>⟨_,hex a,?_⟩
      have hv:=hf.rv hmem hx;rw [hb] at hv
      obtain ⟨ao,len,cap,e1,hR⟩:=hv
      have hlen:len=l.length:=hR.1
      have hcap:len<=cap:=hR.2.1
      subst hlen
      subst hy
      refine ⟨_,⟨_,_,_,rfl,GT_ (A:=A.toNat) (B:=B.toNat) (C:=cap) hR (by omega) (by omega) (by omega) (Nat.le_refl _)⟩,?_⟩
      rw [e1,kE_ he hi0 (two hm hf hA hB h0 hAB (by omega)),hn,hsz]
     split at ev
     ·rename_i mm
      split at ev
      ·exact ev.elim
      ·rename_i hh
       obtain ⟨A,ev1,hA⟩:=kH_ ev
       obtain ⟨kb,B,hB,ev2⟩:=ZF_ ev1
       obtain ⟨kc,C,hC,ev3⟩:=ZF_ ev2
       obtain ⟨⟨h0,hAB,hBC,hBl⟩,hK⟩:=zj_ ev3
       refine zB_ hK fun {I w m a σ} hf hH ha=>⟨_,hex a,?_⟩
       have hv:=hf.rv hmem hx;rw [hb] at hv
       obtain ⟨ao,len,cap,e1,hR⟩:=hv
       have hlen:len=l.length:=hR.1
       have hcap:len<=cap:=hR.2.1
       subst hlen
       refine ⟨_,⟨_,_,_,rfl,GT_ (A:=A.toNat) (B:=B.toNat) (C:=B.toNat) hR (by omega) (by omega) (by omega) (by omega)⟩,?_⟩
       rw [e1,kE_ he hi0 (three (by simp) (by simp) hf hA (.inr ⟨_,kb,rfl,hB⟩) (.inr ⟨_,kc,rfl,hC⟩) h0 hAB hBC (by omega)),hn,hsz]
     ·split at ev
      ·exact fin2 (A:=0) (B:=l.length) rfl (by simp) (.inl ⟨rfl,rfl⟩) (.inl ⟨rfl,rfl⟩) (by omega) (by omega) (by omega) ev
      ·obtain ⟨k,A,h,ev'⟩:=ZF_ ev
       obtain ⟨⟨h0,hAl⟩,hK⟩:=zj_ ev'
       exact fin2 (A:=A) (B:=l.length) rfl (by simp) (.inr ⟨_,k,rfl,h⟩) (.inl ⟨rfl,rfl⟩) h0 hAl (by omega) hK
      ·obtain ⟨k,B,h,ev'⟩:=ZF_ ev
       obtain ⟨⟨h0,hBl⟩,hK⟩:=zj_ ev'
       exact fin2 (A:=0) (B:=B) rfl (by simp) (.inl ⟨rfl,rfl⟩) (.inr ⟨_,k,rfl,h⟩) (by omega) h0 hBl hK
      ·obtain ⟨k,A,h,ev'⟩:=ZF_ ev
       obtain ⟨k',B,h',ev''⟩:=ZF_ ev'
       obtain ⟨⟨h0,hAB,hBl⟩,hK⟩:=zj_ ev''
       exact fin2 (A:=A) (B:=B) rfl rfl (.inr ⟨_,k,rfl,h⟩) (.inr ⟨_,k',rfl,h'⟩) h0 hAB hBl hK
    ·exact ev.elim
   ·-- a whole row
    rename_i j hb
    split at ev
    ·rename_i fz t' l hl
     split at ev
     ·rename_i hsz
      have hsz:=Nat.eq_of_beq_eq_true hsz
      have hrow:∀ {I:Nat->Prop} {w:World} {m:M} {σ:Sto},HRel I w m σ->(∀ i ∈ zZ_ ([x']++qK_ lo'++qK_ hi'++qK_ mx') fr,σ i=st.get i)->m.sz j=t'.size/\l.length=m.len j/\m.cap j<=maxLen:=fun {I w m σ} hH ha=>by
       have hj:σ j=some (.row fz t' l):=by rw [ha j (zD_ hmem hb j (by simp [AV.ids,AV.ids1,AV.ids0])),hl]
       obtain ⟨k1,k2,k3,k4,k5⟩:=qJ_ (hH.obj j _ hj)
       exact ⟨k1,k2,k4⟩
      have part:∀ {A B C:Nat} {ao:Option Addr} {len cap:Nat} {m:M},RO m j ao len cap->m.sz j=t'.size->m.cap j<=maxLen->A<=B->B<=len->B<=C->C<=cap->RW m j A (B - A) (if C=A then ao else ao.map (·.add (A*i.size))) (B - A) (C - A):=fun {A B C ao len cap m} hO hz hc h1 h2 h3 h4=>by
       obtain ⟨g1,g2,g3,g4,g5,g6⟩:=hO
       refine ⟨g1,rfl,by omega,by omega,hc,?_⟩
       rcases g6 with ⟨g6,rfl,g7⟩ | ⟨b,g6,rfl⟩
       ·exact .inl ⟨g6,by simp,by omega⟩
       ·by_cases e:C=A
        ·exact .inr ⟨b,0,g6,by rw [if_pos e],fun h=>by omega⟩
        ·exact .inr ⟨b,0+A*i.size,g6,by rw [if_neg e];simp [qd_],fun _=>by rw [hz,hsz,hn];omega⟩
      have fin2:∀ {A B:Int},mx'=none->((lo'=none/\A=0)\/∃ y k,lo'=some y/\y.ev fr=.int k A)->((hi'=none/\B=l.length)\/∃ y k,hi'=some y/\y.ev fr=.int k B)->0<=A->A<=B->B<=l.length->K (.view j A.toNat (B - A).toNat) st nx->
       MOK P o ([x']++qK_ lo'++qK_ hi'++qK_ mx') fr (zZ_ ([x']++qK_ lo'++qK_ hi'++qK_ mx') fr) wr st nx K:=fun {A B} hm hA hB h0 hAB hBl hK=>by
       refine zB_ hK fun {I w m a σ} hf hH ha=>⟨_,hex a,?_⟩
       have hv:=hf.rv hmem hx;rw [hb] at hv
       obtain ⟨k1,k2,k3⟩:=hrow hH ha
       obtain ⟨ao,len,cap,e1,hO⟩:=hv
       have hlen:len=l.length:=by rw [hO.2.1,k2]
       have hcap:len<=cap:=hO.2.2.2.1
       have hp:=part (A:=A.toNat) (B:=B.toNat) (C:=cap) hO k1 k3 (by omega) (by omega) (by omega) (Nat.le_refl _)
       refine ⟨_,⟨_,_,_,rfl,by rw [show (B - A).toNat=B.toNat - A.toNat by omega];exact hp⟩,?_⟩
       rw [e1,kE_ he hi0 (two hm hf hA (by rw [hlen];exact hB) h0 hAB (by omega))]
      split at ev
      ·rename_i mm
       split at ev
       ·exact ev.elim
       ·rename_i hh
        obtain ⟨A,ev1,hA⟩:=kH_ ev
        obtain ⟨kb,B,hB,ev2⟩:=ZF_ ev1
        obtain ⟨kc,C,hC,ev3⟩:=ZF_ ev2
        obtain ⟨⟨h0,hAB,hBC,hBl⟩,hK⟩:=zj_ ev3
        refine zB_ hK fun {I w m a σ} hf hH ha=>⟨_,hex a,?_⟩
        have hv:=hf.rv hmem hx;rw [hb] at hv
        obtain ⟨k1,k2,k3⟩:=hrow hH ha
        obtain ⟨ao,len,cap,e1,hO⟩:=hv
        have hlen:len=l.length:=by rw [hO.2.1,k2]
        have hcap:len<=cap:=hO.2.2.2.1
        have hp:=part (A:=A.toNat) (B:=B.toNat) (C:=B.toNat) hO k1 k3 (by omega) (by omega) (by omega) (by omega)
        refine ⟨_,⟨_,_,_,rfl,by rw [show (B - A).toNat=B.toNat - A.toNat by omega];exact hp⟩,?_⟩
        rw [e1,kE_ he hi0 (three (by simp) (by simp) hf hA (.inr ⟨_,kb,rfl,hB⟩) (.inr ⟨_,kc,rfl,hC⟩) h0 hAB hBC (by omega))]
      ·split at ev
       ·refine zB_ ev fun {I w m a σ} hf hH ha=>⟨_,hex a,?_⟩
        have hv:=hf.rv hmem hx;rw [hb] at hv
        obtain ⟨k1,k2,k3⟩:=hrow hH ha
        obtain ⟨ao,len,cap,e1,hO⟩:=hv
        have hcap:len<=cap:=hO.2.2.2.1
        refine ⟨.slice ao len cap,⟨_,_,_,rfl,hO⟩,?_⟩
        rw [e1,kE_ he hi0 (two (A:=0) (B:=(len:Int)) rfl hf (.inl ⟨rfl,rfl⟩) (.inl ⟨rfl,rfl⟩) (by omega) (by omega) (by omega))]
        have:(if cap=(0:Int).toNat then ao else ao.map (·.add ((0:Int).toNat*i.size)))=ao:=by
         split
         ·rfl
         ·cases ao with
          | none=>rfl
          | some q=>simp [Addr.add]
        rw [this];simp
       ·obtain ⟨A,ev1,hA⟩:=kH_ ev
        obtain ⟨B,ev2,hB⟩:=kH_ ev1
        obtain ⟨⟨h0,hAB,hBl⟩,hK⟩:=zj_ ev2
        exact fin2 rfl hA hB h0 hAB hBl hK
     ·exact ev.elim
    ·exact ev.elim
   ·-- a part of a row
    rename_i j off q hb
    split at ev
    ·rename_i fz t' l hl
     split at ev
     ·rename_i hsz
      have hsz:=Nat.eq_of_beq_eq_true hsz
      split at ev
      ·exact ev.elim
      ·obtain ⟨A,ev1,hA⟩:=kH_ ev
       obtain ⟨B,ev2,hB⟩:=kH_ ev1
       obtain ⟨⟨h0,hAB,hBl⟩,hK⟩:=zj_ ev2
       refine zB_ hK fun {I w m a σ} hf hH ha=>⟨_,hex a,?_⟩
       have hv:=hf.rv hmem hx;rw [hb] at hv
       have hj:σ j=some (.row fz t' l):=by rw [ha j (zD_ hmem hb j (by simp [AV.ids,AV.ids1,AV.ids0])),hl]
       obtain ⟨k1,k2,k3,k4,k5⟩:=qJ_ (hH.obj j _ hj)
       obtain ⟨ao,len,cap,e1,g1,g2,g3,g4,g5,g6⟩:=hv
       refine ⟨.slice (if cap=A.toNat then ao else ao.map (·.add (A.toNat*i.size))) (B.toNat - A.toNat) (cap - A.toNat),⟨_,_,_,rfl,g1,by omega,by omega,by omega,g5,?_⟩,?_⟩
       ·rcases g6 with ⟨g6,rfl,g7⟩ | ⟨b,ofs,g6,rfl,g7⟩
        ·exact .inl ⟨g6,by simp,by omega⟩
        ·by_cases e:cap=A.toNat
         ·exact .inr ⟨b,ofs,g6,by rw [if_pos e],fun h=>by omega⟩
         ·exact .inr ⟨b,ofs+A.toNat*i.size,g6,by rw [if_neg e];simp [qd_],fun _=>by rw [g7 (by omega),k1,hsz,hn,Nat.add_mul]⟩
       ·rw [e1,kE_ he hi0 (two rfl hf hA (by rw [g2];exact hB) h0 hAB (by omega))]
     ·exact ev.elim
    ·exact ev.elim
   ·exact ev.elim
  ·cases h5
 ·cases hok
theorem hY_ (ns:List Int) (h:∀ n ∈ ns,0<=n/\n<=255):∀ (s:ByteArray),zO_ (ns.foldl (fun r n=>r.push (UInt8.ofNat n.toNat)) s)=zO_ s++ns:=by
 induction ns with
 | nil=>intro s;simp
 | cons n ns ih=>
   intro s
   rw [List.foldl_cons,ih (fun n hn=>h n (by simp [hn]))]
   have hn:=h n (by simp)
   have:zO_ (s.push (UInt8.ofNat n.toNat))=zO_ s++[n]:=by
    unfold zO_
    have e:((UInt8.ofNat n.toNat).toNat:Int)=n:=by
     rw [UInt8.toNat_ofNat'];omega
    simp only [ByteArray.data_push,Array.toList_push,List.map_append,List.map_cons,List.map_nil,e]
   rw [this,List.append_assoc];rfl
theorem zew_ {I:Nat->Prop} {w:World} {x:Int} {es:List Value} (h:RC I w (.int .u8) x es):es=[.int .u8 x]/\0<=x/\x<=255:=by
 obtain ⟨h1,h2⟩:=h
 refine ⟨h1,?_⟩
 simpa [inK,IntKind.min,IntKind.max,IntKind.signed,IntKind.bits] using h2
theorem bb_ {I:Nat->Prop} {w:World} {ys:List Int} {f:Nat->Option Value} (h:EA I w (.int .u8) ys f):(∀ n ∈ ys,0<=n/\n<=255)/\∀ k (hk:k < ys.length),f k=some (.int .u8 ys[k]):=by
 have key:∀ k (hk:k < ys.length),(0<=ys[k]/\ys[k]<=255)/\f k=some (.int .u8 ys[k]):=fun k hk=>by
  obtain ⟨es,h1,h2⟩:=h k hk
  obtain ⟨rfl,h3⟩:=zew_ h1
  have:=h2 0 (by simp)
  simp only [Ty.size,Nat.mul_one,Nat.add_zero,List.getElem_cons_zero] at this
  exact ⟨h3,this⟩
 refine ⟨fun n hn=>?_,fun k hk=>(key k hk).2⟩
 obtain ⟨k,hk,rfl⟩:=List.mem_iff_getElem.1 hn
 exact (key k hk).1
theorem zcl_ {x':Opd} (hok:zy_ P o.op (.b2s x')=true) (ev:zu_ Γ (.b2s x') fr st nx K):MOK P o [x'] fr (zZ_ [x'] fr) wr st nx K:=by
 simp only [zu_] at ev
 simp only [zy_] at hok
 split at hok
 ·rename_i src dst x ho
  simp only [Bool.and_eq_true] at hok
  obtain ⟨⟨hx,hd⟩,h3⟩:=hok
  have hd:=Wi_ hd
  split at h3
  ·rename_i e he
   have he:=qt_ he
   split at h3
   ·rename_i hu
    obtain ⟨ys,hK,h⟩:=Yf_ ev
    refine zB_ hK fun {I w m a σ} hf hH ha=>⟨convert src dst (a.eval x),by unfold execOp;rw [ho],?_⟩
    have hv:=hf.rv Z5_ hx
    have hv0:RV0 I w m (x'.ev fr) (a.eval x):=by
     unfold Yg_ at ev
     generalize x'.ev fr=v at ev hv
     cases v<;>first | exact hv | exact ev.elim
    obtain ⟨ao,len,cap,e1,h4,h5,h6⟩:=h hH (fun i hi=>ha i (zD_ Z5_ rfl i (by
     unfold Yg_ at ev
     generalize x'.ev fr=v at ev hi ⊢
     cases v<;>first | exact hi | exact ev.elim))) hv0
    rw [e1]
    rcases Nat.eq_zero_or_pos len with h0 | h0
    ·have hys:ys=[]:=List.eq_nil_of_length_eq_zero (by omega)
     subst hys;subst h0
     cases ao with
     | none=>
       refine ⟨.string ByteArray.empty,⟨_,rfl,rfl,Nat.zero_le _⟩,?_⟩
       rw [run_convert_bytes_string (P:=P) w src dst e none 0 cap he hu hd];simp [Conv.bytesToString]
     | some q=>
       refine ⟨.string ByteArray.empty,⟨_,rfl,rfl,Nat.zero_le _⟩,?_⟩
       rw [run_convert_bytes_string (P:=P) w src dst e _ 0 cap he hu hd,run_bytesToString w q 0 cap [] (by simp [loadCells,loadCellsFrom])]
       rfl
    ·obtain ⟨b,ofs,rfl,h7⟩:=h6 h0
     obtain ⟨h8,h9⟩:=bb_ h7
     have hl:(loadCells ⟨b,ofs,none⟩ len).run P w=.ok (ys.map (Value.int .u8)).toArray w:=by
      have:=Z3_ (P:=P) (w:=w) (b:=b) (off:=ofs) (ys.map (Value.int .u8)) 0 #[] (fun j hj=>by
       simp only [List.length_map] at hj
       rw [Nat.add_zero,h9 j hj];simp)
      rw [List.length_map,<- h4] at this
      unfold loadCells
      rw [this];simp
     have hbf:=hY_ ys h8 ByteArray.empty
     refine ⟨.string (ys.foldl (fun r n=>r.push (UInt8.ofNat n.toNat)) ByteArray.empty),⟨_,rfl,by rw [hbf];rfl,?_⟩,?_⟩
     ·rw [<- z2_,hbf]
      show ([]++ys).length<=maxLen
      simp;omega
     ·rw [run_convert_bytes_string (P:=P) w src dst e _ len cap he hu hd]
      exact run_bytesToString w _ len cap ys hl
   ·cases h3
  ·cases h3
 ·cases hok
end ops
end Go.Eng
namespace Go.Eng
set_option linter.unusedVariables false
set_option linter.unusedSimpArgs false
open Go.RowKit
section ops
variable {P:Program} {Γ:Env} {o:Oper} {fr:zd_} {F:List Nat} {wr:Bool} {st:zc_} {nx:Nat} {K:AV->zc_->Nat->Prop}
theorem vN_ {t:TypeId} {v:Value} {w:World}:(newVar t v).run P w=.ok ⟨w.heap.size,0,none⟩ (w.alloc (.cells v.cells t)):=by
 simp [newVar,newRow]
theorem qu_ (w:World) (o:Go.Obj):(w.alloc o).heap[w.heap.size]?=some o:=by
 show (w.heap.push _)[w.heap.size]?=_
 rw [Array.getElem?_push_size]
theorem uT_ (w:World) (o:Go.Obj) {k:Nat} (h:k < w.heap.size):(w.alloc o).heap[k]?=w.heap[k]?:=by
 show (w.heap.push o)[k]?=_
 rw [Array.getElem?_push_lt h,Array.getElem?_eq_getElem h]
theorem BY_ {I:Nat->Prop} {w:World} {m:M} {l:List AV} {cs:Array Value} {T:TypeId} (hu:¬ m.used nx) (hl:z0_ I w m l cs.toList) (hs:qF_ I w (w.alloc (.cells cs T))):
 zM_ I (w.alloc (.cells cs T)) (m.push nx (some w.heap.size) 0 0 0) nx (.box l):=
 ⟨w.heap.size,cs,T,(0,0),M.push_blk _ _ _ _ _ _,qu_ _ _,VF_.zero _,ZS_ (fun _ h=>h) hs (M.push_le hu) _ _ hl⟩
theorem hr_ {I:Nat->Prop} {w w':World} {m:M} {c d e:Nat}:RV I w' (m.push nx (some w.heap.size) c d e) (.ptr nx 0) (.pointer (some ⟨w.heap.size,0,none⟩)):=⟨w.heap.size,M.push_blk _ _ _ _ _ _,rfl,.inr rfl⟩
theorem zcj_ {z:List AV} (hok:zy_ P o.op (.box z)=true) (ev:zu_ Γ (.box z) fr st nx K):MOK P o [] fr F wr st nx K:=by
 simp only [zu_] at ev
 simp only [zy_] at hok
 split at hok
 ·rename_i t ho
  obtain ⟨i,v,hi,hv,hc⟩:=ua_ hok
  refine kW_ ev (fun _ _ h=>by cases h) fun {I w m a σ} hf hH ha hu=>⟨Instr.alloc t true (.tuple #[]),by unfold execOp;rw [ho],.pointer (some ⟨w.heap.size,0,none⟩),w.alloc (.cells v.cells t),some w.heap.size,0,0,0,?_,Fr.alloc _ _ _,fun b hb=>by cases hb;exact Nat.le_refl _,fun hs=>BY_ hu (Jd_ hc) hs,fun _=>hr_⟩
  simp [Instr.alloc,Qg_ hi hv,vN_]
 ·cases hok
theorem za6_ {x':Opd} (hok:zy_ P o.op (.boxv x')=true) (ev:zu_ Γ (.boxv x') fr st nx K):MOK P o [x'] fr F wr st nx K:=by
 simp only [zu_,ZG_] at ev
 simp only [zy_] at hok
 split at hok
 ·rename_i t x ho
  split at ev
  ·rename_i c hc
   refine kW_ ev (fun _ _ h=>by cases h) fun {I w m a σ} hf hH ha hu=>⟨Instr.box t (a.eval x),by unfold execOp;rw [ho],.pointer (some ⟨w.heap.size,0,none⟩),w.alloc (.cells (a.eval x).cells t),some w.heap.size,0,0,0,?_,Fr.alloc _ _ _,fun b hb=>by cases hb;exact Nat.le_refl _,fun hs=>BY_ hu (QV_ (hf.rv Z5_ hok) hc) hs,fun _=>hr_⟩
   simp [Instr.box,vN_]
  ·exact ev.elim
 ·cases hok
theorem jK_:∀ (t:Ty) (x:t.den) (r:List AV),t.ofCells (t.cells x++r)=some (x,r)
 | .int k,n,r=>by
   simp only [Ty.cells,List.cons_append,List.nil_append,Ty.ofCells]
   split
   ·rfl
   ·rename_i h _;exact absurd rfl h
 | .bool,_,_=>rfl
 | .str,_,_=>rfl
 | .nil,_,_=>rfl
 | .cons a b,x,r=>by
   simp only [Ty.cells,List.append_assoc,Ty.ofCells,jK_ a,jK_ b]
 | .sl t,x,r=>by
   simp only [Ty.cells,List.cons_append,List.nil_append,Ty.ofCells]
   split
   ·rfl
   ·rename_i h _;exact absurd rfl h
theorem GU_ {I:Nat->Prop} {w:World} {m:M} {t:Ty} {x:t.den} {cs:List Value} (h:z0_ I w m (t.cells x) cs):RC I w t x cs:=by
 have e:=jK_ t x []
 rw [List.append_nil] at e
 exact k8_ h (by unfold Ty.one;rw [e])
theorem XX_ {t:TypeId} {ty:Ty} {z:ty.den} (h:xn_ P t ty z=true):∃ i v,P.info? t=some i/\i.zero=some v/\∀ (I:Nat->Prop) (w:World),RC I w ty z v.cells.toList:=by
 unfold xn_ at h
 split at h
 ·rename_i i hi
  split at h
  ·rename_i v hv
   simp only [Bool.and_eq_true] at h
   exact ⟨i,v,hi,hv,fun I w=>GU_ (m:=⟨fun _=>none,fun _=>0,fun _=>0,fun _=>0,fun _=>False,noR⟩) (Jd_ h.2)⟩
  ·cases h
 ·cases h
theorem vO_ {I:Nat->Prop} {w w':World} {m:M} {t:Ty} {x:List t.den} {cs:Array Value} {T:TypeId} {fz:Nat × Nat} {cap:Nat} (hw:w'.heap[w.heap.size]?=some (.cells cs T fz)) (hz:FzR (t=.int .u8) fz cs.size) (hc:cs.size=cap*t.size) (hl:x.length<=cap) (hm:cap<=maxLen)
 (he:EA I w' t x fun k=>cs[k]?):zM_ I w' (m.push nx (some w.heap.size) cap x.length t.size) nx (.row false t x):=
 ⟨M.push_sz _ _ _ _ _ _,(M.push_len _ _ _ _ _ _).symm,by rw [M.push_cap];exact hl,by rw [M.push_cap];exact hm,.inr ⟨w.heap.size,cs,T,fz,M.push_blk _ _ _ _ _ _,hw,hz,by rw [M.push_cap];exact hc,he⟩⟩
theorem hs_ {I:Nat->Prop} {w w':World} {m:M} {cap len sz:Nat} (hl:len<=cap) (hm:cap<=maxLen):RV I w' (m.push nx (some w.heap.size) cap len sz) (.own nx) (.slice (some ⟨w.heap.size,0,none⟩) len cap):=
 ⟨_,_,_,rfl,.inr rfl,(M.push_len _ _ _ _ _ _).symm,(M.push_cap _ _ _ _ _ _).symm,hl,hm,.inr ⟨w.heap.size,M.push_blk _ _ _ _ _ _,rfl⟩⟩
theorem bz_ {kt vt:Ty} (hok:zy_ P o.op (.mkmap kt vt)=true) (ev:zu_ Γ (.mkmap kt vt) fr st nx K):MOK P o [] fr F wr st nx K:=by
 simp only [zu_] at ev
 simp only [zy_] at hok
 split at hok
 ·rename_i t r ho
  rw [Option.isNone_iff_eq_none] at hok;subst hok
  refine kW_ ev (fun _ _ h=>by cases h) fun {I w m a σ} hf hH ha hu=>⟨Instr.makeMap t none,by unfold execOp;rw [ho];rfl,.map (some w.heap.size),w.alloc (.map #[] 0),some w.heap.size,0,0,0,?_,Fr.alloc _ _ _,fun b hb=>by cases hb;exact Nat.le_refl _,fun hs=>?_,fun _=>?_⟩
  ·simp [Instr.makeMap]
  ·exact ⟨w.heap.size,#[],0,M.push_blk _ _ _ _ _ _,qu_ _ _,rfl,fun i h=>absurd h (by simp),fun i h=>absurd h (by simp),fun _=>⟨rfl,fun i h=>absurd h (by simp)⟩⟩
  ·exact ⟨w.heap.size,M.push_blk _ _ _ _ _ _,rfl,.inr rfl⟩
 ·cases hok
theorem G3_ {t:Ty} (hok:zy_ P o.op (.slice0 t)=true) (ev:zu_ Γ (.slice0 t) fr st nx K):MOK P o [] fr F wr st nx K:=by
 simp only [zu_] at ev
 simp only [zy_] at hok
 split at hok
 ·rename_i ty k z9_ ho
  simp only [Bool.and_eq_true,beq_iff_eq,Array.isEmpty_iff] at hok
  obtain ⟨⟨rfl,rfl⟩,h3⟩:=hok
  split at h3
  ·rename_i e he
   have he:=qt_ he
   obtain ⟨i,hi,hn⟩:=qT_ h3
   refine kW_ ev (fun _ _ h=>by cases h) fun {I w m a σ} hf hH ha hu=>⟨Instr.buildSlice ty 0 ((#[]:Array (Nat × Operand)).map fun (i,x)=>(i,a.eval x)),by unfold execOp;rw [ho],.slice (some ⟨w.heap.size,0,none⟩) 0 0,w.alloc (.cells #[] e),some w.heap.size,0,0,t.size,?_,Fr.alloc _ _ _,fun b hb=>by cases hb;exact Nat.le_refl _,fun hs=>?_,fun _=>?_⟩
   ·have e0:(Array.map (fun _=>(default:Value)) (Array.range 0))=#[]:=by apply Array.ext';simp
    simp [Instr.buildSlice,run_underlying he,zQ_ hi,Instr.fill,newRow,e0]
   ·exact vO_ (x:=[]) (qu_ w _) (FzR.zero _ _) (by simp) (Nat.le_refl _) (Nat.zero_le _) EA.nil
   ·exact hs_ (Nat.le_refl _) (Nat.zero_le _)
  ·cases h3
 ·cases hok
theorem uj_ (z:Array Value) (n k:Nat) (hk:k < n*z.size):((Array.range (n*z.size)).map fun i=>z[i % z.size]!)[k]?=z.toList[k % z.size]?:=by
 have hpos:0 < z.size:=by
  rcases Nat.eq_zero_or_pos z.size with h | h
  ·rw [h] at hk;omega
  ·exact h
 have hm:=Nat.mod_lt k hpos
 simp [hk,hm]
theorem by_ {t:Ty} {bytes:Nat} {z:t.den} {n' c':Opd} (hok:zy_ P o.op (.mkrow t bytes z n' c')=true) (ev:zu_ Γ (.mkrow t bytes z n' c') fr st nx K):MOK P o [n',c'] fr F wr st nx K:=by
 simp only [zu_] at ev
 simp only [zy_] at hok
 split at hok
 ·rename_i ty n c ho
  simp only [Bool.and_eq_true] at hok
  obtain ⟨⟨hn,hc⟩,h3⟩:=hok
  split at h3
  ·rename_i e he
   simp only [Bool.and_eq_true] at h3
   obtain ⟨⟨h4,h5⟩,h6⟩:=h3
   have he:=qt_ he
   obtain ⟨i,hi,hsz⟩:=qT_ h4
   obtain ⟨i',hi',hby⟩:=JZ_ h5
   rw [hi] at hi';cases hi'
   obtain ⟨i',v,hi',hv,hz⟩:=XX_ h6
   rw [hi] at hi';cases hi'
   obtain ⟨k1,N,hN,ev1⟩:=ZF_ ev
   obtain ⟨k2,C,hC,ev2⟩:=ZF_ ev1
   obtain ⟨⟨h0,hNC,hCb,hC47⟩,hK⟩:=zj_ ev2
   have hvs:v.cells.size=t.size:=by
    have:=Zi_ t _ _ (hz (fun _=>False) default);simpa using this
   refine kW_ hK (fun _ _ h=>by cases h) fun {I w m a σ} hf hH ha hu=>⟨Instr.makeSlice ty (a.eval n) (a.eval c),by unfold execOp;rw [ho],.slice (some ⟨w.heap.size,0,none⟩) N.toNat C.toNat,
    w.alloc (.cells ((Array.range (C.toNat*v.cells.size)).map fun i=>v.cells[i % v.cells.size]!) e),some w.heap.size,C.toNat,N.toNat,t.size,?_,Fr.alloc _ _ _,fun b hb=>by cases hb;exact Nat.le_refl _,fun hs=>?_,fun _=>hs_ (by omega) (by unfold maxLen;omega)⟩
   ·have r1:=hf.rv ZL_ hn;rw [hN] at r1
    have r2:=hf.rv qb_ hc;rw [hC] at r2
    have w1:IntKind.i64.wrap N=N:=WL_ ⟨by simp [IntKind.min,IntKind.signed,IntKind.bits];omega,by simp [IntKind.max,IntKind.signed,IntKind.bits];omega⟩
    have w2:IntKind.i64.wrap C=C:=WL_ ⟨by simp [IntKind.min,IntKind.signed,IntKind.bits];omega,by simp [IntKind.max,IntKind.signed,IntKind.bits];omega⟩
    have t1:¬ (C < 0):=by omega
    have t2:¬ ((i.bytes:Int)*C > 281474976710656):=by rw [hby,Int.mul_comm];omega
    have t3:¬ (N < 0):=by omega
    have t4:¬ (N > C):=by omega
    have e2:(Array.range (C.toNat*i.size)).map (fun j=>(if C.toNat*i.size=0 then (#[]:Array Value) else v.cells)[j % (if C.toNat*i.size=0 then (#[]:Array Value) else v.cells).size]!)=(Array.range (C.toNat*v.cells.size)).map fun i=>v.cells[i % v.cells.size]! :=by
     rw [hvs,<- hsz]
     by_cases h:C.toNat*i.size=0
     ·rw [h];apply Array.ext';simp
     ·simp only [if_neg h];rw [hvs,<- hsz]
    have t2':¬ (281474976710656 < (i.bytes:Int)*C):=by omega
    have t4':¬ (C < N):=by omega
    rw [(zq_ r1).1,(zq_ r2).1,<- e2]
    by_cases h:C.toNat*i.size=0
    ·simp [Instr.makeSlice,run_underlying he,asInt,asIntOf,typeInfo,hi,w1,w2,t1,t2',t3,t4',zQ_ hi,h,newRow]
    ·simp [Instr.makeSlice,run_underlying he,asInt,asIntOf,typeInfo,hi,w1,w2,t1,t2',t3,t4',zQ_ hi,h,Qg_ hi hv,newRow]
   ·have:=vO_ (nx:=nx) (m:=m) (t:=t) (x:=List.replicate N.toNat z) (cap:=C.toNat) (qu_ w (.cells ((Array.range (C.toNat*v.cells.size)).map fun i=>v.cells[i % v.cells.size]!) e)) (FzR.zero _ _) (by simp [hvs]) (by simp;omega) (by unfold maxLen;omega)
     (EA.replicate (es:=v.cells.toList) (hz I _) fun k hk=>by rw [uj_ _ _ _ (by rw [hvs];exact Nat.lt_of_lt_of_le hk (Nat.mul_le_mul_right _ (by omega))),hvs])
    rw [List.length_replicate] at this;exact this
  ·cases h3
 ·cases hok
theorem zbs_ {x':Opd} (hok:zy_ P o.op (.s2b x')=true) (ev:zu_ Γ (.s2b x') fr st nx K):MOK P o [x'] fr F wr st nx K:=by
 simp only [zu_] at ev
 simp only [zy_] at hok
 split at hok
 ·rename_i src dst x ho
  simp only [Bool.and_eq_true] at hok
  obtain ⟨⟨hx,hs⟩,h3⟩:=hok
  have hs:=Wi_ hs
  split at h3
  ·rename_i e he
   have he:=qt_ he
   split at h3
   ·rename_i hu
    split at ev
    ·rename_i l hb
     refine kW_ ev (fun _ _ h=>by cases h) fun {I w m a σ} hf hH ha hN=>?_
     have hv:=hf.rv Z5_ hx;rw [hb] at hv
     obtain ⟨s,e1,rfl,hsz⟩:=hv
     have hcm:grownCap w s.size 0 e<=maxLen:=by
      have hlt:=Nat.mod_lt (w.tape w.drawn (.appendCap s.size 0 e)) (show 0 < 2 ^ 63 - s.size by unfold maxLen at hsz;omega)
      simp only [grownCap,Question.cut];unfold maxLen at hsz ⊢;omega
     have hcg:s.size<=grownCap w s.size 0 e:=by simp [grownCap,Question.cut]
     refine ⟨convert src dst (a.eval x),by unfold execOp;rw [ho],.slice (some ⟨w.heap.size,0,none⟩) s.size (grownCap w s.size 0 e),
      (w.drew.alloc (.cells ((s.data.map fun b=>Value.int .u8 b.toNat)++Array.replicate (grownCap w s.size 0 e - s.size) (.int .u8 0)) e)).freeze ⟨w.heap.size,grownCap w s.size 0 e,none⟩ 1,some w.heap.size,grownCap w s.size 0 e,s.size,1,?_,?_,fun b hb=>by cases hb;exact Nat.le_refl _,fun hs=>?_,fun _=>hs_ hcg hcm⟩
     ·rw [e1]
      simp only [convert,Sem.run_bind,run_underlying hs,run_underlying he,run_underlying hu,Result.andThen_ok,Conv.stringToBytes,newRow,markStringish,run_choose,Question.forced,run_newObj,run_shape,Sem.run_pure]
      simp only [Bool.false_eq_true,if_false,Result.andThen_ok]
      have hcap:(Question.appendCap s.size 0 e).cut (w.tape w.drawn (.appendCap s.size 0 e))=grownCap w s.size 0 e:=rfl
      rw [hcap]
      have hsh:(w.drew.alloc (.cells ((s.data.map fun b=>Value.int .u8 b.toNat)++Array.replicate (grownCap w s.size 0 e - s.size) (.int .u8 0)) e)).shape? w.heap.size=some (e,grownCap w s.size 0 e):=by
       have hg:(w.drew.alloc (.cells ((s.data.map fun b=>Value.int .u8 b.toNat)++Array.replicate (grownCap w s.size 0 e - s.size) (.int .u8 0)) e)).heap[w.heap.size]?=some (.cells ((s.data.map fun b=>Value.int .u8 b.toNat)++Array.replicate (grownCap w s.size 0 e - s.size) (.int .u8 0)) e):=qu_ w.drew _
       simp only [World.shape?,hg,Array.size_append,Array.size_map,Array.size_replicate]
       have hsz':s.data.size=s.size:=rfl
       congr 2;omega
      refine Eq.trans (b:=((Sem.run P (match (w.drew.alloc (.cells ((s.data.map fun b=>Value.int .u8 b.toNat)++Array.replicate (grownCap w s.size 0 e - s.size) (.int .u8 0)) e)).shape? w.heap.size with
       | some (_,n)=>freeze {block:=w.heap.size,off:=n} 1
       | _=>pure ()) (w.drew.alloc (.cells ((s.data.map fun b=>Value.int .u8 b.toNat)++Array.replicate (grownCap w s.size 0 e - s.size) (.int .u8 0)) e))).andThen fun _ w'=>Result.ok (Value.slice (some {block:=w.heap.size,off:=0}) s.size (grownCap w s.size 0 e)) w')) rfl ?_
      rw [hsh];rfl
     ·have h2:(w.drew.alloc (.cells ((s.data.map fun b=>Value.int .u8 b.toNat)++Array.replicate (grownCap w s.size 0 e - s.size) (.int .u8 0)) e)).heap.size=w.heap.size+1:=by simp
      refine ⟨rfl,rfl,rfl,by simp [World.freeze],fun k hk _=>?_⟩
      have hne:w.heap.size ≠ k:=by omega
      simp only [World.freeze]
      rw [if_neg (by omega)]
      simp only [Array.getElem?_modify,if_neg hne]
      exact uT_ w.drew _ hk
     ·have hsz':s.data.size=s.size:=rfl
      have hW:((w.drew.alloc (.cells ((s.data.map fun b=>Value.int .u8 b.toNat)++Array.replicate (grownCap w s.size 0 e - s.size) (.int .u8 0)) e)).freeze ⟨w.heap.size,grownCap w s.size 0 e,none⟩ 1).heap[w.heap.size]?=some (.cells ((s.data.map fun b=>Value.int .u8 b.toNat)++Array.replicate (grownCap w s.size 0 e - s.size) (.int .u8 0)) e (grownCap w s.size 0 e,grownCap w s.size 0 e+1)):=by
       have hg:(w.drew.alloc (.cells ((s.data.map fun b=>Value.int .u8 b.toNat)++Array.replicate (grownCap w s.size 0 e - s.size) (.int .u8 0)) e)).heap[w.heap.size]?=some (.cells ((s.data.map fun b=>Value.int .u8 b.toNat)++Array.replicate (grownCap w s.size 0 e - s.size) (.int .u8 0)) e):=qu_ w.drew _
       simp only [World.freeze]
       rw [if_neg (by omega)]
       show (Array.modify _ _ _)[w.heap.size]?=_
       rw [Array.getElem?_modify,if_pos rfl,hg];simp
      have hsize:((s.data.map fun b=>Value.int .u8 b.toNat)++Array.replicate (grownCap w s.size 0 e - s.size) (Value.int .u8 0)).size=grownCap w s.size 0 e:=by
       simp only [Array.size_append,Array.size_map,Array.size_replicate];omega
      have:=vO_ (nx:=nx) (m:=m) (t:=.int .u8) (x:=zO_ s) (cap:=grownCap w s.size 0 e) (I:=I) hW ⟨fun o ho h1 h2=>by simp only [hsize] at ho h1;omega,.inl rfl⟩ (by rw [hsize];simp [Ty.size]) (by rw [z2_];exact hcg) hcm (fun k hk=>by
       rw [z2_] at hk
       have hb:=(s.data[k]'(by omega)).toNat_lt
       refine ⟨[.int .u8 (zO_ s)[k]],⟨rfl,?_⟩,fun j hj=>?_⟩
       ·simp only [zO_,List.getElem_map,Array.getElem_toList]
        constructor<;>simp [IntKind.min,IntKind.max,IntKind.signed,IntKind.bits]<;>omega
       ·simp only [List.length_cons,List.length_nil] at hj
        obtain rfl:j=0:=by omega
        simp only [Ty.size,Nat.mul_one,Nat.add_zero,List.getElem_cons_zero]
        rw [Array.getElem?_append_left (by simp;omega)]
        simp [zO_,show k < s.data.size by omega]
        exact ⟨_,Array.getElem?_eq_getElem (by omega),rfl⟩)
      rw [z2_] at this;exact this
    ·exact ev.elim
   ·cases h3
  ·cases h3
 ·cases hok
theorem u9_ {t:Ty} {n:Nat} {ps:List (Nat × Nat × Opd)} (hok:zy_ P o.op (.sliceAll t n ps)=true) (ev:zu_ Γ (.sliceAll t n ps) fr st nx K):MOK P o (ps.map (·.2.2)) fr (zZ_ (ps.map (·.2.2)) fr) true st nx K:=by
 simp only [zu_] at ev
 simp only [zy_] at hok
 split at hok
 ·rename_i ty k z9_ ho
  simp only [Bool.and_eq_true,beq_iff_eq] at hok
  obtain ⟨rfl,hok⟩:=hok
  split at hok
  ·rename_i e he
   simp only [Bool.and_eq_true,decide_eq_true_eq] at hok
   obtain ⟨⟨⟨⟨⟨h1,h2⟩,h2'⟩,h3⟩,h4⟩,h5⟩:=hok
   have he:=qt_ he
   obtain ⟨i,hi,hn⟩:=qT_ h1
   rw [hi] at h3
   simp only at h3
   obtain ⟨v,hv⟩:=Option.isSome_iff_exists.1 h3
   have hce:P.cellsOf e=i.size:=by simp [Program.cellsOf,hi]
   obtain ⟨l,ev1,hids,hcat⟩:=yQ_ ev
   obtain ⟨l',st',T,ev2,⟨g1,g2⟩,hg⟩:=Ke_ ev1
   obtain ⟨x,hx,ev2⟩:=jc_.1 ev2
   ·refine ⟨_,st',nx,T,Nat.le_refl _,ev2,g1,fun j hj=>.inl ⟨rfl,hids j (g2 j hj).1,(g2 j hj).2⟩,fun {X0 I0 w0 σ I w m a} hf hs ha _=>?_⟩
    obtain ⟨cs',h6,_,_,h8⟩:=hcat hf h4 (cs:=(Array.range (k*t.size)).map fun j=>v.cells[j % v.cells.size]!) (by simp)
    rw [List.drop_zero] at h8
    obtain ⟨I1,hs1,hE1,hr⟩:=hg hs fun j hj=>ha j (hids j hj)
    obtain ⟨h9,h10,h11⟩:=yT_ k l' cs'.toList x (hr _ h8) hx
    subst h9
    have hsame:qF_ I1 w (w.alloc (.cells cs' e)):=fun b hb=>Below.heap_alloc _ _ _ (hs1.H.Ilt b hb)
    have hE2:Evo I1 w m (fun b=>I1 b\/b=w.heap.size) (w.alloc (.cells cs' e)) m:=⟨fun _ h=>.inl h,hsame,m.le_refl⟩
    have hsz:(w.alloc (.cells cs' e)).heap.size=w.heap.size+1:=by simp
    refine jv_ (cv:=.slice (some ⟨w.heap.size,0,none⟩) x.length x.length) (w':=w.alloc (.cells cs' e)) (JV_ (S:=Instr.buildSlice ty x.length (z9_.map fun (i,x)=>(i,a.eval x))) (by unfold execOp;rw [ho]) ?_)
     ⟨⟨_,_,_,rfl,XT_.2 ⟨rfl,Nat.le_refl _,by unfold maxLen;omega,fun _=>⟨w.heap.size,0,rfl,.inr rfl,fun j hj=>?_⟩⟩⟩,
       hs1.step hE2 (fun _=>False) (fun _ _=>rfl) (Fr.alloc _ _ _) (fun b hb=>?_) (fun b hb=>?_) (fun _ _ h=>h.elim) (fun _ _ _ h=>h.elim) (fun _ _ _ _ _ h=>h.elim) (fun _ _ _ h=>h.elim) (fun _ _ _ _ h=>h.elim) (fun _ _ _ h=>h.elim) (fun b hb=>hb.imp id fun h cs T fz e0=>by subst h;rw [qu_ w _] at e0;cases e0;exact VF_.zero _),hE1.trans hE2,fun _ h=>.inl h⟩
    ·have hfill:Instr.fill (fun j=>some (j*i.size,i.size)) ((Array.range (x.length*i.size)).map fun j=>v.cells[j % v.cells.size]!) (z9_.map fun (i,x)=>(i,a.eval x)).toList=some cs':=by
      rw [<- h6,hce,hn];simp [Array.toList_map]
     have hg:¬ (x.length*i.size > 2 ^ 24):=by rw [hn];omega
     have hz:¬ (x.length*i.size=0):=by rw [hn];omega
     simp only [Instr.buildSlice,Sem.run_bind,run_underlying he,Result.andThen_ok,zQ_ hi]
     rw [if_neg hg,if_neg hz]
     simp only [Sem.run_bind,Qg_ hi hv,Sem.run_pure,Result.andThen_ok,hfill,newRow,run_newObj]
     rfl
    ·obtain ⟨es,h12,h13⟩:=h11 j hj
     refine ⟨es,Zm_ (fun _ h=>.inl h) hsame t _ _ h12,fun q hq=>?_⟩
     show (w.alloc (.cells cs' e)).cell? ⟨w.heap.size,0+(j*t.size+q),none⟩=_
     rw [ZW_ (qu_ w _),Nat.zero_add,<- h13 q hq,Array.getElem?_toList]
    ·rcases hb with h | h
     ·exact .inl h
     ·exact .inr (.inl (by omega))
    ·rcases hb with h | h
     ·have:=hs1.H.Ilt b h;omega
     ·omega
  ·cases hok
 ·cases hok
end ops
end Go.Eng
namespace Go.Eng
set_option linter.unusedVariables false
set_option linter.unusedSimpArgs false
open Go.RowKit
def MOKx (X:(Nat->Prop)->World->M->Act->Prop) (P:Program) (o:Oper) (L:List Opd) (fr:zd_) (F:List Nat) (wr:Bool) (st:zc_) (nx:Nat) (K:AV->zc_->Nat->Prop):Prop:=
 ∃ v st1 nx' T,nx<=nx'/\K v st1 nx'/\(∀ i,i ∉ T->st1.get i=st.get i)/\(∀ i ∈ T,(wr=true/\i ∈ F/\st.get i ≠ none)\/(nx<=i/\i < nx'))/\
   ∀ {X0:Bool->Nat->Prop} {I0:Nat->Prop} {w0:World} {σ:Sto} {I:Nat->Prop} {w:World} {m:M} {a:Act},X I w m a->FOn L fr I w m a->HS X0 I0 w0 σ I w m->(∀ i ∈ F,σ i=st.get i)->(∀ i,nx<=i->i < nx'->¬ m.used i)->
     xl_ P o a w (V9_ X0 I0 w0 I w m (upd σ T st1) v nx nx')
section ops
variable {P:Program} {Γ:Env} {o:Oper} {L:List Opd} {fr:zd_} {F:List Nat} {wr:Bool} {st:zc_} {nx:Nat} {K:AV->zc_->Nat->Prop} {X:(Nat->Prop)->World->M->Act->Prop}
theorem hu_ (h:MOKx (fun _ _ _ _=>True) P o L fr F wr st nx K):MOK P o L fr F wr st nx K:=by
 obtain ⟨v,st1,nx',T,h1,h2,h3,h4,h5⟩:=h
 exact ⟨v,st1,nx',T,h1,h2,h3,h4,fun hf hs ha hN=>h5 trivial hf hs ha hN⟩
theorem FOn.evo {L:List Opd} {I I':Nat->Prop} {w w':World} {m m':M} {a:Act} (h:FOn L fr I w m a) (e:Evo I w m I' w' m'):FOn L fr I' w' m' a:=fun i hi=>e.rv (h i hi)
theorem uu_ {st1:zc_} {T1:List Nat} (g1:∀ i,i ∉ T1->st1.get i=st.get i) (g2:∀ i ∈ T1,i ∈ F/\st.get i ≠ none)
 (hg:∀ {X0:Bool->Nat->Prop} {I0:Nat->Prop} {w0:World} {σ:Sto} {I:Nat->Prop} {w:World} {m:M} {a:Act},FOn L fr I w m a->HS X0 I0 w0 σ I w m->(∀ i ∈ F,σ i=st.get i)->∃ I',HS X0 I0 w0 (upd σ T1 st1) I' w m/\Evo I w m I' w m/\X I' w m a)
 (h:MOKx X P o L fr F true st1 nx K):MOK P o L fr F true st nx K:=by
 obtain ⟨v,st2,nx',T,h1,h2,h3,h4,h5⟩:=h
 refine ⟨v,st2,nx',T1++T,h1,h2,fun i hi=>?_,fun i hi=>?_,fun {X0 I0 w0 σ I w m a} hf hs ha hN=>?_⟩
 ·simp only [List.mem_append,not_or] at hi;rw [h3 i hi.2,g1 i hi.1]
 ·rcases List.mem_append.1 hi with h | h
  ·exact .inl ⟨rfl,g2 i h⟩
  ·rcases h4 i h with ⟨k1,k2,k3⟩ | h
   ·refine .inl ⟨k1,k2,?_⟩
    by_cases h1:i ∈ T1
    ·exact (g2 i h1).2
    ·rw [<- g1 i h1];exact k3
   ·exact .inr h
 ·obtain ⟨I',k1,k2,k3⟩:=hg hf hs ha
  intro N Q k
  refine h5 k3 (hf.evo k2) k1 (uc_ g1 ha) hN N Q fun cv I'' w' m' hgood=>k cv I'' w' m' ?_
  obtain ⟨q1,q2,q3,q4⟩:=hgood
  rw [Hd_ h3] at q2
  exact ⟨q1,q2,k2.trans q3,q4⟩
theorem j6_ {v:AV} {i:Nat} {ob ob':Obj} (hi:st.get i=some ob) (hm:ob.mut=true) (hm':ob'.mut=true) (hF:i ∈ F) (hwr:wr=true) (hK:K v (st.set i ob') nx)
 (h:∀ {I:Nat->Prop} {w:World} {m:M} {a:Act} {σ:Sto},X I w m a->FOn L fr I w m a->HRel I w m σ->(∀ i ∈ F,σ i=st.get i)->∃ cv w',((execOp a.eval o).run P w=.ok (.value cv) w'\/((execOp a.eval o).run P w=.ok .skip w'/\cv=undef))/\
   Fr (fun b=>m.blk i=some b) w w'/\(qF_ I w w'->zM_ I w' m i ob')/\(qF_ I w w'->RV I w' m v cv)):MOKx X P o L fr F wr st nx K:=by
 refine ⟨v,st.set i ob',nx,[i],Nat.le_refl _,hK,fun j hj=>by rw [zc_.get_set,if_neg (by simpa using hj)],fun j hj=>.inl (by simp only [List.mem_singleton] at hj;subst hj;exact ⟨hwr,hF,by rw [hi];intro h;cases h⟩),fun {X0 I0 w0 σ I w m a} hX hf hs ha _=>?_⟩
 obtain ⟨cv,w',hr,hfr,ho,hv⟩:=h hX hf hs.H ha
 have hσ:σ i=some ob:=by rw [ha i hF,hi]
 have hml:∀ {o:Obj},o.mut=true->o.live=true:=fun {o} h=>by cases o<;>first | rfl | cases h
 have hsame:qF_ I w w':=fun b hb=>hfr.block b (hs.H.Ilt b hb) fun e=>hs.H.notI i ob b hσ hm e hb
 have hE:Evo I w m I w' m:=⟨fun _ h=>h,hsame,m.le_refl⟩
 have hget:∀ j,upd σ [i] (st.set i ob') j=if j=i then some ob' else σ j:=fun j=>by
  unfold upd
  simp only [List.mem_singleton,zc_.get_set]
  split<;>rfl
 have good:V9_ X0 I0 w0 I w m (upd σ [i] (st.set i ob')) v nx nx cv I w' m:=by
  refine ⟨hv hsame,hs.step hE (fun j=>j=i) (fun j hj=>by rw [hget,if_neg hj]) (hfr.weak fun b hb=>⟨i,ob,rfl,hσ,hm,hb⟩) (fun b h=>.inl h) (fun b h=>Nat.lt_of_lt_of_le (hs.H.Ilt b h) hfr.size)
   (fun j o' hj e=>?_) (fun j o' b hj e hl hb=>?_) (fun j k o' o'' b hj hk _ _ _ _ _ _=>hj.trans hk.symm) (fun j o' b hj e hm2 hb=>?_) (fun j t x b hj e hb=>?_) (fun j wr kn hj e=>by subst hj;rw [hget,if_pos rfl] at e;cases e;cases hm') (fun b hb=>.inl hb),hE,fun _ h=>.inl h⟩
  ·subst hj;rw [hget,if_pos rfl] at e;cases e
   exact ⟨hs.H.lt j (by rw [hσ];intro h;cases h),ho hsame⟩
  ·subst hj;exact .inr ⟨j,ob,rfl,hσ,hml hm,fun _=>hm,hb⟩
  ·subst hj;exact hs.H.notI j ob b hσ hm hb
  ·subst hj;rw [hget,if_pos rfl] at e;cases e;cases hm'
 rcases hr with hr | ⟨hr,rfl⟩
 ·exact jv_ hr good
 ·exact gt_ hr good
theorem JY_:∀ (t:Ty) (x:t.den),(t.cells x).length=t.size
 | .int _,_=>rfl
 | .bool,_=>rfl
 | .str,_=>rfl
 | .nil,_=>rfl
 | .cons a b,x=>by simp [Ty.cells,Ty.size,JY_ a,JY_ b]
 | .sl _,_=>rfl
theorem WN_ (cs vs:List Value) (off:Nat) (h:off+vs.length<=cs.length) (k:Nat):(cs.take off++vs++cs.drop (off+vs.length))[k]?=if k < off then cs[k]? else if k < off+vs.length then vs[k - off]? else cs[k]?:=by
 have hl:(cs.take off).length=off:=by simp;omega
 by_cases h1:k < off
 ·rw [if_pos h1,List.append_assoc,List.getElem?_append_left (by omega),List.getElem?_take,if_pos h1]
 ·rw [if_neg h1]
  by_cases h2:k < off+vs.length
  ·rw [if_pos h2,List.append_assoc,List.getElem?_append_right (by omega),hl,List.getElem?_append_left (by omega)]
  ·rw [if_neg h2,List.getElem?_append_right (by simp;omega),List.getElem?_drop]
   congr 1;simp;omega
theorem wT_ (cs:Array Value) (vs:List Value) (off:Nat) (h:off+vs.length<=cs.size):((cs.toList.take (off+0)++vs++cs.toList.drop (off+0+vs.length)).toArray).size=cs.size:=by
 simp only [List.size_toArray,List.length_append,List.length_take,List.length_drop,Array.length_toList];omega
def GV_ (I:Nat->Prop) (w:World) (m:M) (j r:Nat) (t:Ty) (x:List t.den) (i:Nat) (cl:List AV):Prop:=
 m.sz j=t.size/\x.length=m.len j/\x.length<=m.cap j/\m.cap j<=maxLen/\i < x.length/\m.used r/\∃ (b:Nat) (vs:Array Value) (T:TypeId) (fz:Nat × Nat),m.blk j=some b/\w.heap[b]?=some (.cells vs T fz)/\FzR (t=.int .u8) fz vs.size/\vs.size=m.cap j*t.size/\
  ∀ k (h:k < x.length),∃ es:List Value,es.length=t.size/\(k < i->RC I w t x[k] es)/\(i < k->RC (m.rg r).dp (m.rg r).wc t x[k] es)/\(k=i->z0_ I w m cl es)/\∀ j (hj:j < es.length),vs[k*t.size+j]?=some es[j]
theorem zdc_ {I:Nat->Prop} {w:World} {m:M} {j r:Nat} {t:Ty} {x:List t.den} {i:Nat} {cl:List AV} (h:GV_ I w m j r t x i cl) (hc:cl.length=t.size):zM_ I w m j (.rowm t x i (.jsl r t [] :: cl)):=by
 obtain ⟨h1,h2,h3,h4,h5,h6,b,vs,T,fz,h7,h8,h9,h10,h11⟩:=h
 exact ⟨h1,h2,h3,h4,h5,r,cl,b,vs,T,fz,rfl,h6,hc,h7,h8,h9,h10,h11⟩
theorem BL_ {I:Nat->Prop} {w:World} {m:M} {j r:Nat} {t:Ty} {x:List t.den} {i:Nat} {cl:List AV} {z:t.den} (h:GV_ I w m j r t x i cl) (hz:t.one cl=some z) (hi:i+1 < x.length):
 zM_ I w m j (.rowm t (x.set i z) (i+1) (.jsl r t [] :: X0_ r (t.cells (x.getD (i+1) t.dflt)))):=by
 obtain ⟨h1,h2,h3,h4,h5,h6,b,vs,T,fz,h7,h8,h9,h10,h11⟩:=h
 refine ⟨h1,by simpa using h2,by simpa using h3,h4,by simpa using hi,r,_,b,vs,T,fz,rfl,h6,?_,h7,h8,h9,h10,fun k hk=>?_⟩
 ·obtain ⟨es,q1,_,q3,_⟩:=h11 (i+1) hi
  have:=Zy_ (WJ_ (I:=I) (w:=w) h6 _ _ _ (q3 (by omega)))
  have hg:x.getD (i+1) t.dflt=x[i+1]:=by simp [hi]
  rw [hg,this,q1]
 ·rw [List.length_set] at hk
  obtain ⟨es,q1,q2,q3,q4,q5⟩:=h11 k hk
  refine ⟨es,q1,fun h=>?_,fun h=>?_,fun h=>?_,q5⟩
  ·by_cases hki:k=i
   ·subst hki
    rw [List.getElem_set_self]
    exact k8_ (q4 rfl) hz
   ·rw [List.getElem_set_ne (fun e=>hki e.symm)]
    exact q2 (by omega)
  ·rw [List.getElem_set_ne (by omega)]
   exact q3 (by omega)
  ·subst h
   have hg:x.getD (i+1) t.dflt=x[i+1]:=by simp [hi]
   rw [hg]
   exact WJ_ h6 _ _ _ (q3 (by omega))
theorem BK_ {I:Nat->Prop} {w:World} {m:M} {j r:Nat} {t:Ty} {x:List t.den} {i:Nat} {cl:List AV} {z:t.den} (h:GV_ I w m j r t x i cl) (hz:t.one cl=some z) (hi:¬ i+1 < x.length):
 zM_ I w m j (.row false t (x.set i z)):=by
 obtain ⟨h1,h2,h3,h4,h5,h6,b,vs,T,fz,h7,h8,h9,h10,h11⟩:=h
 refine ⟨h1,by simpa using h2,by simpa using h3,h4,.inr ⟨b,vs,T,fz,h7,h8,h9,h10,fun k hk=>?_⟩⟩
 rw [List.length_set] at hk
 obtain ⟨es,q1,q2,q3,q4,q5⟩:=h11 k hk
 refine ⟨es,?_,q5⟩
 by_cases hki:k=i
 ·subst hki
  rw [List.getElem_set_self]
  exact k8_ (q4 rfl) hz
 ·rw [List.getElem_set_ne (fun e=>hki e.symm)]
  exact q2 (by omega)
theorem zd1_ {I:Nat->Prop} {w:World} {m:M} {v:AV} {u:Value} {k:IntKind} (h:RV0 I w m v u) (hk:v.ik=some k):∃ n,u=.int k n/\inK k n:=by
 cases v<;>cases hk
 ·exact ⟨_,h.1,h.2⟩
 ·exact h
def QR_ (x y:Opd) (fr:zd_):List Nat:=match x.ev fr with | .ptr _ _=>zZ_ [x] fr | _=>zZ_ [x,y] fr
theorem H7_ {n:Nat} {x' y':Opd} (hok:zy_ P o.op (.store n x' y')=true) (ev:zu_ Γ (.store n x' y') fr st nx K):MOK P o [x',y'] fr (QR_ x' y' fr) true st nx K:=by
 simp only [zu_,ZG_,zc_.setK_eq] at ev
 simp only [zy_] at hok
 split at hok
 ·rename_i t x y ho
  simp only [Bool.and_eq_true] at hok
  obtain ⟨⟨hs1,hx⟩,hy⟩:=hok
  obtain ⟨ti,hti,hn⟩:=qT_ hs1
  have hex:∀ (a:Act),execOp a.eval o=(do Instr.storeAt t (a.eval x) (a.eval y);pure .skip):=fun a=>by unfold execOp;rw [ho]
  split at ev
  ·-- a box
   rename_i i off c hb hc
   rw [show QR_ x' y' fr=zZ_ [x'] fr by unfold QR_;rw [hb]]
   split at ev
   ·rename_i l hl
    split at ev
    ·rename_i hd
     simp only [Bool.and_eq_true] at hd
     obtain ⟨hcn,hoff⟩:=hd
     have hcn:=Nat.eq_of_beq_eq_true hcn
     have hoff:=Nat.le_of_ble_eq_true hoff
     refine hu_ (j6_ (ob:=.box l) (ob':=.box (put l off c)) hl rfl rfl (zD_ (List.mem_singleton.2 rfl:x' ∈ [x']) hb i (by simp [AV.ids,AV.ids1,AV.ids0])) rfl ev fun {I w m a σ} _ hf hH ha=>?_)
     have hv:=hf.rv ZL_ hx;rw [hb] at hv
     have hu:=QV_ (hf.rv qb_ hy) hc
     have hi:σ i=some (.box l):=by rw [ha i (zD_ (List.mem_singleton.2 rfl:x' ∈ [x']) hb i (by simp [AV.ids,AV.ids1,AV.ids0])),hl]
     obtain ⟨b,cs,T,fz,h1,h2,hz,h3⟩:=hH.obj i _ hi
     obtain ⟨b',h4,h5,_⟩:=hv
     rw [h1] at h4;cases h4
     have hlen:=Zy_ h3
     have hlc:=Zy_ hu
     have hcs:cs.toList.length=cs.size:=Array.length_toList
     obtain ⟨w',r1,r2,r3,r4,r5,r6,r7⟩:=qa_ (P:=P) (a.eval y).cells.toList 0 off w cs h2 hz (by omega) (ko_ hu)
     have hrun:(Instr.storeAt t (a.eval x) (a.eval y)).run P w=.ok () w':=by
      have hsz:(a.eval y).cells.size=ti.size:=by rw [hn,<- hcn,hlc];simp
      simp [Instr.storeAt,h5,Instr.sureAddr,storeVar,zQ_ hti,hsz,r1]
     refine ⟨undef,w',.inr ⟨yN_ (hex a) hrun,rfl⟩,⟨r5,r6,r7,by omega,fun k _ hk=>r4 k (fun e=>hk (by rw [e];exact h1))⟩,fun hs=>⟨b,_,T,fz,h1,r2,?_,?_⟩,fun _=>trivial⟩
     ·rw [wT_ _ _ _ (by omega)];exact hz
     ·have:=Jk_ off h3 hu (by omega)
      simp only [Nat.add_zero]
      exact ZS_ (fun _ h=>h) hs m.le_refl _ _ this
    ·exact ev.elim
   ·exact ev.elim
  ·-- an element of a row
   rename_i j i off c hb hc
   rw [show QR_ x' y' fr=zZ_ [x',y'] fr by unfold QR_;rw [hb]]
   obtain ⟨c',st1,T1,ev1,⟨g1,g2⟩,hg⟩:=Ke_ ev
   split at ev1
   ·rename_i ty yl hl
    split at ev1
    ·rename_i hd
     simp only [Bool.and_eq_true] at hd
     obtain ⟨hcn,hoff⟩:=hd
     have hcn:=Nat.eq_of_beq_eq_true hcn
     have hoff:=Nat.le_of_ble_eq_true hoff
     obtain ⟨hi,ev2⟩:=zj_ ev1
     obtain ⟨z,hz,ev2⟩:=JD_ ev2
     ·have hjF:j ∈ zZ_ [x',y'] fr:=zD_ ZL_ hb j (by simp [AV.ids,AV.ids1,AV.ids0])
      have hids:∀ i ∈ zH_ c,i ∈ zZ_ [x',y'] fr:=fun i hi=>zD_ qb_ rfl i (Vf_ hc i hi)
      refine uu_ (X:=fun I w m a=>z0_ I w m c' (a.eval y).cells.toList) g1 (fun i hi=>⟨hids i (g2 i hi).1,(g2 i hi).2⟩) (fun {X0 I0 w0 σ I w m a} hf hs ha=>?_) (j6_ (ob:=.row false ty yl) (ob':=.row false ty (yl.set i z)) hl rfl rfl hjF rfl ev2 fun {I w m a σ} hX hf hH ha=>?_)
      ·obtain ⟨I',k1,k2,k3⟩:=hg hs fun i hi=>ha i (hids i hi)
       exact ⟨I',k1,k2,k3 _ (QV_ (hf.rv qb_ hy) hc)⟩
      ·have hv:=hf.rv ZL_ hx;rw [hb] at hv
       have hj:σ j=some (.row false ty yl):=by rw [ha j hjF,hl]
       obtain ⟨q1,q2,q3,q4,q5⟩:=hH.obj j _ hj
       obtain ⟨b',h4,h5,_⟩:=hv
       rcases q5 with ⟨q5,_⟩ | ⟨b,cs,T,fz,q5,q6,q7,q8,q9⟩
       ·rw [q5] at h4;cases h4
       ·have e:=Option.some.inj (q5.symm.trans h4)
        subst e
        have q9:EA I w ty yl fun k=>cs[k]?:=q9
        have hlc:=Zy_ hX
        have hvs:(a.eval y).cells.toList.length=n:=by omega
        have hcs:cs.toList.length=cs.size:=Array.length_toList
        have hsz1:(i+1)*ty.size<=cs.size:=by rw [q8];exact Nat.mul_le_mul_right _ (by omega)
        have hfit:i*ty.size+off+(a.eval y).cells.toList.length<=cs.size:=by rw [Nat.add_mul] at hsz1;omega
        obtain ⟨w',r1,r2,r3,r4,r5,r6,r7⟩:=qa_ (P:=P) (a.eval y).cells.toList 0 (i*ty.size+off) w cs q6 q7.1 (by omega) (ko_ hX)
        have hrun:(Instr.storeAt t (a.eval x) (a.eval y)).run P w=.ok () w':=by
         have hsz:(a.eval y).cells.size=ti.size:=by rw [hn,<- hvs];simp
         simp [Instr.storeAt,h5,Instr.sureAddr,storeVar,zQ_ hti,hsz,q1,r1]
        have hsize:=wT_ cs (a.eval y).cells.toList (i*ty.size+off) hfit
        have hget:∀ k,((cs.toList.take (i*ty.size+off+0)++(a.eval y).cells.toList++cs.toList.drop (i*ty.size+off+0+(a.eval y).cells.toList.length)).toArray)[k]?=if k < i*ty.size+off then cs[k]? else if k < i*ty.size+off+(a.eval y).cells.toList.length then (a.eval y).cells.toList[k - (i*ty.size+off)]? else cs[k]?:=fun k=>by
         rw [List.getElem?_toArray,Nat.add_zero,WN_ _ _ _ (by omega)]
         simp only [Array.getElem?_toList]
        refine ⟨undef,w',.inr ⟨yN_ (hex a) hrun,rfl⟩,⟨r5,r6,r7,by omega,fun k _ hk=>r4 k (fun e=>hk (by rw [e];exact q5))⟩,fun hs=>⟨q1,by simpa using q2,by simpa using q3,q4,.inr ⟨b,_,T,fz,q5,r2,by rw [hsize];exact q7,by rw [hsize];exact q8,?_⟩⟩,fun _=>trivial⟩
        obtain ⟨es,e1,e2'⟩:=q9 i hi
        have e2:∀ k (hk:k < es.length),cs[i*ty.size+k]?=some es[k]:=e2'
        have hel:=Zi_ ty _ _ e1
        have hgetD:yl.getD i ty.dflt=yl[i]:=by simp [hi]
        rw [hgetD] at hz
        have hput:=Jk_ off (qS_ (m:=m) ty _ _ e1) hX (by rw [JY_];omega)
        have hRC:=k8_ hput hz
        have hel':=Zi_ ty _ _ hRC
        refine EA.set (EA.mono (fun _ h=>h) hs q9) (Zm_ (fun _ h=>h) hs ty _ _ hRC) hi (fun k hk=>?_) (fun k hk hout=>?_)
        ·rw [hel'] at hk
         show ((cs.toList.take (i*ty.size+off+0)++(a.eval y).cells.toList++cs.toList.drop (i*ty.size+off+0+(a.eval y).cells.toList.length)).toArray)[i*ty.size+k]?=_
         rw [hget,<- List.getElem?_eq_getElem (by omega),WN_ es _ off (by omega) k]
         by_cases h1:k < off
         ·rw [if_pos h1,if_pos (by omega),e2 k (by omega),List.getElem?_eq_getElem (by omega)]
         ·rw [if_neg h1,if_neg (by omega)]
          by_cases h2:k < off+(a.eval y).cells.toList.length
          ·rw [if_pos h2,if_pos (by omega)];congr 1;omega
          ·rw [if_neg h2,if_neg (by omega),e2 k (by omega),List.getElem?_eq_getElem (by omega)]
        ·show ((cs.toList.take (i*ty.size+off+0)++(a.eval y).cells.toList++cs.toList.drop (i*ty.size+off+0+(a.eval y).cells.toList.length)).toArray)[k]?=_
         rw [hget]
         rw [Nat.add_mul] at hout
         by_cases h1:k < i*ty.size+off
         ·rw [if_pos h1]
         ·rw [if_neg h1,if_neg (by omega)]
    ·exact ev1.elim
   ·-- the element that is made over
    rename_i ty yl k0 L hl
    split at ev1
    ·rename_i a0 cs
     split at ev1
     ·rename_i r t0 x0
      split at ev1
      ·rename_i hd
       simp only [Bool.and_eq_true] at hd
       obtain ⟨hcn,hoff⟩:=hd
       have hcn:=Nat.eq_of_beq_eq_true hcn
       have hoff:=Nat.le_of_ble_eq_true hoff
       obtain ⟨rfl,ev2⟩:=zj_ ev1
       have hjF:j ∈ zZ_ [x',y'] fr:=zD_ ZL_ hb j (by simp [AV.ids,AV.ids1,AV.ids0])
       have hids:∀ i ∈ zH_ c,i ∈ zZ_ [x',y'] fr:=fun i hi=>zD_ qb_ rfl i (Vf_ hc i hi)
       have main:∀ ob':Obj,ob'.mut=true->(∀ {I:Nat->Prop} {w:World} {m:M},GV_ I w m j r ty yl i (put cs off c')->(put cs off c').length=ty.size->zM_ I w m j ob')->K .undef (st1.set j ob') nx->MOK P o [x',y'] fr (zZ_ [x',y'] fr) true st nx K:=fun ob' hmu hob hK=>by
        refine uu_ (X:=fun I w m a=>z0_ I w m c' (a.eval y).cells.toList) g1 (fun i hi=>⟨hids i (g2 i hi).1,(g2 i hi).2⟩) (fun {X0 I0 w0 σ I w m a} hf hs ha=>?_) (j6_ (ob:=.rowm ty yl i (.jsl r t0 x0 :: cs)) (ob':=ob') hl rfl hmu hjF rfl hK fun {I w m a σ} hX hf hH ha=>?_)
        ·obtain ⟨I',k1,k2,k3⟩:=hg hs fun i hi=>ha i (hids i hi)
         exact ⟨I',k1,k2,k3 _ (QV_ (hf.rv qb_ hy) hc)⟩
        ·have hv:=hf.rv ZL_ hx;rw [hb] at hv
         have hj:σ j=some (.rowm ty yl i (.jsl r t0 x0 :: cs)):=by rw [ha j hjF,hl]
         obtain ⟨q1,q2,q3,q4,hi,r',cl,b,vs,T,fz,k6,hus,hcl,q5,q6,q7,q8,q9⟩:=hH.obj j _ hj
         obtain ⟨b',h4,h5,_⟩:=hv
         rw [q5] at h4;cases h4
         simp only [List.cons.injEq,AV.jsl.injEq] at k6
         obtain ⟨⟨rfl,_,_⟩,rfl⟩:=k6
         have hlc:=Zy_ hX
         have hvs:(a.eval y).cells.toList.length=n:=by omega
         have hsz1:(i+1)*ty.size<=vs.size:=by rw [q8];exact Nat.mul_le_mul_right _ (by omega)
         have hfit:i*ty.size+off+(a.eval y).cells.toList.length<=vs.size:=by rw [Nat.add_mul] at hsz1;omega
         have hvl:vs.toList.length=vs.size:=Array.length_toList
         obtain ⟨w',r1,r2,r3,r4,r5,r6,r7⟩:=qa_ (P:=P) (a.eval y).cells.toList 0 (i*ty.size+off) w vs q6 q7.1 (by omega) (ko_ hX)
         have hrun:(Instr.storeAt t (a.eval x) (a.eval y)).run P w=.ok () w':=by
          have hsz:(a.eval y).cells.size=ti.size:=by rw [hn,<- hvs];simp
          simp [Instr.storeAt,h5,Instr.sureAddr,storeVar,zQ_ hti,hsz,q1,r1]
         have hsize:=wT_ vs (a.eval y).cells.toList (i*ty.size+off) hfit
         have hget:∀ k,((vs.toList.take (i*ty.size+off+0)++(a.eval y).cells.toList++vs.toList.drop (i*ty.size+off+0+(a.eval y).cells.toList.length)).toArray)[k]?=if k < i*ty.size+off then vs[k]? else if k < i*ty.size+off+(a.eval y).cells.toList.length then (a.eval y).cells.toList[k - (i*ty.size+off)]? else vs[k]?:=fun k=>by
          rw [List.getElem?_toArray,Nat.add_zero,WN_ _ _ _ (by omega)]
          simp only [Array.getElem?_toList]
         refine ⟨undef,w',.inr ⟨yN_ (hex a) hrun,rfl⟩,⟨r5,r6,r7,by omega,fun k _ hk=>r4 k (fun e=>hk (by rw [e];exact q5))⟩,fun hs=>hob ⟨q1,q2,q3,q4,hi,hus,b,_,T,fz,q5,r2,by rw [hsize];exact q7,by rw [hsize];exact q8,fun k hk=>?_⟩ (by rw [xy_];exact hcl),fun _=>trivial⟩
         obtain ⟨es,p1,p2,p3,p4,p5⟩:=q9 k hk
         by_cases hki:k=i
         ·subst hki
          have hel':(es.take off++(a.eval y).cells.toList++es.drop (off+(a.eval y).cells.toList.length)).length=ty.size:=by simp only [List.length_append,List.length_take,List.length_drop];omega
          refine ⟨_,hel',fun h=>absurd h (Nat.lt_irrefl _),fun h=>absurd h (Nat.lt_irrefl _),fun _=>ZS_ (fun _ h=>h) hs m.le_refl _ _ (Jk_ off (p4 rfl) hX (by omega)),fun q hq=>?_⟩
          rw [hget,<- List.getElem?_eq_getElem hq,WN_ es _ off (by omega) q]
          by_cases h1:q < off
          ·rw [if_pos h1,if_pos (by omega),p5 q (by omega),List.getElem?_eq_getElem (by omega)]
          ·rw [if_neg h1,if_neg (by omega)]
           by_cases h2:q < off+(a.eval y).cells.toList.length
           ·rw [if_pos h2,if_pos (by omega)];congr 1;omega
           ·rw [if_neg h2,if_neg (by omega),p5 q (by omega),List.getElem?_eq_getElem (by omega)]
         ·refine ⟨es,p1,fun h=>Zm_ (fun _ h=>h) hs _ _ _ (p2 h),p3,fun h=>absurd h hki,fun q hq=>?_⟩
          rw [hget]
          rcases Nat.lt_or_gt_of_ne hki with h | h
          ·have:(k+1)*ty.size<=i*ty.size:=Nat.mul_le_mul_right _ h
           rw [Nat.add_mul] at this
           rw [if_pos (by omega)];exact p5 q hq
          ·have:(i+1)*ty.size<=k*ty.size:=Nat.mul_le_mul_right _ h
           rw [Nat.add_mul] at this
           rw [if_neg (by omega),if_neg (by omega)];exact p5 q hq
       split at ev2
       ·obtain ⟨z,hz,ev3⟩:=JD_ ev2
        rcases QT_ ev3 with ⟨hd,ev4⟩ | ⟨hd,ev4⟩
        ·exact main _ rfl (fun h _=>BL_ h hz (of_decide_eq_true hd)) ev4
        ·exact main _ rfl (fun h _=>BK_ h hz (of_decide_eq_false hd)) ev4
       ·exact main _ rfl (fun h hc=>zdc_ h hc) ev2
      ·exact ev1.elim
     ·exact ev1.elim
    ·exact ev1.elim
   ·exact ev1.elim
  ·-- a number of a region
   rename_i j ty yl i off c hb hc
   rw [show QR_ x' y' fr=zZ_ [x',y'] fr by unfold QR_;rw [hb]]
   split at ev
   ·rename_i va q
    split at ev
    ·split at ev
     ·rename_i k hik
      split at ev
      case h_2=>exact ev.elim
      rename_i k' v1 rest hdrop
      split at ev
      ·rename_i hk _
       subst hk
       split at ev
       ·rename_i hn1
        have hn1:=Nat.eq_of_beq_eq_true hn1
        split at ev
        ·rename_i wr0 kn0 hl
         split at ev
         ·have hjF:j ∈ zZ_ [x',y'] fr:=zD_ ZL_ hb j (by simp [AV.ids,AV.ids1,AV.ids0])
          refine ⟨.undef,st.set j (.reg true false),nx,[j],Nat.le_refl _,ev,fun q hq=>by rw [zc_.get_set,if_neg (by simpa using hq)],fun q hq=>.inl (by simp only [List.mem_singleton] at hq;subst hq;exact ⟨rfl,hjF,by rw [hl];intro h;cases h⟩),fun {X0 I0 w0 σ I w m a} hf hs ha hN=>?_⟩
          have hv:=hf.rv ZL_ hx;rw [hb] at hv
          obtain ⟨⟨b,ofs,e1,hd,hi,h1⟩,hu⟩:=hv
          have hval:=QV_ (hf.rv qb_ hy) hc
          have hj:σ j=some (.reg true kn0):=by rw [ha j hjF,hl]
          obtain ⟨g1,g2,g3,g4⟩:=hs.H.gar j true kn0 b hj hd
          obtain ⟨es,h2,h3⟩:=h1 i hi
          have hget:yl.getD i ty.dflt=yl[i]:=by simp [hi]
          rw [hget] at hdrop
          obtain ⟨cv,q1,q2⟩:=VC_ (qS_ (m:=m) ty _ _ h2) hdrop
          obtain ⟨q2,_⟩:cv=.int k v1/\inK k v1:=q2
          subst q2
          have hlt:off < es.length:=by
           rcases Nat.lt_or_ge off es.length with h | h
           ·exact h
           ·rw [List.getElem?_eq_none h] at q1;cases q1
          rw [List.getElem?_eq_getElem hlt] at q1
          have hwc:(m.rg j).wc.cell? ⟨b,ofs+i*ty.size+off,none⟩=some (.int k v1):=by rw [h3 off hlt];exact q1
          obtain ⟨cs,cs',T,fz,c1,c2,c3,c4⟩:∃ (cs cs':Array Value) (T:TypeId) (fz:Nat × Nat),(m.rg j).wc.heap[b]?=some (.cells cs T fz)/\w.heap[b]?=some (.cells cs' T fz)/\cs'.size=cs.size/\∀ j:Nat,cs'[j]?=cs[j]?\/∃ k n n',cs[j]?=some (.int k n)/\cs'[j]?=some (.int k n')/\inK k n':=by
           rcases g4.1 with h | h
           ·cases hh:(m.rg j).wc.heap[b]? with
            | none=>simp [World.cell?,hh] at hwc
            | some ob=>
              cases ob with
              | cells cs T fz=>exact ⟨cs,cs,T,fz,rfl,h.trans hh,rfl,fun _=>.inl rfl⟩
              | _=>simp [World.cell?,hh] at hwc
           ·exact h
          have hz:VF_ fz cs'.size:=by rw [c3];exact g4.2.2 rfl cs T fz c1
          rw [ZW_ c1] at hwc
          have hlt2:ofs+i*ty.size+off < cs.size:=(Array.getElem?_eq_some_iff.1 hwc).1
          obtain ⟨v0,hy1⟩:∃ v0,(a.eval y).cells.toList=[.int k v0]/\inK k v0:=by
           match hcl:(a.eval y).cells.toList,hval with
           | [u],hval=>obtain ⟨n0,h5,h6⟩:=zd1_ hval.1 hik;exact ⟨n0,by rw [h5],h6⟩
          obtain ⟨w',r1,r2,r3,r4,r5,r6,r7⟩:=qa_ (P:=P) [Value.int k v0] 0 (ofs+i*ty.size+off) w cs' c2 hz (by simp;omega) (fun v hv=>by simp only [List.mem_singleton] at hv;subst hv;rfl)
          have hrun:(Instr.storeAt t (a.eval x) (a.eval y)).run P w=.ok () w':=by
           have hsz:(a.eval y).cells.size=ti.size:=by rw [hn,hn1,<- Array.length_toList,hy1.1];rfl
           simp [Instr.storeAt,e1,Instr.sureAddr,storeVar,zQ_ hti,hsz,hy1.1,r1]
          have hcs':cs'.toList.length=cs'.size:=Array.length_toList
          have hsize:=wT_ cs' [Value.int k v0] (ofs+i*ty.size+off) (by simp;omega)
          have hget2:∀ p,((cs'.toList.take (ofs+i*ty.size+off+0)++[Value.int k v0]++cs'.toList.drop (ofs+i*ty.size+off+0+[Value.int k v0].length)).toArray)[p]?=if p=ofs+i*ty.size+off then some (.int k v0) else cs'[p]?:=fun p=>by
           rw [List.getElem?_toArray,Nat.add_zero,WN_ _ _ _ (by simp;omega)]
           simp only [Array.getElem?_toList,List.length_singleton]
           by_cases h5:p=ofs+i*ty.size+off
           ·rw [if_pos h5,if_neg (by omega),if_pos (by omega),h5,Nat.sub_self];rfl
           ·rw [if_neg h5]
            by_cases h6:p < ofs+i*ty.size+off
            ·rw [if_pos h6]
            ·rw [if_neg h6,if_neg (by omega)]
          have hσ':∀ p,upd σ [j] (st.set j (.reg true false)) p=if p=j then some (.reg true false) else σ p:=fun p=>by
           unfold upd
           simp only [List.mem_singleton,zc_.get_set]
           split<;>rfl
          obtain ⟨s1,s2⟩:=hs.gstore (w':=w') hj hσ' hd ⟨r5,r6,r7,by omega,fun p _ hp=>r4 p hp⟩ (.inr ⟨cs,_,T,fz,c1,r2,by rw [hsize,c3],fun p=>by
           rw [hget2]
           by_cases h5:p=ofs+i*ty.size+off
           ·rw [if_pos h5,h5];exact .inr ⟨k,v1,v0,hwc,rfl,hy1.2⟩
           ·rw [if_neg h5];exact c4 p⟩) (fun cs2 T2 fz2 e2=>by rw [r2] at e2;cases e2;rw [hsize];exact hz)
          exact gt_ (yN_ (hex a) hrun) ⟨trivial,s1,s2,fun _ h=>.inl h⟩
         ·exact ev.elim
        ·exact ev.elim
       ·exact ev.elim
      ·exact ev.elim
     ·exact ev.elim
    ·exact ev.elim
   ·exact ev.elim
  ·exact ev.elim
 ·cases hok
end ops
end Go.Eng
