/- Parts of the proof: EOps3. No condition. -/
import Derived.Test.YtimkdohmkfjfaaaGreatDoorXK02
namespace Go.Eng
set_option linter.unusedVariables false
set_option linter.unusedSimpArgs false
open Go.RowKit
section ops
variable {P:Program} {Γ:Env} {o:Oper} {io:IOp} {fr:zd_} {st:zc_} {nx:Nat} {K:AV->zc_->Nat->Prop}
theorem pok {L:List Opd} {K':AV->Prop} {v:AV} (hK:K' v) (h:∀ {I:Nat->Prop} {w:World} {m:M} {a:Act},FOn L fr I w m a->∃ S:Sem Value,execOp a.eval o=(do pure (.value (<- S)))/\∃ cv,RV I w m v cv/\S.run P w=.ok cv w):POK P o L fr K':=
 ⟨v,hK,fun hf=>let ⟨_,he,cv,hv,hr⟩:=h hf;⟨cv,hv,JV_ he hr⟩⟩
theorem XN_ {args:Array Operand} {x' y':Opd} (h:Zd_ args.toList [x',y']=true):∃ x y,args=#[x,y]/\zF_ x x'=true/\zF_ y y'=true:=by
 obtain ⟨l⟩:=args
 match l,h with
 | [x,y],h=>simp only [Zd_,Bool.and_eq_true] at h;exact ⟨x,y,rfl,h.1,h.2.1⟩
 | [],h=>cases h
 | [_],h=>simp [Zd_] at h
 | _ :: _ :: _ :: _,h=>simp [Zd_] at h
theorem Vv_ {args:Array Operand} {x':Opd} (h:Zd_ args.toList [x']=true):∃ x,args=#[x]/\zF_ x x'=true:=by
 obtain ⟨l⟩:=args
 match l,h with
 | [x],h=>simp only [Zd_,Bool.and_eq_true] at h;exact ⟨x,rfl,h.1⟩
 | [],h=>cases h
 | _ :: _ :: _,h=>simp [Zd_] at h
theorem Z5_ {x:Opd}:x ∈ [x]:=by simp
theorem ZL_ {x y:Opd}:x ∈ [x,y]:=by simp
theorem qb_ {x y:Opd}:y ∈ [x,y]:=by simp
theorem zbW_ {x':Opd} (hok:zy_ P o.op (.mov x')=true) (ev:zu_ Γ (.mov x') fr st nx K):POK P o [x'] fr (fun v=>K v st nx):=by
 simp only [zu_,Jb_] at ev
 simp only [zy_] at hok
 split at hok
 ·rename_i x ho
  refine ⟨_,ev,fun {I w m a} hf=>⟨a.eval x,hf.rv Z5_ hok,?_⟩⟩
  unfold execOp;rw [ho];rfl
 ·rename_i x ho
  refine ⟨_,ev,fun {I w m a} hf=>⟨a.eval x,hf.rv Z5_ hok,?_⟩⟩
  unfold execOp;rw [ho];rfl
 ·cases hok
theorem zck_ {op:BinOp} {x' y':Opd} (hok:zy_ P o.op (.bin op x' y')=true) (ev:zu_ Γ (.bin op x' y') fr st nx K):POK P o [x',y'] fr (fun v=>K v st nx):=by
 simp only [zu_] at ev
 simp only [zy_] at hok
 split at hok
 ·rename_i op1 xt x y yt ho
  simp only [Bool.and_eq_true,beq_iff_eq] at hok
  obtain ⟨⟨rfl,h1⟩,h2⟩:=hok
  obtain ⟨v,hK,h⟩:=b0_ ev
  exact pok hK fun {I w m a} hf=>⟨_,by unfold execOp;rw [ho],h (hf.rv ZL_ h1) (hf.rv qb_ h2)⟩
 ·cases hok
theorem zcd_ {neg:Bool} {x' y':Opd} (hok:zy_ P o.op (.eqb neg x' y')=true) (ev:zu_ Γ (.eqb neg x' y') fr st nx K):POK P o [x',y'] fr (fun v=>K v st nx):=by
 simp only [zu_] at ev
 simp only [zy_] at hok
 split at hok
 ·rename_i op1 xt x y yt ho
  simp only [Bool.and_eq_true,beq_iff_eq] at hok
  obtain ⟨⟨⟨rfl,h1⟩,h2⟩,h3⟩:=hok
  split at ev
  ·rename_i p q ex ey
   refine pok ev fun {I w m a} hf=>⟨_,by unfold execOp;rw [ho],_,qB_,?_⟩
   have hx:=Bn_ (hf.rv ZL_ h1) ex
   have hy:=Bn_ (hf.rv qb_ h2) ey
   exact xO_ (.inl ⟨p,q,hx,hy⟩) (by rw [hx,hy];exact UW_ (d:=9999) (bE_ h3))
  ·exact ev.elim
 ·cases hok
theorem zca_ {neg:Bool} {x' y':Opd} (hok:zy_ P o.op (.eqp neg x' y')=true) (ev:zu_ Γ (.eqp neg x' y') fr st nx K):POK P o [x',y'] fr (fun v=>K v st nx):=by
 simp only [zu_] at ev
 simp only [zy_] at hok
 split at hok
 ·rename_i op1 xt x y yt ho
  simp only [Bool.and_eq_true,beq_iff_eq] at hok
  obtain ⟨⟨⟨rfl,h1⟩,h2⟩,h3⟩:=hok
  obtain ⟨e,h3⟩:=zai_ h3
  obtain ⟨v,hK,h⟩:=bN_ ev
  exact pok hK fun {I w m a} hf=>⟨_,by unfold execOp;rw [ho],h h3 (hf.rv ZL_ h1) (hf.rv qb_ h2)⟩
 ·cases hok
theorem zcb_ {neg:Bool} {x' y':Opd} (hok:zy_ P o.op (.eqn neg x' y')=true) (ev:zu_ Γ (.eqn neg x' y') fr st nx K):POK P o [x',y'] fr (fun v=>K v st nx):=by
 simp only [zu_] at ev
 simp only [zy_] at hok
 split at hok
 ·rename_i op1 xt x y yt ho
  simp only [Bool.and_eq_true,beq_iff_eq] at hok
  obtain ⟨⟨⟨rfl,h1⟩,h2⟩,h3⟩:=hok
  obtain ⟨k,e,h3⟩:=g7_ h3
  split at ev
  ·rename_i hx hy
   refine pok ev fun {I w m a} hf=>⟨_,by unfold execOp;rw [ho],.bool (!neg),vQ_,?_⟩
   have h4:=hf.rv ZL_ h1
   have h5:=hf.rv qb_ h2
   rw [hx] at h4;rw [hy] at h5
   have h4:a.eval x=.map none:=h4
   have h5:a.eval y=.map none:=h5
   rw [xO_ (r:=true) (.inr (.inr (.inl ⟨_,_,h4,h5⟩))) (by rw [h4,h5];exact Yd_ (d:=9999) h3 (.inl rfl))]
   cases neg<;>rfl
  ·rename_i hx hy
   refine pok ev fun {I w m a} hf=>⟨_,by unfold execOp;rw [ho],.bool neg,vQ_,?_⟩
   have h4:=hf.rv ZL_ h1
   have h5:=hf.rv qb_ h2
   rw [hx] at h4;rw [hy] at h5
   obtain ⟨b,_,h4,_⟩:=h4
   have h5:a.eval y=.map none:=h5
   rw [xO_ (r:=false) (.inr (.inr (.inl ⟨_,_,h4,h5⟩))) (by rw [h4,h5];exact Yd_ (d:=9999) h3 (.inr rfl))]
   cases neg<;>rfl
  ·exact ev.elim
 ·cases hok
theorem zcW_ {op:UnOp} {x':Opd} (hok:zy_ P o.op (.un op x')=true) (ev:zu_ Γ (.un op x') fr st nx K):POK P o [x'] fr (fun v=>K v st nx):=by
 simp only [zu_] at ev
 simp only [zy_] at hok
 split at hok
 ·rename_i op1 xt x ho
  simp only [Bool.and_eq_true,beq_iff_eq] at hok
  obtain ⟨rfl,h1⟩:=hok
  obtain ⟨v,hK,h⟩:=b7_ ev
  exact pok hK fun {I w m a} hf=>⟨_,by unfold execOp;rw [ho],h (hf.rv Z5_ h1)⟩
 ·cases hok
theorem hQ_ {k:IntKind} {src dst:TypeId} {d:TypeDesc} {j:IntKind} {n:Int} {w:World} (hs:P.underlying src=some d) (ht:P.underlying dst=some (.int k)):
 (convert src dst (.int j n)).run P w=.ok (.int k (k.wrap n)) w:=by
 simp [convert,run_underlying ht,run_underlying hs]
 cases d<;>simp [Conv.intToInt]
theorem zaV_ {k:IntKind} {x':Opd} (hok:zy_ P o.op (.conv k x')=true) (ev:zu_ Γ (.conv k x') fr st nx K):POK P o [x'] fr (fun v=>K v st nx):=by
 simp only [zu_] at ev
 simp only [zy_] at hok
 split at hok
 ·rename_i src dst x ho
  simp only [Bool.and_eq_true] at hok
  obtain ⟨⟨h1,h2⟩,h3⟩:=hok
  split at h3
  ·rename_i hd
   simp only [beq_iff_eq] at h3;subst h3
   obtain ⟨d,hd'⟩:=Option.isSome_iff_exists.1 h2
   split at ev
   ·rename_i j n hb
    refine pok (kN_ ev) fun {I w m a} hf=>⟨convert src dst (a.eval x),by unfold execOp;rw [ho],_,ZN_ (Z9_ _ _),?_⟩
    have hv:=hf.rv Z5_ h1
    rw [hb] at hv
    rw [(zq_ hv).1];exact hQ_ hd' hd
   ·exact ev.elim
  ·cases h3
 ·cases hok
theorem BH_ {c' x' y':Opd} (hok:zy_ P o.op (.pick c' x' y')=true) (ev:zu_ Γ (.pick c' x' y') fr st nx K):POK P o [c',x',y'] fr (fun v=>K v st nx):=by
 simp only [zu_,Jb_] at ev
 simp only [zy_] at hok
 split at hok
 ·rename_i c x y ho
  simp only [Bool.and_eq_true] at hok
  obtain ⟨⟨h1,h2⟩,h3⟩:=hok
  have key:∀ (a:Act) b,a.eval c=.bool b->execOp a.eval o=(do pure (.value (<- (do pure (if <- asBool (.bool b) then a.eval x else a.eval y))))):=fun a b h=>by
   unfold execOp;rw [ho];simp [h,asBool]
  have fin:∀ (b:Bool) (v:AV),K v st nx->(∀ {I:Nat->Prop} {w:World} {m:M} {a:Act},FOn [c',x',y'] fr I w m a->a.eval c=.bool b/\RV I w m v (if b then a.eval x else a.eval y))->POK P o [c',x',y'] fr (fun v=>K v st nx):=fun b v hK h=>
   pok hK fun {I w m a} hf=>⟨_,key a b (h hf).1,_,(h hf).2,by cases b<;>simp [asBool]⟩
  split at ev
  ·rename_i b hb
   rcases QT_ ev with ⟨rfl,h⟩ | ⟨rfl,h⟩
   ·refine fin true _ h fun {I w m a} hf=>⟨?_,hf.rv (by simp) h2⟩
    have hv:=hf.rv (y:=c') (by simp) h1;rw [hb] at hv;exact hv
   ·refine fin false _ h fun {I w m a} hf=>⟨?_,hf.rv (by simp) h3⟩
    have hv:=hf.rv (y:=c') (by simp) h1;rw [hb] at hv;exact hv
  ·rename_i b hb
   split at ev
   ·refine fin true _ ev fun {I w m a} hf=>⟨?_,hf.rv (by simp) h2⟩
    have hv:=hf.rv (y:=c') (by simp) h1;rw [hb] at hv;exact hv
   ·refine fin false _ ev fun {I w m a} hf=>⟨?_,hf.rv (by simp) h3⟩
    have hv:=hf.rv (y:=c') (by simp) h1;rw [hb] at hv;exact hv
  ·exact ev.elim
 ·cases hok
theorem hz_ {t:TypeId} {ts:Array TypeId} {ty:TypeId} {s:ByteArray} {w:World} (h0:ts[0]?=some t) (ht:P.underlying t=some .string):
 (Builtin.len_ ts ty #[.string s]).run P w=.ok (.int .i64 s.size) w:=by
 simp [Builtin.len_,h0,run_underlying ht,goInt]
theorem Bl_ {x':Opd} (hok:zy_ P o.op (.slen x')=true) (ev:zu_ Γ (.slen x') fr st nx K):POK P o [x'] fr (fun v=>K v st nx):=by
 simp only [zu_] at ev
 simp only [zy_] at hok
 split at hok
 ·rename_i args ts ho
  simp only [Bool.and_eq_true] at hok
  obtain ⟨h1,h2⟩:=hok
  obtain ⟨x,rfl,hx⟩:=Vv_ h1
  split at h2
  ·rename_i t ht
   split at ev
   ·rename_i l hb
    refine pok ev fun {I w m a} hf=>⟨Builtin.len_ ts o.type #[a.eval x],by rw [qI_ ho];simp [builtin],?_⟩
    have hv:=hf.rv Z5_ hx
    rw [hb] at hv
    obtain ⟨s,e1,rfl,h3⟩:=hv
    rw [z2_]
    exact ⟨_,ZN_ (KU_ h3),by rw [e1];exact hz_ ht (Wi_ h2)⟩
   ·exact ev.elim
  ·cases h2
 ·cases hok
theorem UB_ {mx:Bool} {ts:Array TypeId} {ty:TypeId} {k:IntKind} {p q:Int} {w:World}:
 (if mx then Builtin.max_ ts ty #[.int k p,.int k q] else Builtin.min_ ts ty #[.int k p,.int k q]).run P w=
   .ok (.int k (match mx with | true=>if q > p then q else p | false=>if q < p then q else p)) w:=by
 cases mx<;>simp [Builtin.max_,Builtin.min_,Builtin.max2,Builtin.min2]
theorem hv_ {mx:Bool} {x' y':Opd} (hok:zy_ P o.op (.minmax mx x' y')=true) (ev:zu_ Γ (.minmax mx x' y') fr st nx K):POK P o [x',y'] fr (fun v=>K v st nx):=by
 simp only [zu_] at ev
 simp only [zy_] at hok
 split at hok
 ·rename_i b args ts ho
  simp only [Bool.and_eq_true,beq_iff_eq] at hok
  obtain ⟨rfl,h1⟩:=hok
  obtain ⟨x,y,rfl,h2,h3⟩:=XN_ h1
  obtain ⟨k,p,q,hx,hy,hK⟩:=zL_ ev
  refine pok hK fun {I w m a} hf=>⟨(if mx then Builtin.max_ ts o.type #[a.eval x,a.eval y] else Builtin.min_ ts o.type #[a.eval x,a.eval y]:Sem Value),by rw [qI_ ho];cases mx<;>simp [builtin],?_⟩
  have hv:=hf.rv ZL_ h2;rw [hx] at hv
  have hu:=hf.rv qb_ h3;rw [hy] at hu
  refine ⟨_,ZN_ ?_,by rw [(zq_ hv).1,(zq_ hu).1];exact UB_⟩
  have:=(zq_ hv).2;have:=(zq_ hu).2
  cases mx<;>dsimp only<;>split<;>assumption
 ·cases hok
theorem V5_ {off:Nat} {x':Opd} (hok:zy_ P o.op (.fieldAddr off x')=true) (ev:zu_ Γ (.fieldAddr off x') fr st nx K):POK P o [x'] fr (fun v=>K v st nx):=by
 simp only [zu_] at ev
 simp only [zy_] at hok
 split at hok
 ·rename_i s x f ho
  simp only [Bool.and_eq_true] at hok
  obtain ⟨hx,h2⟩:=hok
  split at h2
  ·rename_i fs hd
   split at h2
   ·rename_i d hfd
    simp only [Bool.and_eq_true,beq_iff_eq] at h2
    obtain ⟨rfl,h3⟩:=h2
    split at h3
    ·rename_i i hi
     have h4:i.size ≠ 0:=by simpa using h3
     have hrun:∀ {w:World} {v:Value} b off,v=.pointer (some ⟨b,off,none⟩)->(Instr.fieldAt s v f).run P w=.ok (.pointer (some ⟨b,off+d.offset,none⟩)) w:=fun {w v} b off e=>by
      simp [Instr.fieldAt,run_underlying hd,hfd,e,Instr.sureAddr,fieldPlace,zQ_ hi,h4,qd_]
     split at ev
     ·rename_i j off hb
      refine pok ev fun {I w m a} hf=>⟨Instr.fieldAt s (a.eval x) f,by unfold execOp;rw [ho],?_⟩
      have hv:=hf.rv Z5_ hx;rw [hb] at hv
      obtain ⟨b,h5,h6,h7⟩:=hv
      exact ⟨_,⟨b,h5,rfl,h7⟩,hrun _ _ h6⟩
     ·rename_i t y j off hb
      refine pok ev fun {I w m a} hf=>⟨Instr.fieldAt s (a.eval x) f,by unfold execOp;rw [ho],?_⟩
      have hv:=hf.rv Z5_ hx;rw [hb] at hv
      obtain ⟨b,ofs,e1,h5⟩:=hv
      exact ⟨_,⟨b,ofs,rfl,h5⟩,by rw [hrun _ _ e1,Nat.add_assoc]⟩
     ·rename_i j i off hb
      refine pok ev fun {I w m a} hf=>⟨Instr.fieldAt s (a.eval x) f,by unfold execOp;rw [ho],?_⟩
      have hv:=hf.rv Z5_ hx;rw [hb] at hv
      obtain ⟨b,h5,h6,h7⟩:=hv
      exact ⟨_,⟨b,h5,rfl,h7⟩,by rw [hrun _ _ h6,Nat.add_assoc]⟩
     ·rename_i q t y j off hb
      refine pok ev fun {I w m a} hf=>⟨Instr.fieldAt s (a.eval x) f,by unfold execOp;rw [ho],?_⟩
      have hv:=hf.rv Z5_ hx;rw [hb] at hv
      obtain ⟨⟨b,ofs,e1,h5⟩,hu⟩:=hv
      exact ⟨_,⟨⟨b,ofs,rfl,h5⟩,hu⟩,by rw [hrun _ _ e1,Nat.add_assoc]⟩
     ·exact ev.elim
    ·cases h3
   ·cases h2
  ·cases h2
 ·cases hok
theorem bM_ {n:Option Nat} {off:Nat} {x':Opd} (hok:zy_ P o.op (.field n off x')=true) (ev:zu_ Γ (.field n off x') fr st nx K):POK P o [x'] fr (fun v=>K v st nx):=by
 simp only [zu_] at ev
 simp only [zy_] at hok
 split at hok
 ·rename_i s x f ho
  simp only [Bool.and_eq_true] at hok
  obtain ⟨hx,h2⟩:=hok
  split at h2
  ·rename_i fs hd
   split at h2
   ·rename_i d hfd
    simp only [Bool.and_eq_true,beq_iff_eq] at h2
    obtain ⟨rfl,h3⟩:=h2
    split at ev
    ·rename_i l hb
     obtain ⟨v,hK,h⟩:=hd_ ev
     refine pok hK fun {I w m a} hf=>⟨Instr.field s (a.eval x) f,by unfold execOp;rw [ho],?_⟩
     have hv:=hf.rv Z5_ hx;rw [hb] at hv
     obtain ⟨cs,e1,h4⟩:=hv
     obtain ⟨cv,h5,h6⟩:=h h3 h4
     exact ⟨cv,h5,by simp [Instr.field,run_underlying hd,hfd,e1,asAgg,h6]⟩
    ·exact ev.elim
   ·cases h2
  ·cases h2
 ·cases hok
theorem G4_ {x' y':Opd} (hok:zy_ P o.op (.sindex x' y')=true) (ev:zu_ Γ (.sindex x' y') fr st nx K):POK P o [x',y'] fr (fun v=>K v st nx):=by
 simp only [zu_] at ev
 simp only [zy_] at hok
 split at hok
 ·rename_i t x y ho
  simp only [Bool.and_eq_true] at hok
  obtain ⟨⟨hx,hy⟩,h3⟩:=hok
  have h3:=Wi_ h3
  split at ev
  ·rename_i l j q hb' hb
   obtain ⟨⟨h0,hlt⟩,hK⟩:=zj_ ev
   refine pok hK fun {I w m a} hf=>⟨Instr.index t (a.eval x) (a.eval y),by unfold execOp;rw [ho],?_⟩
   have hv:=hf.rv ZL_ hx;rw [hb'] at hv
   have hu:=hf.rv qb_ hy;rw [hb] at hu
   obtain ⟨s,e1,rfl,_⟩:=hv
   rw [z2_] at hlt
   have hq:q.toNat < s.size:=by omega
   have hg:(zO_ s).getD q.toNat 0=((s[q.toNat]).toNat:Int):=by
    rw [List.getD_eq_getElem?_getD,List.getElem?_eq_getElem (by rw [z2_];omega)]
    simp only [Option.getD_some,zO_,List.getElem_map];rfl
   rw [hg]
   refine ⟨.int .u8 ((s[q.toNat]).toNat:Int),ZN_ ?_,?_⟩
   ·have:=(s[q.toNat]).toNat_lt
    simp only [inK,IntKind.min,IntKind.max,IntKind.signed,IntKind.bits,Bool.false_eq_true,if_false]
    constructor<;>simp<;>omega
   ·simp [Instr.index,(zq_ hu).1,asIntOf,run_underlying h3,e1,h0,hq]
  ·exact ev.elim
 ·cases hok
theorem Vd_ (off:Nat):∀ (vs:List Value) (k:Nat) (cs:Array Value),off+k+vs.length<=cs.size->
 (vs.zipIdx k).foldl (fun cs (c,j)=>cs.setIfInBounds (off+j) c) cs=(cs.toList.take (off+k)++vs++cs.toList.drop (off+k+vs.length)).toArray
 | [],k,cs,_=>by simp
 | v :: vs,k,cs,h=>by
   simp only [List.length_cons] at h
   simp only [List.zipIdx_cons,List.foldl_cons]
   rw [Vd_ off vs (k+1) _ (by simp;omega)]
   have hlen:off+k < cs.toList.length:=by simp;omega
   congr 1
   simp only [Array.toList_setIfInBounds,List.length_cons]
   rw [show off+(k+1)=off+k+1 by omega,List.take_set,List.take_succ_eq_append_getElem hlen,List.set_append_right _ _ (by simp;omega)]
   simp only [List.length_take,Nat.min_eq_left (Nat.le_of_lt hlen),Nat.sub_self,List.set_cons_zero]
   rw [List.drop_set_of_lt (by omega),show off+k+1+vs.length=off+k+(vs.length+1) by omega]
   simp
theorem xN_ {place:Nat->Option (Nat × Nat)} {I:Nat->Prop} {w:World} {m:M} {a:Act}:∀ {z9_:List (Nat × Operand)} {ps:List (Nat × Nat × Opd)} {z l:List AV} {cs:Array Value},FOn (ps.map (·.2.2)) fr I w m a->
 kT_ place z9_ ps=true->z0_ I w m z cs.toList->fill fr z ps=some l->
 ∃ cs',Instr.fill place cs (z9_.map fun p=>(p.1,a.eval p.2))=some cs'/\z0_ I w m l cs'.toList
 | [],[],z,l,cs,_,_,hz,hl=>by
   simp only [fill,Option.some.injEq] at hl;subst hl
   exact ⟨cs,rfl,hz⟩
 | (i,x) :: r,(off,size,y) :: q,z,l,cs,hf,hp,hz,hl=>by
   simp only [kT_,Bool.and_eq_true] at hp
   obtain ⟨⟨h1,h2⟩,h3⟩:=hp
   simp only [fill] at hl
   split at hl
   ·rename_i c hc
    split at hl
    ·rename_i hd
     simp only [Bool.and_eq_true,decide_eq_true_eq] at hd
     have hv:=QV_ (hf.rv (by simp) h2) hc
     have hlv:=Zy_ hv
     have hlz:=Zy_ hz
     have hsz:(a.eval x).cells.size=c.length:=by rw [hlv];simp
     have hzs:cs.size=z.length:=by rw [hlz];simp
     split at h1
     ·rename_i o n hpl
      simp only [Bool.and_eq_true,beq_iff_eq] at h1
      obtain ⟨rfl,rfl⟩:=h1
      have hput:=Jk_ o hz hv (by omega)
      have hfold:=Vd_ o (a.eval x).cells.toList 0 cs (by simp;omega)
      obtain ⟨cs',h4,h5⟩:=xN_ (hf.mono (fun x hx=>by simp only [List.map_cons,List.mem_cons];exact .inr hx)) h3 (cs:=((cs.toList.take o++(a.eval x).cells.toList++cs.toList.drop (o+(a.eval x).cells.toList.length)).toArray)) (by simpa using hput) hl
      refine ⟨cs',?_,h5⟩
      simp only [List.map_cons,Instr.fill,hpl]
      rw [if_neg (by simp only [Bool.or_eq_true,decide_eq_true_eq,bne_iff_ne,ne_eq,not_or];constructor<;>simp<;>omega)]
      rw [<- h4]
      congr 1
      rw [<- Array.foldl_toList,Array.toList_zipIdx]
      simpa using hfold
     ·cases h1
    ·cases hl
   ·cases hl
 | [],_ :: _,_,_,_,_,hp,_,_=>by cases hp
 | _ :: _,[],_,_,_,_,hp,_,_=>by cases hp
theorem g2_:∀ {l:List AV} {n:Nat},zad_ l n=true->l.length=n
 | [],0,_=>rfl
 | _ :: r,n+1,h=>by simp [g2_ (l:=r) h]
 | [],_+1,h=>by cases h
 | _ :: _,0,h=>by cases h
theorem zaX_ {tot:Nat}:∀ {ps:List (Nat × Nat × Opd)} {off:Nat} {K:List AV->Prop},U0_ fr tot off ps K->off<=tot
 | [],off,K,ev=>by
   simp only [U0_] at ev
   split at ev
   ·rename_i hb;rw [Nat.eq_of_beq_eq_true hb];exact Nat.le_refl _
   ·exact ev.elim
 | (o,size,x) :: q,off,K,ev=>by
   simp only [U0_,ZG_] at ev
   split at ev
   ·rename_i hb
    have:=Nat.eq_of_beq_eq_true hb
    split at ev
    ·split at ev
     ·have:=zaX_ ev;omega
     ·exact ev.elim
    ·exact ev.elim
   ·exact ev.elim
theorem yQ_ {tot:Nat}:∀ {ps:List (Nat × Nat × Opd)} {off:Nat} {K:List AV->Prop},U0_ fr tot off ps K->
 ∃ l,K l/\(∀ i ∈ zH_ l,i ∈ zZ_ (ps.map (·.2.2)) fr)/\∀ {I:Nat->Prop} {w:World} {m:M} {a:Act} {place:Nat->Option (Nat × Nat)} {z9_:List (Nat × Operand)} {cs:Array Value},FOn (ps.map (·.2.2)) fr I w m a->kT_ place z9_ ps=true->cs.size=tot->
   ∃ cs',Instr.fill place cs (z9_.map fun p=>(p.1,a.eval p.2))=some cs'/\cs'.size=tot/\cs'.toList.take off=cs.toList.take off/\z0_ I w m l (cs'.toList.drop off)
 | [],off,K,ev=>by
   simp only [U0_] at ev
   split at ev
   ·rename_i hb
    have:=Nat.eq_of_beq_eq_true hb
    subst this
    refine ⟨[],ev,fun i hi=>(by simp [zH_] at hi),fun {I w m a place z9_ cs} hf hp hcs=>?_⟩
    cases z9_ with
    | nil=>
      refine ⟨cs,rfl,hcs,rfl,?_⟩
      rw [List.drop_of_length_le (by simp;omega)];trivial
    | cons=>cases hp
   ·exact ev.elim
 | (o,size,y) :: q,off,K,ev=>by
   simp only [U0_,ZG_] at ev
   split at ev
   ·rename_i hb
    have:=Nat.eq_of_beq_eq_true hb
    subst this
    split at ev
    ·rename_i c hc
     split at ev
     ·rename_i hl
      have hl:=g2_ hl
      obtain ⟨l,hK,hids,hrec⟩:=yQ_ ev
      have hle0:=zaX_ ev
      refine ⟨c++l,hK,fun i hi=>by
       simp only [zH_,List.flatMap_append,List.mem_append] at hi
       simp only [List.map_cons,zZ_,List.flatMap_cons,List.mem_append]
       exact hi.imp (Vf_ hc i) (hids i),fun {I w m a place z9_ cs} hf hp hcs=>?_⟩
      cases z9_ with
      | nil=>cases hp
      | cons ix r=>
        obtain ⟨i,x⟩:=ix
        simp only [kT_,Bool.and_eq_true] at hp
        obtain ⟨⟨h1,h2⟩,h3⟩:=hp
        have hv:=QV_ (hf.rv (by simp) h2) hc
        have hlv:=Zy_ hv
        have hsz:(a.eval x).cells.size=c.length:=by rw [hlv];simp
        split at h1
        ·rename_i o' n hpl
         simp only [Bool.and_eq_true,beq_iff_eq] at h1
         obtain ⟨rfl,rfl⟩:=h1
         have hle:o'+n<=cs.size:=by rw [hcs];exact hle0
         have hfold:=Vd_ o' (a.eval x).cells.toList 0 cs (by simp;omega)
         obtain ⟨cs',h5,h6,h8,h9⟩:=hrec (hf.mono (fun x hx=>by simp only [List.map_cons,List.mem_cons];exact .inr hx)) h3 (cs:=((cs.toList.take o'++(a.eval x).cells.toList++cs.toList.drop (o'+(a.eval x).cells.toList.length)).toArray)) (by simp;omega)
         refine ⟨cs',?_,h6,?_,?_⟩
         ·simp only [List.map_cons,Instr.fill,hpl]
          rw [if_neg (by simp only [Bool.or_eq_true,decide_eq_true_eq,bne_iff_ne,ne_eq,not_or];constructor<;>simp<;>omega)]
          rw [<- h5]
          congr 1
          rw [<- Array.foldl_toList,Array.toList_zipIdx]
          simpa using hfold
         ·have:=congrArg (List.take o') h8
          rw [List.take_take,Nat.min_eq_left (by omega),List.take_take,Nat.min_eq_left (by omega)] at this
          rw [this]
          have e1:(cs.toList.take o').length=o':=by simp;omega
          simp only [List.append_assoc]
          exact List.take_left' e1
         ·have e2:(cs.toList.take o').length=o':=by simp;omega
          have hd:cs'.toList.drop o'=(a.eval x).cells.toList++cs'.toList.drop (o'+n):=by
           have e1:cs'.toList=cs'.toList.take (o'+n)++cs'.toList.drop (o'+n):=(List.take_append_drop _ _).symm
           have e3:cs'.toList.take (o'+n)=cs.toList.take o'++(a.eval x).cells.toList:=by
            rw [h8]
            exact List.take_left' (by simp only [List.length_append,e2];omega)
           rw [e3,List.append_assoc] at e1
           have:=congrArg (List.drop o') e1
           rw [List.drop_left' e2] at this
           exact this
          rw [hd]
          exact jB_ hv h9
        ·cases h1
     ·exact ev.elim
    ·exact ev.elim
   ·exact ev.elim
theorem vF_ (P:Program) (w:World):∀ (fs:List Field),(fs.all fun f=>(P.info? f.type).isSome)=true->
 (fs.mapM (fun f=>do pure (f.offset,<- sizeOf f.type):Field->Sem (Nat × Nat))).run P w=.ok (fs.map fun f=>(f.offset,P.cellsOf f.type)) w
 | [],_=>rfl
 | f :: fs,h=>by
   simp only [List.all_cons,Bool.and_eq_true] at h
   obtain ⟨i,hi⟩:=Option.isSome_iff_exists.1 h.1
   have hc:P.cellsOf f.type=i.size:=by simp [Program.cellsOf,hi]
   rw [List.mapM_cons,Sem.run_bind,Sem.run_bind,zQ_ hi,Result.andThen_ok,Sem.run_pure,Result.andThen_ok,Sem.run_bind,vF_ P w fs h.2]
   simp [hc]
theorem vn_ {t:TypeId} {fs:Array Field} {i:TypeInfo} {v:Value} {z9_:Array (Nat × Operand)} {cs':Array Value} {a:Act} {w:World} (hd:P.underlying t=some (.struct fs)) (hall:(fs.toList.all fun f=>(P.info? f.type).isSome)=true) (hi:P.info? t=some i) (hv:i.zero=some v)
 (h1:Instr.fill (fun i=>(fs[i]?).map fun f=>(f.offset,P.cellsOf f.type)) v.cells (z9_.toList.map fun p=>(p.1,a.eval p.2))=some cs'):(Instr.build t (z9_.map fun (i,x)=>(i,a.eval x))).run P w=.ok (.agg cs') w:=by
 have hpl:(fs.mapM (fun f=>do pure (f.offset,<- sizeOf f.type):Field->Sem (Nat × Nat))).run P w=.ok (fs.map fun f=>(f.offset,P.cellsOf f.type)) w:=by
  rw [Array.mapM_eq_mapM_toList,Sem.run_map,vF_ P w fs.toList hall]
  have:(fs.toList.map fun f=>(f.offset,P.cellsOf f.type)).toArray=fs.map fun f=>(f.offset,P.cellsOf f.type):=Array.toList_inj.1 (by simp)
  simp only [Result.andThen_ok,this]
 have hfill:Instr.fill (fun x=>(fs.map fun f=>(f.offset,P.cellsOf f.type))[x]?) v.cells (z9_.map fun (i,x)=>(i,a.eval x)).toList=some cs':=by
  rw [<- h1];simp [Array.toList_map]
 simp only [Instr.build,Sem.run_bind,Qg_ hi hv,Result.andThen_ok,run_underlying hd,hpl,hfill,Sem.run_pure]
theorem uR_ {t e:TypeId} {len:Nat} {i j:TypeInfo} {v:Value} {z9_:Array (Nat × Operand)} {cs':Array Value} {a:Act} {w:World} (hd:P.underlying t=some (.array len e)) (hj:P.info? e=some j) (hi:P.info? t=some i) (hv:i.zero=some v)
 (h1:Instr.fill (fun i=>some (i*P.cellsOf e,P.cellsOf e)) v.cells (z9_.toList.map fun p=>(p.1,a.eval p.2))=some cs'):(Instr.build t (z9_.map fun (i,x)=>(i,a.eval x))).run P w=.ok (.agg cs') w:=by
 have hce:P.cellsOf e=j.size:=by simp [Program.cellsOf,hj]
 have hfill:Instr.fill (fun i=>some (i*j.size,j.size)) v.cells (z9_.map fun (i,x)=>(i,a.eval x)).toList=some cs':=by
  rw [<- h1,hce];simp [Array.toList_map]
 simp only [Instr.build,Sem.run_bind,Qg_ hi hv,Result.andThen_ok,run_underlying hd,zQ_ hj,hfill,Sem.run_pure]
theorem bY_ {z:List AV} {ps:List (Nat × Nat × Opd)} (hok:zy_ P o.op (.build z ps)=true) (ev:zu_ Γ (.build z ps) fr st nx K):POK P o (ps.map (·.2.2)) fr (fun v=>K v st nx):=by
 simp only [zu_] at ev
 simp only [zy_] at hok
 split at hok
 ·rename_i t z9_ ho
  simp only [Bool.and_eq_true] at hok
  obtain ⟨hz,hok⟩:=hok
  obtain ⟨i,v,hi,hv,hc⟩:=ua_ hz
  split at ev
  ·rename_i l hl
   rw [ZG_] at ev
   refine pok ev fun {I w m a} hf=>⟨Instr.build t (z9_.map fun (i,x)=>(i,a.eval x)),by unfold execOp;rw [ho],?_⟩
   split at hok
   ·rename_i fs hd
    simp only [Bool.and_eq_true] at hok
    obtain ⟨cs',h1,h2⟩:=xN_ hf hok.2 (Jd_ hc) hl
    exact ⟨.agg cs',⟨cs',rfl,h2⟩,vn_ hd hok.1 hi hv h1⟩
   ·rename_i len e hd
    simp only [Bool.and_eq_true] at hok
    obtain ⟨j,hj⟩:=Option.isSome_iff_exists.1 hok.1
    obtain ⟨cs',h1,h2⟩:=xN_ hf hok.2 (Jd_ hc) hl
    exact ⟨.agg cs',⟨cs',rfl,h2⟩,uR_ hd hj hi hv h1⟩
   ·cases hok
  ·exact ev.elim
 ·cases hok
theorem H1_ {t:TypeId} {tot:Nat} (h:(match P.info? t with | some i=>(match i.zero with | some v=>v.cells.size == tot | none=>false) | none=>false)=true):
 ∃ i v,P.info? t=some i/\i.zero=some v/\v.cells.size=tot:=by
 split at h
 ·rename_i i hi
  split at h
  ·rename_i v hv;exact ⟨i,v,hi,hv,by simpa using h⟩
  ·cases h
 ·cases h
theorem U4_ {tot:Nat} {ps:List (Nat × Nat × Opd)} (hok:zy_ P o.op (.buildAll tot ps)=true) (ev:zu_ Γ (.buildAll tot ps) fr st nx K):POK P o (ps.map (·.2.2)) fr (fun v=>K v st nx):=by
 simp only [zu_] at ev
 simp only [zy_] at hok
 split at hok
 ·rename_i t z9_ ho
  simp only [Bool.and_eq_true] at hok
  obtain ⟨hz,hok⟩:=hok
  obtain ⟨i,v,hi,hv,hc⟩:=H1_ hz
  obtain ⟨l,hK,_,h⟩:=yQ_ ev
  refine pok hK fun {I w m a} hf=>⟨Instr.build t (z9_.map fun (i,x)=>(i,a.eval x)),by unfold execOp;rw [ho],?_⟩
  split at hok
  ·rename_i fs hd
   simp only [Bool.and_eq_true] at hok
   obtain ⟨cs',h1,_,_,h2⟩:=h hf hok.2 hc
   exact ⟨.agg cs',⟨cs',rfl,h2⟩,vn_ hd hok.1 hi hv h1⟩
  ·rename_i len e hd
   simp only [Bool.and_eq_true] at hok
   obtain ⟨j,hj⟩:=Option.isSome_iff_exists.1 hok.1
   obtain ⟨cs',h1,_,_,h2⟩:=h hf hok.2 hc
   exact ⟨.agg cs',⟨cs',rfl,h2⟩,uR_ hd hj hi hv h1⟩
  ·cases hok
 ·cases hok
theorem ZF_ {v:AV} {K:Int->Prop} (h:Xt_ v K):∃ k n,v=.int k n/\K n:=by
 unfold Xt_ at h
 split at h
 ·exact ⟨_,_,rfl,h⟩
 ·exact h.elim
theorem kH_ {d:Int} {x':Option Opd} {K:Int->Prop} (h:gI_ d x' fr K):∃ n,K n/\((x'=none/\n=d)\/∃ y k,x'=some y/\y.ev fr=.int k n):=by
 unfold gI_ at h
 split at h
 ·exact ⟨_,h,.inl ⟨rfl,rfl⟩⟩
 ·rename_i y
  obtain ⟨k,n,h1,h2⟩:=ZF_ h
  exact ⟨n,h2,.inr ⟨y,k,rfl,h1⟩⟩
theorem vG_ {L:List Opd} {I:Nat->Prop} {w:World} {m:M} {a:Act} (hf:FOn L fr I w m a) {x:Option Operand} {x':Option Opd} (hok:Hv_ x x'=true) (hm:∀ y ∈ qK_ x',y ∈ L) {n d:Int}
 (h:(x'=none/\n=d)\/∃ y k,x'=some y/\y.ev fr=.int k n):(x=none/\x'=none/\n=d)\/∃ k y,x=some y/\x'.isSome=true/\a.eval y=.int k n:=by
 rcases h with ⟨rfl,rfl⟩ | ⟨y,k,rfl,h⟩
 ·cases x with
  | none=>exact .inl ⟨rfl,rfl,rfl⟩
  | some _=>cases hok
 ·cases x with
  | none=>cases hok
  | some z=>
    have hv:=hf.rv (hm y (by simp [qK_])) (show zF_ z y=true from hok)
    rw [h] at hv
    exact .inr ⟨k,z,rfl,rfl,(zq_ hv).1⟩
theorem uL_ {w:World} (k:IntKind) (n y:Nat) (c:BoundsCode) (h:n<=y):(Instr.sliceBound (.int k n) y c).run P w=.ok n w:=by
 have h':(n:Int)<=(y:Int):=by omega
 simp [Instr.sliceBound,asIntOf,h']
theorem h1_ {w:World} {isS:Bool} {len cap A B:Nat} {lo hi:Option Value} (hlo:(lo=none/\A=0)\/∃ k,lo=some (.int k A)) (hhi:(hi=none/\B=len)\/∃ k,hi=some (.int k B)) (hAB:A<=B) (hB:B<=cap):
 (Instr.sliceBounds isS len cap lo hi none).run P w=.ok (A,B,cap) w:=by
 have hb1:=uL_ (P:=P) (w:=w)
 rcases hlo with ⟨rfl,rfl⟩ | ⟨k,rfl⟩<;>rcases hhi with ⟨rfl,rfl⟩ | ⟨k',rfl⟩
 ·simp [Instr.sliceBounds]
 ·simp [Instr.sliceBounds,hb1 k' B cap _ (by omega)]
 ·simp [Instr.sliceBounds,hb1 k A B _ (by omega)]
 ·simp [Instr.sliceBounds,hb1 k' B cap _ (by omega),hb1 k A B _ (by omega)]
theorem GF_ {w:World} {len cap A B:Nat} {lo hi mx:Option Value} (hlo:(lo=none/\A=0)\/∃ k,lo=some (.int k A)) (hhi:∃ k,hi=some (.int k B)) (hmx:∃ k,mx=some (.int k B)) (hAB:A<=B) (hB:B<=cap):
 (Instr.sliceBounds true len cap lo hi mx).run P w=.ok (A,B,B) w:=by
 have hb1:=uL_ (P:=P) (w:=w)
 obtain ⟨k1,rfl⟩:=hhi
 obtain ⟨k2,rfl⟩:=hmx
 rcases hlo with ⟨rfl,rfl⟩ | ⟨k,rfl⟩
 ·simp [Instr.sliceBounds,hb1 k2 B cap _ (by omega),hb1 k1 B B _ (by omega)]
 ·simp [Instr.sliceBounds,hb1 k2 B cap _ (by omega),hb1 k1 B B _ (by omega),hb1 k A B _ (by omega)]
theorem GP_:∀ {I:Nat->Prop} {w:World} {m:M} {v:AV} {t:List AV} (n:Nat) {l:List AV} {r:List Value},q5_ I w m l r->l.drop n=v :: t->∃ cv,r[n]?=some cv/\RV1 I w m v cv
 | _,_,_,v,t,0,l,r,h,hd=>by
   cases l with
   | nil=>cases hd
   | cons a l=>
     cases r with
     | nil=>exact h.elim
     | cons c r=>simp only [List.drop_zero,List.cons.injEq] at hd;exact ⟨c,rfl,by rw [<- hd.1];exact h.1⟩
 | _,_,_,v,t,n+1,l,r,h,hd=>by
   cases l with
   | nil=>cases hd
   | cons a l=>
     cases r with
     | nil=>exact h.elim
     | cons c r=>exact GP_ n h.2 hd
theorem Gp_ {x':Opd} {i:Nat} (hok:zy_ P o.op (.extract x' i)=true) (ev:zu_ Γ (.extract x' i) fr st nx K):POK P o [x'] fr (fun v=>K v st nx):=by
 simp only [zu_] at ev
 simp only [zy_] at hok
 split at hok
 ·rename_i x j ho
  simp only [Bool.and_eq_true,beq_iff_eq] at hok
  obtain ⟨rfl,hx⟩:=hok
  split at ev
  ·rename_i l hb
   split at ev
   ·rename_i v t hd
    rw [uB_] at ev
    refine pok ev fun {I w m a} hf=>⟨Instr.extract (a.eval x) j,by unfold execOp;rw [ho],?_⟩
    have hv:=hf.rv Z5_ hx;rw [hb] at hv
    obtain ⟨cs,e1,h1⟩:=hv
    obtain ⟨cv,h2,h3⟩:=GP_ j h1 hd
    have h2':cs[j]?=some cv:=by simpa using h2
    exact ⟨cv,Jj_ (qz_ h3),by simp [Instr.extract,e1,h2']⟩
   ·exact ev.elim
  ·exact ev.elim
 ·cases hok
theorem bv_ {x':Opd} (hok:zy_ P o.op (.nilck x')=true) (ev:zu_ Γ (.nilck x') fr st nx K):POK P o [x'] fr (fun v=>K v st nx):=by
 simp only [zu_] at ev
 simp only [zy_] at hok
 split at hok
 ·rename_i x ho
  split at ev
  ·rename_i i off hb
   refine ⟨_,ev,fun {I w m a} hf=>?_⟩
   have hv:=hf.rv Z5_ hok;rw [hb] at hv
   obtain ⟨b,h1,h2,h3⟩:=hv
   exact ⟨a.eval x,⟨b,h1,h2,h3⟩,by unfold execOp;rw [ho];simp [h2]⟩
  ·rename_i t y i off hb
   refine ⟨_,ev,fun {I w m a} hf=>?_⟩
   have hv:=hf.rv Z5_ hok;rw [hb] at hv
   have hv':=hv
   obtain ⟨b,ofs,e1,_⟩:=hv'
   exact ⟨a.eval x,hv,by unfold execOp;rw [ho];simp [e1]⟩
  ·rename_i i j off hb
   refine ⟨_,ev,fun {I w m a} hf=>?_⟩
   have hv:=hf.rv Z5_ hok;rw [hb] at hv
   obtain ⟨b,h1,h2,h3⟩:=hv
   exact ⟨a.eval x,⟨b,h1,h2,h3⟩,by unfold execOp;rw [ho];simp [h2]⟩
  ·exact ev.elim
 ·cases hok
theorem j3_:∀ {xs:List Operand} {ys:List Opd},Zd_ xs ys=true->xs.length=ys.length
 | [],[],_=>rfl
 | x :: xs,y :: ys,h=>by simp only [Zd_,Bool.and_eq_true] at h;simp [j3_ h.2]
 | [],_ :: _,h=>by cases h
 | _ :: _,[],h=>by cases h
theorem RV_1 {I:Nat->Prop} {w:World} {m:M} {a:AV} {v:Value} (h:RV I w m a v) (e:HG_ a=true):RV1 I w m a v:=by
 cases a with
 | undef=>cases e
 | skp=>cases e
 | tup=>cases e
 | fn=>cases e
 | _=>exact h
def zag_ (l:List AV):Bool:=Kj_ HG_ l
theorem vH_ {L:List Opd} {I:Nat->Prop} {w:World} {m:M} {a:Act} (hf:FOn L fr I w m a):∀ {xs:List Operand} {ys:List Opd},Zd_ xs ys=true->(∀ y ∈ ys,y ∈ L)->zag_ (ys.map (·.ev fr))=true->
 q5_ I w m (ys.map (·.ev fr)) (xs.map a.eval)
 | [],[],_,_,_=>trivial
 | x :: xs,y :: ys,h,hm,hk=>by
   simp only [Zd_,Bool.and_eq_true] at h
   simp only [List.map_cons,zag_,Kj_] at hk
   split at hk
   ·rename_i hk'
    exact ⟨RV_1 (hf.rv (hm y (by simp)) h.1) hk',vH_ hf h.2 (fun z hz=>hm z (by simp [hz])) hk⟩
   ·cases hk
 | [],_ :: _,h,_,_=>by cases h
 | _ :: _,[],h,_,_=>by cases h
theorem B5_ {f:Nat} {first' cap':List Opd} (hok:zy_ P o.op (.mkfn f first' cap')=true) (ev:zu_ Γ (.mkfn f first' cap') fr st nx K):POK P o (first'++cap') fr (fun v=>K v st nx):=by
 simp only [zu_,JU_] at ev
 simp only [zy_] at hok
 split at hok
 ·rename_i fn first cap ho
  simp only [Bool.and_eq_true] at hok
  obtain ⟨⟨h1,h2⟩,h3⟩:=hok
  split at h1
  ·rename_i g
   simp only [beq_iff_eq] at h1;subst h1
   split at ev
   ·rename_i hk
    simp only [Bool.and_eq_true] at hk
    refine pok ev fun {I w m a} hf=>⟨Instr.makeFunc (.func g) (first.map a.eval) (cap.map a.eval),by unfold execOp;rw [ho],?_⟩
    refine ⟨.func (.func g) (first.map a.eval) (cap.map a.eval),⟨_,_,rfl,?_,?_⟩,rfl⟩
    ·rw [Array.toList_map];exact vH_ hf h2 (fun y hy=>by simp [hy]) hk.1
    ·rw [Array.toList_map];exact vH_ hf h3 (fun y hy=>by simp [hy]) hk.2
   ·exact ev.elim
  ·cases h1
 ·cases hok
def IOp.pure:IOp->Bool
 | .mov _ | .bin _ _ _ | .eqb _ _ _ | .eqp _ _ _ | .eqn _ _ _ | .un _ _ | .conv _ _ | .pick _ _ _ | .slen _ | .minmax _ _ _ | .fieldAddr _ _ | .field _ _ _ | .sindex _ _ | .build _ _ | .buildAll _ _ | .extract _ _ | .nilck _ | .mkfn _ _ _=>true
 | _=>false
theorem BA_ (hp:io.pure=true) (hok:zy_ P o.op io=true) (ev:zu_ Γ io fr st nx K):POK P o io.opds fr (fun v=>K v st nx):=by
 cases io with
 | mov=>exact zbW_ hok ev
 | bin=>exact zck_ hok ev
 | eqb=>exact zcd_ hok ev
 | eqp=>exact zca_ hok ev
 | eqn=>exact zcb_ hok ev
 | un=>exact zcW_ hok ev
 | conv=>exact zaV_ hok ev
 | pick=>exact BH_ hok ev
 | slen=>exact Bl_ hok ev
 | minmax=>exact hv_ hok ev
 | fieldAddr=>exact V5_ hok ev
 | field=>exact bM_ hok ev
 | sindex=>exact G4_ hok ev
 | build=>exact bY_ hok ev
 | buildAll=>exact U4_ hok ev
 | extract=>exact Gp_ hok ev
 | nilck=>exact bv_ hok ev
 | mkfn=>exact B5_ hok ev
 | _=>cases hp
end ops
end Go.Eng
namespace Go.Eng
set_option linter.unusedVariables false
set_option linter.unusedSimpArgs false
open Go.RowKit
def EA (I:Nat->Prop) (w:World) (t:Ty) (x:List t.den) (f:Nat->Option Value):Prop:=
 ∀ i (h:i < x.length),∃ es,RC I w t x[i] es/\∀ j (hj:j < es.length),f (i*t.size+j)=some es[j]
section ea
variable {I I':Nat->Prop} {w w':World} {t:Ty} {x y:List t.den} {f g:Nat->Option Value}
theorem EA.mono (hI:∀ b,I b->I' b) (hs:qF_ I w w') (h:EA I w t x f):EA I' w' t x f:=fun i hi=>by
 obtain ⟨es,h1,h2⟩:=h i hi
 exact ⟨es,Zm_ hI hs t _ _ h1,h2⟩
theorem EA.congr (h:EA I w t x f) (e:∀ k,k < x.length*t.size->g k=f k):EA I w t x g:=fun i hi=>by
 obtain ⟨es,h1,h2⟩:=h i hi
 refine ⟨es,h1,fun j hj=>?_⟩
 have hl:=Zi_ t _ _ h1
 rw [e]
 ·exact h2 j hj
 ·have:(i+1)*t.size<=x.length*t.size:=Nat.mul_le_mul_right _ hi
  rw [Nat.add_mul] at this;omega
theorem EA.append (h:EA I w t x f) (k:EA I w t y (fun j=>f (x.length*t.size+j))):EA I w t (x++y) f:=fun i hi=>by
 by_cases hx:i < x.length
 ·rw [List.getElem_append_left hx];exact h i hx
 ·rw [List.getElem_append_right (by omega)]
  simp only [List.length_append] at hi
  obtain ⟨es,h1,h2⟩:=k (i - x.length) (by omega)
  refine ⟨es,h1,fun j hj=>?_⟩
  have:=h2 j hj
  rw [<- this]
  congr 1
  have e:i*t.size=x.length*t.size+(i - x.length)*t.size:=by rw [<- Nat.add_mul];congr 1;omega
  omega
theorem EA.take (h:EA I w t x f) (n:Nat):EA I w t (x.take n) f:=fun i hi=>by
 simp only [List.length_take] at hi
 rw [List.getElem_take];exact h i (by omega)
theorem EA.drop (h:EA I w t x f) (n:Nat):EA I w t (x.drop n) (fun k=>f (n*t.size+k)):=fun i hi=>by
 simp only [List.length_drop] at hi
 rw [List.getElem_drop]
 obtain ⟨es,h1,h2⟩:=h (n+i) (by omega)
 refine ⟨es,h1,fun j hj=>?_⟩
 have:=h2 j hj
 rw [<- this]
 show f (n*t.size+(i*t.size+j))=_
 congr 1;rw [Nat.add_mul];omega
theorem EA.nil:EA I w t [] f:=fun i hi=>by simp at hi
theorem EA.plain (hp:t.plain=true) (h:EA I w t x f):EA I' w' t x f:=fun i hi=>by
 obtain ⟨es,h1,h2⟩:=h i hi
 exact ⟨es,WK_ t _ _ hp h1,h2⟩
theorem EA.replicate {z:t.den} {n:Nat} {es:List Value} (hz:RC I w t z es) (h:∀ k,k < n*t.size->f k=es[k % t.size]?):EA I w t (List.replicate n z) f:=fun i hi=>by
 simp only [List.length_replicate] at hi
 have hl:=Zi_ t _ _ hz
 rw [List.getElem_replicate]
 refine ⟨es,hz,fun j hj=>?_⟩
 have h1:(i+1)*t.size<=n*t.size:=Nat.mul_le_mul_right _ hi
 rw [h _ (by rw [Nat.add_mul] at h1;omega)]
 rw [Nat.mul_comm,Nat.mul_add_mod,Nat.mod_eq_of_lt (by omega)]
 exact List.getElem?_eq_getElem hj
theorem EA.set (h:EA I w t x f) {i:Nat} {z:t.den} {es:List Value} (hz:RC I w t z es) (hi:i < x.length) (h1:∀ j (hj:j < es.length),g (i*t.size+j)=some es[j]) (h2:∀ k,k < x.length*t.size->(k < i*t.size\/(i+1)*t.size<=k)->g k=f k):EA I w t (x.set i z) g:=fun k hk=>by
 simp only [List.length_set] at hk
 by_cases e:k=i
 ·subst e;rw [List.getElem_set_self];exact ⟨es,hz,h1⟩
 ·rw [List.getElem_set_ne (fun h=>e h.symm)]
  obtain ⟨cs,h3,h4⟩:=h k hk
  refine ⟨cs,h3,fun j hj=>?_⟩
  have hl:=Zi_ t _ _ h3
  rw [h2]
  ·exact h4 j hj
  ·have:(k+1)*t.size<=x.length*t.size:=Nat.mul_le_mul_right _ hk
   rw [Nat.add_mul] at this;omega
  ·rcases Nat.lt_or_gt_of_ne e with h | h
   ·left
    have:(k+1)*t.size<=i*t.size:=Nat.mul_le_mul_right _ h
    rw [Nat.add_mul] at this;omega
   ·right
    have:(i+1)*t.size<=k*t.size:=Nat.mul_le_mul_right _ h
    omega
end ea
theorem XT_ {I:Nat->Prop} {w:World} {t:Ty} {l:List t.den} {ao:Option Addr} {len cap:Nat}:RS I w t l ao len cap ↔
 len=l.length/\len<=cap/\cap<=maxLen/\(0 < len->∃ b o,ao=some ⟨b,o,none⟩/\I b/\EA I w t l fun k=>w.cell? ⟨b,o+k,none⟩):=by
 unfold RS EA
 simp only [Nat.add_assoc]
theorem EA.at {I:Nat->Prop} {w:World} {t:Ty} {x:List t.den} {f:Nat->Option Value} (h:EA I w t x f):∀ i (h:i < x.length),∃ es,RC I w t x[i] es/\∀ j (hj:j < es.length),f (i*t.size+j)=some es[j]:=h
theorem qJ_ {I:Nat->Prop} {w:World} {m:M} {i:Nat} {fz:Bool} {t:Ty} {x:List t.den} (h:zM_ I w m i (.row fz t x)):
 m.sz i=t.size/\x.length=m.len i/\x.length<=m.cap i/\m.cap i<=maxLen/\((m.blk i=none/\m.cap i=0)\/∃ b,m.blk i=some b/\EA I w t x fun k=>w.cell? ⟨b,k,none⟩):=by
 obtain ⟨h1,h2,h3,h4,h5⟩:=h
 refine ⟨h1,h2,h3,h4,?_⟩
 rcases h5 with h5 | ⟨b,cs,T,f,h6,h7,_,h8,h9⟩
 ·exact .inl h5
 ·refine .inr ⟨b,h6,?_⟩
  have h9:EA I w t x fun k=>cs[k]?:=h9
  exact h9.congr fun k hk=>by rw [ZW_ h7]
theorem Y3_ {I I':Nat->Prop} {w:World} {m:M} {i:Nat} {fz:Bool} {t:Ty} {x:List t.den} {cv:Value} (hI:∀ b,I b->I' b) (h:zM_ I w m i (.row fz t x)) (hv:RV0 I w m (.own i) cv) (hb:∀ b,m.blk i=some b->I' b):
 RV0 I' w m (.imm t x) cv:=by
 obtain ⟨ao,len,cap,rfl,h1,h2,h3,h4,h5,h6⟩:=hv
 obtain ⟨k1,k2,k3,k4,k5⟩:=qJ_ h
 refine ⟨ao,len,cap,rfl,XT_.2 ⟨by omega,h4,h5,fun h0=>?_⟩⟩
 rcases k5 with ⟨k5,k6⟩ | ⟨b,k5,k6⟩
 ·omega
 ·rcases h6 with ⟨h6,_⟩ | ⟨b',h6,h7⟩
  ·rw [k5] at h6;cases h6
  ·rw [k5] at h6;cases h6
   refine ⟨b,0,h7,hb b k5,(k6.mono hI (fun _ _=>rfl)).congr fun k _=>by rw [Nat.zero_add]⟩
theorem vj_ {I I':Nat->Prop} {w:World} {m:M} {i off n:Nat} {fz:Bool} {t:Ty} {x:List t.den} {cv:Value} (hI:∀ b,I b->I' b) (h:zM_ I w m i (.row fz t x)) (hv:RV0 I w m (.view i off n) cv) (hn:off+n<=x.length) (hb:∀ b,m.blk i=some b->I' b):
 RV0 I' w m (.imm t ((x.drop off).take n)) cv:=by
 obtain ⟨ao,len,cap,rfl,h1,h2,h3,h4,h5,h6⟩:=hv
 obtain ⟨k1,k2,k3,k4,k5⟩:=qJ_ h
 refine ⟨ao,len,cap,rfl,XT_.2 ⟨by simp;omega,h3,by omega,fun h0=>?_⟩⟩
 rcases k5 with ⟨k5,k6⟩ | ⟨b,k5,k6⟩
 ·omega
 ·rcases h6 with ⟨h6,_⟩ | ⟨b',o,h6,h7,h8⟩
  ·rw [k5] at h6;cases h6
  ·rw [k5] at h6;cases h6
   refine ⟨b,o,h7,hb b k5,(((k6.mono hI (fun _ _=>rfl)).drop off).take n).congr fun k _=>by rw [h8 (by omega),k1]⟩
def upd (σ:Sto) (T:List Nat) (st:zc_):Sto:=fun i=>if i ∈ T then st.get i else σ i
theorem jq_ (σ:Sto) (st:zc_):upd σ [] st=σ:=funext fun i=>by simp [upd]
theorem Jo_ {σ:Sto} {T:List Nat} {st:zc_} {i:Nat} (h:i ∈ T):upd σ T st i=st.get i:=if_pos h
theorem kR_ {σ:Sto} {T:List Nat} {st:zc_} {i:Nat} (h:i ∉ T):upd σ T st i=σ i:=if_neg h
def xl_ (P:Program) (o:Oper) (a:Act) (w:World) (R:Value->(Nat->Prop)->World->M->Prop):Prop:=
 ∀ (N:Act->World->Prop) (Q:Exit->Act->World->Prop),(∀ cv I' w' m',R cv I' w' m'->N (a.put o.dst cv) w')->o.wp P a w N Q
def V9_ (X0:Bool->Nat->Prop) (I0:Nat->Prop) (w0:World) (I:Nat->Prop) (w:World) (m:M) (σ':Sto) (v:AV) (nx nx':Nat):Value->(Nat->Prop)->World->M->Prop:=fun cv I' w' m'=>
 RV I' w' m' v cv/\HS X0 I0 w0 σ' I' w' m'/\Evo I w m I' w' m'/\∀ i,m'.used i->m.used i\/(nx<=i/\i < nx')
def MOK (P:Program) (o:Oper) (L:List Opd) (fr:zd_) (F:List Nat) (wr:Bool) (st:zc_) (nx:Nat) (K:AV->zc_->Nat->Prop):Prop:=
 ∃ v st1 nx' T,nx<=nx'/\K v st1 nx'/\(∀ i,i ∉ T->st1.get i=st.get i)/\(∀ i ∈ T,(wr=true/\i ∈ F/\st.get i ≠ none)\/(nx<=i/\i < nx'))/\
   ∀ {X0:Bool->Nat->Prop} {I0:Nat->Prop} {w0:World} {σ:Sto} {I:Nat->Prop} {w:World} {m:M} {a:Act},FOn L fr I w m a->HS X0 I0 w0 σ I w m->(∀ i ∈ F,σ i=st.get i)->(∀ i,nx<=i->i < nx'->¬ m.used i)->
     xl_ P o a w (V9_ X0 I0 w0 I w m (upd σ T st1) v nx nx')
section mok
variable {P:Program} {o:Oper} {L:List Opd} {fr:zd_} {F:List Nat} {wr:Bool} {st:zc_} {nx:Nat} {K:AV->zc_->Nat->Prop}
theorem jv_ {a:Act} {w w':World} {cv:Value} {R:Value->(Nat->Prop)->World->M->Prop} {I':Nat->Prop} {m':M} (hr:(execOp a.eval o).run P w=.ok (.value cv) w') (h:R cv I' w' m'):xl_ P o a w R:=fun N Q k=>by
 unfold Oper.wp
 rw [hr]
 exact k cv I' w' m' h
theorem gt_ {a:Act} {w w':World} {R:Value->(Nat->Prop)->World->M->Prop} {I':Nat->Prop} {m':M} (hr:(execOp a.eval o).run P w=.ok .skip w') (h:R undef I' w' m'):xl_ P o a w R:=fun N Q k=>by
 unfold Oper.wp
 rw [hr]
 exact k undef I' w' m' h
theorem zB_ {v:AV} (hK:K v st nx) (h:∀ {I:Nat->Prop} {w:World} {m:M} {a:Act} {σ:Sto},FOn L fr I w m a->HRel I w m σ->(∀ i ∈ F,σ i=st.get i)->∃ S:Sem Value,execOp a.eval o=(do pure (.value (<- S)))/\∃ cv,RV I w m v cv/\S.run P w=.ok cv w):
 MOK P o L fr F wr st nx K:=
 ⟨v,st,nx,[],Nat.le_refl _,hK,fun _ _=>rfl,fun i hi=>(by cases hi),fun {X0 I0 w0 σ I w m a} hf hs ha _=>by
  obtain ⟨S,he,cv,hv,hr⟩:=h hf hs.H ha
  rw [jq_]
  exact jv_ (JV_ he hr) ⟨hv,hs,Evo.refl _ _ _,fun _ h=>.inl h⟩⟩
theorem B3_ (h:POK P o L fr (fun v=>K v st nx)):MOK P o L fr F wr st nx K:=by
 obtain ⟨v,hK,h⟩:=h
 refine ⟨v,st,nx,[],Nat.le_refl _,hK,fun _ _=>rfl,fun i hi=>(by cases hi),fun {X0 I0 w0 σ I w m a} hf hs ha _=>?_⟩
 obtain ⟨cv,hv,hr⟩:=h hf
 rw [jq_]
 exact jv_ hr ⟨hv,hs,Evo.refl _ _ _,fun _ h=>.inl h⟩
theorem kW_ {v:AV} {ob:Obj} (hK:K v ((nx,ob) :: st) (nx+1)) (hfz:∀ t x,ob ≠ .row true t x)
 (h:∀ {I:Nat->Prop} {w:World} {m:M} {a:Act} {σ:Sto},FOn L fr I w m a->HRel I w m σ->(∀ i ∈ F,σ i=st.get i)->¬ m.used nx->∃ S:Sem Value,execOp a.eval o=(do pure (.value (<- S)))/\∃ cv w' blk cap len sz,
   S.run P w=.ok cv w'/\Fr (fun _=>False) w w'/\(∀ b,blk=some b->w.heap.size<=b)/\(qF_ I w w'->zM_ I w' (m.push nx blk cap len sz) nx ob)/\(qF_ I w w'->RV I w' (m.push nx blk cap len sz) v cv))
 (hrg:∀ wr kn,ob ≠ .reg wr kn:=by intro _ _ h;cases h):
 MOK P o L fr F wr st nx K:=by
 refine ⟨v,(nx,ob) :: st,nx+1,[nx],Nat.le_succ _,hK,fun i hi=>?_,fun i hi=>?_,fun {X0 I0 w0 σ I w m a} hf hs ha hN=>?_⟩
 ·rw [zc_.get_cons,if_neg (by simpa using hi)]
 ·simp only [List.mem_singleton] at hi;exact .inr ⟨by omega,by omega⟩
 ·have hu:=hN nx (Nat.le_refl _) (Nat.lt_succ_self _)
  obtain ⟨S,he,cv,w',blk,cap,len,sz,hr,hfr,hb,ho,hv⟩:=h hf hs.H ha hu
  have hsame:qF_ I w w':=fun b hb=>hfr.block b (hs.H.Ilt b hb) id
  have hE:Evo I w m I w' (m.push nx blk cap len sz):=⟨fun _ h=>h,hsame,M.push_le hu⟩
  have hge:∀ b,(m.push nx blk cap len sz).blk nx=some b->w.heap.size<=b:=fun b e=>by rw [M.push_blk] at e;exact hb b e
  have hget:∀ i,upd σ [nx] ((nx,ob) :: st) i=if i=nx then some ob else σ i:=fun i=>by
   unfold upd
   simp only [List.mem_singleton,zc_.get_cons]
   split<;>rfl
  refine jv_ (JV_ he hr) ⟨hv hsame,hs.step hE (fun i=>i=nx) (fun i hi=>by rw [hget,if_neg hi]) (hfr.weak fun b h=>h.elim) (fun b h=>.inl h) (fun b h=>Nat.lt_of_lt_of_le (hs.H.Ilt b h) hfr.size)
   (fun i o' hi e=>?_) (fun i o' b hi e hl hbb=>?_) (fun i j o' o'' b hi hj _ _ _ _ _ _=>hi.trans hj.symm) (fun i o' b hi e hm hbb hI=>?_) (fun i t x b hi e hbb=>?_) (fun i wr kn hi e=>by subst hi;rw [hget,if_pos rfl] at e;cases e;exact absurd rfl (hrg wr kn)) (fun b hb=>.inl hb),hE,fun i hi=>?_⟩
  ·subst hi;rw [hget,if_pos rfl] at e;cases e;exact ⟨.inr rfl,ho hsame⟩
  ·subst hi;exact .inl (hge b hbb)
  ·subst hi;have:=hge b hbb;have:=hs.H.Ilt b hI;omega
  ·subst hi;rw [hget,if_pos rfl] at e;cases e;exact absurd rfl (hfz t x)
  ·rcases hi with h | h
   ·exact .inl h
   ·subst h;exact .inr ⟨Nat.le_refl _,Nat.lt_succ_self _⟩
end mok
def zbi_ (L:List Nat) (st st':zc_) (T:List Nat):Prop:=
 (∀ i,i ∉ T->st'.get i=st.get i)/\(∀ i ∈ T,i ∈ L/\st.get i ≠ none)
theorem Vb_ {X0:Bool->Nat->Prop} {I0:Nat->Prop} {w0:World} {σ:Sto} {I:Nat->Prop} {w:World} {m:M} {i:Nat} {t:Ty} {x:List t.den} {st:zc_} (hs:HS X0 I0 w0 σ I w m) (hi:σ i=some (.row false t x)):
 HS X0 I0 w0 (upd σ [i] (st.set i (.row true t x))) (fun b=>I b\/m.blk i=some b) w m/\Evo I w m (fun b=>I b\/m.blk i=some b) w m:=by
 have hE:Evo I w m (fun b=>I b\/m.blk i=some b) w m:=⟨fun _ h=>.inl h,fun _ _=>rfl,m.le_refl⟩
 have hget:∀ j,upd σ [i] (st.set i (.row true t x)) j=if j=i then some (.row true t x) else σ j:=fun j=>by
  unfold upd
  simp only [List.mem_singleton,zc_.get_set]
  split<;>rfl
 have hok:=hs.H.obj i _ hi
 refine ⟨hs.step hE (fun j=>j=i) (fun j hj=>by rw [hget,if_neg hj]) (Fr.refl _ _) (fun b hb=>?_) (fun b hb=>?_) (fun j o hj e=>?_) (fun j o b hj e hl hb=>?_) (fun j k o o' b hj hk _ _ _ _ _ _=>hj.trans hk.symm) (fun j o b hj e hm hb=>?_) (fun j t' x' b hj e hb=>?_) (fun j wr kn hj e=>by subst hj;rw [hget,if_pos rfl] at e;cases e) (fun b hb=>hb.imp id fun h cs T fz e=>by
  obtain ⟨_,_,_,_,h5⟩:=hok
  rcases h5 with ⟨h5,_⟩ | ⟨b',cs',T',fz',h6,h7,h8,_⟩
  ·rw [h5] at h;cases h
  ·rw [h6] at h;cases h;rw [h7] at e;cases e;exact h8.1),hE⟩
 ·rcases hb with h | h
  ·exact .inl h
  ·exact .inr (.inr ⟨i,_,rfl,hi,rfl,h⟩)
 ·rcases hb with h | h
  ·exact hs.H.Ilt b h
  ·exact hok.lt rfl h
 ·subst hj;rw [hget,if_pos rfl] at e;cases e
  exact ⟨hs.H.lt j (by rw [hi];intro h;cases h),(hok.mono (fun _ h=>.inl h) (fun _ _=>rfl) m.le_refl (hs.H.lt j (by rw [hi];intro h;cases h)) (fun _ _ _=>rfl):zM_ _ w m j (.row false t x))⟩
 ·subst hj;rw [hget,if_pos rfl] at e;cases e
  exact .inr ⟨j,_,rfl,hi,rfl,fun h=>(by cases h),hb⟩
 ·subst hj;rw [hget,if_pos rfl] at e;cases e;cases hm
 ·subst hj;exact .inr hb
theorem Va_ {v:AV} {st:zc_} {K:AV->zc_->Prop} (ev:bK_ st v K):∃ v' st' T,K v' st'/\zbi_ v.ids0 st st' T/\
 ∀ {X0:Bool->Nat->Prop} {I0:Nat->Prop} {w0:World} {σ:Sto} {I:Nat->Prop} {w:World} {m:M},HS X0 I0 w0 σ I w m->(∀ i ∈ v.ids0,σ i=st.get i)->∃ I',HS X0 I0 w0 (upd σ T st') I' w m/\Evo I w m I' w m/\∀ cv,RV0 I w m v cv->RV0 I' w m v' cv:=by
 unfold bK_ at ev
 split at ev
 ·rename_i i
  split at ev
  ·rename_i fz t x hg
   cases fz with
   | true=>
     refine ⟨_,st,[],ev,⟨fun _ _=>rfl,fun i hi=>(by cases hi)⟩,fun {X0 I0 w0 σ I w m} hs ha=>⟨I,by rw [jq_];exact hs,Evo.refl _ _ _,fun cv hv=>?_⟩⟩
     have hi:σ i=some (.row true t x):=by rw [ha i (by simp [AV.ids0]),hg]
     exact Y3_ (fun _ h=>h) (hs.H.obj i _ hi) hv fun b hb=>hs.H.isI i t x b hi hb
   | false=>
     simp only [zc_.setK_eq] at ev
     refine ⟨_,_,[i],ev,⟨fun j hj=>?_,fun j hj=>⟨hj,by simp only [List.mem_singleton] at hj;subst hj;rw [hg];intro h;cases h⟩⟩,fun {X0 I0 w0 σ I w m} hs ha=>?_⟩
     ·rw [zc_.get_set,if_neg (by simpa using hj)]
     ·have hi:σ i=some (.row false t x):=by rw [ha i (by simp [AV.ids0]),hg]
      obtain ⟨h1,h2⟩:=Vb_ (st:=st) hs hi
      exact ⟨_,h1,h2,fun cv hv=>Y3_ (fun _ h=>.inl h) (hs.H.obj i _ hi) hv fun b hb=>.inr hb⟩
  ·exact ⟨_,st,[],ev,⟨fun _ _=>rfl,fun i hi=>(by cases hi)⟩,fun {X0 I0 w0 σ I w m} hs _=>⟨I,by rw [jq_];exact hs,Evo.refl _ _ _,fun _ h=>h⟩⟩
  ·exact ev.elim
 ·rename_i i off n
  split at ev
  ·rename_i fz t x hg
   obtain ⟨hn,ev⟩:=zj_ ev
   cases fz with
   | true=>
     refine ⟨_,st,[],ev,⟨fun _ _=>rfl,fun i hi=>(by cases hi)⟩,fun {X0 I0 w0 σ I w m} hs ha=>⟨I,by rw [jq_];exact hs,Evo.refl _ _ _,fun cv hv=>?_⟩⟩
     have hi:σ i=some (.row true t x):=by rw [ha i (by simp [AV.ids0]),hg]
     exact vj_ (fun _ h=>h) (hs.H.obj i _ hi) hv hn fun b hb=>hs.H.isI i t x b hi hb
   | false=>
     simp only [zc_.setK_eq] at ev
     refine ⟨_,_,[i],ev,⟨fun j hj=>?_,fun j hj=>⟨hj,by simp only [List.mem_singleton] at hj;subst hj;rw [hg];intro h;cases h⟩⟩,fun {X0 I0 w0 σ I w m} hs ha=>?_⟩
     ·rw [zc_.get_set,if_neg (by simpa using hj)]
     ·have hi:σ i=some (.row false t x):=by rw [ha i (by simp [AV.ids0]),hg]
      obtain ⟨h1,h2⟩:=Vb_ (st:=st) hs hi
      exact ⟨_,h1,h2,fun cv hv=>vj_ (fun _ h=>.inl h) (hs.H.obj i _ hi) hv hn fun b hb=>.inr hb⟩
  ·exact ev.elim
 ·exact ⟨v,st,[],ev,⟨fun _ _=>rfl,fun i hi=>(by cases hi)⟩,fun {X0 I0 w0 σ I w m} hs _=>⟨I,by rw [jq_];exact hs,Evo.refl _ _ _,fun _ h=>h⟩⟩
theorem Hd_ {σ:Sto} {T1 T2:List Nat} {st1 st2:zc_} (h:∀ i,i ∉ T2->st2.get i=st1.get i):upd (upd σ T1 st1) T2 st2=upd σ (T1++T2) st2:=funext fun i=>by
 unfold upd
 by_cases h2:i ∈ T2
 ·rw [if_pos h2,if_pos (List.mem_append.2 (.inr h2))]
 ·rw [if_neg h2]
  by_cases h1:i ∈ T1
  ·rw [if_pos h1,if_pos (List.mem_append.2 (.inl h1)),h i h2]
  ·rw [if_neg h1,if_neg (fun h=>(List.mem_append.1 h).elim h1 h2)]
theorem uc_ {σ:Sto} {T:List Nat} {st st1:zc_} {F:List Nat} (hg:∀ i,i ∉ T->st1.get i=st.get i) (ha:∀ i ∈ F,σ i=st.get i):∀ i ∈ F,upd σ T st1 i=st1.get i:=fun i hi=>by
 unfold upd
 split
 ·rfl
 ·rename_i h;rw [ha i hi,hg i h]
theorem Ke_:∀ {l:List AV} {st:zc_} {K:List AV->zc_->Prop},v9_ st l K->∃ l' st' T,K l' st'/\zbi_ (zH_ l) st st' T/\
 ∀ {X0:Bool->Nat->Prop} {I0:Nat->Prop} {w0:World} {σ:Sto} {I:Nat->Prop} {w:World} {m:M},HS X0 I0 w0 σ I w m->(∀ i ∈ zH_ l,σ i=st.get i)->∃ I',HS X0 I0 w0 (upd σ T st') I' w m/\Evo I w m I' w m/\∀ cs,z0_ I w m l cs->z0_ I' w m l' cs
 | [],st,K,ev=>⟨[],st,[],ev,⟨fun _ _=>rfl,fun i hi=>(by cases hi)⟩,fun {X0 I0 w0 σ I w m} hs _=>⟨I,by rw [jq_];exact hs,Evo.refl _ _ _,fun _ h=>h⟩⟩
 | v :: r,st,K,ev=>by
   simp only [v9_] at ev
   obtain ⟨v',st1,T1,ev1,⟨g1,g2⟩,h1⟩:=Va_ ev
   obtain ⟨l',st2,T2,ev2,⟨g3,g4⟩,h2⟩:=Ke_ ev1
   have hids:zH_ (v :: r)=v.ids0++zH_ r:=by simp [zH_]
   refine ⟨v' :: l',st2,T1++T2,ev2,⟨fun i hi=>?_,fun i hi=>?_⟩,fun {X0 I0 w0 σ I w m} hs ha=>?_⟩
   ·simp only [List.mem_append,not_or] at hi;rw [g3 i hi.2,g1 i hi.1]
   ·rw [hids]
    rcases List.mem_append.1 hi with h | h
    ·exact ⟨List.mem_append.2 (.inl (g2 i h).1),(g2 i h).2⟩
    ·refine ⟨List.mem_append.2 (.inr (g4 i h).1),?_⟩
     by_cases h1:i ∈ T1
     ·exact (g2 i h1).2
     ·rw [<- g1 i h1];exact (g4 i h).2
   ·rw [hids] at ha
    obtain ⟨I1,k1,k2,k3⟩:=h1 hs fun i hi=>ha i (List.mem_append.2 (.inl hi))
    obtain ⟨I2,k4,k5,k6⟩:=h2 k1 (uc_ g1 fun i hi=>ha i (List.mem_append.2 (.inr hi)))
    refine ⟨I2,by rw [Hd_ g3] at k4;exact k4,k2.trans k5,fun cs hcs=>?_⟩
    cases cs with
    | nil=>exact hcs.elim
    | cons c cs=>exact ⟨kp_ k5.up k5.same k5.m _ _ (k3 c hcs.1),k6 cs (ZS_ k2.up k2.same k2.m _ _ hcs.2)⟩
def Src (I:Nat->Prop) (w:World) (t:Ty) (x:List t.den) (cv:Value):Prop:=
 ∃ ao len cap,cv=.slice ao len cap/\len=x.length/\len<=maxLen/\(0 < len->∃ b o,ao=some ⟨b,o,none⟩/\EA I w t x fun k=>w.cell? ⟨b,o+k,none⟩)
theorem Yl_ {I:Nat->Prop} {w:World} {m:M} {i off n:Nat} {t:Ty} {l:List AV} {K:List t.den->Prop} (ev:xP_ off n t l K):
 ∃ x:List t.den,K x/\(∀ K':List t.den->Prop,xP_ off n t l K'=K' x)/\x.length=n/\∀ {I:Nat->Prop} {w:World} {m:M} {i:Nat},zM_ I w m i (.box l)->∃ b,m.blk i=some b/\EA I w t x fun k=>w.cell? ⟨b,off+k,none⟩:=by
 unfold xP_ at ev
 split at ev
 ·rename_i hle0
  have hle:=Nat.le_of_ble_eq_true hle0
  obtain ⟨x,hx,ev⟩:=jc_.1 ev
  ·have hlen:x.length=n:=by
    have key:∀ (n:Nat) (l:List AV) (x:List t.den),t.all n l=some x->x.length=n:=by
     intro n
     induction n with
     | zero=>intro l x h;cases l<;>simp [Ty.all] at h;subst h;rfl
     | succ n ih=>
       intro l x h
       simp only [Ty.all] at h
       split at h
       ·split at h
        ·rename_i z hz
         cases h
         simp [ih _ _ hz]
        ·cases h
       ·cases h
    exact key _ _ _ hx
   refine ⟨x,ev,fun K'=>propext (by simp only [xP_,hle0,jc_,hx,Option.some.injEq,exists_eq_left']),hlen,fun {I w m i} ho=>?_⟩
   obtain ⟨b,cs,T,fz,h1,h2,_,h3⟩:=ho
   refine ⟨b,h1,?_⟩
   have h4:=W3_ (n*t.size) (Jl_ off h3)
   obtain ⟨_,h6,h7⟩:=yT_ n _ _ x h4 hx
   intro j hj
   obtain ⟨es,h8,h9⟩:=h7 j hj
   refine ⟨es,h8,fun q hq=>?_⟩
   have h10:=h9 q hq
   have hl:=Zi_ t _ _ h8
   have hlt:j*t.size+q < n*t.size:=by
    have:(j+1)*t.size<=n*t.size:=Nat.mul_le_mul_right _ (by omega)
    rw [Nat.add_mul] at this;omega
   rw [List.getElem?_take,if_pos hlt,List.getElem?_drop,Array.getElem?_toList] at h10
   show w.cell? ⟨b,off+(j*t.size+q),none⟩=_
   rw [ZW_ h2];exact h10
 ·exact ev.elim
theorem Yf_ {t:Ty} {st:zc_} {v:AV} {K:List t.den->Prop} (ev:Yg_ t st v K):∃ ys,K ys/\
 ∀ {I:Nat->Prop} {w:World} {m:M} {σ:Sto} {cv:Value},HRel I w m σ->(∀ i ∈ v.ids0,σ i=st.get i)->RV0 I w m v cv->Src I w t ys cv:=by
 unfold Yg_ at ev
 split at ev
 ·refine ⟨[],ev,fun {I w m σ cv} hH ha hv=>⟨none,0,0,hv,rfl,Nat.zero_le _,fun h=>absurd h (by omega)⟩⟩
 ·rename_i t' x
  obtain ⟨rfl,ev⟩:=ZP_ ev
  refine ⟨x,ev,fun {I w m σ cv} hH ha hv=>?_⟩
  obtain ⟨ao,len,cap,rfl,h⟩:=hv
  obtain ⟨h1,h2,h3,h4⟩:=XT_.1 h
  exact ⟨ao,len,cap,rfl,h1,Nat.le_trans h2 h3,fun h0=>let ⟨b,o,e,_,h5⟩:=h4 h0;⟨b,o,e,h5⟩⟩
 ·rename_i i
  split at ev
  ·rename_i fz t' x hg
   obtain ⟨rfl,ev⟩:=ZP_ ev
   refine ⟨x,ev,fun {I w m σ cv} hH ha hv=>?_⟩
   have hi:σ i=some (.row fz t' x):=by rw [ha i (by simp [AV.ids0]),hg]
   obtain ⟨ao,len,cap,rfl,h⟩:=Y3_ (I':=fun b=>I b\/m.blk i=some b) (fun _ h=>.inl h) (hH.obj i _ hi) hv fun b hb=>.inr hb
   obtain ⟨h1,h2,h3,h4⟩:=XT_.1 h
   obtain ⟨k1,k2,k3,k4,k5⟩:=qJ_ (hH.obj i _ hi)
   refine ⟨ao,len,cap,rfl,h1,Nat.le_trans h2 h3,fun h0=>?_⟩
   obtain ⟨ao',len',cap',e,h5,h6,h7,h8,h9,h10⟩:=hv
   cases e
   rcases k5 with ⟨_,k6⟩ | ⟨b,k5,k6⟩
   ·omega
   ·rcases h10 with ⟨h10,_⟩ | ⟨b',h10,h11⟩
    ·rw [k5] at h10;cases h10
    ·rw [k5] at h10;cases h10
     exact ⟨b,0,h11,k6.congr fun k _=>by rw [Nat.zero_add]⟩
  ·exact ev.elim
 ·rename_i i off n
  split at ev
  ·rename_i fz t' x hg
   obtain ⟨rfl,ev⟩:=ZP_ ev
   obtain ⟨hn,ev⟩:=zj_ ev
   refine ⟨_,ev,fun {I w m σ cv} hH ha hv=>?_⟩
   have hi:σ i=some (.row fz t' x):=by rw [ha i (by simp [AV.ids0]),hg]
   obtain ⟨k1,k2,k3,k4,k5⟩:=qJ_ (hH.obj i _ hi)
   obtain ⟨ao,len,cap,rfl,h5,h6,h7,h8,h9,h10⟩:=hv
   refine ⟨ao,len,cap,rfl,by simp at hn ⊢;omega,by omega,fun h0=>?_⟩
   rcases k5 with ⟨_,k6⟩ | ⟨b,k5,k6⟩
   ·omega
   ·rcases h10 with ⟨h10,_⟩ | ⟨b',o,h10,h11,h12⟩
    ·rw [k5] at h10;cases h10
    ·rw [k5] at h10;cases h10
     exact ⟨b,o,h11,((k6.drop off).take n).congr fun k _=>by rw [h12 (by omega),k1]⟩
  ·exact ev.elim
 ·rename_i i off n t'
  split at ev
  ·rename_i l hg
   obtain ⟨x,ev,_,hlen,h⟩:=Yl_ (I:=fun _=>False) (w:=default) (m:=⟨fun _=>none,fun _=>0,fun _=>0,fun _=>0,fun _=>False,noR⟩) (i:=0) ev
   obtain ⟨rfl,ev⟩:=ZP_ ev
   refine ⟨x,ev,fun {I w m σ cv} hH ha hv=>?_⟩
   have hi:σ i=some (.box l):=by rw [ha i (by simp [AV.ids0]),hg]
   obtain ⟨b,h1,h2⟩:=h (hH.obj i _ hi)
   obtain ⟨b',cap,h3,rfl,h4,h5,h6⟩:=hv
   rw [h1] at h3;cases h3
   exact ⟨_,n,cap,rfl,hlen.symm,Nat.le_trans h4 h5,fun _=>⟨b,off,rfl,h2⟩⟩
  ·exact ev.elim
 ·rename_i i t' x
  split at ev
  ·rename_i wr kn hg
   split at ev
   ·split at ev
    ·rename_i hpl
     obtain ⟨rfl,ev⟩:=ZP_ ev
     refine ⟨x,ev,fun {I w m σ cv} hH ha hv=>?_⟩
     have hi:σ i=some (.reg wr true):=by rw [ha i (by simp [AV.ids0]),hg]
     obtain ⟨⟨ao,len,cap,rfl,h⟩,hu⟩:=hv
     obtain ⟨h1,h2,h3,h4⟩:=XT_.1 h
     refine ⟨ao,len,cap,rfl,h1,Nat.le_trans h2 h3,fun h0=>?_⟩
     obtain ⟨b,o,e,hd,h5⟩:=h4 h0
     have hex:=(hH.gar i wr true b hi hd).2.2.2.2.1 rfl
     exact ⟨b,o,e,(EA.plain hpl h5).congr fun k hk=>by simp only [World.cell?,hex]⟩
    ·exact ev.elim
   ·exact ev.elim
  ·exact ev.elim
 ·exact ev.elim
theorem HQ_ {size:Nat} {Q:Nat->List Value->Prop}:∀ (n:Nat),(∀ i,i < n->∃ es,es.length=size/\Q i es)->∃ news:List Value,news.length=n*size/\∀ i,i < n->∃ es,es.length=size/\Q i es/\∀ j (hj:j < es.length),news[i*size+j]?=some es[j]
 | 0,_=>⟨[],by simp,fun i hi=>absurd hi (by omega)⟩
 | n+1,h=>by
   obtain ⟨news,h1,h2⟩:=HQ_ n fun i hi=>h i (by omega)
   obtain ⟨es,h3,h4⟩:=h n (by omega)
   refine ⟨news++es,by simp [h1,h3,Nat.add_mul],fun i hi=>?_⟩
   by_cases e:i=n
   ·subst e
    exact ⟨es,h3,h4,fun j hj=>by rw [List.getElem?_append_right (by omega),h1,Nat.add_sub_cancel_left];exact List.getElem?_eq_getElem hj⟩
   ·obtain ⟨es',h5,h6,h7⟩:=h2 i (by omega)
    refine ⟨es',h5,h6,fun j hj=>?_⟩
    have:(i+1)*size<=n*size:=Nat.mul_le_mul_right _ (by omega)
    rw [Nat.add_mul] at this
    rw [List.getElem?_append_left (by omega)];exact h7 j hj
theorem VE_ {I:Nat->Prop} {w:World} (t:Ty) (x:t.den) (cs:List Value) (h:RC I w t x cs):∀ v ∈ cs,v.oneCell'=true:=
 ko_ (m:=⟨fun _=>none,fun _=>0,fun _=>0,fun _=>0,fun _=>False,noR⟩) (qS_ t x cs h)
theorem ba_ {I:Nat->Prop} {w:World} {t:Ty} {x:List t.den} {f:Nat->Option Value} (h:EA I w t x f):∃ news:List Value,news.length=x.length*t.size/\(∀ k (hk:k < news.length),f k=some news[k])/\(∀ v ∈ news,v.oneCell'=true)/\EA I w t x fun k=>news[k]?:=by
 obtain ⟨news,h1,h2⟩:=HQ_ (size:=t.size) (Q:=fun i es=>∃ hi:i < x.length,RC I w t x[i] es/\∀ j (hj:j < es.length),f (i*t.size+j)=some es[j]) x.length fun i hi=>by
  obtain ⟨es,h3,h4⟩:=h i hi
  exact ⟨es,Zi_ t _ _ h3,hi,h3,h4⟩
 have key:∀ k (hk:k < news.length),f k=some news[k]/\news[k].oneCell'=true:=fun k hk=>by
  rw [h1] at hk
  have hpos:0 < t.size:=by
   rcases Nat.eq_zero_or_pos t.size with e | e
   ·rw [e] at hk;omega
   ·exact e
  have hi:k / t.size < x.length:=by rw [Nat.div_lt_iff_lt_mul hpos];exact hk
  obtain ⟨es,h5,⟨_,h6,h7⟩,h8⟩:=h2 _ hi
  have hj:k % t.size < es.length:=by rw [h5];exact Nat.mod_lt _ hpos
  have e:k / t.size*t.size+k % t.size=k:=by rw [Nat.mul_comm];exact Nat.div_add_mod k t.size
  have h9:=h7 _ hj
  have h10:=h8 _ hj
  rw [e] at h9 h10
  have h11:news[k]=es[k % t.size]:=by
   have:=List.getElem?_eq_getElem (l:=news) (i:=k) (by omega)
   rw [this] at h10;exact Option.some.inj h10
  rw [h11]
  exact ⟨h9,VE_ t _ _ h6 _ (List.getElem_mem hj)⟩
 refine ⟨news,h1,fun k hk=>(key k hk).1,fun v hv=>?_,fun i hi=>?_⟩
 ·obtain ⟨k,hk,rfl⟩:=List.mem_iff_getElem.1 hv
  exact (key k hk).2
 ·obtain ⟨es,h5,⟨_,h6,h7⟩,h8⟩:=h2 i hi
  exact ⟨es,h6,h8⟩
end Go.Eng
