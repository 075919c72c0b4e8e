/- Parts of the proof: ECode2, EFn. No condition. -/
import Derived.Test.YtimkdohmkfjfaaaGreatDoorXK09
namespace Go.Eng
set_option linter.unusedVariables false
set_option linter.unusedSimpArgs false
open Go.RowKit
def ndC:Code->Bool
 | .region _ ops _=>ops.toList.all ndO
 | .seq a b=>ndC a && ndC b
 | .cond _ a b=>ndC a && ndC b
 | .block _ a=>ndC a
 | .loop a=>ndC a
 | .skip=>true
 | .exit _=>true
 | .ret=>true
 | _=>false
def gf_ (P:Program) (n:Nat) (ops:Array Oper) (d:Option Nat) (y:Opd) (args:List Opd) (suf:List IOper):List IOper->List Oper->Bool
 | [],o :: r=>(match o.op with | .call ⟨.value f,as,_⟩=>zF_ f y && Zd_ as.toList args | _=>false) && XH_ n o.dst d && o.guard.isNone && r.all ndO && Xi_ P n ops r suf
 | x :: pre,o :: r=>Y4_ P n ops o x && ndO o && gf_ P n ops d y args suf pre r
 | _,[]=>false
def zR_ (P:Program):Nat->IR->Code->Bool
 | _,.skip,.skip=>true
 | _,.skip,.label _=>true
 | n,.reg ios,.region _ ops false=>Xi_ P n ops ops.toList ios
 | n,.regD ios,.region _ ops true=>P.follows .mixedOrders && Vl_ P n ops (WD_ 0 ios) 0 ops.toList (WD_ 0 ios)
 | n,.seq x y,.seq a b=>zR_ P n x a && zR_ P n y b
 | n,.cond d x y,.cond c a b=>zF_ c d && zR_ P n x a && zR_ P n y b
 | n,.block j x,.block i a=>i == j && zR_ P n x a
 | n,.loop x,.loop a=>zR_ P n x a
 | n,.cut x,a=>zR_ P n x a
 | n,.keep _ x,a=>zR_ P n x a
 | _,.exit j,.exit i=>i == j
 | _,.ret,.ret=>true
 | n,.scope x,.scope a=>zR_ P n x a
 | n,.rng f ps _ g asg body gir,.rangeFunc gop psA ca cb=>
   (match gop with | .tmp i=>i == f | _=>false) && psA.toList == ps && decide ps.Nodup && ps.all (fun p=>decide (p < n)) && zR_ P n asg ca && zR_ P n body cb && ndC ca && ndC cb &&
   (match P.funcs[g]? with
     | some fn => !(fn.name == "runtime.NumGoroutine") && fn.results.toList.isEmpty && decide (4 <= fn.ntmps) && (match fn.body with | some cg => zR_ P fn.ntmps gir cg | none => false)
     | none=>false)
 | n,.yld pre d y args _ suf,.region _ ops false=>gf_ P n ops d y args suf pre ops.toList
 | _,_,_=>false
section
variable {P:Program} {Γ:Env} {n k0:Nat} {X0:Bool->Nat->Prop} {I0:Nat->Prop} {w0:World} {m0:M}
theorem QQ.mono {K K':kQ_} {e:Exit} {a:Act} {w:World} (h:QQ n k0 X0 I0 w0 m0 K e a w) (hk:∀ x fr st nx,K x fr st nx->K' x fr st nx):QQ n k0 X0 I0 w0 m0 K' e a w:=by
 obtain ⟨x,hx,fr,st,nx,I,m,h1,h2⟩:=h
 exact ⟨x,hx,fr,st,nx,I,m,hk _ _ _ _ h1,h2⟩
theorem QQ.seq {N:zd_->zc_->Nat->Prop} {K:kQ_} {e:Exit} {a:Act} {w:World} {next:Act->World->Prop} (h:QQ n k0 X0 I0 w0 m0 (K.seq N) e a w)
 (hn:∀ fr st nx I m,N fr st nx->Sta n k0 X0 I0 w0 m0 fr st nx I w m a->next a w):Exit.then next (QQ n k0 X0 I0 w0 m0 K) e a w:=by
 obtain ⟨z,hz,fr,st,nx,I,m,hK,hS⟩:=h
 cases e<;>simp only [u2_,Option.some.injEq,reduceCtorEq] at hz<;>subst hz
 ·exact hn _ _ _ _ _ hK hS
 ·exact ⟨_,rfl,fr,st,nx,I,m,hK,hS⟩
 ·exact ⟨_,rfl,fr,st,nx,I,m,hK,hS⟩
theorem bC_ (l:List Nat) (fr:zd_) (i:Nat):(vU_ l fr).get i=fr.get i\/(vU_ l fr).get i=.undef:=by
 induction l with
 | nil=>exact .inr rfl
 | cons j r ih=>
   have e:(vU_ (j :: r) fr).get i=if i=j then fr.get j else (vU_ r fr).get i:=zd_.get_cons (vU_ r fr) j (fr.get j) i
   rw [e]
   split
   ·rename_i e;rw [e];exact .inl rfl
   ·exact ih
theorem Sta.keep {fr:zd_} {st:zc_} {nx:Nat} {I:Nat->Prop} {w:World} {m:M} {a:Act} (h:Sta n k0 X0 I0 w0 m0 fr st nx I w m a) (l:List Nat):Sta n k0 X0 I0 w0 m0 (vU_ l fr) st nx I w m a:=
 ⟨h.size,h.defers,fun i=>by
  rcases bC_ l fr i with e | e
  ·rw [e];exact h.f i
  ·rw [e];trivial,h.hs,h.same,h.kept,h.lt⟩
end
section
variable {I:Nat->Prop} {w:World} {m:M}
theorem Vz_:∀ {l:List AV} {r:List Value},kn_ I w m l r->l.length=r.length/\∀ i (h:i < l.length) (h':i < r.length),RV2 I w m l[i] r[i]
 | [],[],_=>⟨rfl,fun i h=>by simp at h⟩
 | a :: l,v :: r,h=>by
   obtain ⟨h1,h2⟩:=Vz_ h.2
   refine ⟨by simp [h1],fun i h3 h4=>?_⟩
   cases i with
   | zero=>exact h.1
   | succ i=>exact h2 i (by simpa using h3) (by simpa using h4)
 | [],_ :: _,h=>h.elim
 | _ :: _,[],h=>h.elim
theorem WB_:∀ (l:List AV) (k i:Nat),(Vx_ k l).get i=if h:k<=i/\i < k+l.length then l[i - k]'(by omega) else .undef
 | [],k,i=>by rw [dif_neg (by simp only [List.length_nil];omega)];rfl
 | v :: r,k,i=>by
   show zd_.get ((k,v) :: Vx_ (k+1) r) i=_
   rw [zd_.get_cons,WB_ r (k+1) i]
   by_cases h:i=k
   ·subst h;rw [if_pos rfl,dif_pos (by simp)];simp only [Nat.sub_self,List.getElem_cons_zero]
   ·rw [if_neg h]
    by_cases h2:k+1<=i/\i < k+1+r.length
    ·rw [dif_pos h2,dif_pos (by simp only [List.length_cons];omega)]
     have:i - k=(i - (k+1))+1:=by omega
     simp only [this,List.getElem_cons_succ]
    ·rw [dif_neg h2,dif_neg (by simp only [List.length_cons];omega)]
theorem za7_ {args:List AV} {cargs:Array Value} {N:Nat} (hA:kn_ I w m args cargs.toList):wL_ I w m (Vx_ 0 args).get {tmps:=cargs++Array.replicate N undef,defers:=[]}:=fun i=>by
 obtain ⟨hl',hget⟩:=Vz_ hA
 have hsz:cargs.size=args.length:=by rw [hl'];simp
 rw [WB_]
 split
 ·rename_i hi
  have hi1:i < args.length:=by omega
  have hi2:i < cargs.size:=by omega
  have:=hget i hi1 (by simpa using hi2)
  simp only [Nat.sub_zero]
  rw [Array.getD_eq_getD_getElem?,Array.getElem?_append_left hi2,Array.getElem?_eq_getElem hi2]
  exact Jj_ (by simpa using this)
 ·trivial
theorem uO_:∀ (l:List (Nat × Value)) (t:Array Value),(l.foldl (fun t (p:Nat × Value)=>t.setIfInBounds p.1 p.2) t).size=t.size
 | [],_=>rfl
 | x :: l,t=>by rw [List.foldl_cons,uO_ l];simp
theorem GG_:∀ {ps:List Nat} {as:List AV} {cs:List Value} {φ:zd_} {t:Array Value},RVs I w m as cs->as.length=ps.length->ps.Nodup->(∀ p ∈ ps,p < t.size)->(∀ i,RV I w m (φ.get i) (t.getD i undef))->
 ∀ i,RV I w m (zd_.get (QX_ ps as++φ) i) (((ps.zip cs).foldl (fun t (p:Nat × Value)=>t.setIfInBounds p.1 p.2) t).getD i undef)
 | [],[],[],φ,t,_,_,_,_,h=>h
 | p :: ps,a :: as,c :: cs,φ,t,hr,hl,hn,hlt,h=>fun i=>by
   rw [List.zip_cons_cons,List.foldl_cons]
   have hp:=hlt p (List.mem_cons_self ..)
   have hget:∀ i,(t.setIfInBounds p c).getD i undef=if i=p then c else t.getD i undef:=fun i=>by
    rw [Array.getD_eq_getD_getElem?,Array.getD_eq_getD_getElem?]
    by_cases e:i=p
    ·subst e;rw [if_pos rfl,Array.getElem?_setIfInBounds_self];simp [hp]
    ·rw [if_neg e,Array.getElem?_setIfInBounds_ne (fun h=>e h.symm)]
   have h0:RV I w m a c:=hr.2 0 (by simp) (by simp)
   have ih:=GG_ (φ:=(p,a) :: φ) (t:=t.setIfInBounds p c) (as:=as) (cs:=cs) ⟨by have:=hr.1;simpa using this,fun k h1 h2=>hr.2 (k+1) (by simpa using h1) (by simpa using h2)⟩ (by simpa using hl) (List.nodup_cons.1 hn).2 (fun q hq=>by simp;exact hlt q (List.mem_cons_of_mem _ hq)) (fun i=>by
    rw [zd_.get_cons,hget];split
    ·exact h0
    ·exact h i) i
   have e:zd_.get (QX_ ps as++(p,a) :: φ) i=zd_.get (QX_ (p :: ps) (a :: as)++φ) i:=by
    have aux:∀ {qs:List Nat} {bs:List AV},p ∉ qs->zd_.get (QX_ qs bs++(p,a) :: φ) i=if i=p then a else zd_.get (QX_ qs bs++φ) i:=fun {qs}=>by
     induction qs with
     | nil=>intro bs _;show zd_.get ((p,a) :: φ) i=_;rw [zd_.get_cons];rfl
     | cons q qs ih=>
       intro bs hq
       cases bs with
       | nil=>show zd_.get ((p,a) :: φ) i=_;rw [zd_.get_cons];rfl
       | cons b bs=>
         show zd_.get ((q,b) :: (QX_ qs bs++(p,a) :: φ)) i=if i=p then a else zd_.get ((q,b) :: (QX_ qs bs++φ)) i
         rw [zd_.get_cons,zd_.get_cons,ih (fun h=>hq (List.mem_cons_of_mem _ h))]
         by_cases e1:i=q
         ·have:i ≠ p:=fun e2=>hq (by rw [<- e2,e1];exact List.mem_cons_self ..)
          rw [if_pos e1,if_neg this,if_pos e1]
         ·rw [if_neg e1];split
          ·rfl
          ·first | rfl | rw [if_neg e1]
    rw [aux (List.nodup_cons.1 hn).1]
    show _=zd_.get ((p,a) :: (QX_ ps as++φ)) i
    rw [zd_.get_cons]
   rw [<- e];exact ih
 | [],_ :: _,_,_,_,_,hl,_,_,_=>by cases hl
 | _ :: _,[],_,_,_,_,hl,_,_,_=>by cases hl
 | [],[],_ :: _,_,_,hr,_,_,_,_=>by have:=hr.1;cases this
 | _ :: _,_ :: _,[],_,_,hr,_,_,_,_=>by have:=hr.1;cases this
end
def HdOk (P:Program) (hd:Hd) (n k0:Nat) (X0:Bool->Nat->Prop) (I0:Nat->Prop) (w0:World) (m0:M):Prop:=
 ∀ {l:Nat} {lv:List Nat} {args:List Opd} {fr:zd_} {st:zc_} {nx:Nat} {KY:Bool->zd_->zc_->Nat->Prop} {I:Nat->Prop} {w:World} {m:M} {a:Act} {xs:List Operand} {j:Nat},Zd_ xs args=true->Sta n k0 X0 I0 w0 m0 fr st nx I w m a->hd l lv args fr st nx KY->
   ∃ fn tmps asg body,(Instr.yield l (xs.map a.eval).toArray).run P w=.ok (.round l fn tmps asg body) w/\RoundIn (fen none) j P l fn tmps asg body w fun e w'=>∃ b fr' st' nx' I' m',e=.returned (.bool b)/\KY b fr' st' nx'/\Sta n k0 X0 I0 w0 m0 fr' st' nx' I' w' m' a
theorem hJ_ {P:Program} {n k0:Nat} {X0:Bool->Nat->Prop} {I0:Nat->Prop} {w0:World} {m0:M}:HdOk P hd0 n k0 X0 I0 w0 m0:=fun _ _ h=>h.elim
def zba_ (P:Program) (Γ:Env) (ir:IR):Prop:=
 ∀ {r:Option Nat} {j n k0:Nat} {X0:Bool->Nat->Prop} {I0:Nat->Prop} {w0:World} {m0:M} {hd:Hd} {c:Code} {K:kQ_} {fr:zd_} {st:zc_} {nx:Nat} {I:Nat->Prop} {w:World} {m:M} {a:Act},
   zR_ P n ir c=true->(r=none\/ndC c=true)->HdOk P hd n k0 X0 I0 w0 m0->Sta n k0 X0 I0 w0 m0 fr st nx I w m a->evC Γ ir k0 hd K fr st nx->c.wpIn (fen r) j P (QQ n k0 X0 I0 w0 m0 K) a w
theorem gu_ {P:Program} {r:Option Nat} {j l:Nat} {f:FuncId} {tmps:Array Value} {asg body:Code} {w:World} {R:Ending->World->Prop} (h:RoundIn (fen none) j P l f tmps asg body w R):RoundIn (fen r) j P l f tmps asg body w R:=h
theorem h9_ {n k0:Nat} {X0:Bool->Nat->Prop} {I0:Nat->Prop} {w0:World} {m0:M} {K:kQ_}:¬ LetsOut (QQ n k0 X0 I0 w0 m0 K):=fun ⟨_,_,_,h,_⟩=>by cases h
theorem hP_ {P:Program} {o:Oper} {a:Act} {w:World} {g:Operand} {l:Nat} {args:Array Operand} {ts:Array TypeId} (ho:o.op=.call ⟨.value g,args,ts⟩) (hg:a.eval g=.func (.yield l) #[] #[]):
 (execOp a.eval o).run P w=(Instr.yield l (args.map a.eval)).run P w:=by
 unfold execOp
 rw [ho]
 simp [resolve,hg,Deferred.ofValue,invoke,callFunc]
section
variable {P:Program} {Γ:Env} {n k0:Nat} {X0:Bool->Nat->Prop} {I0:Nat->Prop} {w0:World} {m0:M} {r:Option Nat} {j:Nat}
theorem ub_ (hΓ:qi_ P Γ) {hd:Hd} (hH:HdOk P hd n k0 X0 I0 w0 m0) {ops:Array Oper} {d:Option Nat} {y:Opd} {args:List Opd} {lv:List Nat} {suf:List IOper} {K:kQ_}:∀ {pre:List IOper} {os:List Oper} {fr:zd_} {st:zc_} {nx:Nat} {I:Nat->Prop} {w:World} {m:M} {a:Act},
 gf_ P n ops d y args suf pre os=true->Sta n k0 X0 I0 w0 m0 fr st nx I w m a->H2_ Γ pre d y args lv suf hd K fr st nx->wpListIn (fen r) j P ops (QQ n k0 X0 I0 w0 m0 K) os a w
 | [],[],_,_,_,_,_,_,_,hok,_,_=>by cases hok
 | _ :: _,[],_,_,_,_,_,_,_,hok,_,_=>by cases hok
 | x :: pre,o :: os,fr,st,nx,I,w,m,a,hok,h,ev=>by
   simp only [gf_,Bool.and_eq_true] at hok
   obtain ⟨⟨h1,h2⟩,h3⟩:=hok
   have ev:kg_ x.guard fr (fun fr=>zu_ Γ x.op fr st nx fun v st nx=>H2_ Γ pre d y args lv suf hd K (wn_ x.dst v fr) st nx) fun fr=>H2_ Γ pre d y args lv suf hd K (wn_ x.dst .skp fr) st nx:=by
    unfold H2_ at ev ⊢
    rw [Vk_] at ev;exact ev
   have:=vo_ (P:=P) (Γ:=Γ) (ops:=ops) (Q:=fun e a w=>match e with | .normal=>wpListIn (fen r) j P ops (QQ n k0 X0 I0 w0 m0 K) os a w | _=>False) (r:=[]) (K:=fun fr st nx=>H2_ Γ pre d y args lv suf hd K fr st nx) hΓ h1 h ev fun fr' st' nx' I' w' m' a' hK hS=>(ub_ hΓ hH h3 hS hK:wpListIn (fen r) j P ops (QQ n k0 X0 I0 w0 m0 K) os a' w')
   exact Xw_ (os:=[o]) (fun ⟨_,_,h⟩=>h) (fun e a w he hq=>by cases e<;>first | exact absurd rfl he | exact hq.elim) (fun a w h=>h) (by simp [h2]) this
 | [],o :: os,fr,st,nx,I,w,m,a,hok,h,ev=>by
   simp only [gf_,Bool.and_eq_true] at hok
   obtain ⟨⟨⟨⟨h1,h2⟩,h3⟩,h4⟩,h5⟩:=hok
   split at h1
   ·rename_i f as ts ho
    simp only [Bool.and_eq_true] at h1
    obtain ⟨hf,has⟩:=h1
    replace ev:(match y.ev fr with
     | .yv l=>hd l lv args fr st nx fun b fr st nx=>w6_ d (.kb b) fr fun fr=>Wu_ Γ suf fr st nx fun fr st nx=>K .normal fr st nx
     | _=>False):=ev
    split at ev
    ·rename_i l hy
     have hv:=(h.f.on [y]).rv (List.mem_cons_self ..) hf
     rw [hy] at hv
     have hv:a.eval f=.func (.yield l) #[] #[]:=hv
     obtain ⟨fn,tmps,asg,body,hrun,hR⟩:=hH (j:=j - 1) has h ev
     have hg:o.guard=none:=by cases hh:o.guard with | none=>rfl | some _=>rw [hh] at h3;cases h3
     have hw:Region.wanted o (yielded ops a.tmps)=true:=by simp [Region.wanted,hg]
     unfold wpListIn
     rw [if_pos hw]
     refine ⟨fun _ _=>trivial,?_⟩
     show Oper.uponIn (fen r) j P o a _ _ ((o.semAt r a.eval).run P w)
     rw [Oper.semAt_eq _ _ _ (fun c e=>by rw [ho] at e;cases e),hP_ ho hv]
     have e2:as.map a.eval=(as.toList.map a.eval).toArray:=by rw [<- Array.toList_map,Array.toArray_toList]
     rw [e2,hrun,Oper.uponIn_round]
     refine ⟨fun hq=>(by cases hq),gu_ (hR.mono ?_)⟩
     rintro e w' ⟨b,fr',st',nx',I',m',rfl,hK,hS⟩
     rw [vC_] at hK
     have hS':=hS.put h2 (v:=.kb b) (cv:=.bool b) rfl
     have:=ym_ (ops:=ops) (Q:=QQ n k0 X0 I0 w0 m0 K) hΓ h5 hS' hK fun fr'' st'' nx'' I'' w'' m'' a'' hK'' hS''=>⟨_,rfl,fr'',st'',nx'',I'',m'',hK'',hS''⟩
     have:=Xw_ (r:=r) (j:=j) (rest:=[]) h9_ (fun _ _ _ _ h=>h) (fun _ _ h=>h) h4 this
     rwa [List.append_nil] at this
    ·exact ev.elim
   ·cases h1
theorem zdu_ {asg body:IR} (iha:zba_ P Γ asg) (ihb:zba_ P Γ body) {nA nG kn l:Nat} {X0:Bool->Nat->Prop} {I0:Nat->Prop} {w0:World} {m0:M} {lr:Go.Loop} {us:List AV} {ps lv:List Nat}
 (hca:zR_ P nA asg lr.assign=true) (hcb:zR_ P nA body lr.body=true) (hda:ndC lr.assign=true) (hdb:ndC lr.body=true) (hsz:lr.tmps.size=nA) (hps:lr.params.toList=ps) (hnd:ps.Nodup) (hlt:∀ p ∈ ps,p < nA)
 (hus:kn_ I0 w0 m0 us (lv.map fun i=>lr.tmps.getD i undef)) (huse:∀ i,m0.used i->i < kn+1) (hu:m0.used kn) (hl:m0.blk kn=some l):
 HdOk P (hdR kn lr l us ps lv (evC Γ asg) (evC Γ body)) nG (kn+1) X0 I0 w0 m0:=by
 intro l' lvg args fr st nx KY I w m a xs j hxs h ev
 unfold hdR at ev
 obtain ⟨vs,os,hK,m',hS,hR⟩:=kL_ h ev
 clear ev
 rw [WR_] at hK
 split at hK
 case h_2=>exact hK.elim
 rename_i r' c hget
 split at hK
 case h_2=>exact hK.elim
 split at hK
 case h_2=>exact hK.elim
 rename_i hlen
 obtain ⟨⟨rfl,rfl⟩,ev⟩:=zj_ hK
 have hkn:=hS.kept kn (Nat.lt_succ_self _)
 have hbl:m'.blk kn=some l':=hkn.2.1.trans hl
 have E1:Evo I0 w0 m0 I w m':=⟨hS.hs.Isub,hS.same,fun i hi=>(hS.kept i (huse i hi)).1,fun i hi=>(hS.kept i (huse i hi)).2⟩
 have hus':kn_ I w m' us (lv.map fun i=>r'.tmps.getD i undef):=K1_ E1.up E1.same E1.m _ _ hus
 have heap0:w.heap[l']?=some (.loop (Ql_ r' 0)):=by
  obtain ⟨b,q1,q2⟩:=hS.hs.H.obj kn _ hget
  rw [hbl] at q1;cases q1;exact q2
 have hargs:RVs I w m' (args.map (·.ev (QX_ (lvg++kS_ args) vs))) (xs.map a.eval):=⟨by simp [j3_ hxs],WP_ (hS.f.on args) hxs fun y hy=>hy⟩
 have hpl:(xs.map a.eval).length=ps.length:=by rw [<- hargs.1];simpa using vT_ hlen
 have hyr:=run_yield (P:=P) (args:=(xs.map a.eval).toArray) heap0 (by simp only [List.size_toArray,hpl,<- hps,Array.length_toList];rfl)
 refine ⟨_,_,_,_,hyr,?_⟩
 have htm:((Ql_ r' 0).params.zip (xs.map a.eval).toArray).foldl (fun tmps (t,a)=>tmps.setIfInBounds t a) (Ql_ r' 0).tmps=(ps.zip (xs.map a.eval)).foldl (fun t (p:Nat × Value)=>t.setIfInBounds p.1 p.2) r'.tmps:=by
  rw [<- Array.foldl_toList,Array.toList_zip]
  show List.foldl _ _ (r'.params.toList.zip _)=_
  rw [hps];rfl
 rw [htm]
 obtain ⟨aB,haB⟩:∃ aB:Act,{tmps:=(ps.zip (xs.map a.eval)).foldl (fun t (p:Nat × Value)=>t.setIfInBounds p.1 p.2) r'.tmps,defers:=[]}=aB:=⟨_,rfl⟩
 have hfB:wL_ I w m' (zd_.get (QX_ ps (args.map (·.ev (QX_ (lvg++kS_ args) vs)))++QX_ lv us)) aB:=by
  rw [<- haB]
  exact GG_ hargs (by simpa using vT_ hlen) hnd (fun p hp=>by rw [hsz];exact hlt p hp) (xX_ (a:={tmps:=r'.tmps,defers:=[]}) hus')
 have hSB:=hS.fresh (n':=nA) (a':=aB) (fr':=QX_ ps (args.map (·.ev (QX_ (lvg++kS_ args) vs)))++QX_ lv us) (by rw [<- haB];simp only [uO_];exact hsz) (by rw [<- haB]) hfB
 refine roundIn_of_wpIn (F:=fen none) trivial ?_
 rw [haB]
 refine wpIn_mono (iha (r:=some l') (j:=j) hca (.inr hda) hJ_ hSB ev) ?_
 rintro e a1 w1 ⟨x,hx,fr1,st1,nx1,I1,m1,hK1,hS1⟩
 have hkn':kn < os.length:=by
  rw [z6_] at hget;unfold ofL at hget;exact (List.getElem?_eq_some_iff.1 hget).1
 cases e<;>simp only [u2_,Option.some.injEq,reduceCtorEq] at hx<;>subst hx
 case exit=>exact (hK1:False).elim
 case ret=>exact (hK1:False).elim
 simp only [asgE] at hK1
 split at hK1
 case h_2=>exact hK1.elim
 rename_i r2 c2 hget1
 split at hK1
 case h_2=>exact hK1.elim
 rw [zc_.setK_eq] at hK1
 have hb1:m1.blk kn=some l':=(hS1.kept kn hkn').2.1.trans hbl
 have heap1:w1.heap[l']?=some (.loop (Ql_ r2 0)):=by
  obtain ⟨b,q1,q2⟩:=hS1.hs.H.obj kn _ hget1
  rw [hb1] at q1;cases q1;exact q2
 refine ⟨_,run_beginRound heap1 rfl,?_⟩
 have hS2:=hS1.turn hget1 hb1 (o':=.lrec r2 1) (x:=Ql_ r2 1) (.inr ⟨1,rfl,rfl⟩)
 refine wpIn_mono (ihb (r:=some l') (j:=j) hcb (.inr hdb) hJ_ hS2 hK1) ?_
 rintro e a3 w3 ⟨x,hx,fr3,st3,nx3,I3,m3,hK3,hS3⟩
 have fin:∀ (jump:Option Code) (c':Nat) (KK:zc_->Prop),(∀ r:Go.Loop,Ql_ r c'={r with state:=if jump.isNone then .ready else .done,pending:=jump})->Gs_ kn c' st3 KK->∃ v w',(Instr.endRound l' jump).run P w3=.ok v w'/\v=.bool jump.isNone/\∃ st',KK st'/\Sta nG (kn+1) X0 I0 w0 m0 (QX_ (lvg++kS_ args) vs) st' nx3 I3 w' m3 a:=fun jump c' KK hc' hE=>by
  unfold Gs_ at hE
  split at hE
  case h_2=>exact hE.elim
  rename_i r3 c3 hget3
  rw [zc_.setK_eq] at hE
  have hb3:m3.blk kn=some l':=(hS3.kept kn hkn').2.1.trans hbl
  have heap3:w3.heap[l']?=some (.loop (Ql_ r3 c3)):=by
   obtain ⟨b,q1,q2⟩:=hS3.hs.H.obj kn _ hget3
   rw [hb3] at q1;cases q1;exact q2
  have hr:=run_endRound (P:=P) jump heap3
  rw [bf_,<- hc'] at hr
  have hS4:=hS3.turn hget3 hb3 (o':=.lrec r3 c') (x:=Ql_ r3 c') (.inr ⟨c',rfl,rfl⟩)
  exact ⟨_,_,hr,rfl,_,hE,hS.back hS4⟩
 cases e<;>simp only [u2_,Option.some.injEq,reduceCtorEq] at hx<;>subst hx
 ·obtain ⟨v,w',hr,rfl,st',hKK,hSt⟩:=fin none 0 _ (fun r=>rfl) hK3
  exact ⟨_,_,hr,true,_,_,_,_,_,rfl,hKK,hSt⟩
 ·rename_i id
  obtain ⟨v,w',hr,rfl,st',hKK,hSt⟩:=fin (some (.exit id)) (id+3) _ (fun r=>rfl) hK3
  exact ⟨_,_,hr,false,_,_,_,_,_,rfl,hKK,hSt⟩
 ·obtain ⟨v,w',hr,rfl,st',hKK,hSt⟩:=fin (some .ret) 2 _ (fun r=>rfl) hK3
  exact ⟨_,_,hr,false,_,_,_,_,_,rfl,hKK,hSt⟩
end
theorem hR_ {P:Program} {Γ:Env} (hΓ:qi_ P Γ):∀ ir:IR,zba_ P Γ ir:=by
 intro ir
 induction ir with
 | skip=>
   intro r j n k0 X0 I0 w0 m0 hd c K fr st nx I w m a hok hnd hH h ev
   cases c<;>simp only [zR_,Bool.false_eq_true] at hok
   ·exact wpIn_skip ⟨_,rfl,fr,st,nx,I,m,ev,h⟩
   ·exact wpIn_label ⟨_,rfl,fr,st,nx,I,m,ev,h⟩
 | reg ios=>
   intro r j n k0 X0 I0 w0 m0 hd c K fr st nx I w m a hok hnd hH h ev
   cases c with
   | region id ops draw=>
     cases draw with
     | true=>simp only [zR_,Bool.false_eq_true] at hok
     | false=>
       have:=ym_ (Q:=QQ n k0 X0 I0 w0 m0 K) hΓ hok h ev fun fr' st' nx' I' w' m' a' hK hS=>⟨_,rfl,fr',st',nx',I',m',hK,hS⟩
       rcases hnd with rfl | hnd
       ·exact wpIn_wide.2 (wp_region_list this)
       ·have:=Xw_ (r:=r) (j:=j) (rest:=[]) h9_ (fun _ _ _ _ h=>h) (fun _ _ h=>h) hnd this
        rw [List.append_nil] at this
        exact wpIn_region_list this
   | _=>simp only [zR_,Bool.false_eq_true] at hok
 | regD ios=>
   intro r j n k0 X0 I0 w0 m0 hd c K fr st nx I w m a hok hnd hH h ev
   cases c with
   | region id ops draw=>
     cases draw with
     | false=>simp only [zR_,Bool.false_eq_true] at hok
     | true=>
       simp only [zR_,Bool.and_eq_true] at hok
       have:=zaR_ (Q:=QQ n k0 X0 I0 w0 m0 K) hΓ hok.2 h ev fun fr' st' nx' I' w' m' a' hK hS=>⟨_,rfl,fr',st',nx',I',m',hK,hS⟩
       rcases hnd with rfl | hnd
       ·exact wpIn_wide.2 (wp_region_any hok.1 this)
       ·exact wpIn_region_any hok.1 (U5_ h9_ hnd this)
   | _=>simp only [zR_,Bool.false_eq_true] at hok
 | seq x y ihx ihy=>
   intro r j n k0 X0 I0 w0 m0 hd c K fr st nx I w m a hok hnd hH h ev
   cases c<;>simp only [zR_,Bool.false_eq_true,Bool.and_eq_true] at hok
   have hnd':=hnd.imp id fun h=>by simpa only [ndC,Bool.and_eq_true] using h
   exact wpIn_seq (wpIn_mono (ihx hok.1 (hnd'.imp id (·.1)) hH h ev) fun e a' w' hq=>hq.seq fun fr' st' nx' I' m' hK hS=>ihy hok.2 (hnd'.imp id (·.2)) hH hS hK)
 | cond d x y ihx ihy=>
   intro r j n k0 X0 I0 w0 m0 hd c K fr st nx I w m a hok hnd hH h ev
   cases c<;>simp only [zR_,Bool.false_eq_true,Bool.and_eq_true] at hok
   have hnd':=hnd.imp id fun h=>by simpa only [ndC,Bool.and_eq_true] using h
   have hv:=(h.f.on [d]).rv (List.mem_cons_self ..) hok.1.1
   replace ev:match d.ev fr with
    | .bool t=>cnd t (evC Γ x k0 hd K (uv_ d true fr) st nx) (evC Γ y k0 hd K (uv_ d false fr) st nx)
    | .kb t=>match t with | true=>evC Γ x k0 hd K fr st nx | false=>evC Γ y k0 hd K fr st nx
    | _=>False:=ev
   split at ev
   ·rename_i t ht
    rw [ht] at hv
    have kn:∀ b,t=b->Sta n k0 X0 I0 w0 m0 (uv_ d b fr) st nx I w m a:=fun b hb=>by
     subst hb
     unfold uv_
     split
     ·rename_i i
      have hi:=h.f i
      have ht':fr.get i=.bool t:=ht
      rw [ht'] at hi
      exact ⟨h.size,h.defers,h.f.know hi,h.hs,h.same,h.kept,h.lt⟩
     ·exact h
    rcases QT_ ev with ⟨rfl,ev'⟩ | ⟨rfl,ev'⟩
    ·exact wpIn_cond_true hv (ihx hok.1.2 (hnd'.imp id (·.1)) hH (kn _ rfl) ev')
    ·exact wpIn_cond_false hv (ihy hok.2 (hnd'.imp id (·.2)) hH (kn _ rfl) ev')
   ·rename_i t ht
    rw [ht] at hv
    cases t
    ·exact wpIn_cond_false hv (ihy hok.2 (hnd'.imp id (·.2)) hH h ev)
    ·exact wpIn_cond_true hv (ihx hok.1.2 (hnd'.imp id (·.1)) hH h ev)
   ·exact ev.elim
 | block id x ih=>
   intro r j n k0 X0 I0 w0 m0 hd c K fr st nx I w m a hok hnd hH h ev
   cases c<;>simp only [zR_,Bool.false_eq_true,Bool.and_eq_true,beq_iff_eq] at hok
   obtain ⟨rfl,hok⟩:=hok
   refine wpIn_block (wpIn_mono (ih hok (hnd.imp id fun h=>by simpa only [ndC] using h) hH h ev) ?_)
   rintro e a' w' ⟨z,hz,fr',st',nx',I',m',hK,hS⟩
   cases e<;>simp only [u2_,Option.some.injEq,reduceCtorEq] at hz<;>subst hz
   ·exact ⟨_,rfl,fr',st',nx',I',m',hK,hS⟩
   ·rename_i id i
    simp only [kQ_.block] at hK
    simp only [Exit.inBlock]
    split at hK
    ·rename_i hb
     rw [if_pos (Nat.eq_of_beq_eq_true hb)]
     exact ⟨_,rfl,fr',st',nx',I',m',hK,hS⟩
    ·rename_i hb
     rw [if_neg (fun e=>by subst e;rw [Nat.beq_refl] at hb;cases hb)]
     exact ⟨_,rfl,fr',st',nx',I',m',hK,hS⟩
   ·exact ⟨_,rfl,fr',st',nx',I',m',hK,hS⟩
 | loop x ih=>
   intro r j n k0 X0 I0 w0 m0 hd c K fr st nx I w m a hok hnd hH h ev
   cases c<;>simp only [zR_,Bool.false_eq_true] at hok
   replace hnd:=hnd.imp id fun h=>by simpa only [ndC] using h
   refine ev _ ?_ ?_
   ·rintro ⟨k,hk⟩
    refine wpIn_loop_rounds k ?_
    clear ev
    induction k generalizing fr st nx I w m a with
    | zero=>exact hk.elim
    | succ k ihk=>
      rw [roundsIn_succ]
      exact wpIn_mono (ih hok hnd hH h hk) fun e a' w' hq=>hq.seq fun fr' st' nx' I' m' hK hS=>ihk hS hK
   ·rintro ⟨ss,live,α,J,V,O,μ,h0,hb⟩
    have main:∀ k (v:α),J v->μ v < k->∀ {I:Nat->Prop} {w:World} {m:M} {a:Act},Sta n k0 X0 I0 w0 m0 (QX_ live (V v)) (KP_ 0 (O v)) (O v).length I w m a->Code.roundsIn (fen r) j P _ (QQ n k0 X0 I0 w0 m0 K) k a w:=fun k=>by
     induction k with
     | zero=>intro v _ hv;omega
     | succ k ihk=>
       intro v hJ hv I w m a hS
       rw [roundsIn_succ]
       refine wpIn_mono (ih hok hnd hH hS (hb v hJ)) fun e a' w' hq=>hq.seq fun fr' st' nx' I' m' hK hS'=>?_
       obtain ⟨st2,I2,hK,hS'⟩:=xf_ ss hS' hK
       obtain ⟨vs,os,hp,m2,hS2,_⟩:=kL_ hS' hK
       obtain ⟨v',hJ',h1,rfl,rfl⟩:=Xp_ hp
       exact ihk v' hJ' (by omega) hS2
    obtain ⟨vs,os,⟨v,hJ,rfl,rfl⟩,m2,hS2,_⟩:=kL_ h h0
    exact wpIn_loop_rounds (μ v+1) (main (μ v+1) v hJ (Nat.lt_succ_self _) hS2)
 | cut x ih=>
   intro r j n k0 X0 I0 w0 m0 hd c K fr st nx I w m a hok hnd hH h ev
   simp only [zR_] at hok
   refine ev _ (fun ev=>ih hok hnd hH h ev) ?_
   rintro ⟨live,α,V,O,hb,hk⟩
   refine wpIn_mono (ih hok hnd hH h hb) ?_
   rintro e a' w' ⟨z,hz,fr',st',nx',I',m',hK,hS⟩
   cases e<;>simp only [u2_,Option.some.injEq,reduceCtorEq] at hz<;>subst hz
   ·obtain ⟨vs,os,hp,m2,hS2,_⟩:=kL_ hS hK
    obtain ⟨v,rfl,rfl⟩:=Xp_ hp
    exact ⟨_,rfl,_,_,_,I',m2,hk v,hS2⟩
   ·exact ⟨_,rfl,fr',st',nx',I',m',hK,hS⟩
   ·exact ⟨_,rfl,fr',st',nx',I',m',hK,hS⟩
 | keep l x ih=>
   intro r j n k0 X0 I0 w0 m0 hd c K fr st nx I w m a hok hnd hH h ev
   simp only [zR_] at hok
   have ev:g5_ l fr fun fr=>Vu_ st fun st=>evC Γ x k0 hd K fr st nx:=ev
   simp only [g4_,uP_] at ev
   exact ih hok hnd hH (h.keep l) ev
 | exit i=>
   intro r j n k0 X0 I0 w0 m0 hd c K fr st nx I w m a hok hnd hH h ev
   cases c<;>simp only [zR_,Bool.false_eq_true,beq_iff_eq] at hok
   subst hok
   exact wpIn_exit ⟨_,rfl,fr,st,nx,I,m,ev,h⟩
 | ret=>
   intro r j n k0 X0 I0 w0 m0 hd c K fr st nx I w m a hok hnd hH h ev
   cases c<;>simp only [zR_,Bool.false_eq_true] at hok
   exact wpIn_ret ⟨_,rfl,fr,st,nx,I,m,ev,h⟩
 | scope x ih=>
   intro r j n k0 X0 I0 w0 m0 hd c K fr st nx I w m a hok hnd hH h ev
   cases c<;>simp only [zR_,Bool.false_eq_true] at hok
   have hr:r=none:=hnd.resolve_right (by simp [ndC])
   subst hr
   have:=wpIn_wide.1 (ih (r:=none) (j:=j) hok (.inl rfl) hH h ev)
   refine wpIn_wide.2 (wp_scope_straight (wp_mono this ?_))
   rintro e a' w' ⟨z,hz,hq⟩
   cases e<;>simp only [u2_,Option.some.injEq,reduceCtorEq] at hz<;>exact ⟨z,by rw [<- hz];rfl,hq⟩
 | yld pre d y args lv suf=>
   intro r j n k0 X0 I0 w0 m0 hd c K fr st nx I w m a hok hnd hH h ev
   cases c with
   | region id ops draw=>
     cases draw with
     | true=>simp only [zR_,Bool.false_eq_true] at hok
     | false=>exact wpIn_region_list (ub_ (lv:=lv) hΓ hH hok h ev)
   | _=>simp only [zR_,Bool.false_eq_true] at hok
 | rng f ps lv g asg body gir iha ihb ihg=>
   intro r j n k0 X0 I0 w0 m0 hd c K fr st nx I w m a hok hnd hH h ev
   cases c with
   | rangeFunc gop psA ca cb=>
     have hr:r=none:=hnd.resolve_right (by simp [ndC])
     subst hr
     simp only [zR_,Bool.and_eq_true] at hok
     obtain ⟨⟨⟨⟨⟨⟨⟨⟨h1,h2⟩,h3⟩,h4⟩,h5⟩,h6⟩,h7⟩,h8⟩,h9⟩:=hok
     split at h1
     case h_2=>cases h1
     rename_i i
     simp only [beq_iff_eq] at h1 h2
     subst h1
     split at h9
     case h_2=>cases h9
     rename_i fnG hfG
     simp only [Bool.and_eq_true,Bool.not_eq_true',List.isEmpty_iff,decide_eq_true_eq] at h9
     obtain ⟨⟨⟨hname,hres⟩,hpar⟩,hbody⟩:=h9
     split at hbody
     case h_2=>cases hbody
     rename_i cg hcg
     replace ev:rngK i ps lv g (evC Γ asg) (evC Γ body) (evC Γ gir) k0 K fr st:=ev
     unfold rngK at ev
     obtain ⟨vs,os,hK,m1,hS0,hR1⟩:=kL_ h ev
     clear ev
     split at hK
     case h_1=>exact hK.elim
     rename_i v us
     split at hK
     case h_2=>exact hK.elim
     rename_i f' first cap
     split at hK
     case h_2=>exact hK.elim
     split at hK
     case h_2=>exact hK.elim
     rename_i hb
     split at hK
     case h_2=>exact hK.elim
     rename_i hle
     have hle:=zaf_ hle
     have hfg:=Nat.eq_of_beq_eq_true hb
     subst hfg
     rw [WR_] at hK
     rcases hK with hK | hK
     case inr=>exact hK.elim
     have hv:RV2 I w m1 (.fn f' [] cap) (a.tmps.getD i undef):=hR1.1
     obtain ⟨fs,cs,hval,hfs,hcs⟩:=hv
     have hfs0:fs=#[]:=by
      have:=(jm_ hfs).1
      exact Array.eq_empty_of_size_eq_zero (by simpa using this.symm)
     subst hfs0
     have hS1:Sta n k0 X0 I0 w0 m0 (QX_ lv us) (KP_ 0 os) os.length I w m1 a:={hS0 with f:=xX_ hR1.2}
     refine wpIn_rangeFunc ?_
     intro fn _
     obtain ⟨lr,hlr⟩:∃ lr:Go.Loop,{state:=.ready,pending:=none,fn,tmps:=a.tmps,params:=psA,assign:=ca,body:=cb,defers:=w.heap.size}=lr:=⟨_,rfl⟩
     have hlr0:Ql_ lr 0=lr:=by rw [<- hlr];rfl
     have hS2:=hS1.enter hlr0
     have hlen:(os++[Obj.lrec lr 0]).length=os.length+1:=by simp
     have hKl:=hK lr (w.heap.size+1)
     rw [<- hlen] at hS2 hKl
     obtain ⟨w1,hw1⟩:∃ w1,(w.alloc (.deferred (some []))).alloc (.loop lr)=w1:=⟨_,rfl⟩
     obtain ⟨m2,hm2⟩:∃ m2,m1.push os.length (some (w.heap.size+1)) 0 0 0=m2:=⟨_,rfl⟩
     rw [hw1,hm2] at hS2
     have hb2:m2.blk os.length=some (w.heap.size+1):=by rw [<- hm2];exact M.push_blk _ _ _ _ _ _
     have hnu:¬ m1.used os.length:=fun hu=>by have:=hS1.lt _ hu;omega
     have hu2:m2.used os.length:=by rw [<- hm2];exact .inr rfl
     have E2:Evo I w m1 (fun b=>I b\/b=w.heap.size) w1 m2:=by
      refine ⟨fun _ h=>.inl h,fun b hb=>?_,by rw [<- hm2];exact M.push_le hnu⟩
      rw [<- hw1];have:=hS1.hs.H.Ilt b hb
      exact (Below.heap_alloc _ _ _ (by simp;omega)).trans (Below.heap_alloc _ _ _ this)
     refine ⟨w.heap.size+1,[{target:=.collected w.heap.size,args:=#[]}],w1,{target:=.fn (.func f') cs,args:=#[.func (.yield (w.heap.size+1)) #[] #[]]},w1,f',#[.func (.yield (w.heap.size+1)) #[] #[]]++cs,w1,?_,?_,fun _ _=>trivial,?_,fun hq=>(by cases hq),?_⟩
     ·rw [<- hw1,<- hlr];exact run_enterLoop_outer _ _ _ _ _
     ·have hval':a.eval (.tmp i)=.func (.func f') #[] cs:=hval
      simp only [resolve,hval']
      simp [go_sem]
     ·have hb':¬ fnG.body=none:=by rw [hcg];simp
      have hn' : ¬ fnG.name = "runtime.NumGoroutine" := by simpa using hname
      simp [invoke,go_sem,callFunc,hfG,hb',hn']
     ·have hcap:kn_ (fun b=>I b\/b=w.heap.size) w1 m2 (.yv (w.heap.size+1) :: cap) (#[Value.func (.yield (w.heap.size+1)) #[] #[]]++cs).toList:=by
       have:(#[Value.func (.yield (w.heap.size+1)) #[] #[]]++cs).toList=Value.func (.yield (w.heap.size+1)) #[] #[] :: cs.toList:=by simp
       rw [this]
       refine ⟨rfl,K1_ E2.up E2.same E2.m _ _ ?_⟩
       have conv:∀ {l:List AV} {q:List Value},q5_ I w m1 l q->kn_ I w m1 l q:=fun {l}=>by
        induction l with
        | nil=>intro q h;cases q with | nil=>trivial | cons=>exact h.elim
        | cons v l ih=>intro q h;cases q with | nil=>exact h.elim | cons=>exact ⟨qz_ h.1,ih h.2⟩
       exact conv hcs
      have hcl:cs.size=cap.length:=by have:=(jm_ hcs).1;simpa using this.symm
      obtain ⟨args,hargs⟩:∃ args,#[Value.func (.yield (w.heap.size+1)) #[] #[]]++cs=args:=⟨_,rfl⟩
      rw [hargs] at hcap ⊢
      have has:args.size=1+cs.size:=by rw [<- hargs,Array.size_append];rfl
      have hSG:=hS2.fresh (n':=fnG.ntmps) (fr':=Vx_ 0 (.yv (w.heap.size+1) :: cap)) (a':={tmps:=args++Array.replicate (fnG.ntmps - args.size) undef,defers:=[]}) (by simp;omega) rfl (za7_ hcap)
      have hHd:HdOk P (hdR os.length lr (w.heap.size+1) us ps lv (evC Γ asg) (evC Γ body)) fnG.ntmps (os.length+1) (XF m2 (os++[Obj.lrec lr 0])) (fun b=>I b\/b=w.heap.size) w1 m2:=by
       refine zdu_ (nA:=n) iha ihb (by rw [<- hlr];exact h5) (by rw [<- hlr];exact h6) (by rw [<- hlr];exact h7) (by rw [<- hlr];exact h8) (by rw [<- hlr];exact h.size) (by rw [<- hlr];exact h2) (of_decide_eq_true h3) (fun p hp=>?_) ?_ (fun i hi=>?_) hu2 hb2
       ·have:=List.all_eq_true.1 h4 p hp;simpa using this
       ·rw [<- hlr];exact K1_ E2.up E2.same E2.m _ _ hR1.2
       ·have:=hS2.lt i hi;omega
      rw [<- hlen] at hHd
      refine callsIn_of_wp_marks hfG hcg trivial (wpIn_mono (ihg (r:=none) hbody (.inl rfl) hHd hSG hKl) ?_)
      rintro e aG wE ⟨x,hx,frE,stE,nxE,IE,mE,hKE,hSE⟩
      have fin:endR os.length (QX_ lv us) K stE nxE->LeavesInM (fen none) (j - 1) P fnG aG.tmps (rangePost (fen none) j P (w.heap.size+1) (QQ n k0 X0 I0 w0 m0 K) {a with defers:=[{target:=.collected w.heap.size,args:=#[]}]++a.defers}) aG.defers .returning wE:=fun hE=>by
       refine JK_ (a:=aG) hS2.hs.H.Ilt (fun w'' a'' ht hS''=>?_) aG.defers wE aG rfl rfl hSE
       have hrun:(results fnG aG.tmps).run P w''=.ok (.tuple #[]) w'':=by
        have hr0:fnG.results=#[]:=by have:=congrArg List.toArray hres;simpa using this
        unfold results;rw [hr0];simp
       refine ⟨_,hrun,?_⟩
       unfold endR at hE
       split at hE
       case h_2=>exact hE.elim
       rename_i r' c' hget
       rw [zc_.setK_eq] at hE
       have hbE:mE.blk os.length=some (w.heap.size+1):=(hS''.kept os.length (by rw [hlen];omega)).2.1.trans hb2
       have heapE:w''.heap[w.heap.size+1]?=some (.loop (Ql_ r' c')):=by
        obtain ⟨b,q1,q2⟩:=hS''.hs.H.obj _ _ hget
        rw [hbE] at q1;cases q1;exact q2
       have hT:=hS''.turn hget hbE (o':=.dead) (x:={Ql_ r' c' with state:=.exhausted}) (.inl rfl)
       have hA:=hS2.back hT
       have he:∀ hb:(Ql_ r' c').state ≠ .busy,(Instr.endLoop (w.heap.size+1)).run P w''=.ok (Ql_ r' c').pending (w''.putObj (w.heap.size+1) (.loop {Ql_ r' c' with state:=.exhausted})):=fun hb=>run_endLoop heapE hb
       match c',hE,he,hA with
       | 0,hE,he,hA=>exact ⟨_,_,he (by simp [Ql_]),⟨.normal,rfl,_,_,_,_,_,hE,hA⟩⟩
       | 1,hE,_,_=>exact hE.elim
       | 2,hE,he,hA=>exact ⟨_,_,he (by simp [Ql_]),wpIn_ret ⟨.ret,rfl,_,_,_,_,_,hE,hA⟩⟩
       | c+3,hE,he,hA=>exact ⟨_,_,he (by simp [Ql_]),wpIn_exit ⟨.exit c,rfl,_,_,_,_,_,hE,hA⟩⟩
      cases e<;>simp only [u2_,Option.some.injEq,reduceCtorEq] at hx<;>subst hx
      ·exact fin hKE
      ·exact (hKE:False).elim
      ·exact fin hKE
   | _=>simp only [zR_,Bool.false_eq_true] at hok
inductive RD where
 | tmp (t:Nat) (fz:Bool) (ty:Option Ty)
 | cell (t:Nat) (n:Option Nat) (fz:Bool) (zs:List (Option Ty))
def y6_ (P:Program):List ResultVar->List RD->Bool
 | [],[]=>true
 | .tmp t :: r,.tmp u _ _ :: l=>t == u && y6_ P r l
 | .cell t ty :: r,.cell u n _ _ :: l=>t == u && nOk P ty n && y6_ P r l
 | _,_=>false
def Bu_ (fr:zd_) (st:zc_) (K:AV->Prop):RD->Prop
 | .tmp t _ _=>K (fr.get t)
 | .cell t n _ _=>match fr.get t with
   | .ptr i off=>match st.get i with
     | some (.box l)=>cut n off l K
     | _=>False
   | _=>False
def RD.fz:RD->Bool | .tmp _ f _=>f | .cell _ _ f _=>f
def HC_ (o:Option Ty) (v:AV) (K:AV->Prop):Prop:=match o with
 | none=>K v
 | some t=>match v with | .nils=>K (.imm t []) | v=>Wt_ v K
def hp_:List (Option Ty)->List AV->(List AV->Prop)->Prop
 | [],l,K=>K l
 | _ :: _,[],K=>K []
 | z :: zs,v :: r,K=>match z with
   | none=>hp_ zs r fun r=>K (v :: r)
   | some t=>match v with
     | .nils=>hp_ zs r fun r=>K (.imm t [] :: r)
     | v=>hp_ zs r fun r=>K (v :: r)
def RD.nil (d:RD) (v:AV) (K:AV->Prop):Prop:=match d with
 | .tmp _ _ ty=>HC_ ty v K
 | .cell _ _ _ zs=>match zs with
   | []=>K v
   | z :: zs=>match v with
     | .agg l=>hp_ (z :: zs) l fun l=>K (.agg l)
     | v=>HC_ z v K
def gv_ (fr:zd_) (st0:zc_):zc_->List RD->(List AV->zc_->Prop)->Prop
 | st,[],K=>K [] st
 | st,r :: l,K=>Bu_ fr st0 (fun v=>r.nil v fun v=>match r.fz with
   | true=>frz1 st v fun v st=>gv_ fr st0 st l fun vs st=>K (v :: vs) st
   | false=>gv_ fr st0 st l fun vs st=>K (v :: vs) st) r
def finK (k0:Nat) (rd:List RD) (K:AV->List Obj->Prop) (fr:zd_) (st:zc_):Prop:=
 gv_ fr st st rd fun vs st=>Xr_ vs fun vs=>XL_ vs (H3_ k0) fun vs ρ=>KH_ st 1000 0 ρ fun os _=>match vs with
  | [v]=>post (K v os)
  | vs=>match Kj_ (fun v=>match v with | .fn _ _ _=>false | _=>true) vs with | true=>post (K (.tup vs) os) | false=>False
def UV_ (Γ:Env) (ir:IR) (rd:List RD) (args:List AV) (objs:List Obj) (K:AV->List Obj->Prop):Prop:=
 evC Γ ir objs.length hd0 (fun e fr st _=>match e with
  | .normal=>finK objs.length rd K fr st
  | .ret=>finK objs.length rd K fr st
  | .exit _=>False) (Vx_ 0 args) (KP_ 0 objs) objs.length
def Ty.wf:(t:Ty)->t.den->Prop
 | .int k,n=>inK k n
 | .bool,_=>True
 | .str,l=>(∀ x ∈ l,0<=x/\x<=255)/\l.length<=maxLen
 | .nil,_=>True
 | .cons a b,x=>a.wf x.1/\b.wf x.2
 | .sl t,l=>(∀ x ∈ l,t.wf x)/\l.length<=maxLen
def AV.wf0:AV->Prop
 | .int k n=>inK k n
 | .str l=>Ty.wf .str l
 | .imm t x=>Ty.wf (.sl t) x
 | .jsl _ t x=>Ty.wf (.sl t) x
 | _=>True
def AV.wf1:AV->Prop
 | .agg l=>∀ v ∈ l,v.wf0
 | v=>v.wf0
def Obj.wf:Obj->Prop
 | .box l=>∀ v ∈ l,v.wf0
 | .row _ t x=>Ty.wf (.sl t) x
 | .map _ kt vt l=>∀ p ∈ l,kt.wf p.1/\vt.wf p.2
 | .dead=>True
 | .iter s _=>(∀ x ∈ s,0<=x/\x<=255)/\s.length<=maxLen
 | .lrec _ _=>True
 | .miter _ _ _=>True
 | .rowp _ _ _ _=>True
 | .reg _ _=>True
 | .rowm _ _ _ _=>True
section
variable {I:Nat->Prop} {w:World} {m:M}
theorem yS_ (s:ByteArray):∀ x ∈ zO_ s,0<=x/\x<=255:=fun x hx=>by
 unfold zO_ at hx
 obtain ⟨b,_,rfl⟩:=List.mem_map.1 hx
 have:=b.toNat_lt
 constructor<;>omega
theorem Yp_:∀ (t:Ty) (x:t.den) (cs:List Value),RC I w t x cs->t.wf x
 | .int k,n,cs,h=>by simp only [RC] at h;exact h.2
 | .bool,_,_,_=>trivial
 | .str,l,cs,h=>by
   simp only [RC] at h
   obtain ⟨s,_,rfl,h⟩:=h
   exact ⟨yS_ s,by rw [z2_];exact h⟩
 | .nil,_,_,_=>trivial
 | .cons a b,x,cs,h=>by
   simp only [RC] at h
   obtain ⟨c1,c2,_,h1,h2⟩:=h
   exact ⟨Yp_ a _ _ h1,Yp_ b _ _ h2⟩
 | .sl t,l,cs,h=>by
   simp only [RC] at h
   obtain ⟨ao,len,cap,_,h1,h2,h3,h4⟩:=h
   refine ⟨fun x hx=>?_,by omega⟩
   obtain ⟨i,hi,rfl⟩:=List.mem_iff_getElem.1 hx
   obtain ⟨b,o,_,_,h5⟩:=h4 (by omega)
   obtain ⟨es,h6,_⟩:=h5 i hi
   exact Yp_ t _ _ h6
theorem zbf_ {a:AV} {v:Value} (h:RV0 I w m a v):a.wf0:=by
 cases a with
 | int=>exact h.2
 | str=>obtain ⟨s,_,rfl,h⟩:=h;exact ⟨yS_ s,by rw [z2_];exact h⟩
 | imm=>obtain ⟨ao,len,cap,rfl,h⟩:=h;exact Yp_ (.sl _) _ _ (xk_.2 ⟨ao,len,cap,rfl,h⟩)
 | jsl=>obtain ⟨⟨ao,len,cap,rfl,h⟩,_⟩:=h;exact Yp_ (.sl _) _ _ (xk_.2 ⟨ao,len,cap,rfl,h⟩)
 | _=>trivial
theorem U9_:∀ {l:List AV} {r:List Value},z0_ I w m l r->∀ v ∈ l,v.wf0
 | [],[],_=>fun v hv=>by cases hv
 | _ :: _,_ :: _,h=>fun v hv=>by
   cases hv with
   | head=>exact zbf_ h.1
   | tail _ hv=>exact U9_ h.2 v hv
 | [],_ :: _,h=>h.elim
 | _ :: _,[],h=>h.elim
theorem zdO_ {a:AV} {v:Value} (h:RV1 I w m a v):a.wf1:=by
 rcases kP_ h with h' | ⟨l,cs,rfl,rfl,h'⟩
 ·by_cases ha:∃ l,a=.agg l
  ·obtain ⟨l,rfl⟩:=ha;exact h'.elim
  ·have:a.wf1=a.wf0:=by cases a<;>first | rfl | exact absurd ⟨_,rfl⟩ ha
   rw [this];exact zbf_ h'
 ·exact U9_ h'
theorem zdN_ {a:AV} {v:Value} (h:RV2 I w m a v):a.wf1:=by
 rcases QW_ h with h' | ⟨f,l,c,fs,cs,rfl,rfl,_⟩
 ·exact zdO_ h'
 ·trivial
theorem vf_:∀ {l:List AV} {r:List Value},kn_ I w m l r->∀ v ∈ l,v.wf1
 | [],[],_=>fun v hv=>by cases hv
 | _ :: _,_ :: _,h=>fun v hv=>by
   cases hv with
   | head=>exact zdN_ h.1
   | tail _ hv=>exact vf_ h.2 v hv
 | [],_ :: _,h=>h.elim
 | _ :: _,[],h=>h.elim
theorem GW_ {i:Nat} {o:Obj} (h:zM_ I w m i o):o.wf:=by
 cases o with
 | dead=>trivial
 | reg wr kn=>trivial
 | rowm t x i L=>trivial
 | box l=>obtain ⟨b,cs,T,fz,_,_,_,h⟩:=h;exact U9_ h
 | row fz t x=>
   obtain ⟨_,h2,h3,h4,h5⟩:=qJ_ h
   refine ⟨fun y hy=>?_,by omega⟩
   obtain ⟨i,hi,rfl⟩:=List.mem_iff_getElem.1 hy
   rcases h5 with ⟨_,h5⟩ | ⟨b,_,h5⟩
   ·omega
   ·obtain ⟨es,h6,_⟩:=h5 i hi
    exact Yp_ t _ _ h6
 | map q kt vt l=>
   obtain ⟨b,es,c,_,_,h1,h2,_⟩:=h
   intro p hp
   obtain ⟨i,hi,rfl⟩:=List.mem_iff_getElem.1 hp
   have:=h2 i hi (by omega)
   exact ⟨Yp_ kt _ _ this.1.1,Yp_ vt _ _ this.2.1⟩
 | iter s p=>
   obtain ⟨b,t,_,_,rfl,h⟩:=h
   exact ⟨yS_ t,by rw [z2_];exact h⟩
 | lrec r c=>trivial
 | miter v n s=>trivial
 | rowp t x l c=>trivial
theorem hL_ {v:AV} {st:zc_} {K:AV->zc_->Prop} (ev:frz1 st v K) {X0:Bool->Nat->Prop} {I0:Nat->Prop} {w0:World} (hs:HS X0 I0 w0 st.get I w m):
 ∃ v' st' I',K v' st'/\HS X0 I0 w0 st'.get I' w m/\Evo I w m I' w m/\∀ cv,RV I w m v cv->RV I' w m v' cv:=by
 have up:∀ {T:List Nat} {st':zc_} {L:List Nat},zbi_ L st st' T->upd st.get T st'=st'.get:=fun {T st' L} g=>funext fun i=>by
  unfold upd
  split
  ·rfl
  ·rename_i hi;exact (g.1 i hi).symm
 by_cases ha:∃ l,v=.agg l
 ·obtain ⟨l,rfl⟩:=ha
  obtain ⟨l',st',T,hK,hg,h⟩:=Ke_ ev
  obtain ⟨I',h1,h2,h3⟩:=h hs (fun _ _=>rfl)
  rw [up hg] at h1
  exact ⟨_,st',I',hK,h1,h2,fun cv hv=>by obtain ⟨cs,rfl,hv⟩:=hv;exact ⟨cs,rfl,h3 _ hv⟩⟩
 ·have e:frz1 st v K=bK_ st v K:=by cases v<;>first | rfl | exact absurd ⟨_,rfl⟩ ha
  rw [e] at ev
  by_cases hb:(∃ i,v=.own i)\/∃ i o n,v=.view i o n
  ·obtain ⟨v',st',T,hK,hg,h⟩:=Va_ ev
   obtain ⟨I',h1,h2,h3⟩:=h hs (fun _ _=>rfl)
   rw [up hg] at h1
   refine ⟨v',st',I',hK,h1,h2,fun cv hv=>RV_0 (h3 cv ?_)⟩
   rcases hb with ⟨i,rfl⟩ | ⟨i,o,n,rfl⟩<;>exact hv
  ·have e2:bK_ st v K=K v st:=by
    cases v<;>first | rfl | exact absurd (.inl ⟨_,rfl⟩) hb | exact absurd (.inr ⟨_,_,_,rfl⟩) hb
   rw [e2] at ev
   exact ⟨v,st,I,ev,hs,Evo.refl _ _ _,fun _ h=>h⟩
end
def Ue_ (tmps:Array Value):ResultVar->Sem Value
 | .tmp t=>pure (tmps.getD t undef)
 | .cell a t=>do loadVar t (<- asAddr (tmps.getD a undef))
def vu_ (rs:List ResultVar) (tmps:Array Value):Sem (List Value):=rs.mapM (Ue_ tmps)
section
variable {P:Program} {X0:Bool->Nat->Prop} {I0:Nat->Prop} {w0 w:World}
theorem y7_ {o:Option Ty} {v:AV} {K:AV->Prop} (h:HC_ o v K):∃ v',K v'/\Imp v v':=by
 unfold HC_ at h
 split at h
 ·exact ⟨v,h,Imp.refl _⟩
 ·split at h
  ·refine ⟨_,h,fun {I w m cv} hv=>?_⟩
   have hv:cv=.slice none 0 0:=hv
   exact ⟨none,0,0,hv,rfl,Nat.le_refl _,Nat.zero_le _,fun h=>absurd h (by omega)⟩
  ·rw [Jb_] at h;exact ⟨_,h,Imp.refl _⟩
theorem vM_:∀ {zs:List (Option Ty)} {l:List AV} {K:List AV->Prop},hp_ zs l K->∃ l',K l'/\∀ {I:Nat->Prop} {w:World} {m:M} {cs:List Value},z0_ I w m l cs->z0_ I w m l' cs
 | [],l,K,h=>⟨l,h,fun h=>h⟩
 | _ :: _,[],K,h=>⟨[],h,fun h=>h⟩
 | z :: zs,v :: r,K,h=>by
   have one:∃ v',(hp_ zs r fun r=>K (v' :: r))/\∀ {I:Nat->Prop} {w:World} {m:M} {cv:Value},RV0 I w m v cv->RV0 I w m v' cv:=by
    unfold hp_ at h
    split at h
    ·exact ⟨v,h,fun h=>h⟩
    ·split at h
     ·exact ⟨_,h,fun {I w m cv} hv=>⟨none,0,0,hv,rfl,Nat.le_refl _,Nat.zero_le _,fun h=>absurd h (by omega)⟩⟩
     ·exact ⟨v,h,fun h=>h⟩
   obtain ⟨v',h1,h2⟩:=one
   obtain ⟨r',h3,h4⟩:=vM_ h1
   refine ⟨v' :: r',h3,fun {I w m cs} hv=>?_⟩
   cases cs with
   | nil=>exact hv.elim
   | cons c cs=>exact ⟨h2 hv.1,h4 hv.2⟩
theorem bw_ {d:RD} {v:AV} {K:AV->Prop} (h:d.nil v K):∃ v',K v'/\Imp v v':=by
 unfold RD.nil at h
 split at h
 ·exact y7_ h
 ·split at h
  ·exact ⟨v,h,Imp.refl _⟩
  ·split at h
   ·obtain ⟨l',h1,h2⟩:=vM_ h
    exact ⟨_,h1,fun {I w m cv} hv=>by obtain ⟨cs,e,hv⟩:=hv;exact ⟨cs,e,h2 hv⟩⟩
   ·exact y7_ h
theorem vt_ {fr:zd_} {st0:zc_} {a:Act} {I:Nat->Prop} {m:M} (hf:wL_ I w m fr.get a) (hs0:HS X0 I0 w0 st0.get I w m):∀ {rs:List ResultVar} {rd:List RD} {st:zc_} {I1:Nat->Prop} {K:List AV->zc_->Prop},y6_ P rs rd=true->HS X0 I0 w0 st.get I1 w m->Evo I w m I1 w m->gv_ fr st0 st rd K->
 ∃ vs st' I2 cvs,K vs st'/\HS X0 I0 w0 st'.get I2 w m/\Evo I1 w m I2 w m/\RVs I2 w m vs cvs/\(vu_ rs a.tmps).run P w=.ok cvs w
 | [],[],st,I1,K,_,hs,hE,ev=>⟨[],st,I1,[],ev,hs,Evo.refl _ _ _,⟨rfl,fun i h=>by simp at h⟩,rfl⟩
 | r :: rs,d :: rd,st,I1,K,hok,hs,hE,ev=>by
   have one:∃ v cv,(d.nil v fun v=>match d.fz with
    | true=>frz1 st v fun v st=>gv_ fr st0 st rd fun vs st=>K (v :: vs) st
    | false=>gv_ fr st0 st rd fun vs st=>K (v :: vs) st)/\RV I w m v cv/\(Ue_ a.tmps r).run P w=.ok cv w/\y6_ P rs rd=true:=by
    cases r with
    | tmp t=>
      cases d with
      | cell=>cases hok
      | tmp u f ty'=>
        simp only [y6_,Bool.and_eq_true,beq_iff_eq] at hok
        obtain ⟨rfl,hok⟩:=hok
        exact ⟨_,_,ev,hf t,rfl,hok⟩
    | cell t ty=>
      cases d with
      | tmp=>cases hok
      | cell u q f zs=>
        simp only [y6_,Bool.and_eq_true,beq_iff_eq] at hok
        obtain ⟨⟨rfl,hn⟩,hok⟩:=hok
        simp only [gv_,Bu_] at ev
        have hv:=hf t
        split at ev
        ·rename_i i off hg
         rw [hg] at hv
         split at ev
         ·rename_i bl hl
          obtain ⟨v,hK,h⟩:=qM_ ev
          obtain ⟨b,cs,T,fz,h1,h2,_,h3⟩:=hs0.H.obj i _ hl
          obtain ⟨b',h4,h5,_⟩:=hv
          rw [h1] at h4;cases h4
          obtain ⟨cv,h6,h7⟩:=h (P:=P) (base:=0) hn h3 (Gz_ h2)
          rw [Nat.zero_add] at h7
          refine ⟨v,cv,hK,h6,?_,hok⟩
          have hlv:(loadVar ty ⟨b,off,none⟩).run P w=.ok cv w:=by simpa [Instr.loadAt,Instr.sureAddr] using h7
          show (do loadVar ty (<- asAddr (a.tmps.getD t undef)):Sem Value).run P w=_
          rw [h5]
          simp [asAddr,hlv]
         ·exact ev.elim
        ·exact ev.elim
   obtain ⟨v0,cv,ev0,hv0,hr,hok'⟩:=one
   obtain ⟨v,ev1,himp⟩:=bw_ ev0
   have hv:=himp hv0
   have fin:∀ {v' st1 I2},HS X0 I0 w0 (zc_.get st1) I2 w m->Evo I1 w m I2 w m->RV I2 w m v' cv->(gv_ fr st0 st1 rd fun vs st=>K (v' :: vs) st)->
    ∃ vs st' I2 cvs,K vs st'/\HS X0 I0 w0 (zc_.get st') I2 w m/\Evo I1 w m I2 w m/\RVs I2 w m vs cvs/\(vu_ (r :: rs) a.tmps).run P w=.ok cvs w:=fun {v' st1 I2} hs1 hE1 hv1 ev2=>by
    obtain ⟨vs,st',I3,cvs,k1,k2,k3,k4,k5⟩:=vt_ hf hs0 hok' hs1 (hE.trans hE1) ev2
    refine ⟨v' :: vs,st',I3,cv :: cvs,k1,k2,hE1.trans k3,⟨by simp [k4.1],fun i h1 h2=>?_⟩,?_⟩
    ·cases i with
     | zero=>exact k3.rv hv1
     | succ i=>exact k4.2 i (by simpa using h1) (by simpa using h2)
    ·unfold vu_ at k5 ⊢
     rw [List.mapM_cons,Sem.run_bind,hr,Result.andThen_ok,Sem.run_bind,k5]
     rfl
   cases hz:d.fz with
   | true=>
     rw [hz] at ev1
     obtain ⟨v',st1,I2,k1,k2,k3,k4⟩:=hL_ ev1 hs
     exact fin k2 k3 (k4 cv (hE.rv hv)) k1
   | false=>
     rw [hz] at ev1
     exact fin hs (Evo.refl _ _ _) (hE.rv hv) ev1
 | [],_ :: _,_,_,_,hok,_,_,_=>by cases hok
 | .tmp _ :: _,[],_,_,_,hok,_,_,_=>by cases hok
 | .cell _ _ :: _,[],_,_,_,hok,_,_,_=>by cases hok
def Ud_:List Value->Value
 | [v]=>v
 | vs=>.tuple vs.toArray
theorem gw_ {fn:Func} {tmps:Array Value} {vs:List Value} (h:(vu_ fn.results.toList tmps).run P w=.ok vs w):
 (results fn tmps).run P w=.ok (Ud_ vs) w:=by
 have e:(fn.results.mapM (Ue_ tmps)).run P w=.ok vs.toArray w:=by
  rw [Array.mapM_eq_mapM_toList]
  unfold vu_ at h
  rw [Sem.run_map,h];rfl
 have e2:results fn tmps=(do let vs <- fn.results.mapM (Ue_ tmps);pure (if h:vs.size=1 then vs[0] else .tuple vs)):=by
  unfold results
  congr 2
  try (funext x;cases x<;>rfl)
 rw [e2,Sem.run_bind,e,Result.andThen_ok,Sem.run_pure]
 match vs with
 | []=>rfl
 | [v]=>rfl
 | _ :: _ :: _=>simp [Ud_]
theorem bL_ {n:Nat} {fn:Func} {m0:M} {objs:List Obj} {rd:List RD} {fr:zd_} {st:zc_} {nx:Nat} {I:Nat->Prop} {m:M} {a:Act} {K:AV->List Obj->Prop} (hr:y6_ P fn.results.toList rd=true)
 (h:Sta n objs.length (fun b=>match b with | true=>XL m0 objs | false=>fun b=>∃ i o,objs[i]?=some o/\o.live=true/\m0.blk i=some b) I0 w0 m0 fr st nx I w m a) (hu:∀ i,m0.used i->i < objs.length) (hdj:∀ (i:Nat) (kn:Bool) (b j:Nat) (o:Obj),objs[i]?=some (Obj.reg true kn)->(m0.rg i).dp b->objs[j]?=some o->o.live=true->m0.blk j ≠ some b) (ev:finK objs.length rd K fr st):
 ∃ v cv objs' I' m',(results fn a.tmps).run P w=.ok cv w/\K v objs'/\Left I0 w0 m0 objs v cv objs' I' w m':=by
 unfold finK at ev
 obtain ⟨vs,st1,I1,cvs,k1,k2,k3,k4,k5⟩:=vt_ h.f h.hs hr h.hs (Evo.refl _ _ _) ev
 have hlive:(List.range vs.length).map (Vx_ 0 vs).get=vs:=by
  apply List.ext_getElem (by simp)
  intro i h1 h2
  simp only [List.getElem_map,List.getElem_range,WB_]
  rw [dif_pos (by simpa using h2)];simp
 have hcan:U1_ objs.length (List.range vs.length) (Vx_ 0 vs) st1 fun vs os=>match vs with
  | [v]=>post (K v os)
  | vs=>match Kj_ (fun v=>match v with | .fn _ _ _=>false | _=>true) vs with | true=>post (K (.tup vs) os) | false=>False:=by
  unfold U1_
  rw [hlive];exact k1
 have hS1:Sta cvs.length objs.length (fun b=>match b with | true=>XL m0 objs | false=>fun b=>∃ i o,objs[i]?=some o/\o.live=true/\m0.blk i=some b) I0 w0 m0 (Vx_ 0 vs) st1 nx I1 w m {tmps:=cvs.toArray,defers:=[]}:=by
  refine ⟨by simp,xm_.nil _ _ _,fun i=>?_,k2,h.same,h.kept,h.lt⟩
  rw [WB_]
  split
  ·rename_i hi
   have h1:i < vs.length:=by omega
   have h2:i < cvs.length:=by have:=k4.1;omega
   have:=k4.2 i h1 h2
   simp only [Nat.sub_zero,Array.getD_eq_getD_getElem?]
   simpa [h2] using this
  ·trivial
 obtain ⟨vs2,os,k6,m2,hS2,k7⟩:=kL_ hS1 hcan
 have hcv:((List.range vs.length).map fun i=>cvs.toArray.getD i undef)=cvs:=by
  apply List.ext_getElem (by simp [k4.1])
  intro i h1 h2
  simp [h2]
 simp only [hcv] at k7
 have main:∃ v,K v os/\RV I1 w m2 v (Ud_ cvs):=by
  match vs2,cvs,k7,k6 with
  | [v],[c],k7,k6=>exact ⟨v,Xp_ k6,Jj_ k7.1⟩
  | [],[],_,k6=>exact ⟨_,Xp_ k6,#[],rfl,trivial⟩
  | v :: v' :: l,c :: c' :: r,k7,k6=>
    simp only [] at k6
    split at k6
    ·rename_i hall
     refine ⟨_,Xp_ k6,(c :: c' :: r).toArray,rfl,?_⟩
     have conv:∀ {l:List AV} {r:List Value},(∀ v ∈ l,(match v with | .fn _ _ _=>false | _=>true)=true)->kn_ I1 w m2 l r->q5_ I1 w m2 l r:=fun {l}=>by
      induction l with
      | nil=>intro r _ h;cases r with | nil=>trivial | cons=>exact h.elim
      | cons v l ih=>
        intro r hn h
        cases r with
        | nil=>exact h.elim
        | cons c r=>
          refine ⟨?_,ih (fun v hv=>hn v (List.mem_cons_of_mem _ hv)) h.2⟩
          rcases QW_ h.1 with h' | ⟨f,l,c,_,_,rfl,_⟩
          ·exact h'
          ·have:=hn _ (List.mem_cons_self ..);cases this
     exact conv (WC_ hall) k7
    ·exact k6.elim
 obtain ⟨v,hK,hv⟩:=main
 refine ⟨v,Ud_ cvs,os,I1,m2,gw_ k5,hK,hv,?_,⟨fun b hb=>hS2.hs.Isub b hb,hS2.same,fun i hi=>(hS2.kept i (hu i hi)).1,fun i hi=>(hS2.kept i (hu i hi)).2⟩,hS2.lt,?_,hS2.hs.fr0,fun b hb=>hS2.hs.Inew b hb,fun i o b e hl hb=>?_,fun b hb=>hS2.hs.Ifz b hb⟩
 ·have:=hS2.hs.H
  rw [z6_] at this;exact this
 ·rcases Nat.eq_zero_or_pos objs.length with h0 | h0
  ·omega
  ·have:=hS2.lt _ (hS2.kept (objs.length - 1) (by omega)).1;omega
 ·have e':(KP_ 0 os).get i=some o:=by rw [z6_];exact e
  cases hm:o.mut with
  | true=>
    rcases hS2.hs.own i o b e' hm hb with h1 | h1
    ·rcases (h1:XL m0 objs b) with ⟨j,o',q1,q2,q3⟩ | ⟨j,kn,q1,q2⟩
     ·exact .inr ⟨j,o',q1,vP_ q2,fun _=>q2,q3⟩
     ·rcases hS2.hs.ownL i o b e' hl hb with ⟨k,o',r1,r2,r3⟩ | h2
      ·exact absurd r3 (hdj j kn b k o' q1 q2 r1 r2)
      ·exact .inl h2
    ·exact .inl h1
  | false=>
    rcases hS2.hs.ownL i o b e' hl hb with h1 | h1
    ·obtain ⟨j,o',q1,q2,q3⟩:=h1
     exact .inr ⟨j,o',q1,q2,fun h=>(by cases h),q3⟩
    ·exact .inl h1
def zo_ (P:Program) (fn:Func) (ir:IR) (rd:List RD):Bool:=
 match fn.body with
 | some c => zR_ P fn.ntmps ir c && y6_ P fn.results.toList rd && decide (fn.params.size + fn.nfree <= fn.ntmps) && !(fn.name == "runtime.NumGoroutine")
 | none=>false
theorem zaF_ {Γ:Env} {f:FuncId} {fn:Func} {ir:IR} {rd:List RD} {S:Sum} (hf:P.funcs[f]?=some fn) (hok:zo_ P fn ir rd=true) (hΓ:qi_ P Γ)
 (hlen:∀ args objs K,S args objs K->args.length=fn.params.size+fn.nfree)
 (hS:∀ args objs K,(∀ v ∈ args,v.wf1)->(∀ o ∈ objs,o.wf)->S args objs K->UV_ Γ ir rd args objs K):h6_ P f S:=by
 unfold zo_ at hok
 split at hok
 case h_2=>cases hok
 rename_i c hb
 simp only [Bool.and_eq_true,decide_eq_true_eq,Bool.not_eq_true'] at hok
 obtain ⟨⟨⟨hc,hr⟩,hp⟩,hname⟩:=hok
 refine ⟨⟨fn,hf,hname,by rw [hb];rfl⟩,?_⟩
 intro I w m args cargs objs K hH hA hu hSK
 have hev:=hS args objs K (vf_ hA) (fun o ho=>by
  obtain ⟨i,hi,rfl⟩:=List.mem_iff_getElem.1 ho
  exact GW_ (hH.obj i _ (List.getElem?_eq_getElem hi))) hSK
 have hl:=hlen _ _ _ hSK
 obtain ⟨hl',hget⟩:=Vz_ hA
 have hsz:cargs.size=args.length:=by rw [hl'];simp
 refine (callsIn_wide (n:=0)).1 (callsIn_of_wp_marks (F:=fen none) hf hb trivial ?_)
 have hsta:Sta fn.ntmps objs.length (fun b=>match b with | true=>XL m objs | false=>fun b=>∃ i o,objs[i]?=some o/\o.live=true/\m.blk i=some b) I w m (Vx_ 0 args) (KP_ 0 objs) objs.length I w m
  {tmps:=cargs++Array.replicate (fn.ntmps - cargs.size) undef,defers:=[]}:=by
  refine ⟨by simp;omega,xm_.nil _ _ _,fun i=>?_,⟨by rw [z6_];exact hH,Fr.refl _ _,fun _ h=>h,fun _ h=>.inl h,fun i o b e hm hb=>?_,fun i o b e hm hb=>?_,fun _ h=>.inl h,fun i kn b e hd=>?_⟩,fun _ _=>rfl,fun i hi=>⟨hH.lt i (by unfold ofL;rw [List.getElem?_eq_getElem hi];intro h;cases h),M.same_refl _ _⟩,hu⟩
  ·rw [WB_]
   split
   ·rename_i hi
    have hi1:i < args.length:=by omega
    have hi2:i < cargs.size:=by omega
    have:=hget i hi1 (by simpa using hi2)
    simp only [Nat.sub_zero]
    rw [Array.getD_eq_getD_getElem?,Array.getElem?_append_left hi2,Array.getElem?_eq_getElem hi2]
    exact Jj_ (by simpa using this)
   ·trivial
  ·rw [z6_] at e;exact .inl (.inl ⟨i,o,e,hm,hb⟩)
  ·rw [z6_] at e;exact .inl ⟨i,o,e,hm,hb⟩
  ·rw [z6_] at e;exact .inl (.inr ⟨i,kn,e,hd⟩)
 refine wpIn_mono (hR_ hΓ ir (r:=none) hc (.inl rfl) hJ_ hsta hev) ?_
 rintro e a' w' ⟨x,hx,fr',st',nx',I',m',hK,hS'⟩
 have done:finK objs.length rd K fr' st'->LeavesInM (fen none) 0 P fn a'.tmps (fun e w'=>∃ v cv objs' I' m',e=.returned cv/\K v objs'/\Left I w m objs v cv objs' I' w' m') a'.defers .returning w':=fun hr'=>by
  refine JK_ (a:=a') hH.Ilt (fun w'' a'' ht hS''=>?_) a'.defers w' a' rfl rfl hS'
  obtain ⟨v,cv,os,I2,m2,k1,k2,k3⟩:=bL_ hr hS'' hu (fun i kn b j o e hd e' hl=>(hH.gar i true kn b e hd).2.2.1 j o e' hl) hr'
  rw [ht] at k1
  exact ⟨cv,k1,v,cv,os,I2,m2,rfl,k2,k3⟩
 cases e<;>simp only [u2_,Option.some.injEq,reduceCtorEq] at hx<;>subst hx
 ·exact done hK
 ·exact hK.elim
 ·exact done hK
theorem zaE_ {Γ:Env} {f:FuncId} {fn:Func} {ir:IR} {rd:List RD} {S:Sum} (hf:P.funcs[f]?=some fn) (hok:zo_ P fn ir rd=true) (hΓ:qi_ P Γ) (hdet:Det S)
 (hlen:∀ args objs K,S args objs K->args.length=fn.params.size+fn.nfree)
 (hS:∀ args objs K,(∀ v ∈ args,v.wf1)->(∀ o ∈ objs,o.wf)->S args objs K->UV_ Γ ir rd args objs K):ze_ P f S:=
 have h:=zaF_ hf hok hΓ hlen hS
 ⟨h.1,hdet,h.2⟩
theorem zf_ (P:Program):qi_ P []:=fun x hx=>by cases hx
theorem zb_ {f:FuncId} {s:SumK} {Γ:Env} (h:Ji_ P f s) (h':qi_ P Γ):qi_ P ((f,s) :: Γ):=fun x hx=>by
 cases hx with
 | head=>exact h
 | tail _ hx=>exact h' x hx
end
end Go.Eng
