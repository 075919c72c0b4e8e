/- Parts of the proof: EOps7, EOps9. No condition. -/
import Derived.Test.YtodnkagabgglfaaGreatDoorWA04
import Derived.WalkKit
import Derived.MapFrom
namespace Go.Eng
set_option linter.unusedVariables false
set_option linter.unusedSimpArgs false
open Go.RowKit
section ops
variable {P:Program} {Γ:Env} {o:Oper} {L:List Opd} {fr:zg_} {F:List Nat} {wr:Bool} {st:zc_} {nx:Nat} {K:AV->zc_->Nat->Prop}
def Lies (w:World) (size:Nat) (ao:Option Addr) (cap:Nat):Prop:=
 (ao=none/\cap=0)\/∃ (b:Nat) (cs:Array Value) (T:TypeId) (fz:Nat × Nat),ao=some ⟨b,0,none⟩/\w.heap[b]?=some (.cells cs T fz)/\Xy_ fz cs.size/\cs.size=cap*size
def bc_ (P:Program) (w:World) (S:Sem (Array Value)) (news:List Value):Prop:=∀ w':World,(∀ a,w'.cell? a=w.cell? a)->S.run P w'=.ok news.toArray w'
theorem VQ_ {I:Nat->Prop} {w:World} {t:Ty} {ys:List t.den} {cv:Value} (h:Src I w t ys cv):∃ news:List Value,news.length=ys.length*t.size/\(∀ v ∈ news,v.oneCell'=true)/\(EA I w t ys fun k=>news[k]?)/\
 bc_ P w (Builtin.firstCells t.size ys.length cv) news/\(∀ w':World,(Builtin.lenOf cv).run P w'=.ok ys.length w'):=by
 obtain ⟨ao,len,cap,rfl,h1,h2,h3⟩:=h
 subst h1
 have hlen:∀ w':World,(Builtin.lenOf (.slice ao ys.length cap)).run P w'=.ok ys.length w':=fun _=>rfl
 rcases Nat.eq_zero_or_pos ys.length with h0 | h0
 ·have hys:ys=[]:=List.eq_nil_of_length_eq_zero h0
  subst hys
  refine ⟨[],by simp,fun v hv=>(by cases hv),EA.nil,fun w' _=>?_,hlen⟩
  cases ao with
  | none=>rfl
  | some q=>simp [Builtin.firstCells,loadCells,loadCellsFrom]
 ·obtain ⟨b,ofs,rfl,h4⟩:=h3 h0
  obtain ⟨news,g1,g2,g3,g4⟩:=VR_ h4
  refine ⟨news,g1,g3,g4,fun w' hw=>?_,hlen⟩
  have:=Zp_ (P:=P) (w:=w') (b:=b) (off:=ofs) news 0 #[] (fun j hj=>by rw [Nat.add_zero,hw];exact g2 j hj)
  simp only [Builtin.firstCells,loadCells]
  rw [<- g1,this];simp
structure Appended (w w':World) (size:Nat) (ao ao':Option Addr) (sLen n cap':Nat) (news:List Value):Prop where
 room:sLen+n<=cap'
 cap:cap'<=maxLen
 fr:Fr (fun b=>ao=some ⟨b,0,none⟩) w w'
 lies:(ao'=none/\cap'=0)\/∃ (b:Nat) (cs':Array Value) (T:TypeId) (fz:Nat × Nat),ao'=some ⟨b,0,none⟩/\w'.heap[b]?=some (.cells cs' T fz)/\Xy_ fz cs'.size/\cs'.size=cap'*size/\(w.heap.size<=b\/ao=some ⟨b,0,none⟩)/\
  (∀ b0 cs T fz,ao=some ⟨b0,0,none⟩->w.heap[b0]?=some (.cells cs T fz)->∀ k,k < sLen*size->cs'[k]?=cs[k]?)/\∀ k,k < news.length->cs'[sLen*size+k]?=news[k]?
theorem zbv_ {w:World} {size sLen n sCap:Nat} {ao:Option Addr} {news:List Value} (hcap:n+sLen<=sCap) (hcm:sCap<=maxLen) (hl:Lies w size ao sCap) (hn:news.length=n*size) (h1:∀ v ∈ news,v.oneCell'=true):
 ∃ w',((ao=none/\w'=w)\/∃ b,ao=some ⟨b,0,none⟩/\(storeCells ⟨b,sLen*size,none⟩ news).run P w=.ok () w')/\Appended w w' size ao ao sLen n sCap news:=by
 rcases hl with ⟨rfl,rfl⟩ | ⟨b,cs,T,fz,rfl,h2,h3,h4⟩
 ·exact ⟨w,.inl ⟨rfl,rfl⟩,by omega,hcm,Fr.refl _ _,.inl ⟨rfl,rfl⟩⟩
 ·have hfit:(sLen+n)*size<=cs.size:=by rw [h4];exact Nat.mul_le_mul_right _ (by omega)
  rw [Nat.add_mul] at hfit
  have hcs:cs.toList.length=cs.size:=Array.length_toList
  obtain ⟨w',r1,r2,r3,r4,r5,r6,r7⟩:=ZW_ (P:=P) news 0 (sLen*size) w cs h2 h3 (by omega) h1
  have hs:=Jt_ cs news (sLen*size) (by omega)
  have hget:∀ k,((cs.toList.take (sLen*size+0)++news++cs.toList.drop (sLen*size+0+news.length)).toArray)[k]?=if k < sLen*size then cs[k]? else if k < sLen*size+news.length then news[k - sLen*size]? else cs[k]?:=fun k=>by
   rw [List.getElem?_toArray,Nat.add_zero,yv_ _ _ _ (by omega)]
   simp only [Array.getElem?_toList]
  refine ⟨w',.inr ⟨b,rfl,r1⟩,by omega,hcm,⟨r5,r6,r7,by omega,fun k _ hk=>r4 k (fun e=>hk (by rw [e]))⟩,.inr ⟨b,_,T,fz,rfl,r2,by rw [hs];exact h3,by rw [hs];exact h4,.inr rfl,fun b0 cs0 T0 fz0 e e' k hk=>?_,fun k hk=>?_⟩⟩
  ·cases e
   rw [h2] at e';cases e'
   rw [hget,if_pos hk]
  ·rw [hget,if_neg (by omega),if_pos (by omega)];congr 1;omega
theorem yF_ (z:Array Value) (n:Nat):(Builtin.zeroCells z n).size=n*z.size:=by simp [Builtin.zeroCells]
theorem za2_ {w:World} {need old:Nat} {e:TypeId} (h:need<=maxLen):need<=grownCap w need old e/\grownCap w need old e<=maxLen:=by
 refine ⟨by simp [grownCap,Question.cut],?_⟩
 have hlt:=Nat.mod_lt (w.tape w.drawn (.appendCap need old e)) (show 0 < 2 ^ 63 - need by simp only [maxLen] at h;omega)
 simp only [grownCap,Question.cut,maxLen] at h ⊢
 omega
theorem zbw_ {w:World} {size sLen n sCap:Nat} {ao:Option Addr} {news olds:List Value} {e:TypeId} {z:Array Value} (hz:z.size=size) (h47:sLen+n<=maxLen) (hn:news.length=n*size) (ho:olds.length=sLen*size)
 (hold:∀ b0 cs T fz,ao=some ⟨b0,0,none⟩->w.heap[b0]?=some (.cells cs T fz)->∀ k,k < sLen*size->olds[k]?=cs[k]?):
 Appended w (w.drew.alloc (.cells (olds.toArray++news.toArray++Builtin.zeroCells z (grownCap w (sLen+n) sCap e - (sLen+n))) e)) size ao (some ⟨w.heap.size,0,none⟩) sLen n (grownCap w (sLen+n) sCap e) news:=by
 obtain ⟨h1,h2⟩:=za2_ (w:=w) (old:=sCap) (e:=e) h47
 refine ⟨h1,h2,⟨rfl,rfl,rfl,by simp,fun k hk _=>BO_ w.drew _ hk⟩,.inr ⟨w.heap.size,_,e,(0,0),rfl,QI_ w.drew _,Xy_.zero _,?_,.inl (Nat.le_refl _),fun b0 cs T fz hao hb k hk=>?_,fun k hk=>?_⟩⟩
 ·simp only [Array.size_append,List.size_toArray,yF_,hz,ho,hn]
  rw [<- Nat.add_mul,<- Nat.add_mul];congr 1;omega
 ·rw [Array.getElem?_append_left (by simp;omega),Array.getElem?_append_left (by simp;omega),List.getElem?_toArray]
  exact hold b0 cs T fz hao hb k hk
 ·rw [Array.getElem?_append_left (by simp;omega),Array.getElem?_append_right (by simp;omega),List.getElem?_toArray]
  congr 1;simp;omega
theorem Bj_ {w:World} {size sLen sCap:Nat} {ao:Option Addr} (hcap:sLen<=sCap) (hl:Lies w size ao sCap):∃ olds:List Value,olds.length=sLen*size/\bc_ P w (Builtin.firstCells size sLen (.slice ao sLen sCap)) olds/\
 ∀ b0 cs T fz,ao=some ⟨b0,0,none⟩->w.heap[b0]?=some (.cells cs T fz)->∀ k,k < sLen*size->olds[k]?=cs[k]?:=by
 rcases hl with ⟨rfl,rfl⟩ | ⟨b,cs,T,fz,rfl,h2,h3,h4⟩
 ·obtain rfl:sLen=0:=by omega
  exact ⟨[],by simp,fun w' _=>rfl,fun b0 cs T fz e=>by cases e⟩
 ·have hfit:sLen*size<=cs.size:=by rw [h4];exact Nat.mul_le_mul_right _ hcap
  refine ⟨cs.toList.take (sLen*size),by simp;omega,fun w' hw=>?_,fun b0 cs0 T0 fz0 e e' k hk=>?_⟩
  ·have:=Zp_ (P:=P) (w:=w') (b:=b) (off:=0) (cs.toList.take (sLen*size)) 0 #[] (fun j hj=>by
    simp only [List.length_take,Array.length_toList] at hj
    rw [hw,QF_ h2];simp)
   simp only [Builtin.firstCells,loadCells]
   rw [show (cs.toList.take (sLen*size)).length=sLen*size by simp;omega] at this
   rw [this];simp
  ·cases e
   rw [h2] at e';cases e'
   rw [List.getElem?_take,if_pos hk,Array.getElem?_toList]
theorem vj_ {t u e:TypeId} {i:TypeInfo} {v:Value} {w:World} {ty:TypeId} {ao:Option Addr} {sLen sCap n:Nat} {news:List Value} {src:Value} (ht:P.underlying t=some (.slice e)) (hu:(∃ e',P.underlying u=some (.slice e'))\/P.underlying u=some .string) (hi:P.info? e=some i) (hz:i.zero=some v) (hv:v.cells.size=i.size)
 (hcap:sLen<=sCap) (hcm:sCap<=maxLen) (hl:Lies w i.size ao sCap) (hn:news.length=n*i.size) (h1:∀ v ∈ news,v.oneCell'=true) (hy:bc_ P w (Builtin.firstCells i.size n src) news) (hlen:∀ w':World,(Builtin.lenOf src).run P w'=.ok n w')
 (hb:(sLen+n)*i.bytes<=140737488355328) (h47:sLen+n<=140737488355328) (hb0:0 < i.bytes):
 ∃ w' ao' cap',(Builtin.append_ #[t,u] ty #[.slice ao sLen sCap,src]).run P w=.ok (.slice ao' (sLen+n) cap') w'/\Appended w w' i.size ao ao' sLen n cap' news:=by
 rcases hu with ⟨e',hu⟩ | hu
 all_goals
  by_cases hroom:sLen+n<=sCap
  ·obtain ⟨w',r1,r2⟩:=zbv_ (P:=P) (w:=w) (size:=i.size) (sLen:=sLen) (n:=n) (by omega) hcm hl hn h1
   refine ⟨w',ao,sCap,?_,r2⟩
   rcases r1 with ⟨rfl,rfl⟩ | ⟨b,rfl,r1⟩
   ·simp [Builtin.append_,run_underlying ht,run_underlying hu,Zc_ hi,hlen,hroom,hy w' (fun _=>rfl)]
   ·simp [Builtin.append_,run_underlying ht,run_underlying hu,Zc_ hi,hlen,hroom,hy w (fun _=>rfl),Z8_,r1]
  ·obtain ⟨olds,g1,g2,g3⟩:=Bj_ (P:=P) hcap hl
   have hfit:=growslice_fits (need:=sLen+n) (old:=sCap) (bytes:=i.bytes) (by omega) hb
   have hfit':¬ (281474976710656 < Builtin.nextslicecap (sLen+n) sCap*i.bytes):=by omega
   have hb1:i.bytes ≠ 0:=by omega
   refine ⟨_,_,_,?_,zbw_ (z:=v.cells) (e:=e) (sCap:=sCap) hv (by unfold maxLen;omega) hn g1 g3⟩
   have y1:=g2 w.drew (fun _=>rfl)
   have y2:=hy w.drew (fun _=>rfl)
   simp [Builtin.append_,run_underlying ht,run_underlying hu,Zc_ hi,hlen,hroom,typeInfo,hi,hfit',hb1,Question.forced,y1,y2,kI_ hi hz,newRow,grownCap]
   congr 2
   apply Array.ext'
   simp [List.append_assoc]
theorem xq_ {I:Nat->Prop} {w w':World} {m:M} {t:Ty} {x0 ys:List t.den} {ao ao':Option Addr} {cap':Nat} {news:List Value} (hs:Qk_ I w w') (h:Appended w w' t.size ao ao' x0.length ys.length cap' news) (hn:news.length=ys.length*t.size) (he:EA I w t ys fun k=>news[k]?)
 (hold:x0=[]\/∃ (b:Nat) (cs:Array Value) (T:TypeId) (fz:Nat × Nat),ao=some ⟨b,0,none⟩/\w.heap[b]?=some (.cells cs T fz)/\EA I w t x0 fun k=>cs[k]?):
 ∃ blk:Option Nat,(∀ b,blk=some b->w.heap.size<=b\/ao=some ⟨b,0,none⟩)/\zV_ I w' (m.push nx blk cap' (x0++ys).length t.size) nx (.row false t (x0++ys))/\
   RV I w' (m.push nx blk cap' (x0++ys).length t.size) (.own nx) (.slice ao' (x0.length+ys.length) cap'):=by
 have hl:(x0++ys).length=x0.length+ys.length:=List.length_append
 have hr:=h.room
 rcases h.lies with ⟨rfl,rfl⟩ | ⟨b,cs',T,fz,rfl,h2,h3,h4,h5,h6,h7⟩
 ·refine ⟨none,fun b hb=>(by cases hb),⟨M.push_sz _ _ _ _ _ _,(M.push_len _ _ _ _ _ _).symm,by rw [M.push_cap];omega,by rw [M.push_cap];exact Nat.zero_le _,.inl ⟨M.push_blk _ _ _ _ _ _,M.push_cap _ _ _ _ _ _⟩⟩,⟨_,_,_,rfl,.inr rfl,?_,(M.push_cap _ _ _ _ _ _).symm,hr,h.cap,.inl ⟨M.push_blk _ _ _ _ _ _,rfl,rfl⟩⟩⟩
  rw [M.push_len,hl]
 ·refine ⟨some b,fun b' hb=>(by cases hb;exact h5),⟨M.push_sz _ _ _ _ _ _,(M.push_len _ _ _ _ _ _).symm,by rw [M.push_cap];omega,by rw [M.push_cap];exact h.cap,.inr ⟨b,cs',T,fz,M.push_blk _ _ _ _ _ _,h2,h3,by rw [M.push_cap];exact h4,?_⟩⟩,⟨_,_,_,rfl,.inr rfl,?_,(M.push_cap _ _ _ _ _ _).symm,hr,h.cap,.inr ⟨b,M.push_blk _ _ _ _ _ _,rfl⟩⟩⟩
  ·refine EA.append ?_ ((he.mono (fun _ h=>h) hs).congr fun k hk=>h7 k (by omega))
   rcases hold with rfl | ⟨b0,cs,T0,fz0,hao,hb0,h8⟩
   ·exact EA.nil
   ·exact (h8.mono (fun _ h=>h) hs).congr fun k hk=>h6 b0 cs T0 fz0 hao hb0 k hk
  ·rw [M.push_len,hl]
theorem zaD_ {i:Nat} {t:Ty} {x0 ys:List t.den} (hi:st.get i=some (.row false t x0)) (hF:i ∈ F) (hwr:wr=true) (hK:K (.own nx) ((nx,.row false t (x0++ys)) :: st.set i .dead) (nx+1))
 (h:∀ {I:Nat->Prop} {w:World} {m:M} {a:Act} {σ:Sto},FOn L fr I w m a->HRel I w m σ->(∀ i ∈ F,σ i=st.get i)->zV_ I w m i (.row false t x0)->∃ ao ao' cap' w' news,(execOp a.eval o).run P w=.ok (.value (.slice ao' (x0.length+ys.length) cap')) w'/\
   Appended w w' t.size ao ao' x0.length ys.length cap' news/\news.length=ys.length*t.size/\(EA I w t ys fun k=>news[k]?)/\RO m i ao x0.length (m.cap i)):MOK P o L fr F wr st nx K:=by
 refine ⟨.own nx,_,nx+1,[i,nx],Nat.le_succ _,hK,fun j hj=>?_,fun j hj=>?_,fun {X0 I0 w0 σ I w m a} hf hs ha hN=>?_⟩
 ·simp only [List.mem_cons,List.not_mem_nil,or_false,not_or] at hj
  rw [zc_.get_cons,if_neg hj.2,zc_.get_set,if_neg hj.1]
 ·simp only [List.mem_cons,List.not_mem_nil,or_false] at hj
  rcases hj with rfl | rfl
  ·exact .inl ⟨hwr,hF,by rw [hi];intro h;cases h⟩
  ·exact .inr ⟨Nat.le_refl _,Nat.lt_succ_self _⟩
 ·have hu:=hN nx (Nat.le_refl _) (Nat.lt_succ_self _)
  have hσ:σ i=some (.row false t x0):=by rw [ha i hF,hi]
  have hui:m.used i:=hs.H.lt i (by rw [hσ];intro h;cases h)
  have hne:i ≠ nx:=fun e=>hu (e ▸ hui)
  have hok:=hs.H.obj i _ hσ
  obtain ⟨ao,ao',cap',w',news,hr,hA,hn,he,hO⟩:=h hf hs.H ha hok
  have hblk:∀ b,ao=some ⟨b,0,none⟩->m.blk i=some b:=fun b e=>by
   obtain ⟨_,_,_,_,_,h6⟩:=hO
   rcases h6 with ⟨_,h6,_⟩ | ⟨b',h6,h7⟩
   ·rw [h6] at e;cases e
   ·rw [h7] at e;cases e;exact h6
  have hsame:Qk_ I w w':=fun b hb=>hA.fr.block b (hs.H.Ilt b hb) fun e=>hs.H.notI i _ b hσ rfl (hblk b e) hb
  have hold:x0=[]\/∃ (b:Nat) (cs:Array Value) (T:TypeId) (fz:Nat × Nat),ao=some ⟨b,0,none⟩/\w.heap[b]?=some (.cells cs T fz)/\EA I w t x0 fun k=>cs[k]?:=by
   obtain ⟨_,_,q3,_,q5⟩:=hok
   rcases q5 with ⟨_,q6⟩ | ⟨b,cs,T,fz,q6,q7,_,_,q8⟩
   ·exact .inl (List.eq_nil_of_length_eq_zero (by omega))
   ·obtain ⟨_,_,_,_,_,h6⟩:=hO
    rcases h6 with ⟨h6,_⟩ | ⟨b',h6,h7⟩
    ·rw [q6] at h6;cases h6
    ·rw [q6] at h6;cases h6
     exact .inr ⟨b,cs,T,fz,h7,q7,q8⟩
  obtain ⟨blk,g1,g2,g3⟩:=xq_ (nx:=nx) (m:=m) hsame hA hn he hold
  have hE:Evo I w m I w' (m.push nx blk cap' (x0++ys).length t.size):=⟨fun _ h=>h,hsame,M.push_le hu⟩
  have hget:∀ j,upd σ [i,nx] ((nx,Obj.row false t (x0++ys)) :: st.set i .dead) j=if j=nx then some (.row false t (x0++ys)) else if j=i then some .dead else σ j:=fun j=>by
   unfold upd
   simp only [List.mem_cons,List.not_mem_nil,or_false,zc_.get_cons,zc_.get_set]
   by_cases h1:j=nx
   ·simp [h1]
   ·by_cases h2:j=i
    ·simp [h2]
    ·simp [h1,h2]
  have hb:∀ b,blk=some b->w.heap.size<=b\/m.blk i=some b:=fun b e=>(g1 b e).imp id (hblk b)
  have hgn:∀ o',upd σ [i,nx] ((nx,Obj.row false t (x0++ys)) :: st.set i .dead) nx=some o'->o'=.row false t (x0++ys):=fun o' e=>by rw [hget,if_pos rfl] at e;exact (Option.some.inj e).symm
  have hgi:∀ o',upd σ [i,nx] ((nx,Obj.row false t (x0++ys)) :: st.set i .dead) i=some o'->o'=.dead:=fun o' e=>by rw [hget,if_neg hne,if_pos rfl] at e;exact (Option.some.inj e).symm
  refine kv_ hr ⟨g3,hs.step hE (fun j=>j=i\/j=nx) (fun j hj=>by rw [hget,if_neg (fun h=>hj (.inr h)),if_neg (fun h=>hj (.inl h))]) (hA.fr.weak fun b e=>⟨i,_,.inl rfl,hσ,rfl,hblk b e⟩) (fun b h=>.inl h) (fun b h=>Nat.lt_of_lt_of_le (hs.H.Ilt b h) hA.fr.size)
   (fun j o' hj e=>?_) (fun j o' b hj e hl hbb=>?_) (fun j k o' o'' b hj hk e e' hl hl' _ _=>?_) (fun j o' b hj e hm hbb hI=>?_) (fun j t' x' b hj e hbb=>?_),hE,fun j hj=>?_⟩
  ·rcases hj with rfl | rfl
   ·cases hgi o' e;exact ⟨.inl hui,trivial⟩
   ·cases hgn o' e;exact ⟨.inr rfl,g2⟩
  ·rcases hj with rfl | rfl
   ·cases hgi o' e;cases hl
   ·rw [M.push_blk] at hbb
    exact (hb b hbb).imp id fun h=>⟨i,_,.inl rfl,hσ,rfl,fun _=>rfl,h⟩
  ·rcases hj with rfl | rfl<;>rcases hk with rfl | rfl
   ·rfl
   ·cases hgi o' e;cases hl
   ·cases hgi o'' e';cases hl'
   ·rfl
  ·rcases hj with rfl | rfl
   ·cases hgi o' e;cases hm
   ·rw [M.push_blk] at hbb
    rcases hb b hbb with h | h
    ·have:=hs.H.Ilt b hI;omega
    ·exact hs.H.notI i _ b hσ rfl h hI
  ·rcases hj with rfl | rfl
   ·cases hgi _ e
   ·cases hgn _ e
  ·rcases hj with h | h
   ·exact .inl h
   ·subst h;exact .inr ⟨Nat.le_refl _,Nat.lt_succ_self _⟩
theorem uh_ {t:Ty} {v:AV} {K':List t.den->Prop} (ev:xo_ t st v K'):v.ids0=v.ids/\∀ {I:Nat->Prop} {w:World} {m:M} {cv:Value},RV I w m v cv->RV0 I w m v cv:=by
 unfold xo_ at ev
 cases v<;>first | exact ⟨rfl,fun h=>h⟩ | exact ev.elim
theorem bs_ {I:Nat->Prop} {w:World} {m:M} {i:Nat} {t:Ty} {x:List t.den} {fz:Bool} {ao:Option Addr} {len cap:Nat} (h:zV_ I w m i (.row fz t x)) (hO:RO m i ao len cap):len=x.length/\cap=m.cap i/\len<=cap/\cap<=maxLen/\Lies w t.size ao cap:=by
 obtain ⟨q1,q2,q3,q4,q5⟩:=h
 obtain ⟨h1,h2,h3,h4,h5,h6⟩:=hO
 refine ⟨by omega,h3,h4,h5,?_⟩
 rcases q5 with ⟨q5,q6⟩ | ⟨b,cs,T,fz,q6,q7,q8,q9,_⟩
 ·rcases h6 with ⟨_,h6,h7⟩ | ⟨b',h6,h7⟩
  ·exact .inl ⟨h6,h7⟩
  ·rw [q5] at h6;cases h6
 ·rcases h6 with ⟨h6,_⟩ | ⟨b',h6,h7⟩
  ·rw [q6] at h6;cases h6
  ·rw [q6] at h6;cases h6
   exact .inr ⟨b,cs,T,fz,h7,q7,q8,by rw [h3];exact q9⟩
theorem H9_ {t:Ty} {bytes:Nat} {x' y':Opd} (hok:zw_ P o.op (.append t bytes x' y')=true) (ev:zu_ Γ (.append t bytes x' y') fr st nx K):MOK P o [x',y'] fr (Zt_ [x',y'] fr) true st nx K:=by
 simp only [zu_,zc_.setK_eq] at ev
 simp only [zw_] at hok
 split at hok
 ·rename_i args ts ho
  simp only [Bool.and_eq_true] at hok
  obtain ⟨h1,h2⟩:=hok
  obtain ⟨x,y,rfl,hx,hy⟩:=vg_ h1
  split at h2
  ·rename_i tt u hts
   simp only [Bool.and_eq_true] at h2
   obtain ⟨h2,h3⟩:=h2
   obtain ⟨e',hu⟩:=Wj_ h3
   split at h2
   ·rename_i e he
    have he:=q3_ he
    simp only [Bool.and_eq_true,decide_eq_true_eq] at h2
    obtain ⟨⟨⟨⟨h4,h5⟩,h6⟩,h7⟩,h8⟩:=h2
    obtain ⟨i,hi,hsz⟩:=qz_ h4
    obtain ⟨i',hi',hby⟩:=vb_ h5
    rw [hi] at hi' h8;cases hi'
    simp only at h8
    split at h8
    ·rename_i v hv
     simp only [beq_iff_eq] at h8
     have hts':ts=#[tt,u]:=Array.toList_inj.1 hts
     subst hts'
     have hex:∀ a:Act,execOp a.eval o=(do pure (.value (<- Builtin.append_ #[tt,u] o.type #[a.eval x,a.eval y]))):=fun a=>by rw [q4_ ho];simp [builtin]
     obtain ⟨ys,ev1,hd⟩:=J1_ ev
     obtain ⟨di1,di2⟩:=uh_ ev
     have hyF:∀ j ∈ (y'.ev fr).ids0,j ∈ Zt_ [x',y'] fr:=fun j hj=>zz_ Z6_ rfl j (by rw [<- di1];exact hj)
     split at ev1
     ·-- onto nil
      rename_i hb
      obtain ⟨⟨n1,n2⟩,hK⟩:=zj_ ev1
      refine k4_ hK (fun _ _ h=>by cases h) fun {I w m a σ} hf hH ha hN=>?_
      have hv1:=hf.rv Zs_ hx;rw [hb] at hv1
      have hv1:a.eval x=.slice none 0 0:=hv1
      have hsrc:=hd hH (fun j hj=>ha j (hyF j hj)) (di2 (hf.rv Z6_ hy))
      obtain ⟨news,g1,g2,g3,g4,g5⟩:=VQ_ (P:=P) hsrc
      obtain ⟨w',ao',cap',r1,r2⟩:=vj_ (ty:=o.type) (sLen:=0) (sCap:=0) (ao:=none) (src:=a.eval y) he (.inl ⟨e',hu⟩) hi hv (by rw [hsz];exact h8) (Nat.le_refl _) (Nat.zero_le _) (.inl ⟨rfl,rfl⟩) (by rw [hsz];exact g1) g2 (by rw [hsz];exact g4) g5 (by rw [hby,Nat.zero_add];exact n1) (by omega) (by omega)
      rw [hsz] at r2
      have hfr:Fr (fun _=>False) w w':=r2.fr.weak fun b e=>by cases e
      have hrow:=fun hs:Qk_ I w w'=>xq_ (nx:=nx) (m:=m) (x0:=([]:List t.den)) (ys:=ys) hs r2 g1 g3 (.inl rfl)
      have hsm:Qk_ I w w':=fun b hb=>hfr.block b (hH.Ilt b hb) id
      obtain ⟨blk,k1,k2,k3⟩:=hrow hsm
      refine ⟨_,hex a,.slice ao' (0+ys.length) cap',w',blk,cap',ys.length,t.size,by rw [hv1];exact r1,hfr,fun b hb=>?_,fun _=>k2,fun _=>k3⟩
      rcases k1 b hb with h | h
      ·exact h
      ·cases h
     ·-- onto a row
      rename_i j hb
      split at ev1
      ·rename_i t' x0' hl
       obtain ⟨rfl,ev2⟩:=ZT_ ev1
       obtain ⟨⟨n1,n2⟩,hK⟩:=zj_ ev2
       refine zaD_ (i:=j) (x0:=x0') hl (zz_ Zs_ hb j (by simp [AV.ids,AV.ids1,AV.ids0])) rfl hK fun {I w m a σ} hf hH ha hok=>?_
       have hv1:=hf.rv Zs_ hx;rw [hb] at hv1
       obtain ⟨ao,len,cap,e1,hO⟩:=hv1
       obtain ⟨l1,l2,l3,l4,l5⟩:=bs_ hok hO
       subst l1;subst l2
       have hsrc:=hd hH (fun j hj=>ha j (hyF j hj)) (di2 (hf.rv Z6_ hy))
       obtain ⟨news,g1,g2,g3,g4,g5⟩:=VQ_ (P:=P) hsrc
       obtain ⟨w',ao',cap',r1,r2⟩:=vj_ (ty:=o.type) (src:=a.eval y) he (.inl ⟨e',hu⟩) hi hv (by rw [hsz];exact h8) l3 l4 (by rw [hsz];exact l5) (by rw [hsz];exact g1) g2 (by rw [hsz];exact g4) g5 (by rw [hby];exact n1) n2 (by omega)
       rw [hsz] at r2
       exact ⟨ao,ao',cap',w',news,Ko_ (hex a) (by rw [e1];exact r1),r2,g1,g3,hO⟩
      ·exact ev1.elim
     ·exact ev1.elim
    ·cases h8
   ·cases h2
  ·cases h2
 ·cases hok
end ops
section ops
variable {P:Program} {Γ:Env} {o:Oper} {L:List Opd} {fr:zg_} {F:List Nat} {wr:Bool} {st:zc_} {nx:Nat} {K:AV->zc_->Nat->Prop}
theorem zcf_ {x:Operand} (h:Hy_ x=true) (a:Act):a.eval x=.slice none 0 0:=by
 unfold Hy_ at h
 split at h
 ·rfl
 ·cases h
theorem Hw_ {t:Ty} (hok:zw_ P o.op (.nilrow t)=true) (ev:zu_ Γ (.nilrow t) fr st nx K):MOK P o [] fr F wr st nx K:=by
 simp only [zu_] at ev
 simp only [zw_] at hok
 have hop:∃ x,Hy_ x=true/\∀ a:Act,execOp a.eval o=(do pure (.value (<- (pure (a.eval x):Sem Value)))):=by
  split at hok
  ·rename_i x ho;exact ⟨x,hok,fun a=>by unfold execOp;rw [ho];rfl⟩
  ·rename_i x ho;exact ⟨x,hok,fun a=>by unfold execOp;rw [ho];rfl⟩
  ·cases hok
 obtain ⟨x,hx,hex⟩:=hop
 refine k4_ ev (fun _ _ h=>by cases h) fun {I w m a σ} hf hH ha hu=>⟨_,hex a,.slice none 0 0,w,none,0,0,t.size,by rw [zcf_ hx a];rfl,Fr.refl _ _,fun b hb=>(by cases hb),fun _=>?_,fun _=>?_⟩
 ·exact ⟨M.push_sz _ _ _ _ _ _,(M.push_len _ _ _ _ _ _).symm,Nat.zero_le _,by rw [M.push_cap];exact Nat.zero_le _,.inl ⟨M.push_blk _ _ _ _ _ _,M.push_cap _ _ _ _ _ _⟩⟩
 ·exact ⟨none,0,0,rfl,.inr rfl,(M.push_len _ _ _ _ _ _).symm,(M.push_cap _ _ _ _ _ _).symm,Nat.le_refl _,Nat.zero_le _,.inl ⟨M.push_blk _ _ _ _ _ _,rfl,rfl⟩⟩
theorem zcl_ {t k e:TypeId} {ts:Array TypeId} {ty:TypeId} {b:Nat} {es:Array MapEntry} {c:Nat} {w:World} (h0:ts[0]?=some t) (ht:P.underlying t=some (.map k e)) (hb:w.heap[b]?=some (.map es c)):
 (Builtin.len_ ts ty #[.map (some b)]).run P w=.ok (.int .i64 es.size) w:=by
 simp [Builtin.len_,h0,run_underlying ht,goInt,MapKept.run_getObj_map hb]
theorem zaE_ {x':Opd} (hok:zw_ P o.op (.mlen x')=true) (ev:zu_ Γ (.mlen x') fr st nx K):MOK P o [x'] fr (Zt_ [x'] fr) wr st nx K:=by
 simp only [zu_] at ev
 simp only [zw_] at hok
 split at hok
 ·rename_i args ts ho
  simp only [Bool.and_eq_true] at hok
  obtain ⟨h1,h2⟩:=hok
  obtain ⟨x,rfl,hx⟩:=vh_ h1
  split at h2
  ·rename_i t ht
   obtain ⟨k,e,he⟩:=YF_ h2
   split at ev
   ·rename_i i hb
    split at ev
    ·rename_i q kt vt l hl
     obtain ⟨hn,ev⟩:=zj_ ev
     refine zQ_ ev fun {I w m a σ} hf hH ha=>⟨Builtin.len_ ts o.type #[a.eval x],by rw [q4_ ho];simp [builtin],.int .i64 l.length,?_,?_⟩
     ·exact Zm_ (kA_ (by unfold maxLen;omega))
     ·have hi:σ i=some (.map q kt vt l):=by rw [ha i (zz_ qF_ hb i (by simp [AV.ids,AV.ids1,AV.ids0])),hl]
      obtain ⟨b,es,c,q1,q2,q3⟩:=hH.obj i _ hi
      have hv:=hf.rv qF_ hx;rw [hb] at hv
      obtain ⟨b',q4,q5,_⟩:=hv
      rw [q1] at q4;cases q4
      rw [q5,zcl_ ht he q2,q3.1]
    ·exact ev.elim
   ·exact ev.elim
  ·cases h2
 ·cases hok
theorem yK_ {I:Nat->Prop} {w:World} {t:Ty} {ys:List t.den} {cv:Value} (h:Src I w t ys cv) (n:Nat) (hn:n<=ys.length):∃ news:List Value,news.length=n*t.size/\(∀ v ∈ news,v.oneCell'=true)/\(EA I w t (ys.take n) fun k=>news[k]?)/\
 (Builtin.firstCells t.size n cv).run P w=.ok news.toArray w/\(Builtin.lenOf cv).run P w=.ok ys.length w:=by
 obtain ⟨ao,len,cap,rfl,h1,h2,h3⟩:=h
 subst h1
 have hl:(ys.take n).length=n:=by simp;omega
 rcases Nat.eq_zero_or_pos n with h0 | h0
 ·subst h0
  refine ⟨[],by simp,fun v hv=>(by cases hv),by simpa using EA.nil,?_,rfl⟩
  cases ao with
  | none=>rfl
  | some q=>simp [Builtin.firstCells,loadCells,loadCellsFrom]
 ·obtain ⟨b,ofs,rfl,h4⟩:=h3 (by omega)
  obtain ⟨news,g1,g2,g3,g4⟩:=VR_ (h4.take n)
  rw [hl] at g1
  refine ⟨news,g1,g3,g4,?_,rfl⟩
  have:=Zp_ (P:=P) (w:=w) (b:=b) (off:=ofs) news 0 #[] (fun j hj=>by rw [Nat.add_zero,g2 j hj])
  simp only [Builtin.firstCells,loadCells]
  rw [<- g1,this];simp
theorem hP_ {I:Nat->Prop} {w:World} {s:ByteArray} (n:Nat) (hn:n<=s.size):∃ news:List Value,news.length=n/\(∀ v ∈ news,v.oneCell'=true)/\(EA I w (.int .u8) ((zE_ s).take n) fun k=>news[k]?)/\
 (Builtin.firstCells 1 n (.string s)).run P w=.ok news.toArray w:=by
 refine ⟨((zE_ s).take n).map (Value.int .u8),by simp [Zi_];omega,fun v hv=>?_,fun i hi=>?_,?_⟩
 ·obtain ⟨x,_,rfl⟩:=List.mem_map.1 hv;rfl
 ·have hm:((zE_ s).take n)[i] ∈ zE_ s:=List.mem_of_mem_take (List.getElem_mem hi)
  have hr:0<=((zE_ s).take n)[i]/\((zE_ s).take n)[i]<=255:=by
   unfold zE_ at hm
   obtain ⟨b,_,hb⟩:=List.mem_map.1 hm
   have:=b.toNat_lt
   unfold zE_
   constructor<;>(rw [<- hb];omega)
  refine ⟨[.int .u8 ((zE_ s).take n)[i]],⟨rfl,by simpa [inK,IntKind.min,IntKind.max,IntKind.signed,IntKind.bits] using hr⟩,fun j hj=>?_⟩
  have:j=0:=by simp at hj;omega
  subst this
  simp only [Ty.size,Nat.mul_one,Nat.add_zero,List.getElem_cons_zero]
  rw [List.getElem?_map,List.getElem?_eq_getElem hi];rfl
 ·have e:((s.extract 0 n).data.map fun b=>Value.int .u8 b.toNat)=(((zE_ s).take n).map (Value.int .u8)).toArray:=by
   apply Array.ext'
   have h:=zbU_ (s:=s) (A:=0) (B:=n) hn
   rw [List.drop_zero] at h
   rw [<- h]
   simp [zE_]
   rfl
  simp only [Builtin.firstCells]
  rw [e];rfl
theorem hq_ {I:Nat->Prop} {w:World} {m:M} {i:Nat} {t:Ty} {x ys:List t.den} {ao:Option Addr} {off n k:Nat} {news:List Value} (hok:zV_ I w m i (.row false t x)) (ha:k=0\/∃ b,m.blk i=some b/\ao=some ⟨b,off*t.size,none⟩) (hk:k<=n) (hn:off+n<=x.length) (hy:k<=ys.length)
 (h1:news.length=k*t.size) (h2:∀ v ∈ news,v.oneCell'=true) (h3:EA I w t (ys.take k) fun j=>news[j]?):
 ∃ w',(match ao with | some a=>storeCells a news | none=>pure ()).run P w=.ok () w'/\Fr (fun b=>m.blk i=some b) w w'/\(Qk_ I w w'->zV_ I w' m i (.row false t (x.take off++ys.take k++x.drop (off+k)))):=by
 rcases Nat.eq_zero_or_pos k with h0 | h0
 ·subst h0
  have hnews:news=[]:=List.eq_nil_of_length_eq_zero (by simpa using h1)
  subst hnews
  refine ⟨w,by cases ao<;>rfl,Fr.refl _ _,fun _=>?_⟩
  simpa using hok
 ·obtain ⟨b,hb,rfl⟩:=ha.resolve_left (by omega)
  obtain ⟨q1,q2,q3,q4,q5⟩:=hok
  rcases q5 with ⟨q5,_⟩ | ⟨b',cs,T,fz,q5,q6,q7,q8,q9⟩
  ·rw [hb] at q5;cases q5
  ·rw [hb] at q5;cases q5
   have q9:EA I w t x fun k=>cs[k]?:=q9
   have hcs:cs.toList.length=cs.size:=Array.length_toList
   have hfit:(off+k)*t.size<=cs.size:=by rw [q8];exact Nat.mul_le_mul_right _ (by omega)
   rw [Nat.add_mul] at hfit
   obtain ⟨w',r1,r2,r3,r4,r5,r6,r7⟩:=ZW_ (P:=P) news 0 (off*t.size) w cs q6 q7 (by omega) h2
   have hsize:=Jt_ cs news (off*t.size) (by omega)
   have hget:∀ j,((cs.toList.take (off*t.size+0)++news++cs.toList.drop (off*t.size+0+news.length)).toArray)[j]?=if j < off*t.size then cs[j]? else if j < off*t.size+news.length then news[j - off*t.size]? else cs[j]?:=fun j=>by
    rw [List.getElem?_toArray,Nat.add_zero,yv_ _ _ _ (by omega)]
    simp only [Array.getElem?_toList]
   have hl1:(x.take off).length=off:=by simp;omega
   have hl2:(ys.take k).length=k:=by simp;omega
   have hl3:(x.take off++ys.take k).length=off+k:=by rw [List.length_append,hl1,hl2]
   have hl4:(x.take off++ys.take k++x.drop (off+k)).length=x.length:=by rw [List.length_append,hl3,List.length_drop];omega
   refine ⟨w',r1,⟨r5,r6,r7,by omega,fun j _ hj=>r4 j (fun e=>hj (by rw [e];exact hb))⟩,fun hs=>⟨q1,by rw [hl4];exact q2,by rw [hl4];exact q3,q4,.inr ⟨b,_,T,fz,hb,r2,by rw [hsize];exact q7,by rw [hsize];exact q8,?_⟩⟩⟩
   refine EA.append (EA.append (((q9.take off).mono (fun _ h=>h) hs).congr fun j hj=>?_) ((h3.mono (fun _ h=>h) hs).congr fun j hj=>?_)) (((q9.drop (off+k)).mono (fun _ h=>h) hs).congr fun j hj=>?_)
   ·rw [hl1] at hj
    show ((cs.toList.take (off*t.size+0)++news++cs.toList.drop (off*t.size+0+news.length)).toArray)[j]?=_
    rw [hget,if_pos hj]
   ·rw [hl2] at hj
    show ((cs.toList.take (off*t.size+0)++news++cs.toList.drop (off*t.size+0+news.length)).toArray)[(x.take off).length*t.size+j]?=_
    rw [hget,hl1,if_neg (by omega),if_pos (by omega)];congr 1;omega
   ·show ((cs.toList.take (off*t.size+0)++news++cs.toList.drop (off*t.size+0+news.length)).toArray)[(x.take off++ys.take k).length*t.size+j]?=_
    rw [hget,hl3,Nat.add_mul,if_neg (by omega),if_neg (by omega)]
theorem ui_ {I:Nat->Prop} {w:World} {m:M} {k:IntKind} {ys:List Int}:∀ (os:List Int) (j:Nat) (c:List Value),c.length=os.length->(∀ q (hq:q < os.length),c[q]?=some (.int k (if j+q < ys.length then ys.getD (j+q) 0 else os[q])))->(∀ n ∈ os,inK k n)->(∀ n ∈ ys,inK k n)->Za_ I w m (uj_ k ys j os) c
 | [],j,c,h,_,_,_=>by
   have hc:c=[]:=List.eq_nil_of_length_eq_zero (by simpa using h)
   rw [hc];exact trivial
 | o :: r,j,c,h,hc,ho,hy=>by
   cases c with
   | nil=>simp at h
   | cons v c=>
     have h0:=hc 0 (by simp)
     simp only [List.getElem?_cons_zero,Nat.add_zero,Option.some.injEq,List.getElem_cons_zero] at h0
     refine ⟨⟨h0,?_⟩,ui_ r (j+1) c (by simpa using h) (fun q hq=>?_) (fun n hn=>ho n (by simp [hn])) hy⟩
     ·split
      ·rename_i hlt
       rw [List.getD_eq_getElem?_getD,List.getElem?_eq_getElem hlt]
       exact hy _ (List.getElem_mem hlt)
      ·exact ho o (by simp)
     ·have:=hc (q+1) (by simp;omega)
      simp only [List.getElem?_cons_succ,List.getElem_cons_succ] at this
      rw [this,show j+(q+1)=j+1+q by omega]
theorem gC_ {I:Nat->Prop} {w:World} {k:IntKind} {ys:List Int} {f:Nat->Option Value} (h:EA I w (.int k) ys f):(∀ n ∈ ys,inK k n)/\∀ j (hj:j < ys.length),f j=some (.int k ys[j]):=by
 have key:∀ j (hj:j < ys.length),inK k ys[j]/\f j=some (.int k ys[j]):=fun j hj=>by
  obtain ⟨es,h1,h2⟩:=h j hj
  obtain ⟨rfl,h3⟩:=h1
  have:=h2 0 (by simp)
  simp only [Ty.size,Nat.mul_one,Nat.add_zero,List.getElem_cons_zero] at this
  exact ⟨h3,this⟩
 refine ⟨fun n hn=>?_,fun j hj=>(key j hj).2⟩
 obtain ⟨j,hj,rfl⟩:=List.mem_iff_getElem.1 hn
 exact (key j hj).1
theorem hR_ {t:Ty} {st:zc_} {v:AV} {K:List t.den->Prop} (ev:srcK t st v K):v.ids0=v.ids/\∃ ys,K ys/\
 ∀ {I:Nat->Prop} {w:World} {m:M} {σ:Sto} {cv:Value},HRel I w m σ->(∀ i ∈ v.ids0,σ i=st.get i)->RV I w m v cv->
   ys.length<=maxLen/\(Builtin.lenOf cv).run P w=.ok ys.length w/\∀ n ≤ ys.length,∃ news:List Value,news.length=n*t.size/\(∀ v ∈ news,v.oneCell'=true)/\(EA I w t (ys.take n) fun k=>news[k]?)/\(Builtin.firstCells t.size n cv).run P w=.ok news.toArray w:=by
 unfold srcK at ev
 split at ev
 ·rename_i l
  obtain ⟨rfl,ev⟩:=ZT_ ev
  refine ⟨rfl,l,ev,fun {I w m σ cv} hH ha hv=>?_⟩
  obtain ⟨s,rfl,rfl,hs⟩:=hv
  refine ⟨by rw [Zi_];exact hs,by rw [Zi_];rfl,fun n hn=>?_⟩
  rw [Zi_] at hn
  obtain ⟨news,g1,g2,g3,g4⟩:=hP_ (P:=P) (I:=I) (w:=w) n hn
  exact ⟨news,by simpa [Ty.size] using g1,g2,g3,g4⟩
 ·obtain ⟨ys,hK,h⟩:=J1_ ev
  obtain ⟨d1,d2⟩:=uh_ ev
  refine ⟨d1,ys,hK,fun {I w m σ cv} hH ha hv=>?_⟩
  have hs:=h hH ha (d2 hv)
  have hlen:ys.length<=maxLen:=by obtain ⟨_,_,_,_,e,hl,_⟩:=hs;omega
  refine ⟨hlen,?_,fun n hn=>?_⟩
  ·obtain ⟨_,_,_,_,_,k⟩:=yK_ (P:=P) hs 0 (Nat.zero_le _);exact k
  ·obtain ⟨news,g1,g2,g3,g4,_⟩:=yK_ (P:=P) hs n hn
   exact ⟨news,g1,g2,g3,g4⟩
theorem zbh_ {t:Ty} {x' y':Opd} (hok:zw_ P o.op (.copy t x' y')=true) (ev:zu_ Γ (.copy t x' y') fr st nx K):MOK P o [x',y'] fr (Zt_ [x',y'] fr) true st nx K:=by
 simp only [zu_,zc_.setK_eq,ZH_] at ev
 simp only [zw_] at hok
 split at hok
 ·rename_i args ts ho
  simp only [Bool.and_eq_true] at hok
  obtain ⟨h1,h2⟩:=hok
  obtain ⟨x,y,rfl,hx,hy⟩:=vg_ h1
  split at h2
  ·rename_i tt ht
   split at h2
   ·rename_i e he
    have he:=q3_ he
    simp only [Bool.and_eq_true,decide_eq_true_eq] at h2
    obtain ⟨h4,hpos⟩:=h2
    obtain ⟨i0,hi0,hsz⟩:=qz_ h4
    have hex:∀ a:Act,execOp a.eval o=(do pure (.value (<- Builtin.copy_ ts o.type #[a.eval x,a.eval y]))):=fun a=>by rw [q4_ ho];simp [builtin]
    obtain ⟨d1,ys,ev1,hd⟩:=hR_ (P:=P) ev
    have hyF:∀ j ∈ (y'.ev fr).ids0,j ∈ Zt_ [x',y'] fr:=fun j hj=>zz_ Z6_ rfl j (by rw [<- d1];exact hj)
    have hrun:∀ {a:Act} {w w':World} {ao:Option Addr} {len cap:Nat} {news:List Value},a.eval x=.slice ao len cap->(Builtin.lenOf (a.eval y)).run P w=.ok ys.length w->(Builtin.firstCells t.size (min ys.length len) (a.eval y)).run P w=.ok news.toArray w->(match ao with | some a=>storeCells a news | none=>pure ()).run P w=.ok () w'->
     (execOp a.eval o).run P w=.ok (.value (.int .i64 (min ys.length len:Nat))) w':=fun {a w w' ao len cap news} q1 q2 q3 q4=>by
     refine Ko_ (hex a) ?_
     have q3':(Builtin.firstCells i0.size (Nat.min ys.length len) (a.eval y)).run P w=.ok news.toArray w:=by rw [hsz];exact q3
     cases ao with
     | none=>
       have q4':w=w':=by cases q4;rfl
       subst q4'
       simp [Builtin.copy_,ht,q1,run_underlying he,q2,Zc_ hi0,q3',goInt]
     | some ad=>
       have q4':(storeCells ad news).run P w=.ok () w':=q4
       simp [Builtin.copy_,ht,q1,run_underlying he,q2,Zc_ hi0,q3',q4',goInt]
    split at ev1
    ·-- a whole row
     rename_i i hb
     split at ev1
     ·rename_i t' x0 hl
      obtain ⟨rfl,ev2⟩:=ZT_ ev1
      refine YA_ (QC_ (ob:=.row false t' x0) (ob':=.row false t' (ys.take x0.length++x0.drop ys.length)) hl rfl rfl (zz_ Zs_ hb i (by simp [AV.ids,AV.ids1,AV.ids0])) rfl ev2 fun {I w m a σ} _ hf hH ha=>?_)
      have hi:σ i=some (.row false t' x0):=by rw [ha i (zz_ Zs_ hb i (by simp [AV.ids,AV.ids1,AV.ids0])),hl]
      have hv:=hf.rv Zs_ hx;rw [hb] at hv
      obtain ⟨ao,len,cap,e1,hO⟩:=hv
      have hok:=hH.obj i _ hi
      obtain ⟨l1,l2,l3,l4,l5⟩:=bs_ hok hO
      obtain ⟨g0,g1,g2⟩:=hd hH (fun j hj=>ha j (hyF j hj)) (hf.rv Z6_ hy)
      obtain ⟨news,n1,n2,n3,n4⟩:=g2 (min ys.length len) (Nat.min_le_left _ _)
      obtain ⟨_,_,_,_,_,h6⟩:=hO
      obtain ⟨w',r1,r2,r3⟩:=hq_ (P:=P) (ao:=ao) (off:=0) (n:=len) (k:=min ys.length len) (ys:=ys) hok (by
       rcases h6 with ⟨_,_,h6⟩ | ⟨b,h6,h7⟩
       ·left;omega
       ·right;exact ⟨b,h6,by rw [Nat.zero_mul];exact h7⟩) (Nat.min_le_right _ _) (by omega) (Nat.min_le_left _ _) n1 n2 n3
      refine ⟨.int .i64 (min ys.length len:Nat),w',.inl (hrun e1 g1 n4 r1),r2,fun hs=>?_,fun _=>by rw [l1];exact Zm_ (kA_ (by have:=Nat.min_le_left ys.length x0.length;omega))⟩
      have:=r3 hs
      have e2:x0.take 0++ys.take (min ys.length len)++x0.drop (0+min ys.length len)=ys.take x0.length++x0.drop ys.length:=by
       subst l1
       rw [List.take_zero,List.nil_append,Nat.zero_add]
       by_cases hc:ys.length<=x0.length
       ·rw [Nat.min_eq_left hc,List.take_length,List.take_of_length_le hc]
       ·rw [Nat.min_eq_right (by omega),List.drop_of_length_le (by omega:x0.length<=x0.length),List.drop_of_length_le (by omega)]
      rw [e2] at this;exact this
     ·exact ev1.elim
    ·-- a part of a row
     rename_i i off n hb
     split at ev1
     ·rename_i t' x0 hl
      obtain ⟨rfl,ev2⟩:=ZT_ ev1
      obtain ⟨hn,ev3⟩:=zj_ ev2
      have hn:off+n<=x0.length:=hn
      refine YA_ (QC_ (ob:=.row false t' x0) (ob':=.row false t' (x0.take off++ys.take n++x0.drop (off+min ys.length n))) hl rfl rfl (zz_ Zs_ hb i (by simp [AV.ids,AV.ids1,AV.ids0])) rfl ev3 fun {I w m a σ} _ hf hH ha=>?_)
      have hi:σ i=some (.row false t' x0):=by rw [ha i (zz_ Zs_ hb i (by simp [AV.ids,AV.ids1,AV.ids0])),hl]
      have hv:=hf.rv Zs_ hx;rw [hb] at hv
      obtain ⟨ao,len,cap,e1,s1,s2,s3,s4,s5,s6⟩:=hv
      subst s2
      have hok:=hH.obj i _ hi
      obtain ⟨g0,g1,g2⟩:=hd hH (fun j hj=>ha j (hyF j hj)) (hf.rv Z6_ hy)
      obtain ⟨news,n1,n2,n3,n4⟩:=g2 (min ys.length len) (Nat.min_le_left _ _)
      have hsz':m.sz i=t'.size:=hok.1
      obtain ⟨w',r1,r2,r3⟩:=hq_ (P:=P) (ao:=ao) (off:=off) (n:=len) (k:=min ys.length len) (ys:=ys) hok (by
       rcases s6 with ⟨_,_,h6⟩ | ⟨b,ofs,h6,h7,h8⟩
       ·left;omega
       ·rcases Nat.eq_zero_or_pos len with h9 | h9
        ·left;omega
        ·right;exact ⟨b,h6,by rw [h7,h8 (by omega),hsz']⟩) (Nat.min_le_right _ _) hn (Nat.min_le_left _ _) n1 n2 n3
      refine ⟨.int .i64 (min ys.length len:Nat),w',.inl (hrun e1 g1 n4 r1),r2,fun hs=>?_,fun _=>Zm_ (kA_ (by have:=Nat.min_le_left ys.length len;omega))⟩
      have:=r3 hs
      have e2:ys.take (min ys.length len)=ys.take len:=by
       by_cases hc:ys.length<=len
       ·rw [Nat.min_eq_left hc,List.take_length,List.take_of_length_le hc]
       ·rw [Nat.min_eq_right (by omega)]
      rw [e2] at this;exact this
     ·exact ev1.elim
    ·-- cells of a box
     rename_i i off n t' hb
     split at ev1
     ·rename_i l hl
      cases t with
      | int k=>
        dsimp only at ev1
        split at ev1
        ·rename_i heq _
         subst heq
         split at ev1
         ·rename_i hle0
          have hle:=Nat.le_of_ble_eq_true hle0
          obtain ⟨os,ev2,hos⟩:=JT_ ev1
          refine YA_ (QC_ (ob:=.box l) (ob':=.box (put l off (uj_ k ys 0 os))) hl rfl rfl (zz_ Zs_ hb i (by simp [AV.ids,AV.ids1,AV.ids0])) rfl ev2 fun {I w m a σ} _ hf hH ha=>?_)
          have hi:σ i=some (.box l):=by rw [ha i (zz_ Zs_ hb i (by simp [AV.ids,AV.ids1,AV.ids0])),hl]
          have hv:=hf.rv Zs_ hx;rw [hb] at hv
          obtain ⟨b,cap,q1,e1,q2,q3,q4⟩:=hv
          obtain ⟨b',cs,T,fz,p1,p2,p3,p4⟩:=hH.obj i _ hi
          rw [q1] at p1;cases p1
          obtain ⟨g0,g1,g2⟩:=hd hH (fun j hj=>ha j (hyF j hj)) (hf.rv Z6_ hy)
          obtain ⟨news,n1,n2,n3,n4⟩:=g2 (min ys.length n) (Nat.min_le_left _ _)
          simp only [Ty.size,Nat.mul_one] at n1 n4
          obtain ⟨o1,o2⟩:=hos (wG_ n (KL_ off p4))
          have hlen:=ZA_ p4
          have hcs:cs.toList.length=cs.size:=Array.length_toList
          have hosl:os.length=n:=by
           have:=congrArg List.length o1
           simp only [List.length_take,List.length_drop,List.length_map] at this
           omega
          have hmin:=Nat.min_le_right ys.length n
          obtain ⟨w',r1,r2,r3,r4,r5,r6,r7⟩:=ZW_ (P:=P) news 0 off w cs p2 p3 (by omega) n2
          have hsize:=Jt_ cs news off (by omega)
          refine ⟨.int .i64 (min ys.length n:Nat),w',.inl (hrun e1 g1 (by simpa [Ty.size] using n4) r1),⟨r5,r6,r7,by omega,fun j _ hj=>r4 j (fun e=>hj (by rw [e];exact q1))⟩,fun hs=>⟨b,_,T,fz,q1,r2,by rw [hsize];exact p3,?_⟩,fun _=>Zm_ (kA_ (by have:=Nat.min_le_left ys.length n;omega))⟩
          obtain ⟨g5,g6⟩:=gC_ n3
          obtain ⟨full,f1,f2,f3,f4⟩:=g2 ys.length (Nat.le_refl _)
          rw [List.take_length] at f3
          have hys:=(gC_ f3).1
          have hseg:(cs.toList.take (off+0)++news++cs.toList.drop (off+0+news.length))=cs.toList.take off++(news++(os.map (Value.int k)).drop news.length)++cs.toList.drop (off+(news++(os.map (Value.int k)).drop news.length).length):=by
           have hl2:(news++(os.map (Value.int k)).drop news.length).length=n:=by simp;omega
           rw [hl2,<- o1,Nat.add_zero,List.append_assoc,List.append_assoc,List.append_assoc]
           congr 2
           rw [List.drop_take,List.drop_drop]
           have:cs.toList.drop (off+n)=(cs.toList.drop (off+news.length)).drop (n - news.length):=by rw [List.drop_drop];congr 1;omega
           rw [this,List.take_append_drop]
          simp only
          rw [hseg]
          refine qc_ (fun _ h=>h) hs m.le_refl _ _ (KK_ off p4 (ui_ os 0 _ (by simp;omega) (fun q hq=>?_) o2 hys) ?_)
          ·rw [Nat.zero_add]
           by_cases hq2:q < news.length
           ·rw [List.getElem?_append_left hq2,if_pos (by omega)]
            have hql:q < (ys.take (min ys.length n)).length:=by rw [List.length_take];omega
            have h7:news[q]?=some (.int k ((ys.take (min ys.length n))[q]'hql)):=g6 q hql
            rw [h7,List.getElem_take,List.getD_eq_getElem?_getD,List.getElem?_eq_getElem (by omega)];rfl
           ·rw [List.getElem?_append_right (by omega),if_neg (by omega),List.getElem?_drop,List.getElem?_map,show news.length+(q - news.length)=q by omega,List.getElem?_eq_getElem hq];rfl
          ·have:∀ (os:List Int) (j:Nat),(uj_ k ys j os).length=os.length:=fun os=>by
            induction os with
            | nil=>intro j;rfl
            | cons o r ih=>intro j;simp [uj_,ih]
           rw [this];omega
         ·exact ev1.elim
        ·exact ev1.elim
      | _=>exact ev1.elim
     ·exact ev1.elim
    ·exact ev1.elim
   ·cases h2
  ·cases h2
 ·cases hok
end ops
end Go.Eng
namespace Go.Eng
set_option linter.unusedVariables false
set_option linter.unusedSimpArgs false
open Go.RowKit
theorem um_ {u:Value} (h:HE_ u=false):u.cells.toList=[u]:=by
 cases u<;>first | rfl | cases h
theorem zbE_ {I:Nat->Prop} {w:World} {m:M} {v:AV} {cv:Value} {c:List AV} (h:RV I w m v cv) (ha:v.isAgg=false) (hc:v.flat=some c):HE_ cv=false:=by
 cases v with
 | undef=>cases hc
 | skp=>cases hc
 | tup=>cases hc
 | agg=>cases ha
 | fn f l c=>obtain ⟨fs,cs,rfl,_⟩:=h;rfl
 | int=>obtain ⟨rfl,_⟩:=h;rfl
 | bool=>cases (show cv=_ from h);rfl
 | kb=>cases (show cv=_ from h);rfl
 | str=>obtain ⟨s,rfl,_⟩:=h;rfl
 | nilp=>cases (show cv=_ from h);rfl
 | nilm=>cases (show cv=_ from h);rfl
 | nils=>cases (show cv=_ from h);rfl
 | ptr=>obtain ⟨_,_,rfl,_⟩:=h;rfl
 | imm=>obtain ⟨_,_,_,rfl,_⟩:=h;rfl
 | iptr=>obtain ⟨_,_,rfl,_⟩:=h;rfl
 | own=>obtain ⟨_,_,_,rfl,_⟩:=h;rfl
 | view=>obtain ⟨_,_,_,rfl,_⟩:=h;rfl
 | rptr=>obtain ⟨_,_,rfl,_⟩:=h;rfl
 | mapv=>obtain ⟨_,_,rfl,_⟩:=h;rfl
 | bview=>obtain ⟨_,_,_,rfl,_⟩:=h;rfl
 | yv=>cases (show cv=_ from h);rfl
 | fnp=>obtain ⟨_,_,rfl,_⟩:=h;rfl
theorem wZ_ {t:Ty} {v:AV} {K:t.den->Prop} (ev:BT_ t v K):∃ x,K x/\∀ {I:Nat->Prop} {w:World} {m:M} {cv:Value},RV I w m v cv->xt_ I w t x cv:=by
 unfold BT_ at ev
 split at ev
 ·rename_i hg
  unfold oneK at ev
  split at ev
  ·rename_i c hc
   obtain ⟨x,hx,ev⟩:=Yn_ ev
   ·refine ⟨x,ev,fun {I w m cv} h=>⟨JH_ (kH_ h hc) hx,?_⟩⟩
    cases ht:BP_ t with
    | true=>
      rw [ht] at hg
      cases v with
      | agg l=>obtain ⟨cs,rfl,_⟩:=h;rfl
      | _=>cases hg
    | false=>
      rw [ht] at hg
      refine zbE_ h ?_ hc
      cases ha:v.isAgg with
      | false=>rfl
      | true=>rw [ha] at hg;cases hg
  ·exact ev.elim
 ·exact ev.elim
theorem J9_ (t:Ty) (x:t.den):∃ a,(∀ K,vm_ t x K=K a)/\∀ {I:Nat->Prop} {w:World} {m:M} {cv:Value},xt_ I w t x cv->RV1 I w m a cv:=by
 have sc:∀ {a:AV} {t:Ty} {x:t.den},BP_ t=false->t.cells x=[a]->∀ {I:Nat->Prop} {w:World} {m:M} {cv:Value},xt_ I w t x cv->RV1 I w m a cv:=fun {a t x} ht hc {I w m cv} h=>by
  have h1:=Qt_ (m:=m) t x _ h.1
  rw [hc,um_ (h.2.trans ht)] at h1
  exact kl_ h1.1
 have ag:∀ {t:Ty} {x:t.den},BP_ t=true->∀ {I:Nat->Prop} {w:World} {m:M} {cv:Value},xt_ I w t x cv->RV1 I w m (.agg (t.cells x)) cv:=fun {t x} ht {I w m cv} h=>by
  have h1:=Qt_ (m:=m) t x _ h.1
  have h2:=h.2.trans ht
  cases cv<;>first | exact ⟨_,rfl,h1⟩ | cases h2
 cases t with
 | int k=>exact ⟨.int k x,fun _=>rfl,sc rfl rfl⟩
 | bool=>exact ⟨.bool x,fun _=>rfl,sc rfl rfl⟩
 | str=>exact ⟨.str x,fun _=>rfl,sc rfl rfl⟩
 | nil=>exact ⟨.agg [],fun _=>rfl,ag (t:=.nil) (x:=x) rfl⟩
 | cons a b=>exact ⟨.agg (Ty.cells (.cons a b) x),fun K=>by show Z2_ _ _=_;exact ZH_ _ _,ag (t:=.cons a b) rfl⟩
 | sl t=>exact ⟨.imm t x,fun _=>rfl,sc rfl rfl⟩
section lists
variable {α β:Type} [DecidableEq α]
theorem Wh_:∀ (l:List (α × β)) (k:α),(∀ h:qE_ l k < l.length,l[qE_ l k].1=k/\ZL_ l k=some l[qE_ l k].2)/\(¬ qE_ l k < l.length->ZL_ l k=none)
 | [],_=>⟨fun h=>absurd h (by simp),fun _=>rfl⟩
 | (a,b) :: r,k=>by
   obtain ⟨h1,h2⟩:=Wh_ r k
   by_cases e:a=k
   ·have e1:qE_ ((a,b) :: r) k=0:=if_pos e
    have e2:ZL_ ((a,b) :: r) k=some b:=if_pos e
    refine ⟨fun h=>?_,fun h=>absurd (by rw [e1];simp) h⟩
    simp only [e1,e2,List.getElem_cons_zero];exact ⟨e,True.intro⟩
   ·have e1:qE_ ((a,b) :: r) k=qE_ r k+1:=if_neg e
    have e2:ZL_ ((a,b) :: r) k=ZL_ r k:=if_neg e
    refine ⟨fun h=>?_,fun h=>?_⟩
    ·have h':qE_ r k < r.length:=by rw [e1] at h;simpa using h
     simp only [e1,e2,List.getElem_cons_succ];exact h1 h'
    ·rw [e2];exact h2 fun h'=>h (by rw [e1];simpa using h')
theorem bE_:∀ (l:List (α × β)) (k:α) (v:β),xX_ l k v=if qE_ l k < l.length then l.set (qE_ l k) (k,v) else l++[(k,v)]
 | [],_,_=>rfl
 | (a,b) :: r,k,v=>by
   by_cases e:a=k
   ·have e1:qE_ ((a,b) :: r) k=0:=if_pos e
    rw [e1,if_pos (by simp)]
    show (if a=k then _ else _)=_
    rw [if_pos e];rfl
   ·have e1:qE_ ((a,b) :: r) k=qE_ r k+1:=if_neg e
    rw [e1]
    show (if a=k then _ else _)=_
    rw [if_neg e,bE_ r k v]
    by_cases h:qE_ r k < r.length
    ·rw [if_pos h,if_pos (by simpa using h)];rfl
    ·rw [if_neg h,if_neg (by simpa using h)];rfl
end lists
section ops
variable {P:Program} {Γ:Env} {o:Oper} {L:List Opd} {fr:zg_} {F:List Nat} {wr:Bool} {st:zc_} {nx:Nat} {K:AV->zc_->Nat->Prop}
theorem GK_ {t:TypeId} {kt:Ty} (h:bJ_ P t kt=true):∃ k,kt=.int k/\P.underlying t=some (.int k):=by
 unfold bJ_ at h
 split at h
 ·split at h
  ·rename_i k k' hk
   simp only [beq_iff_eq] at h
   subst h
   exact ⟨_,rfl,hk⟩
  ·cases h
 ·cases h
theorem xs_ {I:Nat->Prop} {w:World} {k:IntKind} {n:(Ty.int k).den} {cv:Value} (h:xt_ I w (.int k) n cv):cv=.int k n/\inK k n:=by
 obtain ⟨h1,h2⟩:=h
 rw [um_ h2] at h1
 simp only [RC,List.cons.injEq,and_true] at h1
 exact h1
theorem Y2_ {β:Type} {d:TypeDesc} {k:IntKind} {n:Int}:∀ (l:List (Int × β)) (es:List MapEntry) (i:Nat),l.length=es.length->(∀ j (h:j < l.length) (h':j < es.length),es[j].key=.int k l[j].1)->d=.int k->
 Instr.findNow d (.int k n) es i=some (if qE_ l n < l.length then (es[qE_ l n]?).map (fun e=>(i+qE_ l n,e.val)) else none)
 | [],[],i,_,_,_=>rfl
 | [],_ :: _,_,h,_,_=>by cases h
 | _ :: _,[],_,h,_,_=>by cases h
 | (a,b) :: l,e :: es,i,hl,h,hd=>by
   subst hd
   have h0:=h 0 (by simp) (by simp)
   simp only [List.getElem_cons_zero] at h0
   have hs:Instr.sameNow (.int k) (.int k n) e.key=some (n == a):=by rw [h0];simp [Instr.sameNow]
   unfold Instr.findNow
   rw [hs]
   by_cases e1:a=n
   ·have em:qE_ ((a,b) :: l) n=0:=if_pos e1
    rw [em,if_pos (by simp)]
    subst e1
    simp
   ·have em:qE_ ((a,b) :: l) n=qE_ l n+1:=if_neg e1
    have hb:(n == a)=false:=by simp;exact fun e=>e1 e.symm
    rw [em,hb]
    simp only []
    rw [Y2_ l es (i+1) (by simpa using hl) (fun j h1 h2=>by have:=h (j+1) (by simpa using h1) (by simpa using h2);simpa using this) rfl]
    by_cases hm:qE_ l n < l.length
    ·rw [if_pos hm,if_pos (by simpa using hm),List.getElem?_cons_succ,show i+1+qE_ l n=i+(qE_ l n+1) by omega]
    ·rw [if_neg hm,if_neg (by simpa using hm)]
theorem hj_ {I:Nat->Prop} {w w':World} {q:Bool} {k:IntKind} {vt:Ty} {l:List (Int × vt.den)} {es:Array MapEntry} {c:Nat} {n:Int} {a:TypeId} (hE:QW_ I w q (.int k) vt l es c) (ha:P.underlying a=some (.int k)):
 (Instr.findKey a (.int k n) es.toList).run P w'=.ok (if qE_ l n < l.length then (es[qE_ l n]?).map (fun e=>(qE_ l n,e.val)) else none) w':=by
 have h:=Y2_ (d:=.int k) (k:=k) (n:=n) l es.toList 0 (by simpa using hE.1) (fun j h1 h2=>by
  have:=(hE.2.1 j h1 (by simpa using h2)).1
  have:=(xs_ this).1
  simpa using this) rfl
 simp only [Nat.zero_add,Array.getElem?_toList] at h
 unfold Instr.findKey
 rw [Sem.run_bind,run_underlying ha]
 simp only [Result.andThen,h]
 rfl
theorem wx_ {w:World} {e:Bool} {k:IntKind} {n:Int} {a:TypeId} (ha:P.underlying a=some (.int k)):(Instr.checkKey e 10000 a (.int k n)).run P w=.ok () w:=by
 show (Instr.checkKey e (9999+1) a (.int k n)).run P w=.ok () w
 unfold Instr.checkKey
 rw [Sem.run_bind,run_underlying ha]
 rfl
theorem zbM_ {t:TypeId} {ty:Ty} {z:ty.den} (h:xA_ P t ty z=true) (h2:ys_ P t ty=true):∃ v,(∀ w:World,(zeroValue t).run P w=.ok v w)/\∀ (I:Nat->Prop) (w:World),xt_ I w ty z v:=by
 obtain ⟨i,v,e1,e2,e3⟩:=VH_ h
 refine ⟨v,fun w=>kI_ e1 e2,fun I w=>⟨e3 I w,?_⟩⟩
 unfold ys_ at h2
 rw [e1] at h2
 simp only [e2,beq_iff_eq] at h2
 rw [<- h2];cases v<;>rfl
theorem HB_ {I:Nat->Prop} {w:World} {q:Bool} {k:IntKind} {vt:Ty} {l:List (Int × vt.den)} {es:Array MapEntry} {c b:Nat} {n:Int} {t a e:TypeId} {z:vt.den} {ok:Bool} (hE:QW_ I w q (.int k) vt l es c) (ht:P.underlying t=some (.map a e)) (ha:P.underlying a=some (.int k))
 (hz:xA_ P e vt z=true) (hz2:ys_ P e vt=true) (hb:w.heap[b]?=some (.map es c)):
 ∃ r,xt_ I w vt ((ZL_ l n).getD z) r/\(Instr.lookup t (.map (some b)) (.int k n) ok).run P w=.ok (if ok then .tuple #[r,.bool (ZL_ l n).isSome] else r) w:=by
 obtain ⟨v,z1,z2⟩:=zbM_ hz hz2
 obtain ⟨h1,h2⟩:=Wh_ l n
 have hf:=hj_ (P:=P) (w':=w) (n:=n) hE ha
 by_cases hm:qE_ l n < l.length
 ·obtain ⟨k1,k2⟩:=h1 hm
  have hes:qE_ l n < es.size:=by rw [<- hE.1];exact hm
  rw [if_pos hm,Array.getElem?_eq_getElem hes] at hf
  refine ⟨es[qE_ l n].val,?_,?_⟩
  ·rw [k2];exact (hE.2.1 _ hm hes).2
  ·simp [Instr.lookup,run_underlying ht,MapKept.run_getObj_map hb,wx_ ha,hf,k2,Result.andThen]
 ·rw [if_neg hm] at hf
  refine ⟨v,?_,?_⟩
  ·rw [h2 hm];exact z2 I w
  ·simp [Instr.lookup,run_underlying ht,MapKept.run_getObj_map hb,wx_ ha,hf,h2 hm,z1,Result.andThen]
theorem zaG_ {kt vt:Ty} {z:vt.den} {ok:Bool} {x' k':Opd} (hok:zw_ P o.op (.mget kt vt z ok x' k')=true) (ev:zu_ Γ (.mget kt vt z ok x' k') fr st nx K):MOK P o [x',k'] fr (Zt_ [x',k'] fr) wr st nx K:=by
 simp only [zu_] at ev
 simp only [zw_] at hok
 split at hok
 ·rename_i t x k ok' ho
  simp only [Bool.and_eq_true,beq_iff_eq] at hok
  obtain ⟨⟨⟨rfl,hx⟩,hk⟩,ht⟩:=hok
  split at ht
  ·rename_i a b hm
   simp only [Bool.and_eq_true] at ht
   obtain ⟨⟨ha,hz⟩,hz2⟩:=ht
   obtain ⟨kk,rfl,hak⟩:=GK_ ha
   obtain ⟨n,ev,hn⟩:=wZ_ ev
   split at ev
   ·rename_i i hb
    split at ev
    ·rename_i q kt' vt' l hl
     split at ev
     ·rename_i e1 e2 _ _
      subst e1;subst e2
      simp only [] at ev
      obtain ⟨av,ea,hav⟩:=J9_ vt' ((ZL_ l n).getD z)
      have main:∀ {I:Nat->Prop} {w:World} {m:M} {a:Act} {σ:Sto},FOn [x',k'] fr I w m a->HRel I w m σ->(∀ i ∈ Zt_ [x',k'] fr,σ i=st.get i)->∃ r,xt_ I w vt' ((ZL_ l n).getD z) r/\(Instr.lookup t (a.eval x) (a.eval k) ok').run P w=.ok (if ok' then .tuple #[r,.bool (ZL_ l n).isSome] else r) w:=fun {I w m a σ} hf hH ha'=>by
       have hi:σ i=some (.map q (.int kk) vt' l):=by rw [ha' i (zz_ Zs_ hb i (by simp [AV.ids,AV.ids1,AV.ids0])),hl]
       obtain ⟨b',es,c,q1,q2,q3⟩:=hH.obj i _ hi
       have hv:=hf.rv Zs_ hx;rw [hb] at hv
       obtain ⟨b'',q4,q5,_⟩:=hv
       rw [q1] at q4;cases q4
       have hkv:=(xs_ (hn (hf.rv Z6_ hk))).1
       rw [q5,hkv]
       exact HB_ q3 hm hak hz hz2 q2
      have hex:∀ a:Act,execOp a.eval o=(do pure (.value (<- Instr.lookup t (a.eval x) (a.eval k) ok'))):=fun a=>by unfold execOp;rw [ho]
      cases ok' with
      | true=>
        simp only [ea] at ev
        refine zQ_ ev fun {I w m a σ} hf hH ha'=>?_
        obtain ⟨r,r1,r2⟩:=main hf hH ha'
        exact ⟨_,hex a,_,⟨#[r,.bool (ZL_ l n).isSome],rfl,hav r1,rfl,trivial⟩,r2⟩
      | false=>
        simp only [ea] at ev
        refine zQ_ ev fun {I w m a σ} hf hH ha'=>?_
        obtain ⟨r,r1,r2⟩:=main hf hH ha'
        exact ⟨_,hex a,_,jH_ (qv_ (hav r1)),r2⟩
     ·exact ev.elim
    ·exact ev.elim
   ·exact ev.elim
  ·cases ht
 ·cases hok
theorem y0_ {w:World} {b:Nat} {es:Array MapEntry} {c:Nat} {y:Go.Obj} (h:w.heap[b]?=some (.map es c)):(setObj b y).run P w=.ok () {w with heap:=w.heap.setIfInBounds b y}:=by
 simp [setObj,Sem.run,h]
theorem y1_ {w:World} {b:Nat} {x y:Go.Obj} (h:w.heap[b]?=some x):({w with heap:=w.heap.setIfInBounds b y}:World).heap[b]?=some y:=by
 have:=Z9_ h
 simp [this]
theorem VT_ {w:World} {m:M} {i b:Nat} {y:Go.Obj} (hb:m.blk i=some b):Fr (fun b=>m.blk i=some b) w {w with heap:=w.heap.setIfInBounds b y}:=
 ⟨rfl,rfl,rfl,by simp,fun k _ hk=>by
  have hne:k ≠ b:=fun e=>hk (by rw [e];exact hb)
  simp [Array.getElem?_setIfInBounds_ne (Ne.symm hne)]⟩
theorem Bb_ {k:IntKind} {n:Int} {w:World}:(Instr.keyThatStays (.int k n) (.int k n)).run P w=.ok (.int k n) w:=by
 simp [Instr.keyThatStays,Instr.sameBits]
theorem ho_ {I:Nat->Prop} {w:World} {kt vt:Ty} {l:List (kt.den × vt.den)} {es:Array MapEntry} {c j:Nat} {f:MapEntry->MapEntry} {p:kt.den × vt.den} (h:QW_ I w true kt vt l es c) (hj:j < l.length)
 (hf:∀ h':j < es.size,xt_ I w kt p.1 (f es[j]).key/\xt_ I w vt p.2 (f es[j]).val/\(f es[j]).born=es[j].born):QW_ I w true kt vt (l.set j p) (es.modify j f) c:=by
 obtain ⟨h1,h2,h3,h4⟩:=h
 obtain ⟨h5,h6⟩:=h4 rfl
 have hj':j < es.size:=by omega
 obtain ⟨f1,f2,f3⟩:=hf hj'
 refine ⟨by simp [h1],fun i hi hi'=>?_,fun i hi=>?_,fun _=>⟨by simp [h5],fun i hi=>?_⟩⟩
 ·simp only [List.length_set] at hi
  simp only [Array.size_modify] at hi'
  rw [Array.getElem_modify]
  by_cases e:j=i
  ·subst e
   rw [if_pos rfl,List.getElem_set_self];exact ⟨f1,f2⟩
  ·rw [if_neg e,List.getElem_set_ne e];exact h2 i hi hi'
 ·simp only [Array.size_modify] at hi
  rw [Array.getElem_modify]
  split
  ·rename_i e;subst e;rw [f3];exact h3 _ hi
  ·exact h3 _ hi
 ·simp only [Array.size_modify] at hi
  rw [Array.getElem_modify]
  split
  ·rename_i e;subst e;rw [f3];exact h6 _ hi
  ·exact h6 _ hi
theorem gf_ {I:Nat->Prop} {w:World} {kt vt:Ty} {l:List (kt.den × vt.den)} {es:Array MapEntry} {c:Nat} {p:kt.den × vt.den} {u v:Value} (h:QW_ I w true kt vt l es c) (hu:xt_ I w kt p.1 u) (hv:xt_ I w vt p.2 v):
 QW_ I w true kt vt (l++[p]) (es.push {key:=u,val:=v,born:=c}) (c+1):=by
 obtain ⟨h1,h2,h3,h4⟩:=h
 obtain ⟨h5,h6⟩:=h4 rfl
 refine ⟨by simp [h1],fun i hi hi'=>?_,fun i hi=>?_,fun _=>⟨by simp [h5],fun i hi=>?_⟩⟩
 ·simp only [Array.size_push] at hi'
  rw [Array.getElem_push]
  by_cases e:i < es.size
  ·rw [dif_pos e,List.getElem_append_left (by omega)];exact h2 i (by omega) e
  ·rw [dif_neg e,List.getElem_append_right (by omega)]
   simp only [List.getElem_singleton];exact ⟨hu,hv⟩
 ·simp only [Array.size_push] at hi
  rw [Array.getElem_push]
  by_cases e:i < es.size
  ·rw [dif_pos e];exact Nat.lt_succ_of_lt (h3 i e)
  ·rw [dif_neg e];exact Nat.lt_succ_self _
 ·simp only [Array.size_push] at hi
  rw [Array.getElem_push]
  by_cases e:i < es.size
  ·rw [dif_pos e];exact h6 i e
  ·rw [dif_neg e]
   show c=i
   omega
theorem zaB_ {kt vt:Ty} {x' k' v':Opd} (hok:zw_ P o.op (.mput kt vt x' k' v')=true) (ev:zu_ Γ (.mput kt vt x' k' v') fr st nx K):MOK P o [x',k',v'] fr (Zt_ [x',k',v'] fr) true st nx K:=by
 simp only [zu_,zc_.setK_eq] at ev
 simp only [zw_] at hok
 split at hok
 ·rename_i t x k v ho
  simp only [Bool.and_eq_true,beq_iff_eq] at hok
  obtain ⟨⟨⟨hx,hk⟩,hv⟩,ht⟩:=hok
  split at ht
  ·rename_i a b hm
   obtain ⟨kk,rfl,hak⟩:=GK_ ht
   obtain ⟨n,ev,hn⟩:=wZ_ ev
   obtain ⟨y,ev,hy⟩:=wZ_ ev
   split at ev
   ·rename_i i hb
    split at ev
    ·rename_i kt' vt' l hl
     split at ev
     ·rename_i e1 e2 _ _
      subst e1;subst e2
      simp only [] at ev
      have hiF:i ∈ Zt_ [x',k',v'] fr:=zz_ (x:=x') (by simp) hb i (by simp [AV.ids,AV.ids1,AV.ids0])
      refine YA_ (QC_ (ob:=.map true (.int kk) vt' l) (ob':=.map true (.int kk) vt' (xX_ l n y)) hl rfl rfl hiF rfl ev fun {I w m a' σ} _ hf hH ha'=>?_)
      have hi:σ i=some (.map true (.int kk) vt' l):=by rw [ha' i hiF,hl]
      obtain ⟨bb,es,c,q1,q2,q3⟩:=hH.obj i _ hi
      have hvx:=hf.rv (y:=x') (by simp) hx;rw [hb] at hvx
      obtain ⟨b'',q4,q5,_⟩:=hvx
      rw [q1] at q4;cases q4
      have hkr:=hn (hf.rv (y:=k') (by simp) hk)
      have hkv:=(xs_ hkr).1
      have hyr:=hy (hf.rv (y:=v') (by simp) hv)
      have hfr:=hj_ (P:=P) (w':=w) (n:=n) q3 hak
      have hex:execOp a'.eval o=(do Instr.mapUpdate t (a'.eval x) (a'.eval k) (a'.eval v);pure .skip):=by unfold execOp;rw [ho]
      rw [bE_]
      by_cases hmi:qE_ l n < l.length
      ·have hes:qE_ l n < es.size:=by rw [<- q3.1];exact hmi
       rw [if_pos hmi,Array.getElem?_eq_getElem hes] at hfr
       have hkey:es[qE_ l n].key=.int kk n:=by
        have h1:=(xs_ (q3.2.1 _ hmi hes).1).1
        rw [((Wh_ l n).1 hmi).1] at h1;exact h1
       refine ⟨undef,_,.inr ⟨gd_ hex (w':={w with heap:=w.heap.setIfInBounds bb (.map (es.modify (qE_ l n) fun e=>{e with key:=.int kk n,val:=a'.eval v}) c)}) ?_,rfl⟩,VT_ q1,fun hs=>⟨bb,_,c,q1,y1_ q2,?_⟩,fun _=>trivial⟩
       ·rw [q5,hkv]
        simp [Instr.mapUpdate,run_underlying hm,MapKept.run_getObj_map q2,wx_ hak,hfr,hes,hkey,Bb_,y0_ q2,Result.andThen]
       ·rw [if_pos hmi]
        refine ho_ (q3.mono (fun _ h=>h) hs) hmi fun h'=>⟨?_,?_,rfl⟩
        ·rw [<- hkv];exact ⟨Z3_ (fun _ h=>h) hs _ _ _ hkr.1,hkr.2⟩
        ·exact ⟨Z3_ (fun _ h=>h) hs _ _ _ hyr.1,hyr.2⟩
      ·rw [if_neg hmi] at hfr
       refine ⟨undef,_,.inr ⟨gd_ hex (w':={w with heap:=w.heap.setIfInBounds bb (.map (es.push {key:=.int kk n,val:=a'.eval v,born:=c}) (c+1))}) ?_,rfl⟩,VT_ q1,fun hs=>⟨bb,_,c+1,q1,y1_ q2,?_⟩,fun _=>trivial⟩
       ·rw [q5,hkv]
        simp [Instr.mapUpdate,run_underlying hm,MapKept.run_getObj_map q2,wx_ hak,hfr,y0_ q2,Result.andThen]
       ·rw [if_neg hmi]
        refine gf_ (q3.mono (fun _ h=>h) hs) ?_ ?_
        ·rw [<- hkv];exact ⟨Z3_ (fun _ h=>h) hs _ _ _ hkr.1,hkr.2⟩
        ·exact ⟨Z3_ (fun _ h=>h) hs _ _ _ hyr.1,hyr.2⟩
     ·exact ev.elim
    ·exact ev.elim
   ·exact ev.elim
  ·cases ht
 ·cases hok
theorem zae_ {x':Opd} (hok:zw_ P o.op (.rngm x')=true) (ev:zu_ Γ (.rngm x') fr st nx K):MOK P o [x'] fr (Zt_ [x'] fr) wr st nx K:=by
 simp only [zu_] at ev
 simp only [zw_] at hok
 split at hok
 ·rename_i t x ho
  simp only [Bool.and_eq_true] at hok
  obtain ⟨hx,ht⟩:=hok
  obtain ⟨k,e,ht⟩:=YF_ ht
  split at ev
  ·rename_i i hb
   split at ev
   ·rename_i kt vt l hl
    refine k4_ ev (fun _ _ h=>by cases h) fun {I w m a σ} hf hH ha hu=>?_
    have hi:σ i=some (.map true kt vt l):=by rw [ha i (zz_ qF_ hb i (by simp [AV.ids,AV.ids1,AV.ids0])),hl]
    obtain ⟨bb,es,c,q1,q2,q3⟩:=hH.obj i _ hi
    have hvx:=hf.rv qF_ hx;rw [hb] at hvx
    have hvx0:RV0 I w m (.mapv i) (a.eval x):=hvx
    obtain ⟨b'',q4,q5,q6⟩:=hvx
    rw [q1] at q4;cases q4
    have hc:c=l.length:=by rw [(q3.2.2.2 rfl).1,q3.1]
    refine ⟨Instr.range t (a.eval x),by unfold execOp;rw [ho],.pointer (some ⟨w.heap.size,0,none⟩),w.alloc (.mapIter (some bb) l.length #[] l.length),some w.heap.size,0,0,0,?_,Fr.alloc _ _ _,fun b hb=>by cases hb;exact Nat.le_refl _,fun hs=>⟨w.heap.size,bb,M.push_blk _ _ _ _ _ _,QI_ _ _,?_⟩,fun _=>Hz_⟩
    ·rw [q5,<- hc];simp [Instr.range,run_underlying ht,MapKept.run_getObj_map q2]
    ·rw [q5] at hvx0
     exact qw_ (fun _ h=>h) hs (M.push_le hu) _ _ hvx0
   ·exact ev.elim
  ·exact ev.elim
 ·cases hok
theorem za6_ {x:Opd} {i:Nat} {off:Nat} (h:x.ev fr=.ptr i off):i ∈ Zt_ [x] fr:=zz_ qF_ h i (by simp [AV.ids,AV.ids1,AV.ids0])
theorem zca_ {w:World} {n:Nat} {seen:List Nat} {es:Array MapEntry} {c b bm:Nat} {T:TypeId} (hb:w.heap[b]?=some (.mapIter (some bm) n seen.toArray n)) (hm:w.heap[bm]?=some (.map es c)) (hc:c=n) (hs:es.size=n) (hbn:∀ i (h:i < es.size),es[i].born=i):
 ∃ ch,zcT_ n seen ch/\((ch=none/\(Instr.next (.pointer (some ⟨b,0,none⟩)) false T).run P w=.ok (.tuple #[.bool false]) w)\/
   ∃ i,ch=some i/\∃ (h:i < es.size) (w1:World),w1.heap=w.heap/\w1.os=w.os/\w1.tape=w.tape/\w1.output=w.output/\
     (Instr.next (.pointer (some ⟨b,0,none⟩)) false T).run P w=.ok (.tuple #[.bool true,es[i].key,es[i].val]) {w1 with heap:=w1.heap.setIfInBounds b (.mapIter (some bm) n (seen++[i]).toArray n)}):=by
 have hold:∀ x ∈ es.toList,x.born < n:=fun x hx=>by
  obtain ⟨i,hi,rfl⟩:=List.mem_iff_getElem.1 hx
  simp only [Array.length_toList] at hi
  rw [Array.getElem_toList,hbn i hi];omega
 have htest:(!seen.toArray.isEmpty && !es.isEmpty && es.all (fun x=>decide (x.born >= n)))=false:=by
  by_cases h0:0 < es.size
  ·have:es.all (fun x=>decide (x.born >= n))=false:=by
    rw [Bool.eq_false_iff]
    intro h
    have h1:=Array.all_eq_true.1 h 0 h0
    rw [decide_eq_true_eq,hbn 0 h0] at h1
    omega
   rw [this];simp
  ·have:es.isEmpty=true:=by simp only [Array.isEmpty,decide_eq_true_eq];omega
   rw [this];simp
 have hL:∀ x ∈ (Array.filter (fun e=>!seen.toArray.contains e.born) es).toList,∃ (i:Nat) (h:i < es.size),x=es[i]/\i ∉ seen:=fun x hx=>by
  simp only [Array.toList_filter,List.mem_filter] at hx
  obtain ⟨i,hi,e⟩:=List.mem_iff_getElem.1 hx.1
  simp only [Array.length_toList] at hi
  rw [Array.getElem_toList] at e
  refine ⟨i,hi,e.symm,fun h=>?_⟩
  have:=hx.2
  rw [<- e,hbn i hi] at this
  simp [h] at this
 have hmem:∀ x ∈ (Array.filter (fun e=>!seen.toArray.contains e.born) es).toList,x.born < n:=fun x hx=>hold x (by
  rw [Array.toList_filter] at hx;exact (List.mem_filter.1 hx).1)
 have hno:(Array.filter (fun e=>!seen.toArray.contains e.born) es).size=0->∀ i,i < n->i ∈ seen:=fun h0 i hi=>by
  have hi':i < es.size:=by omega
  have:¬ es[i] ∈ Array.filter (fun e=>!seen.toArray.contains e.born) es:=by
   rw [Array.eq_empty_of_size_eq_zero h0];simp
  rw [Array.mem_filter] at this
  simp only [Array.getElem_mem,hbn i hi',true_and] at this
  simpa using this
 simp only [Instr.next,getObj,Sem.run_bind,Sem.run,hb,hm,Result.andThen,htest,Bool.false_eq_true,if_false]
 generalize Array.filter (fun e=>!seen.toArray.contains e.born) es=L at hL hmem hno ⊢
 have e1:L.filter (fun x=>decide (x.born < n))=L:=Array.filter_eq_self.2 (fun x hx=>by simpa using hmem x (by simpa using hx))
 have e2:L.filter (fun x=>decide (x.born >= n))=#[]:=by
  rw [Array.filter_eq_empty_iff]
  intro x hx
  have:=hmem x (by simpa using hx)
  simp
  omega
 simp only [e1,e2,Array.append_empty]
 by_cases h0:L.size=0
 ·refine ⟨none,hno h0,.inl ⟨rfl,?_⟩⟩
  have:L=#[]:=Array.eq_empty_of_size_eq_zero h0
  subst this
  simp [choose,Sem.run,Question.forced]
 ·have hne:L.isEmpty=false:=by simp [Array.isEmpty,h0]
  simp only [hne,Bool.false_eq_true,if_false,Array.empty_append,Array.size_map]
  have hch:∃ (j:Nat) (w1:World),j < L.size/\(w1.heap=w.heap/\w1.os=w.os/\w1.tape=w.tape/\w1.output=w.output)/\(choose (Question.mapNext L.size)).run P w=.ok j w1:=by
   by_cases hf:L.size<=1
   ·exact ⟨0,w,by omega,⟨rfl,rfl,rfl,rfl⟩,by simp [choose,Sem.run,Question.forced,hf]⟩
   ·exact ⟨_,w.drew,Nat.mod_lt _ (by omega),⟨rfl,rfl,rfl,rfl⟩,by
     simp only [choose,Sem.run,Question.forced,decide_eq_true_eq,hf,if_false,Question.cut]
     rfl⟩
  obtain ⟨j,w1,hj,hal,hrun⟩:=hch
  obtain ⟨i,hi,hx,hns⟩:=hL L[j] (by simp)
  refine ⟨some i,⟨by omega,hns⟩,.inr ⟨i,rfl,hi,w1,hal.1,hal.2.1,hal.2.2.1,hal.2.2.2,?_⟩⟩
  simp only [hrun,Array.getElem?_map,Array.getElem?_eq_getElem hj,Option.map_some,Sem.run_bind,setObj,Sem.run,Result.andThen,hx,hbn i hi,hc]
  simp [hal.1,hb]
theorem zar_ {x':Opd} {X0:Bool->Nat->Prop} {I0 I:Nat->Prop} {w0 w:World} {m:M} {a:Act} (hok:zw_ P o.op (.nxtm x')=true) (hf:FOn [x'] fr I w m a) (hs:HS X0 I0 w0 st.get I w m) (ev:zu_ Γ (.nxtm x') fr st nx K):
 ∃ v st1,K v st1 nx/\wo_ P o a w (vv_ X0 I0 w0 I w m st1.get v nx nx):=by
 simp only [zu_] at ev
 simp only [zw_] at hok
 split at hok
 ·rename_i x ho
  split at ev
  ·rename_i i off hb
   split at ev
   ·split at ev
    ·rename_i vv n seen hl
     split at ev
     ·rename_i j
      split at ev
      ·rename_i kt vt l hj
       obtain ⟨hln,ev⟩:=zj_ ev
       have hv:=hf.rv qF_ hok;rw [hb] at hv
       obtain ⟨b',mb,q1,q2,q3⟩:=hs.H.obj i _ hl
       obtain ⟨b,q5,q6,_⟩:=hv
       rw [q1] at q5;cases q5
       obtain ⟨bb,es,c,g1,g2,g3⟩:=hs.H.obj j _ hj
       have q3':=q3
       obtain ⟨b2,q7,q8,q9⟩:=q3
       rw [g1] at q7;cases q7
       cases q8
       obtain ⟨s1,s2⟩:=g3.2.2.2 rfl
       have hsz:es.size=n:=by rw [<- g3.1,hln]
       obtain ⟨ch,hch,hr⟩:=zca_ (P:=P) (T:=o.type) q2 g2 (by omega) hsz s2
       have ev:=ev ch hch
       have hex:execOp a.eval o=(do pure (.value (<- Instr.next (a.eval x) false o.type))):=by unfold execOp;rw [ho]
       rcases hr with ⟨rfl,hr⟩ | ⟨d,rfl,hd,w1,w1h,w1o,w1t,w1p,hr⟩
       ·refine ⟨_,st,ev,kv_ (Ko_ hex (by rw [q6];exact hr)) ⟨⟨#[.bool false],rfl,rfl,trivial⟩,hs,Evo.refl _ _ _,fun _ h=>.inl h⟩⟩
       ·have hdl:d < l.length:=by omega
        simp only [zc_.setK_eq] at ev
        rw [show ∀ z,l.getD d z=l[d] from fun z=>by rw [List.getD_eq_getElem?_getD,List.getElem?_eq_getElem hdl];rfl] at ev
        obtain ⟨a1,ea1,ha1⟩:=J9_ kt l[d].1
        obtain ⟨a2,ea2,ha2⟩:=J9_ vt l[d].2
        rw [ea1,ea2] at ev
        have key:=QC_ (P:=P) (o:=o) (L:=[x']) (fr:=fr) (F:=Zt_ [x'] fr) (wr:=true) (X:=fun I' w' m' a'=>I'=I/\w'=w/\m'=m/\a'=a) (v:=.tup [.kb true,a1,a2]) (ob:=.miter (.mapv j) n seen) (ob':=.miter (.mapv j) n (seen++[d])) (K:=fun v' s' n'=>v'=.tup [.kb true,a1,a2]/\s'=st.set i (.miter (.mapv j) n (seen++[d]))/\n'=nx) hl rfl rfl (za6_ hb) rfl ⟨rfl,rfl,rfl⟩ fun {I' w' m' a' σ'} hX _ _ _=>by
         obtain ⟨rfl,rfl,rfl,rfl⟩:=hX
         refine ⟨.tuple #[.bool true,es[d].key,es[d].val],{w1 with heap:=w1.heap.setIfInBounds b' (.mapIter (some mb) n (seen++[d]).toArray n)},.inl (Ko_ hex (by rw [q6];exact hr)),⟨w1o,w1t,w1p,by simp [w1h],fun k _ hk=>?_⟩,fun hsm=>⟨b',mb,q1,?_,?_⟩,fun hsm=>?_⟩
         ·have hne:k ≠ b':=fun e=>hk (by rw [e];exact q1)
          simp [Array.getElem?_setIfInBounds_ne (Ne.symm hne),w1h]
         ·have:=Z9_ q2
          simp [w1h,this]
         ·exact qw_ (fun _ h=>h) hsm (M.le_refl _) _ _ q3'
         ·obtain ⟨e1,e2⟩:=(g3.mono (fun _ h=>h) hsm).2.1 d hdl hd
          exact ⟨#[.bool true,es[d].key,es[d].val],rfl,rfl,ha1 e1,ha2 e2,trivial⟩
        obtain ⟨v,st1,nx',T,k1,⟨rfl,rfl,rfl⟩,k3,k4,k5⟩:=key
        refine ⟨_,_,ev,?_⟩
        have hrun:=k5 ⟨rfl,rfl,rfl,rfl⟩ hf hs (fun _ _=>rfl) (fun i h1 h2=>by omega)
        have hupd:upd st.get T (st.set i (.miter (.mapv j) n (seen++[d])))=(st.set i (.miter (.mapv j) n (seen++[d]))).get:=funext fun k=>by
         unfold upd
         split
         ·rfl
         ·rename_i hk;exact (k3 k hk).symm
        rw [hupd] at hrun;exact hrun
      ·exact ev.elim
     ·exact ev.elim
    ·exact ev.elim
   ·exact ev.elim
  ·exact ev.elim
 ·cases hok
theorem zbd_ {x':Opd} {X0:Bool->Nat->Prop} {I0 I:Nat->Prop} {w0 w:World} {m:M} {a:Act} (hok:zw_ P o.op (.entm x')=true) (hf:FOn [x'] fr I w m a) (hs:HS X0 I0 w0 st.get I w m) (ev:zu_ Γ (.entm x') fr st nx K):
 ∃ v st1,K v st1 nx/\wo_ P o a w (vv_ X0 I0 w0 I w m st1.get v nx nx):=by
 simp only [zu_] at ev
 simp only [zw_] at hok
 split at hok
 ·rename_i x ho
  split at ev
  ·rename_i i off hb
   split at ev
   ·split at ev
    ·rename_i vv n seen hl
     split at ev
     ·rename_i j
      split at ev
      ·rename_i kt vt l hj
       obtain ⟨⟨hln,hsn,hsd⟩,ev⟩:=zj_ ev
       have hv:=hf.rv qF_ hok;rw [hb] at hv
       obtain ⟨b',mb,q1,q2,q3⟩:=hs.H.obj i _ hl
       obtain ⟨b,q5,q6,_⟩:=hv
       rw [q1] at q5;cases q5
       obtain ⟨bb,es,c,g1,g2,g3⟩:=hs.H.obj j _ hj
       obtain ⟨b2,q7,q8,q9⟩:=q3
       rw [g1] at q7;cases q7
       cases q8
       obtain ⟨s1,s2⟩:=g3.2.2.2 rfl
       have hsz:es.size=n:=by rw [<- g3.1,hln]
       generalize hde:seen.getLastD 0=d at ev hsd
       have hd:d < es.size:=by omega
       have hex:execOp a.eval o=(do pure (.value (<- Instr.entry (a.eval x)))):=by unfold execOp;rw [ho]
       rw [show ∀ z,l.getD d z=l[d] from fun z=>by rw [List.getD_eq_getElem?_getD,List.getElem?_eq_getElem hsd];rfl] at ev
       obtain ⟨a1,ea1,ha1⟩:=J9_ kt l[d].1
       obtain ⟨a2,ea2,ha2⟩:=J9_ vt l[d].2
       rw [ea1,ea2] at ev
       have hback:seen.toArray.back?=some d:=by
        rw [List.back?_toArray,<- hde,List.getLastD_eq_getLast?]
        cases hg:seen.getLast? with
        | none=>rw [List.getLast?_eq_none_iff] at hg;rw [hg] at hsn;cases hsn
        | some z=>rfl
       have hfind:es.find? (fun e=>e.born == d)=some es[d]:=by
        rw [Array.find?_eq_some_iff_getElem]
        refine ⟨by simp [s2 d hd],d,hd,rfl,fun k hk=>?_⟩
        have hk':k < es.size:=by omega
        simp [s2 k hk'];omega
       have hcn:c=n:=by omega
       have hr:(Instr.entry (.pointer (some ⟨b',0,none⟩))).run P w=.ok (.tuple #[es[d].key,es[d].val]) w:=by
        simp [Instr.entry,getObj,Sem.run_bind,Sem.run,q2,g2,Result.andThen,hback,hcn,hfind]
       obtain ⟨e1,e2⟩:=g3.2.1 d hsd hd
       exact ⟨_,st,ev,kv_ (Ko_ hex (by rw [q6];exact hr)) ⟨⟨#[es[d].key,es[d].val],rfl,ha1 e1,ha2 e2,trivial⟩,hs,Evo.refl _ _ _,fun _ h=>.inl h⟩⟩
      ·exact ev.elim
     ·exact ev.elim
    ·exact ev.elim
   ·exact ev.elim
  ·exact ev.elim
 ·cases hok
end ops
end Go.Eng
