/- Parts of the proof: EOps7, EOps10. No condition. -/
import Derived.Test.YtimkdohmkfjfaaaGreatDoorXI04
import Derived.WalkKit
import Derived.MapFrom
import Derived.DeepKeys3
import Derived.Lib.Overlaps
namespace Go.Eng
set_option linter.unusedVariables false
set_option linter.unusedSimpArgs false
open Go.RowKit
section ops
variable {P:Program} {Γ:Env} {o:Oper} {L:List Opd} {fr:zg_} {F:List Nat} {wr:Bool} {st:zc_} {nx:Nat} {K:AV->zc_->Nat->Prop}
def Lies (u:Prop) (w:World) (size:Nat) (ao:Option Addr) (cap:Nat):Prop:=
 (ao=none/\cap=0)\/∃ (b:Nat) (cs:Array Value) (T:TypeId) (fz:Nat × Nat),ao=some ⟨b,0,none⟩/\w.heap[b]?=some (.cells cs T fz)/\FzR u fz cs.size/\cs.size=cap*size
def hN_ (P:Program) (w:World) (S:Sem (Array Value)) (news:List Value):Prop:=∀ w':World,(∀ a,w'.cell? a=w.cell? a)->S.run P w'=.ok news.toArray w'
theorem xx_ {I:Nat->Prop} {w:World} {t:Ty} {ys:List t.den} {cv:Value} (h:Src I w t ys cv):∃ news:List Value,news.length=ys.length*t.size/\(∀ v ∈ news,v.oneCell'=true)/\(EA I w t ys fun k=>news[k]?)/\
 hN_ P w (Builtin.firstCells t.size ys.length cv) news/\(∀ w':World,(Builtin.lenOf cv).run P w'=.ok ys.length w'):=by
 obtain ⟨ao,len,cap,rfl,h1,h2,h3⟩:=h
 subst h1
 have hlen:∀ w':World,(Builtin.lenOf (.slice ao ys.length cap)).run P w'=.ok ys.length w':=fun _=>rfl
 rcases Nat.eq_zero_or_pos ys.length with h0 | h0
 ·have hys:ys=[]:=List.eq_nil_of_length_eq_zero h0
  subst hys
  refine ⟨[],by simp,fun v hv=>(by cases hv),EA.nil,fun w' _=>?_,hlen⟩
  cases ao with
  | none=>rfl
  | some q=>simp [Builtin.firstCells,loadCells,loadCellsFrom]
 ·obtain ⟨b,ofs,rfl,h4⟩:=h3 h0
  obtain ⟨news,g1,g2,g3,g4⟩:=Vs_ h4
  refine ⟨news,g1,g3,g4,fun w' hw=>?_,hlen⟩
  have:=Zv_ (P:=P) (w:=w') (b:=b) (off:=ofs) news 0 #[] (fun j hj=>by rw [Nat.add_zero,hw];exact g2 j hj)
  simp only [Builtin.firstCells,loadCells]
  rw [<- g1,this];simp
structure Appended (u:Prop) (w w':World) (size:Nat) (ao ao':Option Addr) (sLen n cap':Nat) (news:List Value):Prop where
 room:sLen+n<=cap'
 cap:cap'<=maxLen
 fr:Fr (fun b=>ao=some ⟨b,0,none⟩) w w'
 lies:(ao'=none/\cap'=0)\/∃ (b:Nat) (cs':Array Value) (T:TypeId) (fz:Nat × Nat),ao'=some ⟨b,0,none⟩/\w'.heap[b]?=some (.cells cs' T fz)/\FzR u fz cs'.size/\cs'.size=cap'*size/\(w.heap.size<=b\/ao=some ⟨b,0,none⟩)/\
  (∀ b0 cs T fz,ao=some ⟨b0,0,none⟩->w.heap[b0]?=some (.cells cs T fz)->∀ k,k < sLen*size->cs'[k]?=cs[k]?)/\∀ k,k < news.length->cs'[sLen*size+k]?=news[k]?
theorem BY_ {u:Prop} {w:World} {size sLen n sCap:Nat} {ao:Option Addr} {news:List Value} (hcap:n+sLen<=sCap) (hcm:sCap<=maxLen) (hl:Lies u w size ao sCap) (hn:news.length=n*size) (h1:∀ v ∈ news,v.oneCell'=true):
 ∃ w',((ao=none/\w'=w)\/∃ b,ao=some ⟨b,0,none⟩/\(storeCells ⟨b,sLen*size,none⟩ news).run P w=.ok () w')/\Appended u w w' size ao ao sLen n sCap news:=by
 rcases hl with ⟨rfl,rfl⟩ | ⟨b,cs,T,fz,rfl,h2,h3,h4⟩
 ·exact ⟨w,.inl ⟨rfl,rfl⟩,by omega,hcm,Fr.refl _ _,.inl ⟨rfl,rfl⟩⟩
 ·have hfit:(sLen+n)*size<=cs.size:=by rw [h4];exact Nat.mul_le_mul_right _ (by omega)
  rw [Nat.add_mul] at hfit
  have hcs:cs.toList.length=cs.size:=Array.length_toList
  obtain ⟨w',r1,r2,r3,r4,r5,r6,r7⟩:=Zs_ (P:=P) news 0 (sLen*size) w cs h2 h3.1 (by omega) h1
  have hs:=kN_ cs news (sLen*size) (by omega)
  have hget:∀ k,((cs.toList.take (sLen*size+0)++news++cs.toList.drop (sLen*size+0+news.length)).toArray)[k]?=if k < sLen*size then cs[k]? else if k < sLen*size+news.length then news[k - sLen*size]? else cs[k]?:=fun k=>by
   rw [List.getElem?_toArray,Nat.add_zero,KY_ _ _ _ (by omega)]
   simp only [Array.getElem?_toList]
  refine ⟨w',.inr ⟨b,rfl,r1⟩,by omega,hcm,⟨r5,r6,r7,by omega,fun k _ hk=>r4 k (fun e=>hk (by rw [e]))⟩,.inr ⟨b,_,T,fz,rfl,r2,by rw [hs];exact h3,by rw [hs];exact h4,.inr rfl,fun b0 cs0 T0 fz0 e e' k hk=>?_,fun k hk=>?_⟩⟩
  ·cases e
   rw [h2] at e';cases e'
   rw [hget,if_pos hk]
  ·rw [hget,if_neg (by omega),if_pos (by omega)];congr 1;omega
theorem yC_ (z:Array Value) (n:Nat):(Builtin.zeroCells z n).size=n*z.size:=by simp [Builtin.zeroCells]
theorem Bq_ {w:World} {need old:Nat} {e:TypeId} (h:need<=maxLen):need<=grownCap w need old e/\grownCap w need old e<=maxLen:=by
 refine ⟨by simp [grownCap,Question.cut],?_⟩
 have hlt:=Nat.mod_lt (w.tape w.drawn (.appendCap need old e)) (show 0 < 2 ^ 63 - need by simp only [maxLen] at h;omega)
 simp only [grownCap,Question.cut,maxLen] at h ⊢
 omega
theorem BZ_ {u:Prop} {w:World} {size sLen n sCap:Nat} {ao:Option Addr} {news olds:List Value} {e:TypeId} {z:Array Value} (hz:z.size=size) (h47:sLen+n<=maxLen) (hn:news.length=n*size) (ho:olds.length=sLen*size)
 (hold:∀ b0 cs T fz,ao=some ⟨b0,0,none⟩->w.heap[b0]?=some (.cells cs T fz)->∀ k,k < sLen*size->olds[k]?=cs[k]?):
 Appended u w (w.drew.alloc (.cells (olds.toArray++news.toArray++Builtin.zeroCells z (grownCap w (sLen+n) sCap e - (sLen+n))) e)) size ao (some ⟨w.heap.size,0,none⟩) sLen n (grownCap w (sLen+n) sCap e) news:=by
 obtain ⟨h1,h2⟩:=Bq_ (w:=w) (old:=sCap) (e:=e) h47
 refine ⟨h1,h2,⟨rfl,rfl,rfl,by simp,fun k hk _=>bh_ w.drew _ hk⟩,.inr ⟨w.heap.size,_,e,(0,0),rfl,QI_ w.drew _,FzR.zero _ _,?_,.inl (Nat.le_refl _),fun b0 cs T fz hao hb k hk=>?_,fun k hk=>?_⟩⟩
 ·simp only [Array.size_append,List.size_toArray,yC_,hz,ho,hn]
  rw [<- Nat.add_mul,<- Nat.add_mul];congr 1;omega
 ·rw [Array.getElem?_append_left (by simp;omega),Array.getElem?_append_left (by simp;omega),List.getElem?_toArray]
  exact hold b0 cs T fz hao hb k hk
 ·rw [Array.getElem?_append_left (by simp;omega),Array.getElem?_append_right (by simp;omega),List.getElem?_toArray]
  congr 1;simp;omega
theorem HM_ {u:Prop} {w:World} {size sLen sCap:Nat} {ao:Option Addr} (hcap:sLen<=sCap) (hl:Lies u w size ao sCap):∃ olds:List Value,olds.length=sLen*size/\hN_ P w (Builtin.firstCells size sLen (.slice ao sLen sCap)) olds/\
 ∀ b0 cs T fz,ao=some ⟨b0,0,none⟩->w.heap[b0]?=some (.cells cs T fz)->∀ k,k < sLen*size->olds[k]?=cs[k]?:=by
 rcases hl with ⟨rfl,rfl⟩ | ⟨b,cs,T,fz,rfl,h2,h3,h4⟩
 ·obtain rfl:sLen=0:=by omega
  exact ⟨[],by simp,fun w' _=>rfl,fun b0 cs T fz e=>by cases e⟩
 ·have hfit:sLen*size<=cs.size:=by rw [h4];exact Nat.mul_le_mul_right _ hcap
  refine ⟨cs.toList.take (sLen*size),by simp;omega,fun w' hw=>?_,fun b0 cs0 T0 fz0 e e' k hk=>?_⟩
  ·have:=Zv_ (P:=P) (w:=w') (b:=b) (off:=0) (cs.toList.take (sLen*size)) 0 #[] (fun j hj=>by
    simp only [List.length_take,Array.length_toList] at hj
    rw [hw,ZN_ h2];simp)
   simp only [Builtin.firstCells,loadCells]
   rw [show (cs.toList.take (sLen*size)).length=sLen*size by simp;omega] at this
   rw [this];simp
  ·cases e
   rw [h2] at e';cases e'
   rw [List.getElem?_take,if_pos hk,Array.getElem?_toList]
theorem We_ {q:Prop} {t u e:TypeId} {i:TypeInfo} {v:Value} {w:World} {ty:TypeId} {ao:Option Addr} {sLen sCap n:Nat} {news:List Value} {src:Value} (ht:P.underlying t=some (.slice e)) (hu:(∃ e',P.underlying u=some (.slice e'))\/P.underlying u=some .string) (hi:P.info? e=some i) (hz:i.zero=some v) (hv:v.cells.size=i.size)
 (hcap:sLen<=sCap) (hcm:sCap<=maxLen) (hl:Lies q w i.size ao sCap) (hn:news.length=n*i.size) (h1:∀ v ∈ news,v.oneCell'=true) (hy:hN_ P w (Builtin.firstCells i.size n src) news) (hlen:∀ w':World,(Builtin.lenOf src).run P w'=.ok n w')
 (hb:(sLen+n)*i.bytes<=140737488355328) (h47:sLen+n<=140737488355328) (hb0:0 < i.bytes):
 ∃ w' ao' cap',(Builtin.append_ #[t,u] ty #[.slice ao sLen sCap,src]).run P w=.ok (.slice ao' (sLen+n) cap') w'/\Appended q w w' i.size ao ao' sLen n cap' news:=by
 rcases hu with ⟨e',hu⟩ | hu
 all_goals
  by_cases hroom:sLen+n<=sCap
  ·obtain ⟨w',r1,r2⟩:=BY_ (P:=P) (w:=w) (size:=i.size) (sLen:=sLen) (n:=n) (by omega) hcm hl hn h1
   refine ⟨w',ao,sCap,?_,r2⟩
   rcases r1 with ⟨rfl,rfl⟩ | ⟨b,rfl,r1⟩
   ·simp [Builtin.append_,run_underlying ht,run_underlying hu,z5_ hi,hlen,hroom,hy w' (fun _=>rfl)]
   ·simp [Builtin.append_,run_underlying ht,run_underlying hu,z5_ hi,hlen,hroom,hy w (fun _=>rfl),qd_,r1]
  ·obtain ⟨olds,g1,g2,g3⟩:=HM_ (P:=P) hcap hl
   have hfit:=growslice_fits (need:=sLen+n) (old:=sCap) (bytes:=i.bytes) (by omega) hb
   have hfit':¬ (281474976710656 < Builtin.nextslicecap (sLen+n) sCap*i.bytes):=by omega
   have hb1:i.bytes ≠ 0:=by omega
   refine ⟨_,_,_,?_,BZ_ (z:=v.cells) (e:=e) (sCap:=sCap) hv (by unfold maxLen;omega) hn g1 g3⟩
   have y1:=g2 w.drew (fun _=>rfl)
   have y2:=hy w.drew (fun _=>rfl)
   simp [Builtin.append_,run_underlying ht,run_underlying hu,z5_ hi,hlen,hroom,typeInfo,hi,hfit',hb1,Question.forced,y1,y2,Ks_ hi hz,newRow,grownCap]
   congr 2
   apply Array.ext'
   simp [List.append_assoc]
theorem Qm_ {I:Nat->Prop} {w w':World} {m:M} {t:Ty} {x0 ys:List t.den} {ao ao':Option Addr} {cap':Nat} {news:List Value} (hs:qs_ I w w') (h:Appended (t=.int .u8) w w' t.size ao ao' x0.length ys.length cap' news) (hn:news.length=ys.length*t.size) (he:EA I w t ys fun k=>news[k]?)
 (hold:x0=[]\/∃ (b:Nat) (cs:Array Value) (T:TypeId) (fz:Nat × Nat),ao=some ⟨b,0,none⟩/\w.heap[b]?=some (.cells cs T fz)/\EA I w t x0 fun k=>cs[k]?):
 ∃ blk:Option Nat,(∀ b,blk=some b->w.heap.size<=b\/ao=some ⟨b,0,none⟩)/\zH_ I w' (m.push nx blk cap' (x0++ys).length t.size) nx (.row false t (x0++ys))/\
   RV I w' (m.push nx blk cap' (x0++ys).length t.size) (.own nx) (.slice ao' (x0.length+ys.length) cap'):=by
 have hl:(x0++ys).length=x0.length+ys.length:=List.length_append
 have hr:=h.room
 rcases h.lies with ⟨rfl,rfl⟩ | ⟨b,cs',T,fz,rfl,h2,h3,h4,h5,h6,h7⟩
 ·refine ⟨none,fun b hb=>(by cases hb),⟨M.push_sz _ _ _ _ _ _,(M.push_len _ _ _ _ _ _).symm,by rw [M.push_cap];omega,by rw [M.push_cap];exact Nat.zero_le _,.inl ⟨M.push_blk _ _ _ _ _ _,M.push_cap _ _ _ _ _ _⟩⟩,⟨_,_,_,rfl,.inr rfl,?_,(M.push_cap _ _ _ _ _ _).symm,hr,h.cap,.inl ⟨M.push_blk _ _ _ _ _ _,rfl,rfl⟩⟩⟩
  rw [M.push_len,hl]
 ·refine ⟨some b,fun b' hb=>(by cases hb;exact h5),⟨M.push_sz _ _ _ _ _ _,(M.push_len _ _ _ _ _ _).symm,by rw [M.push_cap];omega,by rw [M.push_cap];exact h.cap,.inr ⟨b,cs',T,fz,M.push_blk _ _ _ _ _ _,h2,h3,by rw [M.push_cap];exact h4,?_⟩⟩,⟨_,_,_,rfl,.inr rfl,?_,(M.push_cap _ _ _ _ _ _).symm,hr,h.cap,.inr ⟨b,M.push_blk _ _ _ _ _ _,rfl⟩⟩⟩
  ·refine EA.append ?_ ((he.mono (fun _ h=>h) hs).congr fun k hk=>h7 k (by omega))
   rcases hold with rfl | ⟨b0,cs,T0,fz0,hao,hb0,h8⟩
   ·exact EA.nil
   ·exact (h8.mono (fun _ h=>h) hs).congr fun k hk=>h6 b0 cs T0 fz0 hao hb0 k hk
  ·rw [M.push_len,hl]
theorem b2_ {i:Nat} {t:Ty} {x0 ys:List t.den} (hi:st.get i=some (.row false t x0)) (hF:i ∈ F) (hwr:wr=true) (hK:K (.own nx) ((nx,.row false t (x0++ys)) :: st.set i .dead) (nx+1))
 (h:∀ {I:Nat->Prop} {w:World} {m:M} {a:Act} {σ:Sto},FOn L fr I w m a->HRel I w m σ->(∀ i ∈ F,σ i=st.get i)->zH_ I w m i (.row false t x0)->∃ ao ao' cap' w' news,(execOp a.eval o).run P w=.ok (.value (.slice ao' (x0.length+ys.length) cap')) w'/\
   Appended (t=.int .u8) w w' t.size ao ao' x0.length ys.length cap' news/\news.length=ys.length*t.size/\(EA I w t ys fun k=>news[k]?)/\RO m i ao x0.length (m.cap i)):MOK P o L fr F wr st nx K:=by
 refine ⟨.own nx,_,nx+1,[i,nx],Nat.le_succ _,hK,fun j hj=>?_,fun j hj=>?_,fun {X0 I0 w0 σ I w m a} hf hs ha hN=>?_⟩
 ·simp only [List.mem_cons,List.not_mem_nil,or_false,not_or] at hj
  rw [zc_.get_cons,if_neg hj.2,zc_.get_set,if_neg hj.1]
 ·simp only [List.mem_cons,List.not_mem_nil,or_false] at hj
  rcases hj with rfl | rfl
  ·exact .inl ⟨hwr,hF,by rw [hi];intro h;cases h⟩
  ·exact .inr ⟨Nat.le_refl _,Nat.lt_succ_self _⟩
 ·have hu:=hN nx (Nat.le_refl _) (Nat.lt_succ_self _)
  have hσ:σ i=some (.row false t x0):=by rw [ha i hF,hi]
  have hui:m.used i:=hs.H.lt i (by rw [hσ];intro h;cases h)
  have hne:i ≠ nx:=fun e=>hu (e ▸ hui)
  have hok:=hs.H.obj i _ hσ
  obtain ⟨ao,ao',cap',w',news,hr,hA,hn,he,hO⟩:=h hf hs.H ha hok
  have hblk:∀ b,ao=some ⟨b,0,none⟩->m.blk i=some b:=fun b e=>by
   obtain ⟨_,_,_,_,_,h6⟩:=hO
   rcases h6 with ⟨_,h6,_⟩ | ⟨b',h6,h7⟩
   ·rw [h6] at e;cases e
   ·rw [h7] at e;cases e;exact h6
  have hsame:qs_ I w w':=fun b hb=>hA.fr.block b (hs.H.Ilt b hb) fun e=>hs.H.notI i _ b hσ rfl (hblk b e) hb
  have hold:x0=[]\/∃ (b:Nat) (cs:Array Value) (T:TypeId) (fz:Nat × Nat),ao=some ⟨b,0,none⟩/\w.heap[b]?=some (.cells cs T fz)/\EA I w t x0 fun k=>cs[k]?:=by
   obtain ⟨_,_,q3,_,q5⟩:=hok
   rcases q5 with ⟨_,q6⟩ | ⟨b,cs,T,fz,q6,q7,_,_,q8⟩
   ·exact .inl (List.eq_nil_of_length_eq_zero (by omega))
   ·obtain ⟨_,_,_,_,_,h6⟩:=hO
    rcases h6 with ⟨h6,_⟩ | ⟨b',h6,h7⟩
    ·rw [q6] at h6;cases h6
    ·rw [q6] at h6;cases h6
     exact .inr ⟨b,cs,T,fz,h7,q7,q8⟩
  obtain ⟨blk,g1,g2,g3⟩:=Qm_ (nx:=nx) (m:=m) hsame hA hn he hold
  have hE:Evo I w m I w' (m.push nx blk cap' (x0++ys).length t.size):=⟨fun _ h=>h,hsame,M.push_le hu⟩
  have hget:∀ j,upd σ [i,nx] ((nx,Obj.row false t (x0++ys)) :: st.set i .dead) j=if j=nx then some (.row false t (x0++ys)) else if j=i then some .dead else σ j:=fun j=>by
   unfold upd
   simp only [List.mem_cons,List.not_mem_nil,or_false,zc_.get_cons,zc_.get_set]
   by_cases h1:j=nx
   ·simp [h1]
   ·by_cases h2:j=i
    ·simp [h2]
    ·simp [h1,h2]
  have hb:∀ b,blk=some b->w.heap.size<=b\/m.blk i=some b:=fun b e=>(g1 b e).imp id (hblk b)
  have hgn:∀ o',upd σ [i,nx] ((nx,Obj.row false t (x0++ys)) :: st.set i .dead) nx=some o'->o'=.row false t (x0++ys):=fun o' e=>by rw [hget,if_pos rfl] at e;exact (Option.some.inj e).symm
  have hgi:∀ o',upd σ [i,nx] ((nx,Obj.row false t (x0++ys)) :: st.set i .dead) i=some o'->o'=.dead:=fun o' e=>by rw [hget,if_neg hne,if_pos rfl] at e;exact (Option.some.inj e).symm
  refine k4_ hr ⟨g3,hs.step hE (fun j=>j=i\/j=nx) (fun j hj=>by rw [hget,if_neg (fun h=>hj (.inr h)),if_neg (fun h=>hj (.inl h))]) (hA.fr.weak fun b e=>⟨i,_,.inl rfl,hσ,rfl,hblk b e⟩) (fun b h=>.inl h) (fun b h=>Nat.lt_of_lt_of_le (hs.H.Ilt b h) hA.fr.size)
   (fun j o' hj e=>?_) (fun j o' b hj e hl hbb=>?_) (fun j k o' o'' b hj hk e e' hl hl' _ _=>?_) (fun j o' b hj e hm hbb hI=>?_) (fun j t' x' b hj e hbb=>?_) (fun j wr kn hj e=>by rcases hj with rfl | rfl<;>first | (cases hgi _ e;done) | (cases hgn _ e;done)) (fun b hb=>.inl hb),hE,fun j hj=>?_⟩
  ·rcases hj with rfl | rfl
   ·cases hgi o' e;exact ⟨.inl hui,trivial⟩
   ·cases hgn o' e;exact ⟨.inr rfl,g2⟩
  ·rcases hj with rfl | rfl
   ·cases hgi o' e;cases hl
   ·rw [M.push_blk] at hbb
    exact (hb b hbb).imp id fun h=>⟨i,_,.inl rfl,hσ,rfl,fun _=>rfl,h⟩
  ·rcases hj with rfl | rfl<;>rcases hk with rfl | rfl
   ·rfl
   ·cases hgi o' e;cases hl
   ·cases hgi o'' e';cases hl'
   ·rfl
  ·rcases hj with rfl | rfl
   ·cases hgi o' e;cases hm
   ·rw [M.push_blk] at hbb
    rcases hb b hbb with h | h
    ·have:=hs.H.Ilt b hI;omega
    ·exact hs.H.notI i _ b hσ rfl h hI
  ·rcases hj with rfl | rfl
   ·cases hgi _ e
   ·cases hgn _ e
  ·rcases hj with h | h
   ·exact .inl h
   ·subst h;exact .inr ⟨Nat.le_refl _,Nat.lt_succ_self _⟩
theorem VK_ {t:Ty} {v:AV} {K':List t.den->Prop} (ev:W8_ t st v K'):v.ids0=v.ids/\∀ {I:Nat->Prop} {w:World} {m:M} {cv:Value},RV I w m v cv->RV0 I w m v cv:=by
 unfold W8_ at ev
 cases v<;>first | exact ⟨rfl,fun h=>h⟩ | exact ev.elim
theorem uo_ {I:Nat->Prop} {w:World} {m:M} {i:Nat} {t:Ty} {x:List t.den} {fz:Bool} {ao:Option Addr} {len cap:Nat} (h:zH_ I w m i (.row fz t x)) (hO:RO m i ao len cap):len=x.length/\cap=m.cap i/\len<=cap/\cap<=maxLen/\Lies (t=.int .u8) w t.size ao cap:=by
 obtain ⟨q1,q2,q3,q4,q5⟩:=h
 obtain ⟨h1,h2,h3,h4,h5,h6⟩:=hO
 refine ⟨by omega,h3,h4,h5,?_⟩
 rcases q5 with ⟨q5,q6⟩ | ⟨b,cs,T,fz,q6,q7,q8,q9,_⟩
 ·rcases h6 with ⟨_,h6,h7⟩ | ⟨b',h6,h7⟩
  ·exact .inl ⟨h6,h7⟩
  ·rw [q5] at h6;cases h6
 ·rcases h6 with ⟨h6,_⟩ | ⟨b',h6,h7⟩
  ·rw [q6] at h6;cases h6
  ·rw [q6] at h6;cases h6
   exact .inr ⟨b,cs,T,fz,h7,q7,q8,by rw [h3];exact q9⟩
theorem hH_ {t:Ty} {bytes:Nat} {x' y':Opd} (hok:zD_ P o.op (.append t bytes x' y')=true) (ev:zy_ Γ (.append t bytes x' y') fr st nx K):MOK P o [x',y'] fr (Zj_ [x',y'] fr) true st nx K:=by
 simp only [zy_,zc_.setK_eq] at ev
 simp only [zD_] at hok
 split at hok
 ·rename_i args ts ho
  simp only [Bool.and_eq_true] at hok
  obtain ⟨h1,h2⟩:=hok
  obtain ⟨x,y,rfl,hx,hy⟩:=xe_ h1
  split at h2
  ·rename_i tt u hts
   simp only [Bool.and_eq_true] at h2
   obtain ⟨h2,h3⟩:=h2
   obtain ⟨e',hu⟩:=K8_ h3
   split at h2
   ·rename_i e he
    have he:=qL_ he
    simp only [Bool.and_eq_true,decide_eq_true_eq] at h2
    obtain ⟨⟨⟨⟨h4,h5⟩,h6⟩,h7⟩,h8⟩:=h2
    obtain ⟨i,hi,hsz⟩:=qf_ h4
    obtain ⟨i',hi',hby⟩:=Wc_ h5
    rw [hi] at hi' h8;cases hi'
    simp only at h8
    split at h8
    ·rename_i v hv
     simp only [beq_iff_eq] at h8
     have hts':ts=#[tt,u]:=Array.toList_inj.1 hts
     subst hts'
     have hex:∀ a:Act,execOp a.eval o=(do pure (.value (<- Builtin.append_ #[tt,u] o.type #[a.eval x,a.eval y]))):=fun a=>by rw [qw_ ho];simp [builtin]
     obtain ⟨ys,ev1,hd⟩:=JS_ ev
     obtain ⟨di1,di2⟩:=VK_ ev
     have hyF:∀ j ∈ (y'.ev fr).ids0,j ∈ Zj_ [x',y'] fr:=fun j hj=>zs_ ZL_ rfl j (by rw [<- di1];exact hj)
     split at ev1
     ·-- onto nil
      rename_i hb
      obtain ⟨⟨n1,n2⟩,hK⟩:=zi_ ev1
      refine K6_ hK (fun _ _ h=>by cases h) fun {I w m a σ} hf hH ha hN=>?_
      have hv1:=hf.rv Zd_ hx;rw [hb] at hv1
      have hv1:a.eval x=.slice none 0 0:=hv1
      have hsrc:=hd hH (fun j hj=>ha j (hyF j hj)) (di2 (hf.rv ZL_ hy))
      obtain ⟨news,g1,g2,g3,g4,g5⟩:=xx_ (P:=P) hsrc
      obtain ⟨w',ao',cap',r1,r2⟩:=We_ (q:=t=.int .u8) (ty:=o.type) (sLen:=0) (sCap:=0) (ao:=none) (src:=a.eval y) he (.inl ⟨e',hu⟩) hi hv (by rw [hsz];exact h8) (Nat.le_refl _) (Nat.zero_le _) (.inl ⟨rfl,rfl⟩) (by rw [hsz];exact g1) g2 (by rw [hsz];exact g4) g5 (by rw [hby,Nat.zero_add];exact n1) (by omega) (by omega)
      rw [hsz] at r2
      have hfr:Fr (fun _=>False) w w':=r2.fr.weak fun b e=>by cases e
      have hrow:=fun hs:qs_ I w w'=>Qm_ (nx:=nx) (m:=m) (x0:=([]:List t.den)) (ys:=ys) hs r2 g1 g3 (.inl rfl)
      have hsm:qs_ I w w':=fun b hb=>hfr.block b (hH.Ilt b hb) id
      obtain ⟨blk,k1,k2,k3⟩:=hrow hsm
      refine ⟨_,hex a,.slice ao' (0+ys.length) cap',w',blk,cap',ys.length,t.size,by rw [hv1];exact r1,hfr,fun b hb=>?_,fun _=>k2,fun _=>k3⟩
      rcases k1 b hb with h | h
      ·exact h
      ·cases h
     ·-- onto a row
      rename_i j hb
      split at ev1
      ·rename_i t' x0' hl
       obtain ⟨rfl,ev2⟩:=Zl_ ev1
       obtain ⟨⟨n1,n2⟩,hK⟩:=zi_ ev2
       refine b2_ (i:=j) (x0:=x0') hl (zs_ Zd_ hb j (by simp [AV.ids,AV.ids1,AV.ids0])) rfl hK fun {I w m a σ} hf hH ha hok=>?_
       have hv1:=hf.rv Zd_ hx;rw [hb] at hv1
       obtain ⟨ao,len,cap,e1,hO⟩:=hv1
       obtain ⟨l1,l2,l3,l4,l5⟩:=uo_ hok hO
       subst l1;subst l2
       have hsrc:=hd hH (fun j hj=>ha j (hyF j hj)) (di2 (hf.rv ZL_ hy))
       obtain ⟨news,g1,g2,g3,g4,g5⟩:=xx_ (P:=P) hsrc
       obtain ⟨w',ao',cap',r1,r2⟩:=We_ (ty:=o.type) (src:=a.eval y) he (.inl ⟨e',hu⟩) hi hv (by rw [hsz];exact h8) l3 l4 (by rw [hsz];exact l5) (by rw [hsz];exact g1) g2 (by rw [hsz];exact g4) g5 (by rw [hby];exact n1) n2 (by omega)
       rw [hsz] at r2
       exact ⟨ao,ao',cap',w',news,JP_ (hex a) (by rw [e1];exact r1),r2,g1,g3,hO⟩
      ·exact ev1.elim
     ·exact ev1.elim
    ·cases h8
   ·cases h2
  ·cases h2
 ·cases hok
theorem VD_ {i:Nat} {t:Ty} {x0:List t.den} {ob':Obj} (hi:st.get i=some (.row false t x0)) (hF:i ∈ F) (hwr:wr=true) (hmu:ob'.mut=true) (hK:K (.own nx) ((nx,ob') :: st.set i .dead) (nx+1))
 (h:∀ {I:Nat->Prop} {w:World} {m:M} {a:Act} {σ:Sto},FOn L fr I w m a->HRel I w m σ->(∀ i ∈ F,σ i=st.get i)->zH_ I w m i (.row false t x0)->∃ (ao:Option Addr) (w':World) (cv:Value) (blk:Option Nat) (cap len sz:Nat),(execOp a.eval o).run P w=.ok (.value cv) w'/\
   Fr (fun b=>ao=some ⟨b,0,none⟩) w w'/\RO m i ao x0.length (m.cap i)/\(∀ b,blk=some b->w.heap.size<=b\/ao=some ⟨b,0,none⟩)/\(¬ m.used nx->qs_ I w w'->zH_ I w' (m.push nx blk cap len sz) nx ob'/\RV I w' (m.push nx blk cap len sz) (.own nx) cv)):MOK P o L fr F wr st nx K:=by
 refine ⟨.own nx,_,nx+1,[i,nx],Nat.le_succ _,hK,fun j hj=>?_,fun j hj=>?_,fun {X0 I0 w0 σ I w m a} hf hs ha hN=>?_⟩
 ·simp only [List.mem_cons,List.not_mem_nil,or_false,not_or] at hj
  rw [zc_.get_cons,if_neg hj.2,zc_.get_set,if_neg hj.1]
 ·simp only [List.mem_cons,List.not_mem_nil,or_false] at hj
  rcases hj with rfl | rfl
  ·exact .inl ⟨hwr,hF,by rw [hi];intro h;cases h⟩
  ·exact .inr ⟨Nat.le_refl _,Nat.lt_succ_self _⟩
 ·have hu:=hN nx (Nat.le_refl _) (Nat.lt_succ_self _)
  have hσ:σ i=some (.row false t x0):=by rw [ha i hF,hi]
  have hui:m.used i:=hs.H.lt i (by rw [hσ];intro h;cases h)
  have hne:i ≠ nx:=fun e=>hu (e ▸ hui)
  have hok:=hs.H.obj i _ hσ
  have hml:∀ {o:Obj},o.mut=true->o.live=true:=fun {o} h=>by cases o<;>first | rfl | cases h
  obtain ⟨ao,w',cv,blk,cap',len',sz',hr,hfr,hO,g1,g23⟩:=h hf hs.H ha hok
  have hblk:∀ b,ao=some ⟨b,0,none⟩->m.blk i=some b:=fun b e=>by
   obtain ⟨_,_,_,_,_,h6⟩:=hO
   rcases h6 with ⟨_,h6,_⟩ | ⟨b',h6,h7⟩
   ·rw [h6] at e;cases e
   ·rw [h7] at e;cases e;exact h6
  have hsame:qs_ I w w':=fun b hb=>hfr.block b (hs.H.Ilt b hb) fun e=>hs.H.notI i _ b hσ rfl (hblk b e) hb
  obtain ⟨g2,g3⟩:=g23 hu hsame
  have hE:Evo I w m I w' (m.push nx blk cap' len' sz'):=⟨fun _ h=>h,hsame,M.push_le hu⟩
  have hget:∀ j,upd σ [i,nx] ((nx,ob') :: st.set i .dead) j=if j=nx then some ob' else if j=i then some .dead else σ j:=fun j=>by
   unfold upd
   simp only [List.mem_cons,List.not_mem_nil,or_false,zc_.get_cons,zc_.get_set]
   by_cases h1:j=nx
   ·simp [h1]
   ·by_cases h2:j=i
    ·simp [h2]
    ·simp [h1,h2]
  have hb:∀ b,blk=some b->w.heap.size<=b\/m.blk i=some b:=fun b e=>(g1 b e).imp id (hblk b)
  have hgn:∀ o',upd σ [i,nx] ((nx,ob') :: st.set i .dead) nx=some o'->o'=ob':=fun o' e=>by rw [hget,if_pos rfl] at e;exact (Option.some.inj e).symm
  have hgi:∀ o',upd σ [i,nx] ((nx,ob') :: st.set i .dead) i=some o'->o'=.dead:=fun o' e=>by rw [hget,if_neg hne,if_pos rfl] at e;exact (Option.some.inj e).symm
  refine k4_ hr ⟨g3,hs.step hE (fun j=>j=i\/j=nx) (fun j hj=>by rw [hget,if_neg (fun h=>hj (.inr h)),if_neg (fun h=>hj (.inl h))]) (hfr.weak fun b e=>⟨i,_,.inl rfl,hσ,rfl,hblk b e⟩) (fun b h=>.inl h) (fun b h=>Nat.lt_of_lt_of_le (hs.H.Ilt b h) hfr.size)
   (fun j o' hj e=>?_) (fun j o' b hj e hl hbb=>?_) (fun j k o' o'' b hj hk e e' hl hl' _ _=>?_) (fun j o' b hj e hm hbb hI=>?_) (fun j t' x' b hj e hbb=>?_) (fun j wr kn hj e=>?_) (fun b hb=>.inl hb),hE,fun j hj=>?_⟩
  ·rcases hj with rfl | rfl
   ·cases hgi o' e;exact ⟨.inl hui,trivial⟩
   ·cases hgn o' e;exact ⟨.inr rfl,g2⟩
  ·rcases hj with rfl | rfl
   ·cases hgi o' e;cases hl
   ·rw [M.push_blk] at hbb
    exact (hb b hbb).imp id fun h=>⟨i,_,.inl rfl,hσ,rfl,fun _=>rfl,h⟩
  ·rcases hj with rfl | rfl<;>rcases hk with rfl | rfl
   ·rfl
   ·cases hgi o' e;cases hl
   ·cases hgi o'' e';cases hl'
   ·rfl
  ·rcases hj with rfl | rfl
   ·cases hgi o' e;cases hm
   ·rw [M.push_blk] at hbb
    rcases hb b hbb with h | h
    ·have:=hs.H.Ilt b hI;omega
    ·exact hs.H.notI i _ b hσ rfl h hI
  ·rcases hj with rfl | rfl
   ·cases hgi _ e
   ·have:=hgn _ e;subst this;cases hmu
  ·rcases hj with rfl | rfl
   ·cases hgi _ e
   ·have:=hgn _ e;subst this;cases hmu
  ·rcases hj with h | h
   ·exact .inl h
   ·subst h;exact .inr ⟨Nat.le_refl _,Nat.lt_succ_self _⟩
theorem Gp_ {t:Ty} {bytes:Nat} {x' y':Opd} (hok:zD_ P o.op (.appendJ t bytes x' y')=true) (ev:zy_ Γ (.appendJ t bytes x' y') fr st nx K):MOK P o [x',y'] fr (Zj_ [x',y'] fr) true st nx K:=by
 simp only [zy_,zc_.setK_eq,Zz_] at ev
 simp only [zD_] at hok
 split at hok
 ·rename_i args ts ho
  simp only [Bool.and_eq_true] at hok
  obtain ⟨h1,h2⟩:=hok
  obtain ⟨x,y,rfl,hx,hy⟩:=xe_ h1
  split at h2
  ·rename_i tt u hts
   simp only [Bool.and_eq_true] at h2
   obtain ⟨h2,h3⟩:=h2
   obtain ⟨e',hu⟩:=K8_ h3
   split at h2
   ·rename_i e he
    have he:=qL_ he
    simp only [Bool.and_eq_true,decide_eq_true_eq] at h2
    obtain ⟨⟨⟨⟨h4,h5⟩,h6⟩,h7⟩,h8⟩:=h2
    obtain ⟨i,hi,hsz⟩:=qf_ h4
    obtain ⟨i',hi',hby⟩:=Wc_ h5
    rw [hi] at hi' h8;cases hi'
    simp only at h8
    split at h8
    ·rename_i v hv
     simp only [beq_iff_eq] at h8
     have hts':ts=#[tt,u]:=Array.toList_inj.1 hts
     subst hts'
     have hex:∀ a:Act,execOp a.eval o=(do pure (.value (<- Builtin.append_ #[tt,u] o.type #[a.eval x,a.eval y]))):=fun a=>by rw [qw_ ho];simp [builtin]
     split at ev
     ·rename_i j hb
      split at ev
      ·rename_i fz t' x0' hl
       split at ev
       ·exact ev.elim
       ·obtain ⟨rfl,ev⟩:=Zl_ ev
        split at ev
        ·rename_i r t'' ys' hyb
         split at ev
         ·rename_i wr0 kn hr0
          split at ev
          ·obtain ⟨rfl,ev⟩:=Zl_ ev
           obtain ⟨⟨n0,n1,n2⟩,ev3⟩:=zi_ ev
           clear ev
           simp only at n0 n1 n2 ev3
           have hx0:x0'=[]:=List.eq_nil_of_length_eq_zero n0
           subst hx0
           have hjF:j ∈ Zj_ [x',y'] fr:=zs_ Zd_ hb j (by simp [AV.ids,AV.ids1,AV.ids0])
           have hrF:r ∈ Zj_ [x',y'] fr:=zs_ ZL_ hyb r (by simp [AV.ids,AV.ids1,AV.ids0])
           have run:∀ {I:Nat->Prop} {w:World} {m:M} {a:Act} {σ:Sto},FOn [x',y'] fr I w m a->HRel I w m σ->(∀ i ∈ Zj_ [x',y'] fr,σ i=st.get i)->zH_ I w m j (.row false t'' [])->
            ∃ (ao ao':Option Addr) (cap':Nat) (w':World) (news:List Value),(execOp a.eval o).run P w=.ok (.value (.slice ao' (0+ys'.length) cap')) w'/\Appended (t''=.int .u8) w w' t''.size ao ao' 0 ys'.length cap' news/\news.length=ys'.length*t''.size/\
              (EA (m.rg r).dp w t'' ys' fun k=>news[k]?)/\RO m j ao 0 (m.cap j)/\m.used r/\qs_ (m.rg r).dp (m.rg r).wc w/\qs_ (m.rg r).dp w w':=fun {I w m a σ} hf hH ha hok=>by
            have hv1:=hf.rv Zd_ hx;rw [hb] at hv1
            obtain ⟨ao,len,cap,e1,hO⟩:=hv1
            obtain ⟨l1,l2,l3,l4,l5⟩:=uo_ hok hO
            subst l1;subst l2
            have hv2:=hf.rv ZL_ hy;rw [hyb] at hv2
            obtain ⟨⟨ao2,len2,cap2,e2,s1,s2,s3,s4⟩,hur⟩:=hv2
            have hrg:σ r=some (.reg wr0 true):=by rw [ha r hrF,hr0]
            have hk:qs_ (m.rg r).dp (m.rg r).wc w:=fun b hd=>(hH.gar r wr0 true b hrg hd).2.2.2.2.1 rfl
            have hsrc:Src (m.rg r).dp w t'' ys' (a.eval y):=⟨ao2,len2,cap2,e2,s1,by omega,fun h0=>by
             obtain ⟨b,o2,q1,q2,q3⟩:=s4 h0
             refine ⟨b,o2,q1,fun k hk'=>?_⟩
             obtain ⟨es,q4,q5⟩:=q3 k hk'
             refine ⟨es,ZP_ (fun _ h=>h) hk _ _ _ q4,fun q hq=>?_⟩
             rw [<- q5 q hq,<- hk.cell q2,Nat.add_assoc]⟩
            obtain ⟨news,g1,g2,g3,g4,g5⟩:=xx_ (P:=P) hsrc
            obtain ⟨w',ao',cap',r1,r2⟩:=We_ (q:=t''=.int .u8) (ty:=o.type) (src:=a.eval y) he (.inl ⟨e',hu⟩) hi hv (by rw [hsz];exact h8) l3 l4 (by rw [hsz];exact l5) (by rw [hsz];exact g1) g2 (by rw [hsz];exact g4) g5 (by rw [hby];simpa using n1) (by simpa using n2) (by omega)
            rw [hsz] at r2
            have hj:σ j=some (.row false t'' []):=by rw [ha j hjF,hl]
            refine ⟨ao,ao',cap',w',news,JP_ (hex a) (by rw [e1];exact r1),r2,g1,g3,hO,hur,hk,fun b hd=>?_⟩
            obtain ⟨d1,d2,d3,_⟩:=hH.gar r wr0 true b hrg hd
            refine r2.fr.block b d1 fun e3=>d3 j _ hj rfl ?_
            obtain ⟨_,_,_,_,_,h6⟩:=hO
            rcases h6 with ⟨_,h6,_⟩ | ⟨b',h6,h7⟩
            ·rw [h6] at e3;cases e3
            ·rw [h7] at e3;cases e3;exact h6
           rcases QE_ ev3 with ⟨hd,ev4⟩ | ⟨hd,ev4⟩
           ·have hd:=of_decide_eq_true hd
            refine VD_ (i:=j) (x0:=([]:List t''.den)) hl hjF rfl rfl ev4 fun {I w m a σ} hf hH ha hok=>?_
            obtain ⟨ao,ao',cap',w',news,hr,hA,hn,he,hO,hur,hk,hk'⟩:=run hf hH ha hok
            obtain ⟨blk,g1,g2,g3⟩:=Qm_ (nx:=nx) (m:=m) (x0:=([]:List t''.den)) hk' hA hn he (.inl rfl)
            refine ⟨ao,w',_,blk,cap',_,t''.size,hr,hA.fr,hO,g1,fun hnu hs=>⟨?_,g3⟩⟩
            obtain ⟨p1,p2,p3,p4,p5⟩:=g2
            change ys'.length=_ at p2
            change ys'.length<=_ at p3
            have hrn:r ≠ nx:=fun e=>hnu (e ▸ hur)
            have hur':(m.push nx blk cap' ([]++ys').length t''.size).used r:=.inl hur
            rcases p5 with ⟨_,p5⟩ | ⟨b,cs,T,fz,q1,q2,q3,q4,q5⟩
            ·omega
            ·have hdp:∀ k (h:k < ys'.length),∃ es,RC (m.rg r).dp (m.rg r).wc t'' ys'[k] es/\∀ j (hj:j < es.length),cs[k*t''.size+j]?=some es[j]:=fun k hk2=>by
              obtain ⟨es,f1,f2⟩:=q5 k (by simpa using hk2)
              refine ⟨es,ZP_ (fun _ h=>h) (fun b hb=>((hk' b hb).trans (hk b hb)).symm) _ _ _ f1,f2⟩
             refine ⟨p1,p2,p3,p4,hd,r,_,b,cs,T,fz,rfl,hur',?_,q1,q2,q3,q4,fun k hk2=>?_⟩
             ·obtain ⟨es,f1,_⟩:=hdp 0 hd
              have hg:ys'.getD 0 t''.dflt=ys'[0]:=by simp [hd]
              rw [hg,z9_ (wa_ (I:=I) (w:=w) hur _ _ _ f1),Zy_ _ _ _ f1]
             ·obtain ⟨es,f1,f2⟩:=hdp k hk2
              refine ⟨es,Zy_ _ _ _ f1,fun h=>absurd h (Nat.not_lt_zero _),fun _=>f1,fun h=>?_,f2⟩
              subst h
              have hg:ys'.getD 0 t''.dflt=ys'[0]:=by simp [hd]
              rw [hg]
              exact wa_ (m:=m.push nx blk cap' ([]++ys').length t''.size) hur' _ _ _ f1
           ·have hd:=of_decide_eq_false hd
            have hys:ys'=[]:=List.eq_nil_of_length_eq_zero (by omega)
            subst hys
            refine VD_ (i:=j) (x0:=([]:List t''.den)) hl hjF rfl rfl ev4 fun {I w m a σ} hf hH ha hok=>?_
            obtain ⟨ao,ao',cap',w',news,hr,hA,hn,he,hO,hur,hk,hk'⟩:=run hf hH ha hok
            have mk:=fun hs:qs_ I w w'=>Qm_ (nx:=nx) (m:=m) (x0:=([]:List t''.den)) (ys:=[]) hs hA hn EA.nil (.inl rfl)
            obtain ⟨blk,g1,g2,g3⟩:=Qm_ (nx:=nx) (m:=m) (x0:=([]:List t''.den)) hk' hA hn he (.inl rfl)
            refine ⟨ao,w',_,blk,cap',_,t''.size,hr,hA.fr,hO,g1,fun hnu hs=>⟨?_,g3⟩⟩
            obtain ⟨p1,p2,p3,p4,p5⟩:=g2
            refine ⟨p1,p2,p3,p4,p5.imp id ?_⟩
            rintro ⟨b,cs,T,fz,q1,q2,q3,q4,_⟩
            exact ⟨b,cs,T,fz,q1,q2,q3,q4,fun k hk2=>absurd hk2 (Nat.not_lt_zero _)⟩
          ·exact ev.elim
         ·exact ev.elim
        ·exact ev.elim
      ·exact ev.elim
     ·exact ev.elim
    ·cases h8
   ·cases h2
  ·cases h2
 ·cases hok
end ops
section ops
variable {P:Program} {Γ:Env} {o:Oper} {L:List Opd} {fr:zg_} {F:List Nat} {wr:Bool} {st:zc_} {nx:Nat} {K:AV->zc_->Nat->Prop}
theorem zaB_ {x:Operand} (h:G9_ x=true) (a:Act):a.eval x=.slice none 0 0:=by
 unfold G9_ at h
 split at h
 ·rfl
 ·cases h
theorem G7_ {t:Ty} (hok:zD_ P o.op (.nilrow t)=true) (ev:zy_ Γ (.nilrow t) fr st nx K):MOK P o [] fr F wr st nx K:=by
 simp only [zy_] at ev
 simp only [zD_] at hok
 have hop:∃ x,G9_ x=true/\∀ a:Act,execOp a.eval o=(do pure (.value (<- (pure (a.eval x):Sem Value)))):=by
  split at hok
  ·rename_i x ho;exact ⟨x,hok,fun a=>by unfold execOp;rw [ho];rfl⟩
  ·rename_i x ho;exact ⟨x,hok,fun a=>by unfold execOp;rw [ho];rfl⟩
  ·cases hok
 obtain ⟨x,hx,hex⟩:=hop
 refine K6_ ev (fun _ _ h=>by cases h) fun {I w m a σ} hf hH ha hu=>⟨_,hex a,.slice none 0 0,w,none,0,0,t.size,by rw [zaB_ hx a];rfl,Fr.refl _ _,fun b hb=>(by cases hb),fun _=>?_,fun _=>?_⟩
 ·exact ⟨M.push_sz _ _ _ _ _ _,(M.push_len _ _ _ _ _ _).symm,Nat.zero_le _,by rw [M.push_cap];exact Nat.zero_le _,.inl ⟨M.push_blk _ _ _ _ _ _,M.push_cap _ _ _ _ _ _⟩⟩
 ·exact ⟨none,0,0,rfl,.inr rfl,(M.push_len _ _ _ _ _ _).symm,(M.push_cap _ _ _ _ _ _).symm,Nat.le_refl _,Nat.zero_le _,.inl ⟨M.push_blk _ _ _ _ _ _,rfl,rfl⟩⟩
theorem zaF_ {t k e:TypeId} {ts:Array TypeId} {ty:TypeId} {b:Nat} {es:Array MapEntry} {c:Nat} {w:World} (h0:ts[0]?=some t) (ht:P.underlying t=some (.map k e)) (hb:w.heap[b]?=some (.map es c)):
 (Builtin.len_ ts ty #[.map (some b)]).run P w=.ok (.int .i64 es.size) w:=by
 simp [Builtin.len_,h0,run_underlying ht,goInt,MapKept.run_getObj_map hb]
theorem b3_ {x':Opd} (hok:zD_ P o.op (.mlen x')=true) (ev:zy_ Γ (.mlen x') fr st nx K):MOK P o [x'] fr (Zj_ [x'] fr) wr st nx K:=by
 simp only [zy_] at ev
 simp only [zD_] at hok
 split at hok
 ·rename_i args ts ho
  simp only [Bool.and_eq_true] at hok
  obtain ⟨h1,h2⟩:=hok
  obtain ⟨x,rfl,hx⟩:=vc_ h1
  split at h2
  ·rename_i t ht
   obtain ⟨k,e,he⟩:=gL_ h2
   split at ev
   ·rename_i i hb
    split at ev
    ·rename_i q kt vt l hl
     obtain ⟨hn,ev⟩:=zi_ ev
     refine zC_ ev fun {I w m a σ} hf hH ha=>⟨Builtin.len_ ts o.type #[a.eval x],by rw [qw_ ho];simp [builtin],.int .i64 l.length,?_,?_⟩
     ·exact Zn_ (Qi_ (by unfold maxLen;omega))
     ·have hi:σ i=some (.map q kt vt l):=by rw [ha i (zs_ Z6_ hb i (by simp [AV.ids,AV.ids1,AV.ids0])),hl]
      obtain ⟨b,es,c,q1,q2,q3⟩:=hH.obj i _ hi
      have hv:=hf.rv Z6_ hx;rw [hb] at hv
      obtain ⟨b',q4,q5,_⟩:=hv
      rw [q1] at q4;cases q4
      rw [q5,zaF_ ht he q2,q3.1]
    ·exact ev.elim
   ·exact ev.elim
  ·cases h2
 ·cases hok
theorem yL_ {I:Nat->Prop} {w:World} {t:Ty} {ys:List t.den} {cv:Value} (h:Src I w t ys cv) (n:Nat) (hn:n<=ys.length):∃ news:List Value,news.length=n*t.size/\(∀ v ∈ news,v.oneCell'=true)/\(EA I w t (ys.take n) fun k=>news[k]?)/\
 (Builtin.firstCells t.size n cv).run P w=.ok news.toArray w/\(Builtin.lenOf cv).run P w=.ok ys.length w:=by
 obtain ⟨ao,len,cap,rfl,h1,h2,h3⟩:=h
 subst h1
 have hl:(ys.take n).length=n:=by simp;omega
 rcases Nat.eq_zero_or_pos n with h0 | h0
 ·subst h0
  refine ⟨[],by simp,fun v hv=>(by cases hv),by simpa using EA.nil,?_,rfl⟩
  cases ao with
  | none=>rfl
  | some q=>simp [Builtin.firstCells,loadCells,loadCellsFrom]
 ·obtain ⟨b,ofs,rfl,h4⟩:=h3 (by omega)
  obtain ⟨news,g1,g2,g3,g4⟩:=Vs_ (h4.take n)
  rw [hl] at g1
  refine ⟨news,g1,g3,g4,?_,rfl⟩
  have:=Zv_ (P:=P) (w:=w) (b:=b) (off:=ofs) news 0 #[] (fun j hj=>by rw [Nat.add_zero,g2 j hj])
  simp only [Builtin.firstCells,loadCells]
  rw [<- g1,this];simp
theorem GH_ {I:Nat->Prop} {w:World} {s:ByteArray} (n:Nat) (hn:n<=s.size):∃ news:List Value,news.length=n/\(∀ v ∈ news,v.oneCell'=true)/\(EA I w (.int .u8) ((zG_ s).take n) fun k=>news[k]?)/\
 (Builtin.firstCells 1 n (.string s)).run P w=.ok news.toArray w:=by
 refine ⟨((zG_ s).take n).map (Value.int .u8),by simp [Zr_];omega,fun v hv=>?_,fun i hi=>?_,?_⟩
 ·obtain ⟨x,_,rfl⟩:=List.mem_map.1 hv;rfl
 ·have hm:((zG_ s).take n)[i] ∈ zG_ s:=List.mem_of_mem_take (List.getElem_mem hi)
  have hr:0<=((zG_ s).take n)[i]/\((zG_ s).take n)[i]<=255:=by
   unfold zG_ at hm
   obtain ⟨b,_,hb⟩:=List.mem_map.1 hm
   have:=b.toNat_lt
   unfold zG_
   constructor<;>(rw [<- hb];omega)
  refine ⟨[.int .u8 ((zG_ s).take n)[i]],⟨rfl,by simpa [inK,IntKind.min,IntKind.max,IntKind.signed,IntKind.bits] using hr⟩,fun j hj=>?_⟩
  have:j=0:=by simp at hj;omega
  subst this
  simp only [Ty.size,Nat.mul_one,Nat.add_zero,List.getElem_cons_zero]
  rw [List.getElem?_map,List.getElem?_eq_getElem hi];rfl
 ·have e:((s.extract 0 n).data.map fun b=>Value.int .u8 b.toNat)=(((zG_ s).take n).map (Value.int .u8)).toArray:=by
   apply Array.ext'
   have h:=zae_ (s:=s) (A:=0) (B:=n) hn
   rw [List.drop_zero] at h
   rw [<- h]
   simp [zG_]
   rfl
  simp only [Builtin.firstCells]
  rw [e];rfl
theorem Gc_ {I:Nat->Prop} {w:World} {m:M} {i:Nat} {t:Ty} {x ys:List t.den} {ao:Option Addr} {off n k:Nat} {news:List Value} (hok:zH_ I w m i (.row false t x)) (ha:k=0\/∃ b,m.blk i=some b/\ao=some ⟨b,off*t.size,none⟩) (hk:k<=n) (hn:off+n<=x.length) (hy:k<=ys.length)
 (h1:news.length=k*t.size) (h2:∀ v ∈ news,v.oneCell'=true) (h3:EA I w t (ys.take k) fun j=>news[j]?):
 ∃ w',(match ao with | some a=>storeCells a news | none=>pure ()).run P w=.ok () w'/\Fr (fun b=>m.blk i=some b) w w'/\(qs_ I w w'->zH_ I w' m i (.row false t (x.take off++ys.take k++x.drop (off+k)))):=by
 rcases Nat.eq_zero_or_pos k with h0 | h0
 ·subst h0
  have hnews:news=[]:=List.eq_nil_of_length_eq_zero (by simpa using h1)
  subst hnews
  refine ⟨w,by cases ao<;>rfl,Fr.refl _ _,fun _=>?_⟩
  simpa using hok
 ·obtain ⟨b,hb,rfl⟩:=ha.resolve_left (by omega)
  obtain ⟨q1,q2,q3,q4,q5⟩:=hok
  rcases q5 with ⟨q5,_⟩ | ⟨b',cs,T,fz,q5,q6,q7,q8,q9⟩
  ·rw [hb] at q5;cases q5
  ·rw [hb] at q5;cases q5
   have q9:EA I w t x fun k=>cs[k]?:=q9
   have hcs:cs.toList.length=cs.size:=Array.length_toList
   have hfit:(off+k)*t.size<=cs.size:=by rw [q8];exact Nat.mul_le_mul_right _ (by omega)
   rw [Nat.add_mul] at hfit
   obtain ⟨w',r1,r2,r3,r4,r5,r6,r7⟩:=Zs_ (P:=P) news 0 (off*t.size) w cs q6 q7.1 (by omega) h2
   have hsize:=kN_ cs news (off*t.size) (by omega)
   have hget:∀ j,((cs.toList.take (off*t.size+0)++news++cs.toList.drop (off*t.size+0+news.length)).toArray)[j]?=if j < off*t.size then cs[j]? else if j < off*t.size+news.length then news[j - off*t.size]? else cs[j]?:=fun j=>by
    rw [List.getElem?_toArray,Nat.add_zero,KY_ _ _ _ (by omega)]
    simp only [Array.getElem?_toList]
   have hl1:(x.take off).length=off:=by simp;omega
   have hl2:(ys.take k).length=k:=by simp;omega
   have hl3:(x.take off++ys.take k).length=off+k:=by rw [List.length_append,hl1,hl2]
   have hl4:(x.take off++ys.take k++x.drop (off+k)).length=x.length:=by rw [List.length_append,hl3,List.length_drop];omega
   refine ⟨w',r1,⟨r5,r6,r7,by omega,fun j _ hj=>r4 j (fun e=>hj (by rw [e];exact hb))⟩,fun hs=>⟨q1,by rw [hl4];exact q2,by rw [hl4];exact q3,q4,.inr ⟨b,_,T,fz,hb,r2,by rw [hsize];exact q7,by rw [hsize];exact q8,?_⟩⟩⟩
   refine EA.append (EA.append (((q9.take off).mono (fun _ h=>h) hs).congr fun j hj=>?_) ((h3.mono (fun _ h=>h) hs).congr fun j hj=>?_)) (((q9.drop (off+k)).mono (fun _ h=>h) hs).congr fun j hj=>?_)
   ·rw [hl1] at hj
    show ((cs.toList.take (off*t.size+0)++news++cs.toList.drop (off*t.size+0+news.length)).toArray)[j]?=_
    rw [hget,if_pos hj]
   ·rw [hl2] at hj
    show ((cs.toList.take (off*t.size+0)++news++cs.toList.drop (off*t.size+0+news.length)).toArray)[(x.take off).length*t.size+j]?=_
    rw [hget,hl1,if_neg (by omega),if_pos (by omega)];congr 1;omega
   ·show ((cs.toList.take (off*t.size+0)++news++cs.toList.drop (off*t.size+0+news.length)).toArray)[(x.take off++ys.take k).length*t.size+j]?=_
    rw [hget,hl3,Nat.add_mul,if_neg (by omega),if_neg (by omega)]
theorem VL_ {I:Nat->Prop} {w:World} {m:M} {k:IntKind} {ys:List Int}:∀ (os:List Int) (j:Nat) (c:List Value),c.length=os.length->(∀ q (hq:q < os.length),c[q]?=some (.int k (if j+q < ys.length then ys.getD (j+q) 0 else os[q])))->(∀ n ∈ os,inK k n)->(∀ n ∈ ys,inK k n)->z1_ I w m (VM_ k ys j os) c
 | [],j,c,h,_,_,_=>by
   have hc:c=[]:=List.eq_nil_of_length_eq_zero (by simpa using h)
   rw [hc];exact trivial
 | o :: r,j,c,h,hc,ho,hy=>by
   cases c with
   | nil=>simp at h
   | cons v c=>
     have h0:=hc 0 (by simp)
     simp only [List.getElem?_cons_zero,Nat.add_zero,Option.some.injEq,List.getElem_cons_zero] at h0
     refine ⟨⟨h0,?_⟩,VL_ r (j+1) c (by simpa using h) (fun q hq=>?_) (fun n hn=>ho n (by simp [hn])) hy⟩
     ·split
      ·rename_i hlt
       rw [List.getD_eq_getElem?_getD,List.getElem?_eq_getElem hlt]
       exact hy _ (List.getElem_mem hlt)
      ·exact ho o (by simp)
     ·have:=hc (q+1) (by simp;omega)
      simp only [List.getElem?_cons_succ,List.getElem_cons_succ] at this
      rw [this,show j+(q+1)=j+1+q by omega]
theorem UN_ {I:Nat->Prop} {w:World} {k:IntKind} {ys:List Int} {f:Nat->Option Value} (h:EA I w (.int k) ys f):(∀ n ∈ ys,inK k n)/\∀ j (hj:j < ys.length),f j=some (.int k ys[j]):=by
 have key:∀ j (hj:j < ys.length),inK k ys[j]/\f j=some (.int k ys[j]):=fun j hj=>by
  obtain ⟨es,h1,h2⟩:=h j hj
  obtain ⟨rfl,h3⟩:=h1
  have:=h2 0 (by simp)
  simp only [Ty.size,Nat.mul_one,Nat.add_zero,List.getElem_cons_zero] at this
  exact ⟨h3,this⟩
 refine ⟨fun n hn=>?_,fun j hj=>(key j hj).2⟩
 obtain ⟨j,hj,rfl⟩:=List.mem_iff_getElem.1 hn
 exact (key j hj).1
theorem GJ_ {t:Ty} {st:zc_} {v:AV} {K:List t.den->Prop} (ev:srcK t st v K):v.ids0=v.ids/\∃ ys,K ys/\
 ∀ {I:Nat->Prop} {w:World} {m:M} {σ:Sto} {cv:Value},HRel I w m σ->(∀ i ∈ v.ids0,σ i=st.get i)->RV I w m v cv->
   ys.length<=maxLen/\(Builtin.lenOf cv).run P w=.ok ys.length w/\∀ n ≤ ys.length,∃ news:List Value,news.length=n*t.size/\(∀ v ∈ news,v.oneCell'=true)/\(EA I w t (ys.take n) fun k=>news[k]?)/\(Builtin.firstCells t.size n cv).run P w=.ok news.toArray w:=by
 unfold srcK at ev
 split at ev
 ·rename_i l
  obtain ⟨rfl,ev⟩:=Zl_ ev
  refine ⟨rfl,l,ev,fun {I w m σ cv} hH ha hv=>?_⟩
  obtain ⟨s,rfl,rfl,hs⟩:=hv
  refine ⟨by rw [Zr_];exact hs,by rw [Zr_];rfl,fun n hn=>?_⟩
  rw [Zr_] at hn
  obtain ⟨news,g1,g2,g3,g4⟩:=GH_ (P:=P) (I:=I) (w:=w) n hn
  exact ⟨news,by simpa [Ty.size] using g1,g2,g3,g4⟩
 ·obtain ⟨ys,hK,h⟩:=JS_ ev
  obtain ⟨d1,d2⟩:=VK_ ev
  refine ⟨d1,ys,hK,fun {I w m σ cv} hH ha hv=>?_⟩
  have hs:=h hH ha (d2 hv)
  have hlen:ys.length<=maxLen:=by obtain ⟨_,_,_,_,e,hl,_⟩:=hs;omega
  refine ⟨hlen,?_,fun n hn=>?_⟩
  ·obtain ⟨_,_,_,_,_,k⟩:=yL_ (P:=P) hs 0 (Nat.zero_le _);exact k
  ·obtain ⟨news,g1,g2,g3,g4,_⟩:=yL_ (P:=P) hs n hn
   exact ⟨news,g1,g2,g3,g4⟩
theorem BF_ {t:Ty} {x' y':Opd} (hok:zD_ P o.op (.copy t x' y')=true) (ev:zy_ Γ (.copy t x' y') fr st nx K):MOK P o [x',y'] fr (Zj_ [x',y'] fr) true st nx K:=by
 simp only [zy_,zc_.setK_eq,Zz_] at ev
 simp only [zD_] at hok
 split at hok
 ·rename_i args ts ho
  simp only [Bool.and_eq_true] at hok
  obtain ⟨h1,h2⟩:=hok
  obtain ⟨x,y,rfl,hx,hy⟩:=xe_ h1
  split at h2
  ·rename_i tt ht
   split at h2
   ·rename_i e he
    have he:=qL_ he
    simp only [Bool.and_eq_true,decide_eq_true_eq] at h2
    obtain ⟨h4,hpos⟩:=h2
    obtain ⟨i0,hi0,hsz⟩:=qf_ h4
    have hex:∀ a:Act,execOp a.eval o=(do pure (.value (<- Builtin.copy_ ts o.type #[a.eval x,a.eval y]))):=fun a=>by rw [qw_ ho];simp [builtin]
    obtain ⟨d1,ys,ev1,hd⟩:=GJ_ (P:=P) ev
    have hyF:∀ j ∈ (y'.ev fr).ids0,j ∈ Zj_ [x',y'] fr:=fun j hj=>zs_ ZL_ rfl j (by rw [<- d1];exact hj)
    have hrun:∀ {a:Act} {w w':World} {ao:Option Addr} {len cap:Nat} {news:List Value},a.eval x=.slice ao len cap->(Builtin.lenOf (a.eval y)).run P w=.ok ys.length w->(Builtin.firstCells t.size (min ys.length len) (a.eval y)).run P w=.ok news.toArray w->(match ao with | some a=>storeCells a news | none=>pure ()).run P w=.ok () w'->
     (execOp a.eval o).run P w=.ok (.value (.int .i64 (min ys.length len:Nat))) w':=fun {a w w' ao len cap news} q1 q2 q3 q4=>by
     refine JP_ (hex a) ?_
     have q3':(Builtin.firstCells i0.size (Nat.min ys.length len) (a.eval y)).run P w=.ok news.toArray w:=by rw [hsz];exact q3
     cases ao with
     | none=>
       have q4':w=w':=by cases q4;rfl
       subst q4'
       simp [Builtin.copy_,ht,q1,run_underlying he,q2,z5_ hi0,q3',goInt]
     | some ad=>
       have q4':(storeCells ad news).run P w=.ok () w':=q4
       simp [Builtin.copy_,ht,q1,run_underlying he,q2,z5_ hi0,q3',q4',goInt]
    split at ev1
    ·-- a whole row
     rename_i i hb
     split at ev1
     ·rename_i t' x0 hl
      obtain ⟨rfl,ev2⟩:=Zl_ ev1
      refine uV_ (kG_ (ob:=.row false t' x0) (ob':=.row false t' (ys.take x0.length++x0.drop ys.length)) hl rfl rfl (zs_ Zd_ hb i (by simp [AV.ids,AV.ids1,AV.ids0])) rfl ev2 fun {I w m a σ} _ hf hH ha=>?_)
      have hi:σ i=some (.row false t' x0):=by rw [ha i (zs_ Zd_ hb i (by simp [AV.ids,AV.ids1,AV.ids0])),hl]
      have hv:=hf.rv Zd_ hx;rw [hb] at hv
      obtain ⟨ao,len,cap,e1,hO⟩:=hv
      have hok:=hH.obj i _ hi
      obtain ⟨l1,l2,l3,l4,l5⟩:=uo_ hok hO
      obtain ⟨g0,g1,g2⟩:=hd hH (fun j hj=>ha j (hyF j hj)) (hf.rv ZL_ hy)
      obtain ⟨news,n1,n2,n3,n4⟩:=g2 (min ys.length len) (Nat.min_le_left _ _)
      obtain ⟨_,_,_,_,_,h6⟩:=hO
      obtain ⟨w',r1,r2,r3⟩:=Gc_ (P:=P) (ao:=ao) (off:=0) (n:=len) (k:=min ys.length len) (ys:=ys) hok (by
       rcases h6 with ⟨_,_,h6⟩ | ⟨b,h6,h7⟩
       ·left;omega
       ·right;exact ⟨b,h6,by rw [Nat.zero_mul];exact h7⟩) (Nat.min_le_right _ _) (by omega) (Nat.min_le_left _ _) n1 n2 n3
      refine ⟨.int .i64 (min ys.length len:Nat),w',.inl (hrun e1 g1 n4 r1),r2,fun hs=>?_,fun _=>by rw [l1];exact Zn_ (Qi_ (by have:=Nat.min_le_left ys.length x0.length;omega))⟩
      have:=r3 hs
      have e2:x0.take 0++ys.take (min ys.length len)++x0.drop (0+min ys.length len)=ys.take x0.length++x0.drop ys.length:=by
       subst l1
       rw [List.take_zero,List.nil_append,Nat.zero_add]
       by_cases hc:ys.length<=x0.length
       ·rw [Nat.min_eq_left hc,List.take_length,List.take_of_length_le hc]
       ·rw [Nat.min_eq_right (by omega),List.drop_of_length_le (by omega:x0.length<=x0.length),List.drop_of_length_le (by omega)]
      rw [e2] at this;exact this
     ·exact ev1.elim
    ·-- a part of a row
     rename_i i off n hb
     split at ev1
     ·rename_i t' x0 hl
      obtain ⟨rfl,ev2⟩:=Zl_ ev1
      obtain ⟨hn,ev3⟩:=zi_ ev2
      have hn:off+n<=x0.length:=hn
      refine uV_ (kG_ (ob:=.row false t' x0) (ob':=.row false t' (x0.take off++ys.take n++x0.drop (off+min ys.length n))) hl rfl rfl (zs_ Zd_ hb i (by simp [AV.ids,AV.ids1,AV.ids0])) rfl ev3 fun {I w m a σ} _ hf hH ha=>?_)
      have hi:σ i=some (.row false t' x0):=by rw [ha i (zs_ Zd_ hb i (by simp [AV.ids,AV.ids1,AV.ids0])),hl]
      have hv:=hf.rv Zd_ hx;rw [hb] at hv
      obtain ⟨ao,len,cap,e1,s1,s2,s3,s4,s5,s6⟩:=hv
      subst s2
      have hok:=hH.obj i _ hi
      obtain ⟨g0,g1,g2⟩:=hd hH (fun j hj=>ha j (hyF j hj)) (hf.rv ZL_ hy)
      obtain ⟨news,n1,n2,n3,n4⟩:=g2 (min ys.length len) (Nat.min_le_left _ _)
      have hsz':m.sz i=t'.size:=hok.1
      obtain ⟨w',r1,r2,r3⟩:=Gc_ (P:=P) (ao:=ao) (off:=off) (n:=len) (k:=min ys.length len) (ys:=ys) hok (by
       rcases s6 with ⟨_,_,h6⟩ | ⟨b,ofs,h6,h7,h8⟩
       ·left;omega
       ·rcases Nat.eq_zero_or_pos len with h9 | h9
        ·left;omega
        ·right;exact ⟨b,h6,by rw [h7,h8 (by omega),hsz']⟩) (Nat.min_le_right _ _) hn (Nat.min_le_left _ _) n1 n2 n3
      refine ⟨.int .i64 (min ys.length len:Nat),w',.inl (hrun e1 g1 n4 r1),r2,fun hs=>?_,fun _=>Zn_ (Qi_ (by have:=Nat.min_le_left ys.length len;omega))⟩
      have:=r3 hs
      have e2:ys.take (min ys.length len)=ys.take len:=by
       by_cases hc:ys.length<=len
       ·rw [Nat.min_eq_left hc,List.take_length,List.take_of_length_le hc]
       ·rw [Nat.min_eq_right (by omega)]
      rw [e2] at this;exact this
     ·exact ev1.elim
    ·-- cells of a box
     rename_i i off n t' hb
     split at ev1
     ·rename_i l hl
      cases t with
      | int k=>
        dsimp only at ev1
        split at ev1
        ·rename_i heq _
         subst heq
         split at ev1
         ·rename_i hle0
          have hle:=Nat.le_of_ble_eq_true hle0
          obtain ⟨os,ev2,hos⟩:=JJ_ ev1
          refine uV_ (kG_ (ob:=.box l) (ob':=.box (put l off (VM_ k ys 0 os))) hl rfl rfl (zs_ Zd_ hb i (by simp [AV.ids,AV.ids1,AV.ids0])) rfl ev2 fun {I w m a σ} _ hf hH ha=>?_)
          have hi:σ i=some (.box l):=by rw [ha i (zs_ Zd_ hb i (by simp [AV.ids,AV.ids1,AV.ids0])),hl]
          have hv:=hf.rv Zd_ hx;rw [hb] at hv
          obtain ⟨b,cap,q1,e1,q2,q3,q4⟩:=hv
          obtain ⟨b',cs,T,fz,p1,p2,p3,p4⟩:=hH.obj i _ hi
          rw [q1] at p1;cases p1
          obtain ⟨g0,g1,g2⟩:=hd hH (fun j hj=>ha j (hyF j hj)) (hf.rv ZL_ hy)
          obtain ⟨news,n1,n2,n3,n4⟩:=g2 (min ys.length n) (Nat.min_le_left _ _)
          simp only [Ty.size,Nat.mul_one] at n1 n4
          obtain ⟨o1,o2⟩:=hos (ww_ n (KO_ off p4))
          have hlen:=z9_ p4
          have hcs:cs.toList.length=cs.size:=Array.length_toList
          have hosl:os.length=n:=by
           have:=congrArg List.length o1
           simp only [List.length_take,List.length_drop,List.length_map] at this
           omega
          have hmin:=Nat.min_le_right ys.length n
          obtain ⟨w',r1,r2,r3,r4,r5,r6,r7⟩:=Zs_ (P:=P) news 0 off w cs p2 p3 (by omega) n2
          have hsize:=kN_ cs news off (by omega)
          refine ⟨.int .i64 (min ys.length n:Nat),w',.inl (hrun e1 g1 (by simpa [Ty.size] using n4) r1),⟨r5,r6,r7,by omega,fun j _ hj=>r4 j (fun e=>hj (by rw [e];exact q1))⟩,fun hs=>⟨b,_,T,fz,q1,r2,by rw [hsize];exact p3,?_⟩,fun _=>Zn_ (Qi_ (by have:=Nat.min_le_left ys.length n;omega))⟩
          obtain ⟨g5,g6⟩:=UN_ n3
          obtain ⟨full,f1,f2,f3,f4⟩:=g2 ys.length (Nat.le_refl _)
          rw [List.take_length] at f3
          have hys:=(UN_ f3).1
          have hseg:(cs.toList.take (off+0)++news++cs.toList.drop (off+0+news.length))=cs.toList.take off++(news++(os.map (Value.int k)).drop news.length)++cs.toList.drop (off+(news++(os.map (Value.int k)).drop news.length).length):=by
           have hl2:(news++(os.map (Value.int k)).drop news.length).length=n:=by simp;omega
           rw [hl2,<- o1,Nat.add_zero,List.append_assoc,List.append_assoc,List.append_assoc]
           congr 2
           rw [List.drop_take,List.drop_drop]
           have:cs.toList.drop (off+n)=(cs.toList.drop (off+news.length)).drop (n - news.length):=by rw [List.drop_drop];congr 1;omega
           rw [this,List.take_append_drop]
          simp only
          rw [hseg]
          refine Zx_ (fun _ h=>h) hs m.le_refl _ _ (kY_ off p4 (VL_ os 0 _ (by simp;omega) (fun q hq=>?_) o2 hys) ?_)
          ·rw [Nat.zero_add]
           by_cases hq2:q < news.length
           ·rw [List.getElem?_append_left hq2,if_pos (by omega)]
            have hql:q < (ys.take (min ys.length n)).length:=by rw [List.length_take];omega
            have h7:news[q]?=some (.int k ((ys.take (min ys.length n))[q]'hql)):=g6 q hql
            rw [h7,List.getElem_take,List.getD_eq_getElem?_getD,List.getElem?_eq_getElem (by omega)];rfl
           ·rw [List.getElem?_append_right (by omega),if_neg (by omega),List.getElem?_drop,List.getElem?_map,show news.length+(q - news.length)=q by omega,List.getElem?_eq_getElem hq];rfl
          ·have:∀ (os:List Int) (j:Nat),(VM_ k ys j os).length=os.length:=fun os=>by
            induction os with
            | nil=>intro j;rfl
            | cons o r ih=>intro j;simp [VM_,ih]
           rw [this];omega
         ·exact ev1.elim
        ·exact ev1.elim
      | _=>exact ev1.elim
     ·exact ev1.elim
    ·exact ev1.elim
   ·cases h2
  ·cases h2
 ·cases hok
end ops
end Go.Eng
namespace Go.Eng
set_option linter.unusedVariables false
set_option linter.unusedSimpArgs false
open Go.RowKit
section lists
variable {α β:Type} [DecidableEq α]
end lists
section ops
variable {P:Program} {Γ:Env} {o:Oper} {L:List Opd} {fr:zg_} {F:List Nat} {wr:Bool} {st:zc_} {nx:Nat} {K:AV->zc_->Nat->Prop}
def YD_:(t:Ty)->t.den->List Value
 | .int k,n=>[.int k n]
 | .bool,b=>[.bool b]
 | .cons a b,x=>YD_ a x.1++YD_ b x.2
 | _,_=>[]
def hc_:(t:Ty)->t.den->Value
 | .int k,n=>.int k n
 | .bool,b=>.bool b
 | t,x=>.agg (YD_ t x).toArray
def hd_:(t:Ty)->t.den->Prop
 | .int k,n=>inK k n
 | .bool,_=>True
 | .nil,_=>True
 | .cons a b,x=>hd_ a x.1/\hd_ b x.2
 | _,_=>False
structure KeyP (P:Program) (a:TypeId) (kt:Ty):Prop where
 val:∀ {I:Nat->Prop} {w:World} {x:kt.den} {u:Value},RVal I w kt x u->u=hc_ kt x/\hd_ kt x
 check:∀ (w:World) (e:Bool) (x:kt.den),hd_ kt x->(Instr.checkKey e 10000 a (hc_ kt x)).run P w=.ok () w
 find:∀ {β:Type} (w:World) (x:kt.den) (l:List (kt.den × β)) (es:List MapEntry),hd_ kt x->l.length=es.length->(∀ j (h:j < l.length) (h':j < es.length),es[j].key=hc_ kt l[j].1/\hd_ kt l[j].1)->(Instr.findKey a (hc_ kt x) es).run P w=.ok (if midx l x < l.length then (es[midx l x]?).map (fun e=>(midx l x,e.val)) else none) w
 stays:∀ (w:World) (x:kt.den),hd_ kt x->(Instr.keyThatStays (hc_ kt x) (hc_ kt x)).run P w=.ok (hc_ kt x) w
end ops
end Go.Eng
namespace Go.Eng
set_option linter.unusedVariables false
set_option linter.unusedSimpArgs false
open Go.RowKit
section hs
variable {X0:Bool->Nat->Prop} {I0 I:Nat->Prop} {w0 w:World} {m:M} {σ σ':Sto}
end hs
section ops
variable {P:Program} {Γ:Env} {o:Oper} {L:List Opd} {fr:zg_} {F:List Nat} {wr:Bool} {st:zc_} {nx:Nat} {K:AV->zc_->Nat->Prop}
end ops
end Go.Eng
