/- Parts of the proof: EOps7, EOps9. No condition. -/
import Derived.Test.YtppgebehmmldfaaGreatDoorXF04
import Derived.WalkKit
import Derived.MapFrom
import Derived.DeepKeys3
namespace Go.Eng
set_option linter.unusedVariables false
set_option linter.unusedSimpArgs false
open Go.RowKit
section ops
variable {P:Program} {Γ:Env} {o:Oper} {L:List Opd} {fr:zf_} {F:List Nat} {wr:Bool} {st:zc_} {nx:Nat} {K:AV->zc_->Nat->Prop}
def Lies (w:World) (size:Nat) (ao:Option Addr) (cap:Nat):Prop:=
 (ao=none/\cap=0)\/∃ (b:Nat) (cs:Array Value) (T:TypeId) (fz:Nat × Nat),ao=some ⟨b,0,none⟩/\w.heap[b]?=some (.cells cs T fz)/\XX_ fz cs.size/\cs.size=cap*size
def hC_ (P:Program) (w:World) (S:Sem (Array Value)) (news:List Value):Prop:=∀ w':World,(∀ a,w'.cell? a=w.cell? a)->S.run P w'=.ok news.toArray w'
theorem Va_ {I:Nat->Prop} {w:World} {t:Ty} {ys:List t.den} {cv:Value} (h:Src I w t ys cv):∃ news:List Value,news.length=ys.length*t.size/\(∀ v ∈ news,v.oneCell'=true)/\(EA I w t ys fun k=>news[k]?)/\
 hC_ P w (Builtin.firstCells t.size ys.length cv) news/\(∀ w':World,(Builtin.lenOf cv).run P w'=.ok ys.length w'):=by
 obtain ⟨ao,len,cap,rfl,h1,h2,h3⟩:=h
 subst h1
 have hlen:∀ w':World,(Builtin.lenOf (.slice ao ys.length cap)).run P w'=.ok ys.length w':=fun _=>rfl
 rcases Nat.eq_zero_or_pos ys.length with h0 | h0
 ·have hys:ys=[]:=List.eq_nil_of_length_eq_zero h0
  subst hys
  refine ⟨[],by simp,fun v hv=>(by cases hv),EA.nil,fun w' _=>?_,hlen⟩
  cases ao with
  | none=>rfl
  | some q=>simp [Builtin.firstCells,loadCells,loadCellsFrom]
 ·obtain ⟨b,ofs,rfl,h4⟩:=h3 h0
  obtain ⟨news,g1,g2,g3,g4⟩:=HJ_ h4
  refine ⟨news,g1,g3,g4,fun w' hw=>?_,hlen⟩
  have:=ZF_ (P:=P) (w:=w') (b:=b) (off:=ofs) news 0 #[] (fun j hj=>by rw [Nat.add_zero,hw];exact g2 j hj)
  simp only [Builtin.firstCells,loadCells]
  rw [<- g1,this];simp
structure Appended (w w':World) (size:Nat) (ao ao':Option Addr) (sLen n cap':Nat) (news:List Value):Prop where
 room:sLen+n<=cap'
 cap:cap'<=maxLen
 fr:Fr (fun b=>ao=some ⟨b,0,none⟩) w w'
 lies:(ao'=none/\cap'=0)\/∃ (b:Nat) (cs':Array Value) (T:TypeId) (fz:Nat × Nat),ao'=some ⟨b,0,none⟩/\w'.heap[b]?=some (.cells cs' T fz)/\XX_ fz cs'.size/\cs'.size=cap'*size/\(w.heap.size<=b\/ao=some ⟨b,0,none⟩)/\
  (∀ b0 cs T fz,ao=some ⟨b0,0,none⟩->w.heap[b0]?=some (.cells cs T fz)->∀ k,k < sLen*size->cs'[k]?=cs[k]?)/\∀ k,k < news.length->cs'[sLen*size+k]?=news[k]?
theorem Ga_ {w:World} {size sLen n sCap:Nat} {ao:Option Addr} {news:List Value} (hcap:n+sLen<=sCap) (hcm:sCap<=maxLen) (hl:Lies w size ao sCap) (hn:news.length=n*size) (h1:∀ v ∈ news,v.oneCell'=true):
 ∃ w',((ao=none/\w'=w)\/∃ b,ao=some ⟨b,0,none⟩/\(storeCells ⟨b,sLen*size,none⟩ news).run P w=.ok () w')/\Appended w w' size ao ao sLen n sCap news:=by
 rcases hl with ⟨rfl,rfl⟩ | ⟨b,cs,T,fz,rfl,h2,h3,h4⟩
 ·exact ⟨w,.inl ⟨rfl,rfl⟩,by omega,hcm,Fr.refl _ _,.inl ⟨rfl,rfl⟩⟩
 ·have hfit:(sLen+n)*size<=cs.size:=by rw [h4];exact Nat.mul_le_mul_right _ (by omega)
  rw [Nat.add_mul] at hfit
  have hcs:cs.toList.length=cs.size:=Array.length_toList
  obtain ⟨w',r1,r2,r3,r4,r5,r6,r7⟩:=Qm_ (P:=P) news 0 (sLen*size) w cs h2 h3 (by omega) h1
  have hs:=Yf_ cs news (sLen*size) (by omega)
  have hget:∀ k,((cs.toList.take (sLen*size+0)++news++cs.toList.drop (sLen*size+0+news.length)).toArray)[k]?=if k < sLen*size then cs[k]? else if k < sLen*size+news.length then news[k - sLen*size]? else cs[k]?:=fun k=>by
   rw [List.getElem?_toArray,Nat.add_zero,V9_ _ _ _ (by omega)]
   simp only [Array.getElem?_toList]
  refine ⟨w',.inr ⟨b,rfl,r1⟩,by omega,hcm,⟨r5,r6,r7,by omega,fun k _ hk=>r4 k (fun e=>hk (by rw [e]))⟩,.inr ⟨b,_,T,fz,rfl,r2,by rw [hs];exact h3,by rw [hs];exact h4,.inr rfl,fun b0 cs0 T0 fz0 e e' k hk=>?_,fun k hk=>?_⟩⟩
  ·cases e
   rw [h2] at e';cases e'
   rw [hget,if_pos hk]
  ·rw [hget,if_neg (by omega),if_pos (by omega)];congr 1;omega
theorem Ql_ (z:Array Value) (n:Nat):(Builtin.zeroCells z n).size=n*z.size:=by simp [Builtin.zeroCells]
theorem BI_ {w:World} {need old:Nat} {e:TypeId} (h:need<=maxLen):need<=grownCap w need old e/\grownCap w need old e<=maxLen:=by
 refine ⟨by simp [grownCap,Question.cut],?_⟩
 have hlt:=Nat.mod_lt (w.tape w.drawn (.appendCap need old e)) (show 0 < 2 ^ 63 - need by simp only [maxLen] at h;omega)
 simp only [grownCap,Question.cut,maxLen] at h ⊢
 omega
theorem Gb_ {w:World} {size sLen n sCap:Nat} {ao:Option Addr} {news olds:List Value} {e:TypeId} {z:Array Value} (hz:z.size=size) (h47:sLen+n<=maxLen) (hn:news.length=n*size) (ho:olds.length=sLen*size)
 (hold:∀ b0 cs T fz,ao=some ⟨b0,0,none⟩->w.heap[b0]?=some (.cells cs T fz)->∀ k,k < sLen*size->olds[k]?=cs[k]?):
 Appended w (w.drew.alloc (.cells (olds.toArray++news.toArray++Builtin.zeroCells z (grownCap w (sLen+n) sCap e - (sLen+n))) e)) size ao (some ⟨w.heap.size,0,none⟩) sLen n (grownCap w (sLen+n) sCap e) news:=by
 obtain ⟨h1,h2⟩:=BI_ (w:=w) (old:=sCap) (e:=e) h47
 refine ⟨h1,h2,⟨rfl,rfl,rfl,by simp,fun k hk _=>VR_ w.drew _ hk⟩,.inr ⟨w.heap.size,_,e,(0,0),rfl,qv_ w.drew _,XX_.zero _,?_,.inl (Nat.le_refl _),fun b0 cs T fz hao hb k hk=>?_,fun k hk=>?_⟩⟩
 ·simp only [Array.size_append,List.size_toArray,Ql_,hz,ho,hn]
  rw [<- Nat.add_mul,<- Nat.add_mul];congr 1;omega
 ·rw [Array.getElem?_append_left (by simp;omega),Array.getElem?_append_left (by simp;omega),List.getElem?_toArray]
  exact hold b0 cs T fz hao hb k hk
 ·rw [Array.getElem?_append_left (by simp;omega),Array.getElem?_append_right (by simp;omega),List.getElem?_toArray]
  congr 1;simp;omega
theorem Vn_ {w:World} {size sLen sCap:Nat} {ao:Option Addr} (hcap:sLen<=sCap) (hl:Lies w size ao sCap):∃ olds:List Value,olds.length=sLen*size/\hC_ P w (Builtin.firstCells size sLen (.slice ao sLen sCap)) olds/\
 ∀ b0 cs T fz,ao=some ⟨b0,0,none⟩->w.heap[b0]?=some (.cells cs T fz)->∀ k,k < sLen*size->olds[k]?=cs[k]?:=by
 rcases hl with ⟨rfl,rfl⟩ | ⟨b,cs,T,fz,rfl,h2,h3,h4⟩
 ·obtain rfl:sLen=0:=by omega
  exact ⟨[],by simp,fun w' _=>rfl,fun b0 cs T fz e=>by cases e⟩
 ·have hfit:sLen*size<=cs.size:=by rw [h4];exact Nat.mul_le_mul_right _ hcap
  refine ⟨cs.toList.take (sLen*size),by simp;omega,fun w' hw=>?_,fun b0 cs0 T0 fz0 e e' k hk=>?_⟩
  ·have:=ZF_ (P:=P) (w:=w') (b:=b) (off:=0) (cs.toList.take (sLen*size)) 0 #[] (fun j hj=>by
    simp only [List.length_take,Array.length_toList] at hj
    rw [hw,Q0_ h2];simp)
   simp only [Builtin.firstCells,loadCells]
   rw [show (cs.toList.take (sLen*size)).length=sLen*size by simp;omega] at this
   rw [this];simp
  ·cases e
   rw [h2] at e';cases e'
   rw [List.getElem?_take,if_pos hk,Array.getElem?_toList]
theorem vj_ {t u e:TypeId} {i:TypeInfo} {v:Value} {w:World} {ty:TypeId} {ao:Option Addr} {sLen sCap n:Nat} {news:List Value} {src:Value} (ht:P.underlying t=some (.slice e)) (hu:(∃ e',P.underlying u=some (.slice e'))\/P.underlying u=some .string) (hi:P.info? e=some i) (hz:i.zero=some v) (hv:v.cells.size=i.size)
 (hcap:sLen<=sCap) (hcm:sCap<=maxLen) (hl:Lies w i.size ao sCap) (hn:news.length=n*i.size) (h1:∀ v ∈ news,v.oneCell'=true) (hy:hC_ P w (Builtin.firstCells i.size n src) news) (hlen:∀ w':World,(Builtin.lenOf src).run P w'=.ok n w')
 (hb:(sLen+n)*i.bytes<=140737488355328) (h47:sLen+n<=140737488355328) (hb0:0 < i.bytes):
 ∃ w' ao' cap',(Builtin.append_ #[t,u] ty #[.slice ao sLen sCap,src]).run P w=.ok (.slice ao' (sLen+n) cap') w'/\Appended w w' i.size ao ao' sLen n cap' news:=by
 rcases hu with ⟨e',hu⟩ | hu
 all_goals
  by_cases hroom:sLen+n<=sCap
  ·obtain ⟨w',r1,r2⟩:=Ga_ (P:=P) (w:=w) (size:=i.size) (sLen:=sLen) (n:=n) (by omega) hcm hl hn h1
   refine ⟨w',ao,sCap,?_,r2⟩
   rcases r1 with ⟨rfl,rfl⟩ | ⟨b,rfl,r1⟩
   ·simp [Builtin.append_,run_underlying ht,run_underlying hu,zS_ hi,hlen,hroom,hy w' (fun _=>rfl)]
   ·simp [Builtin.append_,run_underlying ht,run_underlying hu,zS_ hi,hlen,hroom,hy w (fun _=>rfl),ZK_,r1]
  ·obtain ⟨olds,g1,g2,g3⟩:=Vn_ (P:=P) hcap hl
   have hfit:=growslice_fits (need:=sLen+n) (old:=sCap) (bytes:=i.bytes) (by omega) hb
   have hfit':¬ (281474976710656 < Builtin.nextslicecap (sLen+n) sCap*i.bytes):=by omega
   have hb1:i.bytes ≠ 0:=by omega
   refine ⟨_,_,_,?_,Gb_ (z:=v.cells) (e:=e) (sCap:=sCap) hv (by unfold maxLen;omega) hn g1 g3⟩
   have y1:=g2 w.drew (fun _=>rfl)
   have y2:=hy w.drew (fun _=>rfl)
   simp [Builtin.append_,run_underlying ht,run_underlying hu,zS_ hi,hlen,hroom,typeInfo,hi,hfit',hb1,Question.forced,y1,y2,qG_ hi hz,newRow,grownCap]
   congr 2
   apply Array.ext'
   simp [List.append_assoc]
theorem yk_ {t u e:TypeId} {i:TypeInfo} {v:Value} {w:World} {ty:TypeId} {ao:Option Addr} {sLen sCap n:Nat} {k:IntKind} {ik:IntKind} (ht:P.underlying t=some (.slice e)) (hu:P.underlying u=some (.int ik)) (hi:P.info? e=some i) (hz:i.zero=some v) (hv:v.cells.size=i.size)
 (hcap:sLen<=sCap) (hcm:sCap<=maxLen) (hl:Lies w i.size ao sCap) (h1:∀ u ∈ v.cells.toList,u.oneCell'=true) (hs0:0 < i.size)
 (hb:(sLen+n)*i.bytes<=140737488355328) (h47:sLen+n<=140737488355328) (hb0:0 < i.bytes):
 ∃ w' ao' cap',(Builtin.append_ #[t,u] ty #[.slice ao sLen sCap,.int k n]).run P w=.ok (.slice ao' (sLen+n) cap') w'/\Appended w w' i.size ao ao' sLen n cap' (Builtin.zeroCells v.cells n).toList:=by
 have hw:IntKind.i64.wrap (n:Int)=n:=wR_ ⟨by simp [IntKind.min,IntKind.signed,IntKind.bits]<;>omega,by simp [IntKind.max,IntKind.signed,IntKind.bits];omega⟩
 have hw0:IntKind.i64.wrap 0=0:=rfl
 have hneg:¬ ((n:Int) < 0):=by omega
 have h63':¬ (9223372036854775807 < (sLen:Int)+n):=by omega
 have hz0:(Builtin.zeroCells v.cells 0).toList=[]:=by simp [Builtin.zeroCells]
 have hnb:(n:Int)*i.bytes<=140737488355328:=by
  have:n*i.bytes<=(sLen+n)*i.bytes:=Nat.mul_le_mul_right _ (by omega)
  have h:((n*i.bytes:Nat):Int)<=140737488355328:=by omega
  rwa [Int.natCast_mul] at h
 have hnb':¬ (281474976710656 < (n:Int)*i.bytes):=by omega
 have hn:(Builtin.zeroCells v.cells n).toList.length=n*i.size:=by rw [Array.length_toList,Ql_,hv]
 have hone:∀ u ∈ (Builtin.zeroCells v.cells n).toList,u.oneCell'=true:=fun u hu=>by
  simp only [Builtin.zeroCells,Array.mem_toList_iff,Array.mem_map,Array.mem_range] at hu
  obtain ⟨j,hj,rfl⟩:=hu
  have hpos:0 < v.cells.size:=by
   rcases Nat.eq_zero_or_pos v.cells.size with h | h
   ·rw [h] at hj;omega
   ·exact h
  have hm:=Nat.mod_lt j hpos
  rw [getElem!_pos v.cells _ hm]
  exact h1 _ (by simp)
 by_cases hroom:sLen+n<=sCap
 ·obtain ⟨w',r1,r2⟩:=Ga_ (P:=P) (w:=w) (size:=i.size) (sLen:=sLen) (n:=n) (by omega) hcm hl hn hone
  refine ⟨w',ao,sCap,?_,r2⟩
  rcases Nat.eq_zero_or_pos n with h0 | h0
  ·subst h0
   rcases r1 with ⟨rfl,rfl⟩ | ⟨b,rfl,r1⟩
   ·simp [Builtin.append_,run_underlying ht,run_underlying hu,zS_ hi,hroom,asInt,asIntOf,typeInfo,hi,hw0,hcap]
   ·rw [hz0] at r1
    simp [Builtin.append_,run_underlying ht,run_underlying hu,zS_ hi,hroom,asInt,asIntOf,typeInfo,hi,ZK_,hw0,hcap]
    rw [r1];rfl
  ·have h0':¬ (n*i.size=0):=by have:=Nat.mul_pos h0 hs0;omega
   rcases r1 with ⟨rfl,rfl⟩ | ⟨b,rfl,r1⟩
   ·simp [Builtin.append_,run_underlying ht,run_underlying hu,zS_ hi,hroom,asInt,asIntOf,hw,typeInfo,hi,hnb',hneg,h0',qG_ hi hz]
   ·simp [Builtin.append_,run_underlying ht,run_underlying hu,zS_ hi,hroom,asInt,asIntOf,hw,typeInfo,hi,hnb',hneg,h0',qG_ hi hz,ZK_,r1]
 ·obtain ⟨olds,g1,g2,g3⟩:=Vn_ (P:=P) hcap hl
  have hfit:=growslice_fits (need:=sLen+n) (old:=sCap) (bytes:=i.bytes) (by omega) hb
  have hfit':¬ (281474976710656 < Builtin.nextslicecap (sLen+n) sCap*i.bytes):=by omega
  have hb1:i.bytes ≠ 0:=by omega
  have h0':¬ (n*i.size=0):=by have:=Nat.mul_pos (show 0 < n by omega) hs0;omega
  refine ⟨_,_,_,?_,Gb_ (z:=v.cells) (e:=e) (sCap:=sCap) hv (by unfold maxLen;omega) hn g1 g3⟩
  have y1:=g2 w.drew (fun _=>rfl)
  simp [Builtin.append_,run_underlying ht,run_underlying hu,zS_ hi,hroom,asInt,asIntOf,hw,typeInfo,hi,hnb',hneg,hfit',hb1,h63',  Question.forced,y1,h0',qG_ hi hz,newRow,grownCap]
theorem jX_ {I:Nat->Prop} {w w':World} {m:M} {t:Ty} {x0 ys:List t.den} {ao ao':Option Addr} {cap':Nat} {news:List Value} (hs:Qz_ I w w') (h:Appended w w' t.size ao ao' x0.length ys.length cap' news) (hn:news.length=ys.length*t.size) (he:EA I w t ys fun k=>news[k]?)
 (hold:x0=[]\/∃ (b:Nat) (cs:Array Value) (T:TypeId) (fz:Nat × Nat),ao=some ⟨b,0,none⟩/\w.heap[b]?=some (.cells cs T fz)/\EA I w t x0 fun k=>cs[k]?):
 ∃ blk:Option Nat,(∀ b,blk=some b->w.heap.size<=b\/ao=some ⟨b,0,none⟩)/\zZ_ I w' (m.push nx blk cap' (x0++ys).length t.size) nx (.row false t (x0++ys))/\
   RV I w' (m.push nx blk cap' (x0++ys).length t.size) (.own nx) (.slice ao' (x0.length+ys.length) cap'):=by
 have hl:(x0++ys).length=x0.length+ys.length:=List.length_append
 have hr:=h.room
 rcases h.lies with ⟨rfl,rfl⟩ | ⟨b,cs',T,fz,rfl,h2,h3,h4,h5,h6,h7⟩
 ·refine ⟨none,fun b hb=>(by cases hb),⟨M.push_sz _ _ _ _ _ _,(M.push_len _ _ _ _ _ _).symm,by rw [M.push_cap];omega,by rw [M.push_cap];exact Nat.zero_le _,.inl ⟨M.push_blk _ _ _ _ _ _,M.push_cap _ _ _ _ _ _⟩⟩,⟨_,_,_,rfl,.inr rfl,?_,(M.push_cap _ _ _ _ _ _).symm,hr,h.cap,.inl ⟨M.push_blk _ _ _ _ _ _,rfl,rfl⟩⟩⟩
  rw [M.push_len,hl]
 ·refine ⟨some b,fun b' hb=>(by cases hb;exact h5),⟨M.push_sz _ _ _ _ _ _,(M.push_len _ _ _ _ _ _).symm,by rw [M.push_cap];omega,by rw [M.push_cap];exact h.cap,.inr ⟨b,cs',T,fz,M.push_blk _ _ _ _ _ _,h2,h3,by rw [M.push_cap];exact h4,?_⟩⟩,⟨_,_,_,rfl,.inr rfl,?_,(M.push_cap _ _ _ _ _ _).symm,hr,h.cap,.inr ⟨b,M.push_blk _ _ _ _ _ _,rfl⟩⟩⟩
  ·refine EA.append ?_ ((he.mono (fun _ h=>h) hs).congr fun k hk=>h7 k (by omega))
   rcases hold with rfl | ⟨b0,cs,T0,fz0,hao,hb0,h8⟩
   ·exact EA.nil
   ·exact (h8.mono (fun _ h=>h) hs).congr fun k hk=>h6 b0 cs T0 fz0 hao hb0 k hk
  ·rw [M.push_len,hl]
theorem gj_ {i:Nat} {t:Ty} {x0 ys:List t.den} (hi:st.get i=some (.row false t x0)) (hF:i ∈ F) (hwr:wr=true) (hK:K (.own nx) ((nx,.row false t (x0++ys)) :: st.set i .dead) (nx+1))
 (h:∀ {I:Nat->Prop} {w:World} {m:M} {a:Act} {σ:Sto},FOn L fr I w m a->HRel I w m σ->(∀ i ∈ F,σ i=st.get i)->zZ_ I w m i (.row false t x0)->∃ ao ao' cap' w' news,(execOp a.eval o).run P w=.ok (.value (.slice ao' (x0.length+ys.length) cap')) w'/\
   Appended w w' t.size ao ao' x0.length ys.length cap' news/\news.length=ys.length*t.size/\(EA I w t ys fun k=>news[k]?)/\RO m i ao x0.length (m.cap i)):MOK P o L fr F wr st nx K:=by
 refine ⟨.own nx,_,nx+1,[i,nx],Nat.le_succ _,hK,fun j hj=>?_,fun j hj=>?_,fun {X0 I0 w0 σ I w m a} hf hs ha hN=>?_⟩
 ·simp only [List.mem_cons,List.not_mem_nil,or_false,not_or] at hj
  rw [zc_.get_cons,if_neg hj.2,zc_.get_set,if_neg hj.1]
 ·simp only [List.mem_cons,List.not_mem_nil,or_false] at hj
  rcases hj with rfl | rfl
  ·exact .inl ⟨hwr,hF,by rw [hi];intro h;cases h⟩
  ·exact .inr ⟨Nat.le_refl _,Nat.lt_succ_self _⟩
 ·have hu:=hN nx (Nat.le_refl _) (Nat.lt_succ_self _)
  have hσ:σ i=some (.row false t x0):=by rw [ha i hF,hi]
  have hui:m.used i:=hs.H.lt i (by rw [hσ];intro h;cases h)
  have hne:i ≠ nx:=fun e=>hu (e ▸ hui)
  have hok:=hs.H.obj i _ hσ
  obtain ⟨ao,ao',cap',w',news,hr,hA,hn,he,hO⟩:=h hf hs.H ha hok
  have hblk:∀ b,ao=some ⟨b,0,none⟩->m.blk i=some b:=fun b e=>by
   obtain ⟨_,_,_,_,_,h6⟩:=hO
   rcases h6 with ⟨_,h6,_⟩ | ⟨b',h6,h7⟩
   ·rw [h6] at e;cases e
   ·rw [h7] at e;cases e;exact h6
  have hsame:Qz_ I w w':=fun b hb=>hA.fr.block b (hs.H.Ilt b hb) fun e=>hs.H.notI i _ b hσ rfl (hblk b e) hb
  have hold:x0=[]\/∃ (b:Nat) (cs:Array Value) (T:TypeId) (fz:Nat × Nat),ao=some ⟨b,0,none⟩/\w.heap[b]?=some (.cells cs T fz)/\EA I w t x0 fun k=>cs[k]?:=by
   obtain ⟨_,_,q3,_,q5⟩:=hok
   rcases q5 with ⟨_,q6⟩ | ⟨b,cs,T,fz,q6,q7,_,_,q8⟩
   ·exact .inl (List.eq_nil_of_length_eq_zero (by omega))
   ·obtain ⟨_,_,_,_,_,h6⟩:=hO
    rcases h6 with ⟨h6,_⟩ | ⟨b',h6,h7⟩
    ·rw [q6] at h6;cases h6
    ·rw [q6] at h6;cases h6
     exact .inr ⟨b,cs,T,fz,h7,q7,q8⟩
  obtain ⟨blk,g1,g2,g3⟩:=jX_ (nx:=nx) (m:=m) hsame hA hn he hold
  have hE:Evo I w m I w' (m.push nx blk cap' (x0++ys).length t.size):=⟨fun _ h=>h,hsame,M.push_le hu⟩
  have hget:∀ j,upd σ [i,nx] ((nx,Obj.row false t (x0++ys)) :: st.set i .dead) j=if j=nx then some (.row false t (x0++ys)) else if j=i then some .dead else σ j:=fun j=>by
   unfold upd
   simp only [List.mem_cons,List.not_mem_nil,or_false,zc_.get_cons,zc_.get_set]
   by_cases h1:j=nx
   ·simp [h1]
   ·by_cases h2:j=i
    ·simp [h2]
    ·simp [h1,h2]
  have hb:∀ b,blk=some b->w.heap.size<=b\/m.blk i=some b:=fun b e=>(g1 b e).imp id (hblk b)
  have hgn:∀ o',upd σ [i,nx] ((nx,Obj.row false t (x0++ys)) :: st.set i .dead) nx=some o'->o'=.row false t (x0++ys):=fun o' e=>by rw [hget,if_pos rfl] at e;exact (Option.some.inj e).symm
  have hgi:∀ o',upd σ [i,nx] ((nx,Obj.row false t (x0++ys)) :: st.set i .dead) i=some o'->o'=.dead:=fun o' e=>by rw [hget,if_neg hne,if_pos rfl] at e;exact (Option.some.inj e).symm
  refine jv_ hr ⟨g3,hs.step hE (fun j=>j=i\/j=nx) (fun j hj=>by rw [hget,if_neg (fun h=>hj (.inr h)),if_neg (fun h=>hj (.inl h))]) (hA.fr.weak fun b e=>⟨i,_,.inl rfl,hσ,rfl,hblk b e⟩) (fun b h=>.inl h) (fun b h=>Nat.lt_of_lt_of_le (hs.H.Ilt b h) hA.fr.size)
   (fun j o' hj e=>?_) (fun j o' b hj e hl hbb=>?_) (fun j k o' o'' b hj hk e e' hl hl' _ _=>?_) (fun j o' b hj e hm hbb hI=>?_) (fun j t' x' b hj e hbb=>?_),hE,fun j hj=>?_⟩
  ·rcases hj with rfl | rfl
   ·cases hgi o' e;exact ⟨.inl hui,trivial⟩
   ·cases hgn o' e;exact ⟨.inr rfl,g2⟩
  ·rcases hj with rfl | rfl
   ·cases hgi o' e;cases hl
   ·rw [M.push_blk] at hbb
    exact (hb b hbb).imp id fun h=>⟨i,_,.inl rfl,hσ,rfl,fun _=>rfl,h⟩
  ·rcases hj with rfl | rfl<;>rcases hk with rfl | rfl
   ·rfl
   ·cases hgi o' e;cases hl
   ·cases hgi o'' e';cases hl'
   ·rfl
  ·rcases hj with rfl | rfl
   ·cases hgi o' e;cases hm
   ·rw [M.push_blk] at hbb
    rcases hb b hbb with h | h
    ·have:=hs.H.Ilt b hI;omega
    ·exact hs.H.notI i _ b hσ rfl h hI
  ·rcases hj with rfl | rfl
   ·cases hgi _ e
   ·cases hgn _ e
  ·rcases hj with h | h
   ·exact .inl h
   ·subst h;exact .inr ⟨Nat.le_refl _,Nat.lt_succ_self _⟩
theorem bg_ {t:Ty} {v:AV} {K':List t.den->Prop} (ev:ye_ t st v K'):v.ids0=v.ids/\∀ {I:Nat->Prop} {w:World} {m:M} {cv:Value},RV I w m v cv->RV0 I w m v cv:=by
 unfold ye_ at ev
 cases v<;>first | exact ⟨rfl,fun h=>h⟩ | exact ev.elim
theorem hV_ {I:Nat->Prop} {w:World} {m:M} {i:Nat} {t:Ty} {x:List t.den} {fz:Bool} {ao:Option Addr} {len cap:Nat} (h:zZ_ I w m i (.row fz t x)) (hO:RO m i ao len cap):len=x.length/\cap=m.cap i/\len<=cap/\cap<=maxLen/\Lies w t.size ao cap:=by
 obtain ⟨q1,q2,q3,q4,q5⟩:=h
 obtain ⟨h1,h2,h3,h4,h5,h6⟩:=hO
 refine ⟨by omega,h3,h4,h5,?_⟩
 rcases q5 with ⟨q5,q6⟩ | ⟨b,cs,T,fz,q6,q7,q8,q9,_⟩
 ·rcases h6 with ⟨_,h6,h7⟩ | ⟨b',h6,h7⟩
  ·exact .inl ⟨h6,h7⟩
  ·rw [q5] at h6;cases h6
 ·rcases h6 with ⟨h6,_⟩ | ⟨b',h6,h7⟩
  ·rw [q6] at h6;cases h6
  ·rw [q6] at h6;cases h6
   exact .inr ⟨b,cs,T,fz,h7,q7,q8,by rw [h3];exact q9⟩
theorem hB_ {t:Ty} {bytes:Nat} {x' y':Opd} (hok:zx_ P o.op (.append t bytes x' y')=true) (ev:zu_ Γ (.append t bytes x' y') fr st nx K):MOK P o [x',y'] fr (ZA_ [x',y'] fr) true st nx K:=by
 simp only [zu_,zc_.setK_eq] at ev
 simp only [zx_] at hok
 split at hok
 ·rename_i args ts ho
  simp only [Bool.and_eq_true] at hok
  obtain ⟨h1,h2⟩:=hok
  obtain ⟨x,y,rfl,hx,hy⟩:=vg_ h1
  split at h2
  ·rename_i tt u hts
   simp only [Bool.and_eq_true] at h2
   obtain ⟨h2,h3⟩:=h2
   obtain ⟨e',hu⟩:=WL_ h3
   split at h2
   ·rename_i e he
    have he:=qs_ he
    simp only [Bool.and_eq_true,decide_eq_true_eq] at h2
    obtain ⟨⟨⟨⟨h4,h5⟩,h6⟩,h7⟩,h8⟩:=h2
    obtain ⟨i,hi,hsz⟩:=Qa_ h4
    obtain ⟨i',hi',hby⟩:=WT_ h5
    rw [hi] at hi' h8;cases hi'
    simp only at h8
    split at h8
    ·rename_i v hv
     simp only [beq_iff_eq] at h8
     have hts':ts=#[tt,u]:=Array.toList_inj.1 hts
     subst hts'
     have hex:∀ a:Act,execOp a.eval o=(do pure (.value (<- Builtin.append_ #[tt,u] o.type #[a.eval x,a.eval y]))):=fun a=>by rw [Qb_ ho];simp [builtin]
     obtain ⟨ys,ev1,hd⟩:=yd_ ev
     obtain ⟨di1,di2⟩:=bg_ ev
     have hyF:∀ j ∈ (y'.ev fr).ids0,j ∈ ZA_ [x',y'] fr:=fun j hj=>z4_ Qc_ rfl j (by rw [<- di1];exact hj)
     split at ev1
     ·-- onto nil
      rename_i hb
      obtain ⟨⟨n1,n2⟩,hK⟩:=zj_ ev1
      refine kd_ hK (fun _ _ h=>by cases h) fun {I w m a σ} hf hH ha hN=>?_
      have hv1:=hf.rv qb_ hx;rw [hb] at hv1
      have hv1:a.eval x=.slice none 0 0:=hv1
      have hsrc:=hd hH (fun j hj=>ha j (hyF j hj)) (di2 (hf.rv Qc_ hy))
      obtain ⟨news,g1,g2,g3,g4,g5⟩:=Va_ (P:=P) hsrc
      obtain ⟨w',ao',cap',r1,r2⟩:=vj_ (ty:=o.type) (sLen:=0) (sCap:=0) (ao:=none) (src:=a.eval y) he (.inl ⟨e',hu⟩) hi hv (by rw [hsz];exact h8) (Nat.le_refl _) (Nat.zero_le _) (.inl ⟨rfl,rfl⟩) (by rw [hsz];exact g1) g2 (by rw [hsz];exact g4) g5 (by rw [hby,Nat.zero_add];exact n1) (by omega) (by omega)
      rw [hsz] at r2
      have hfr:Fr (fun _=>False) w w':=r2.fr.weak fun b e=>by cases e
      have hrow:=fun hs:Qz_ I w w'=>jX_ (nx:=nx) (m:=m) (x0:=([]:List t.den)) (ys:=ys) hs r2 g1 g3 (.inl rfl)
      have hsm:Qz_ I w w':=fun b hb=>hfr.block b (hH.Ilt b hb) id
      obtain ⟨blk,k1,k2,k3⟩:=hrow hsm
      refine ⟨_,hex a,.slice ao' (0+ys.length) cap',w',blk,cap',ys.length,t.size,by rw [hv1];exact r1,hfr,fun b hb=>?_,fun _=>k2,fun _=>k3⟩
      rcases k1 b hb with h | h
      ·exact h
      ·cases h
     ·-- onto a row
      rename_i j hb
      split at ev1
      ·rename_i t' x0' hl
       obtain ⟨rfl,ev2⟩:=ql_ ev1
       obtain ⟨⟨n1,n2⟩,hK⟩:=zj_ ev2
       refine gj_ (i:=j) (x0:=x0') hl (z4_ qb_ hb j (by simp [AV.ids,AV.ids1,AV.ids0])) rfl hK fun {I w m a σ} hf hH ha hok=>?_
       have hv1:=hf.rv qb_ hx;rw [hb] at hv1
       obtain ⟨ao,len,cap,e1,hO⟩:=hv1
       obtain ⟨l1,l2,l3,l4,l5⟩:=hV_ hok hO
       subst l1;subst l2
       have hsrc:=hd hH (fun j hj=>ha j (hyF j hj)) (di2 (hf.rv Qc_ hy))
       obtain ⟨news,g1,g2,g3,g4,g5⟩:=Va_ (P:=P) hsrc
       obtain ⟨w',ao',cap',r1,r2⟩:=vj_ (ty:=o.type) (src:=a.eval y) he (.inl ⟨e',hu⟩) hi hv (by rw [hsz];exact h8) l3 l4 (by rw [hsz];exact l5) (by rw [hsz];exact g1) g2 (by rw [hsz];exact g4) g5 (by rw [hby];exact n1) n2 (by omega)
       rw [hsz] at r2
       exact ⟨ao,ao',cap',w',news,ws_ (hex a) (by rw [e1];exact r1),r2,g1,g3,hO⟩
      ·exact ev1.elim
     ·exact ev1.elim
    ·cases h8
   ·cases h2
  ·cases h2
 ·cases hok
theorem W3_ {I:Nat->Prop} {w:World} {t:Ty} {z:t.den} {n:Nat} {v:Value} (hz:RC I w t z v.cells.toList):EA I w t (List.replicate n z) fun k=>(Builtin.zeroCells v.cells n).toList[k]?:=by
 have hl:v.cells.size=t.size:=by have:=Zl_ t _ _ hz;simpa using this
 refine EA.replicate hz fun k hk=>?_
 rw [Array.getElem?_toList]
 show ((Array.range (n*v.cells.size)).map fun i=>v.cells[i % v.cells.size]!)[k]?=_
 rw [Ve_ _ _ _ (by rw [hl];exact hk),hl]
theorem g9_ {t:Ty} {bytes:Nat} {z:t.den} {x' n':Opd} (hok:zx_ P o.op (.appendz t bytes z x' n')=true) (ev:zu_ Γ (.appendz t bytes z x' n') fr st nx K):MOK P o [x',n'] fr (ZA_ [x',n'] fr) true st nx K:=by
 simp only [zu_,zc_.setK_eq] at ev
 simp only [zx_] at hok
 split at hok
 ·rename_i args ts ho
  simp only [Bool.and_eq_true] at hok
  obtain ⟨h1,h2⟩:=hok
  obtain ⟨x,y,rfl,hx,hy⟩:=vg_ h1
  split at h2
  ·rename_i tt u hts
   simp only [Bool.and_eq_true] at h2
   obtain ⟨h2,h3⟩:=h2
   have hu:∃ ik,P.underlying u=some (.int ik):=by
    unfold By_ at h3
    split at h3
    ·exact ⟨_,by assumption⟩
    ·cases h3
   obtain ⟨ik,hu⟩:=hu
   split at h2
   ·rename_i e he
    have he:=qs_ he
    simp only [Bool.and_eq_true,decide_eq_true_eq] at h2
    obtain ⟨⟨⟨⟨h4,h5⟩,h6⟩,h7⟩,h8⟩:=h2
    obtain ⟨i,hi,hsz⟩:=Qa_ h4
    obtain ⟨i',hi',hby⟩:=WT_ h5
    rw [hi] at hi';cases hi'
    obtain ⟨i',v,hi',hv,hz⟩:=xX_ h8
    rw [hi] at hi';cases hi'
    have hvs:v.cells.size=t.size:=by
     have:=Zl_ t _ _ (hz (fun _=>False) default);simpa using this
    have hone:∀ q ∈ v.cells.toList,q.oneCell'=true:=vs_ t _ _ (hz (fun _=>False) default)
    have hts':ts=#[tt,u]:=Array.toList_inj.1 hts
    subst hts'
    have hex:∀ a:Act,execOp a.eval o=(do pure (.value (<- Builtin.append_ #[tt,u] o.type #[a.eval x,a.eval y]))):=fun a=>by rw [Qb_ ho];simp [builtin]
    obtain ⟨kk,N,hN,ev1⟩:=Zm_ ev
    split at ev1
    ·rename_i hb
     obtain ⟨⟨n0,n1,n2⟩,hK⟩:=zj_ ev1
     refine kd_ hK (fun _ _ h=>by cases h) fun {I w m a σ} hf hH ha hNu=>?_
     have hv1:=hf.rv qb_ hx;rw [hb] at hv1
     have hv1:a.eval x=.slice none 0 0:=hv1
     have hv2:=hf.rv Qc_ hy;rw [hN] at hv2
     have hv2:a.eval y=.int kk (N.toNat:Int):=by rw [(zp_ hv2).1];congr 1;omega
     have hnb:N.toNat*bytes<=140737488355328:=by
      have:((N.toNat*bytes:Nat):Int)<=140737488355328:=by rw [Int.natCast_mul,Int.toNat_of_nonneg n0];exact n1
      omega
     obtain ⟨w',ao',cap',r1,r2⟩:=yk_ (ty:=o.type) (sLen:=0) (sCap:=0) (ao:=none) (n:=N.toNat) (k:=kk) (w:=w) he hu hi hv (by rw [hsz];exact hvs) (Nat.le_refl _) (Nat.zero_le _) (.inl ⟨rfl,rfl⟩) hone (by omega) (by rw [hby,Nat.zero_add];exact hnb) (by omega) (by omega)
     rw [hsz] at r2
     have hfr:Fr (fun _=>False) w w':=r2.fr.weak fun b e=>by cases e
     have hsm:Qz_ I w w':=fun b hb=>hfr.block b (hH.Ilt b hb) id
     have hl:(List.replicate N.toNat z).length=N.toNat:=List.length_replicate
     rw [<- hl] at r2
     obtain ⟨blk,k1,k2,k3⟩:=jX_ (nx:=nx) (m:=m) (x0:=([]:List t.den)) (ys:=List.replicate N.toNat z) hsm r2 (by rw [hl,Array.length_toList,Ql_,hvs]) (by rw [hl];exact W3_ (hz _ _)) (.inl rfl)
     refine ⟨_,hex a,.slice ao' (0+N.toNat) cap',w',blk,cap',_,t.size,by rw [hv1,hv2];exact r1,hfr,fun b hb=>?_,fun _=>k2,fun _=>by rw [hl] at k3;exact k3⟩
     rcases k1 b hb with h | h
     ·exact h
     ·cases h
    ·rename_i j hb
     split at ev1
     ·rename_i t' x0' hl
      obtain ⟨rfl,ev2⟩:=ql_ ev1
      obtain ⟨⟨n0,n1',n2'⟩,hK⟩:=zj_ ev2
      have n1:((x0'.length:Int)+N)*bytes<=140737488355328:=n1'
      have n2:(x0'.length:Int)+N<=140737488355328:=n2'
      refine gj_ (i:=j) (x0:=x0') hl (z4_ qb_ hb j (by simp [AV.ids,AV.ids1,AV.ids0])) rfl hK fun {I w m a σ} hf hH ha hok=>?_
      have hv1:=hf.rv qb_ hx;rw [hb] at hv1
      obtain ⟨ao,len,cap,e1,hO⟩:=hv1
      obtain ⟨l1,l2,l3,l4,l5⟩:=hV_ hok hO
      subst l1;subst l2
      have hv2:=hf.rv Qc_ hy;rw [hN] at hv2
      have hv2:a.eval y=.int kk (N.toNat:Int):=by rw [(zp_ hv2).1];congr 1;omega
      have hnb:(x0'.length+N.toNat)*bytes<=140737488355328:=by
       have:(((x0'.length+N.toNat)*bytes:Nat):Int)<=140737488355328:=by rw [Int.natCast_mul,Int.natCast_add,Int.toNat_of_nonneg n0];exact n1
       omega
      obtain ⟨w',ao',cap',r1,r2⟩:=yk_ (ty:=o.type) (n:=N.toNat) (k:=kk) he hu hi hv (by rw [hsz];exact hvs) l3 l4 (by rw [hsz];exact l5) hone (by omega) (by rw [hby];exact hnb) (by omega) (by omega)
      rw [hsz] at r2
      have hll:(List.replicate N.toNat z).length=N.toNat:=List.length_replicate
      rw [<- hll] at r2
      refine ⟨ao,ao',cap',w',_,ws_ (hex a) (by rw [e1,hv2,hll];exact r1),r2,by rw [hll,Array.length_toList,Ql_,hvs],by rw [hll];exact W3_ (hz _ _),hO⟩
     ·exact ev1.elim
    ·exact ev1.elim
   ·cases h2
  ·cases h2
 ·cases hok
end ops
section ops
variable {P:Program} {Γ:Env} {o:Oper} {L:List Opd} {fr:zf_} {F:List Nat} {wr:Bool} {st:zc_} {nx:Nat} {K:AV->zc_->Nat->Prop}
theorem zbc_ {x:Operand} (h:GV_ x=true) (a:Act):a.eval x=.slice none 0 0:=by
 unfold GV_ at h
 split at h
 ·rfl
 ·cases h
theorem GT_ {t:Ty} (hok:zx_ P o.op (.nilrow t)=true) (ev:zu_ Γ (.nilrow t) fr st nx K):MOK P o [] fr F wr st nx K:=by
 simp only [zu_] at ev
 simp only [zx_] at hok
 have hop:∃ x,GV_ x=true/\∀ a:Act,execOp a.eval o=(do pure (.value (<- (pure (a.eval x):Sem Value)))):=by
  split at hok
  ·rename_i x ho;exact ⟨x,hok,fun a=>by unfold execOp;rw [ho];rfl⟩
  ·rename_i x ho;exact ⟨x,hok,fun a=>by unfold execOp;rw [ho];rfl⟩
  ·cases hok
 obtain ⟨x,hx,hex⟩:=hop
 refine kd_ ev (fun _ _ h=>by cases h) fun {I w m a σ} hf hH ha hu=>⟨_,hex a,.slice none 0 0,w,none,0,0,t.size,by rw [zbc_ hx a];rfl,Fr.refl _ _,fun b hb=>(by cases hb),fun _=>?_,fun _=>?_⟩
 ·exact ⟨M.push_sz _ _ _ _ _ _,(M.push_len _ _ _ _ _ _).symm,Nat.zero_le _,by rw [M.push_cap];exact Nat.zero_le _,.inl ⟨M.push_blk _ _ _ _ _ _,M.push_cap _ _ _ _ _ _⟩⟩
 ·exact ⟨none,0,0,rfl,.inr rfl,(M.push_len _ _ _ _ _ _).symm,(M.push_cap _ _ _ _ _ _).symm,Nat.le_refl _,Nat.zero_le _,.inl ⟨M.push_blk _ _ _ _ _ _,rfl,rfl⟩⟩
theorem zbq_ {t k e:TypeId} {ts:Array TypeId} {ty:TypeId} {b:Nat} {es:Array MapEntry} {c:Nat} {w:World} (h0:ts[0]?=some t) (ht:P.underlying t=some (.map k e)) (hb:w.heap[b]?=some (.map es c)):
 (Builtin.len_ ts ty #[.map (some b)]).run P w=.ok (.int .i64 es.size) w:=by
 simp [Builtin.len_,h0,run_underlying ht,goInt,MapKept.run_getObj_map hb]
theorem Bm_ {x':Opd} (hok:zx_ P o.op (.mlen x')=true) (ev:zu_ Γ (.mlen x') fr st nx K):MOK P o [x'] fr (ZA_ [x'] fr) wr st nx K:=by
 simp only [zu_] at ev
 simp only [zx_] at hok
 split at hok
 ·rename_i args ts ho
  simp only [Bool.and_eq_true] at hok
  obtain ⟨h1,h2⟩:=hok
  obtain ⟨x,rfl,hx⟩:=vh_ h1
  split at h2
  ·rename_i t ht
   obtain ⟨k,e,he⟩:=gt_ h2
   split at ev
   ·rename_i i hb
    split at ev
    ·rename_i q kt vt l hl
     obtain ⟨hn,ev⟩:=zj_ ev
     refine zQ_ ev fun {I w m a σ} hf hH ha=>⟨Builtin.len_ ts o.type #[a.eval x],by rw [Qb_ ho];simp [builtin],.int .i64 l.length,?_,?_⟩
     ·exact ZB_ (jS_ (by unfold maxLen;omega))
     ·have hi:σ i=some (.map q kt vt l):=by rw [ha i (z4_ qC_ hb i (by simp [AV.ids,AV.ids1,AV.ids0])),hl]
      obtain ⟨b,es,c,q1,q2,q3⟩:=hH.obj i _ hi
      have hv:=hf.rv qC_ hx;rw [hb] at hv
      obtain ⟨b',q4,q5,_⟩:=hv
      rw [q1] at q4;cases q4
      rw [q5,zbq_ ht he q2,q3.1]
    ·exact ev.elim
   ·exact ev.elim
  ·cases h2
 ·cases hok
theorem bT_ {x':Opd} (hok:zx_ P o.op (.rngs x')=true) (ev:zu_ Γ (.rngs x') fr st nx K):MOK P o [x'] fr F wr st nx K:=by
 simp only [zu_] at ev
 simp only [zx_] at hok
 split at hok
 ·rename_i t x ho
  simp only [Bool.and_eq_true] at hok
  obtain ⟨hx,ht⟩:=hok
  split at ev
  ·rename_i l hl
   refine kd_ ev (fun _ _ h=>by cases h) fun {I w m a σ} hf hH ha hu=>?_
   have hv:=hf.rv qC_ hx;rw [hl] at hv
   obtain ⟨s,e1,rfl,e3⟩:=hv
   refine ⟨Instr.range t (a.eval x),by unfold execOp;rw [ho],.pointer (some ⟨w.heap.size,0,none⟩),w.alloc (.stringIter s 0),some w.heap.size,0,0,0,?_,Fr.alloc _ _ _,fun b hb=>by cases hb;exact Nat.le_refl _,fun hs=>⟨w.heap.size,s,M.push_blk _ _ _ _ _ _,qv_ _ _,rfl,e3⟩,fun _=>GW_⟩
   rw [e1]
   simp [Instr.range,run_underlying (wg_ ht)]
  ·exact ev.elim
 ·cases hok
theorem b8_ {x':Opd} (hok:zx_ P o.op (.nxts x')=true) (ev:zu_ Γ (.nxts x') fr st nx K):MOK P o [x'] fr (ZA_ [x'] fr) true st nx K:=by
 simp only [zu_,zc_.setK_eq] at ev
 simp only [zx_] at hok
 split at hok
 ·rename_i x ho
  split at ev
  ·rename_i i off hb
   split at ev
   ·split at ev
    ·rename_i l p hl
     have hiF:i ∈ ZA_ [x'] fr:=z4_ qC_ hb i (by simp [AV.ids,AV.ids1,AV.ids0])
     rcases w1_ ev with ⟨hlt,ev⟩ | ⟨hge,ev⟩
     ·have hlt:=of_decide_eq_true hlt
      refine GZ_ (wV_ (ob:=.iter l p) (ob':=.iter l (p+(kJ_ l p).2)) hl rfl rfl hiF rfl ev fun {I w m a σ} _ hf hH ha=>?_)
      have hi:σ i=some (.iter l p):=by rw [ha i hiF,hl]
      obtain ⟨b,s,q1,q2,rfl,q4⟩:=hH.obj i _ hi
      have hv:=hf.rv qC_ hok;rw [hb] at hv
      obtain ⟨b',q5,q6,_⟩:=hv
      rw [q1] at q5;cases q5
      have hsz:p < s.size:=by rw [zV_] at hlt;exact hlt
      have hbl:=Z2_ q2
      refine ⟨.tuple #[.bool true,.int .i64 p,.int .i32 ((kJ_ (zI_ s) p).1:Nat)],{w with heap:=w.heap.setIfInBounds b (.stringIter s (p+(kJ_ (zI_ s) p).2))},.inl (ws_ (S:=Instr.next (a.eval x) true o.type) (by unfold execOp;rw [ho]) ?_),⟨rfl,rfl,rfl,by simp,fun k _ hk=>?_⟩,fun _=>⟨b,s,q1,?_,rfl,q4⟩,fun _=>?_⟩
      ·rw [q6]
       simp [Instr.next,getObj,setObj,Sem.run,q2,hsz,bQ_,goInt]
      ·have hne:k ≠ b:=fun e=>hk (by rw [e];exact q1)
       simp [Array.getElem?_setIfInBounds_ne (Ne.symm hne)]
      ·simp [hbl]
      ·have:=zaM_ (zI_ s) p
       have hml:maxLen<=9223372036854775807:=by decide
       refine ⟨_,rfl,?_⟩
       refine ⟨rfl,⟨rfl,?_⟩,⟨rfl,?_⟩,trivial⟩
       ·exact jS_ (by omega)
       ·constructor
        ·exact Int.le_trans (show IntKind.i32.min<=0 by decide) (Int.natCast_nonneg _)
        ·exact Int.le_trans (Int.ofNat_le.2 this) (by decide)
     ·have hge:=of_decide_eq_false hge
      refine zQ_ ev fun {I w m a σ} hf hH ha=>⟨Instr.next (a.eval x) true o.type,by unfold execOp;rw [ho],.tuple #[.bool false],⟨_,rfl,rfl,trivial⟩,?_⟩
      have hi:σ i=some (.iter l p):=by rw [ha i hiF,hl]
      obtain ⟨b,s,q1,q2,rfl,q4⟩:=hH.obj i _ hi
      have hv:=hf.rv qC_ hok;rw [hb] at hv
      obtain ⟨b',q5,q6,_⟩:=hv
      rw [q1] at q5;cases q5
      have hsz:¬ p < s.size:=by rw [zV_] at hge;exact hge
      rw [q6]
      simp [Instr.next,getObj,Sem.run,q2,hsz]
    ·exact ev.elim
   ·exact ev.elim
  ·exact ev.elim
 ·cases hok
end ops
end Go.Eng
namespace Go.Eng
set_option linter.unusedVariables false
set_option linter.unusedSimpArgs false
open Go.RowKit
theorem VH_ {u:Value} (h:G9_ u=false):u.cells.toList=[u]:=by
 cases u<;>first | rfl | cases h
theorem zas_ {I:Nat->Prop} {w:World} {m:M} {v:AV} {cv:Value} {c:List AV} (h:RV I w m v cv) (ha:v.isAgg=false) (hc:v.flat=some c):G9_ cv=false:=by
 cases v with
 | undef=>cases hc
 | skp=>cases hc
 | tup=>cases hc
 | agg=>cases ha
 | fn f l c=>obtain ⟨fs,cs,rfl,_⟩:=h;rfl
 | int=>obtain ⟨rfl,_⟩:=h;rfl
 | bool=>cases (show cv=_ from h);rfl
 | kb=>cases (show cv=_ from h);rfl
 | str=>obtain ⟨s,rfl,_⟩:=h;rfl
 | nilp=>cases (show cv=_ from h);rfl
 | nilm=>cases (show cv=_ from h);rfl
 | nils=>cases (show cv=_ from h);rfl
 | ptr=>obtain ⟨_,_,rfl,_⟩:=h;rfl
 | imm=>obtain ⟨_,_,_,rfl,_⟩:=h;rfl
 | iptr=>obtain ⟨_,_,rfl,_⟩:=h;rfl
 | own=>obtain ⟨_,_,_,rfl,_⟩:=h;rfl
 | view=>obtain ⟨_,_,_,rfl,_⟩:=h;rfl
 | rptr=>obtain ⟨_,_,rfl,_⟩:=h;rfl
 | mapv=>obtain ⟨_,_,rfl,_⟩:=h;rfl
 | bview=>obtain ⟨_,_,_,rfl,_⟩:=h;rfl
 | yv=>cases (show cv=_ from h);rfl
 | fnp=>obtain ⟨_,_,rfl,_⟩:=h;rfl
theorem Wv_ {t:Ty} {v:AV} {K:t.den->Prop} (ev:bt_ t v K):∃ x,K x/\∀ {I:Nat->Prop} {w:World} {m:M} {cv:Value},RV I w m v cv->wM_ I w t x cv:=by
 unfold bt_ at ev
 split at ev
 ·rename_i hg
  unfold oneK at ev
  split at ev
  ·rename_i c hc
   obtain ⟨x,hx,ev⟩:=Yv_ ev
   ·refine ⟨x,ev,fun {I w m cv} h=>⟨wd_ (k4_ h hc) hx,?_⟩⟩
    cases ht:br_ t with
    | true=>
      rw [ht] at hg
      cases v with
      | agg l=>obtain ⟨cs,rfl,_⟩:=h;rfl
      | _=>cases hg
    | false=>
      rw [ht] at hg
      refine zas_ h ?_ hc
      cases ha:v.isAgg with
      | false=>rfl
      | true=>rw [ha] at hg;cases hg
  ·exact ev.elim
 ·exact ev.elim
theorem zao_ (t:Ty) (x:t.den):∃ a,(∀ K,zap_ t x K=K a)/\∀ {I:Nat->Prop} {w:World} {m:M} {cv:Value},wM_ I w t x cv->RV1 I w m a cv:=by
 have sc:∀ {a:AV} {t:Ty} {x:t.den},br_ t=false->t.cells x=[a]->∀ {I:Nat->Prop} {w:World} {m:M} {cv:Value},wM_ I w t x cv->RV1 I w m a cv:=fun {a t x} ht hc {I w m cv} h=>by
  have h1:=QE_ (m:=m) t x _ h.1
  rw [hc,VH_ (h.2.trans ht)] at h1
  exact kG_ h1.1
 have ag:∀ {t:Ty} {x:t.den},br_ t=true->∀ {I:Nat->Prop} {w:World} {m:M} {cv:Value},wM_ I w t x cv->RV1 I w m (.agg (t.cells x)) cv:=fun {t x} ht {I w m cv} h=>by
  have h1:=QE_ (m:=m) t x _ h.1
  have h2:=h.2.trans ht
  cases cv<;>first | exact ⟨_,rfl,h1⟩ | cases h2
 cases t with
 | int k=>exact ⟨.int k x,fun _=>rfl,sc rfl rfl⟩
 | bool=>exact ⟨.bool x,fun _=>rfl,sc rfl rfl⟩
 | str=>exact ⟨.str x,fun _=>rfl,sc rfl rfl⟩
 | nil=>exact ⟨.agg [],fun _=>rfl,ag (t:=.nil) (x:=x) rfl⟩
 | cons a b=>exact ⟨.agg (Ty.cells (.cons a b) x),fun K=>by show qc_ _ _=_;exact ZH_ _ _,ag (t:=.cons a b) rfl⟩
 | sl t=>exact ⟨.imm t x,fun _=>rfl,sc rfl rfl⟩
section lists
variable {α β:Type} [DecidableEq α]
theorem WI_:∀ (l:List (α × β)) (k:α),(∀ h:Zj_ l k < l.length,l[Zj_ l k].1=k/\zt_ l k=some l[Zj_ l k].2)/\(¬ Zj_ l k < l.length->zt_ l k=none)
 | [],_=>⟨fun h=>absurd h (by simp),fun _=>rfl⟩
 | (a,b) :: r,k=>by
   obtain ⟨h1,h2⟩:=WI_ r k
   by_cases e:a=k
   ·have e1:Zj_ ((a,b) :: r) k=0:=if_pos e
    have e2:zt_ ((a,b) :: r) k=some b:=if_pos e
    refine ⟨fun h=>?_,fun h=>absurd (by rw [e1];simp) h⟩
    simp only [e1,e2,List.getElem_cons_zero];exact ⟨e,True.intro⟩
   ·have e1:Zj_ ((a,b) :: r) k=Zj_ r k+1:=if_neg e
    have e2:zt_ ((a,b) :: r) k=zt_ r k:=if_neg e
    refine ⟨fun h=>?_,fun h=>?_⟩
    ·have h':Zj_ r k < r.length:=by rw [e1] at h;simpa using h
     simp only [e1,e2,List.getElem_cons_succ];exact h1 h'
    ·rw [e2];exact h2 fun h'=>h (by rw [e1];simpa using h')
theorem Hc_:∀ (l:List (α × β)) (k:α) (v:β),q4_ l k v=if Zj_ l k < l.length then l.set (Zj_ l k) (k,v) else l++[(k,v)]
 | [],_,_=>rfl
 | (a,b) :: r,k,v=>by
   by_cases e:a=k
   ·have e1:Zj_ ((a,b) :: r) k=0:=if_pos e
    rw [e1,if_pos (by simp)]
    show (if a=k then _ else _)=_
    rw [if_pos e];rfl
   ·have e1:Zj_ ((a,b) :: r) k=Zj_ r k+1:=if_neg e
    rw [e1]
    show (if a=k then _ else _)=_
    rw [if_neg e,Hc_ r k v]
    by_cases h:Zj_ r k < r.length
    ·rw [if_pos h,if_pos (by simpa using h)];rfl
    ·rw [if_neg h,if_neg (by simpa using h)];rfl
end lists
section ops
variable {P:Program} {Γ:Env} {o:Oper} {L:List Opd} {fr:zf_} {F:List Nat} {wr:Bool} {st:zc_} {nx:Nat} {K:AV->zc_->Nat->Prop}
theorem zar_ {I:Nat->Prop} {w:World} {k:IntKind} {n:(Ty.int k).den} {cv:Value} (h:wM_ I w (.int k) n cv):cv=.int k n/\inK k n:=by
 obtain ⟨h1,h2⟩:=h
 rw [VH_ h2] at h1
 simp only [RC,List.cons.injEq,and_true] at h1
 exact h1
theorem Y5_ {β:Type} {d:TypeDesc} {k:IntKind} {n:Int}:∀ (l:List (Int × β)) (es:List MapEntry) (i:Nat),l.length=es.length->(∀ j (h:j < l.length) (h':j < es.length),es[j].key=.int k l[j].1)->d=.int k->
 Instr.findNow d (.int k n) es i=some (if Zj_ l n < l.length then (es[Zj_ l n]?).map (fun e=>(i+Zj_ l n,e.val)) else none)
 | [],[],i,_,_,_=>rfl
 | [],_ :: _,_,h,_,_=>by cases h
 | _ :: _,[],_,h,_,_=>by cases h
 | (a,b) :: l,e :: es,i,hl,h,hd=>by
   subst hd
   have h0:=h 0 (by simp) (by simp)
   simp only [List.getElem_cons_zero] at h0
   have hs:Instr.sameNow (.int k) (.int k n) e.key=some (n == a):=by rw [h0];simp [Instr.sameNow]
   unfold Instr.findNow
   rw [hs]
   by_cases e1:a=n
   ·have em:Zj_ ((a,b) :: l) n=0:=if_pos e1
    rw [em,if_pos (by simp)]
    subst e1
    simp
   ·have em:Zj_ ((a,b) :: l) n=Zj_ l n+1:=if_neg e1
    have hb:(n == a)=false:=by simp;exact fun e=>e1 e.symm
    rw [em,hb]
    simp only []
    rw [Y5_ l es (i+1) (by simpa using hl) (fun j h1 h2=>by have:=h (j+1) (by simpa using h1) (by simpa using h2);simpa using this) rfl]
    by_cases hm:Zj_ l n < l.length
    ·rw [if_pos hm,if_pos (by simpa using hm),List.getElem?_cons_succ,show i+1+Zj_ l n=i+(Zj_ l n+1) by omega]
    ·rw [if_neg hm,if_neg (by simpa using hm)]
theorem bj_ {w:World} {e:Bool} {k:IntKind} {n:Int} {a:TypeId} (ha:P.underlying a=some (.int k)):(Instr.checkKey e 10000 a (.int k n)).run P w=.ok () w:=by
 show (Instr.checkKey e (9999+1) a (.int k n)).run P w=.ok () w
 unfold Instr.checkKey
 rw [Sem.run_bind,run_underlying ha]
 rfl
theorem HN_ {k:IntKind} {n:Int} {w:World}:(Instr.keyThatStays (.int k n) (.int k n)).run P w=.ok (.int k n) w:=by
 simp [Instr.keyThatStays,Instr.sameBits]
def zC_:(t:Ty)->t.den->List Value
 | .int k,n=>[.int k n]
 | .bool,b=>[.bool b]
 | .cons a b,x=>zC_ a x.1++zC_ b x.2
 | _,_=>[]
def QG_:(t:Ty)->t.den->Value
 | .int k,n=>.int k n
 | .bool,b=>.bool b
 | t,x=>.agg (zC_ t x).toArray
def jM_:(t:Ty)->t.den->Prop
 | .int k,n=>inK k n
 | .bool,_=>True
 | .nil,_=>True
 | .cons a b,x=>jM_ a x.1/\jM_ b x.2
 | _,_=>False
theorem hF_ {I:Nat->Prop} {w:World}:∀ (t:Ty) (ks:List Leaf) (x:t.den) (cs:List Value),Qu_ t=some ks->RC I w t x cs->cs=zC_ t x/\jM_ t x
 | .int _,_,_,_,_,h=>by simp only [RC] at h;exact h
 | .bool,_,_,_,_,h=>by simp only [RC] at h;exact ⟨h,trivial⟩
 | .str,_,_,_,h,_=>by cases h
 | .nil,_,_,_,_,h=>by simp only [RC] at h;exact ⟨h,trivial⟩
 | .cons a b,ks,x,cs,h,hr=>by
   simp only [RC] at hr
   obtain ⟨c1,c2,rfl,h1,h2⟩:=hr
   unfold Qu_ at h
   split at h
   ·rename_i x1 x2 e1 e2
    obtain ⟨rfl,r1⟩:=hF_ a _ _ _ e1 h1
    obtain ⟨rfl,r2⟩:=hF_ b _ _ _ e2 h2
    exact ⟨rfl,r1,r2⟩
   ·cases h
 | .sl _,_,_,_,h,_=>by cases h
theorem Ku_.app:∀ {ks ks':List Leaf} {vs vs':List Value},Ku_ ks vs->Ku_ ks' vs'->Ku_ (ks++ks') (vs++vs')
 | [],_,[],_,_,h=>h
 | _ :: _,_,_ :: _,_,h,h'=>⟨h.1,Ku_.app h.2 h'⟩
 | [],_,_ :: _,_,h,_=>h.elim
 | _ :: _,_,[],_,h,_=>h.elim
theorem Y4_:∀ (t:Ty) (ks:List Leaf) (x:t.den),Qu_ t=some ks->jM_ t x->Ku_ ks (zC_ t x)
 | .int k,_,x,h,hr=>by cases h;exact ⟨⟨_,rfl,hr⟩,trivial⟩
 | .bool,_,x,h,hr=>by cases h;exact ⟨⟨_,rfl⟩,trivial⟩
 | .str,_,_,h,_=>by cases h
 | .nil,_,_,h,_=>by cases h;trivial
 | .cons a b,ks,x,h,hr=>by
   unfold Qu_ at h
   split at h
   ·rename_i x1 x2 e1 e2
    cases h
    exact Ku_.app (Y4_ a _ _ e1 hr.1) (Y4_ b _ _ e2 hr.2)
   ·cases h
 | .sl _,_,_,h,_=>by cases h
theorem Qv_:∀ (t:Ty) (ks:List Leaf) (x:t.den),Qu_ t=some ks->(zC_ t x).length=ks.length
 | .int k,_,x,h=>by cases h;rfl
 | .bool,_,x,h=>by cases h;rfl
 | .str,_,_,h=>by cases h
 | .nil,_,_,h=>by cases h;rfl
 | .cons a b,ks,x,h=>by
   unfold Qu_ at h
   split at h
   ·rename_i x1 x2 e1 e2
    cases h
    show (zC_ a x.1++zC_ b x.2).length=_
    rw [List.length_append,List.length_append,Qv_ a _ _ e1,Qv_ b _ _ e2]
   ·cases h
 | .sl _,_,_,h=>by cases h
theorem uS_:∀ (t:Ty) (ks:List Leaf) (x y:t.den),Qu_ t=some ks->(zC_ t x).map QM_=(zC_ t y).map QM_->x=y
 | .int k,_,x,y,_,e=>by simpa [zC_,QM_] using e
 | .bool,_,x,y,_,e=>by simpa [zC_,QM_] using e
 | .str,_,_,_,h,_=>by cases h
 | .nil,_,_,_,_,_=>rfl
 | .cons a b,ks,x,y,h,e=>by
   unfold Qu_ at h
   split at h
   ·rename_i x1 x2 e1 e2
    have e':(zC_ a x.1).map QM_++(zC_ b x.2).map QM_=(zC_ a y.1).map QM_++(zC_ b y.2).map QM_:=by
     rw [<- List.map_append,<- List.map_append];exact e
    obtain ⟨q1,q2⟩:=List.append_inj e' (by rw [List.length_map,List.length_map,Qv_ a _ _ e1,Qv_ a _ _ e1])
    exact Prod.ext (uS_ a _ _ _ e1 q1) (uS_ b _ _ _ e2 q2)
   ·cases h
 | .sl _,_,_,_,h,_=>by cases h
structure KeyP (P:Program) (a:TypeId) (kt:Ty):Prop where
 val:∀ {I:Nat->Prop} {w:World} {x:kt.den} {u:Value},wM_ I w kt x u->u=QG_ kt x/\jM_ kt x
 check:∀ (w:World) (e:Bool) (x:kt.den),jM_ kt x->(Instr.checkKey e 10000 a (QG_ kt x)).run P w=.ok () w
 find:∀ {β:Type} (w:World) (x:kt.den) (l:List (kt.den × β)) (es:List MapEntry),jM_ kt x->l.length=es.length->(∀ j (h:j < l.length) (h':j < es.length),es[j].key=QG_ kt l[j].1/\jM_ kt l[j].1)->(Instr.findKey a (QG_ kt x) es).run P w=.ok (if Zj_ l x < l.length then (es[Zj_ l x]?).map (fun e=>(Zj_ l x,e.val)) else none) w
 stays:∀ (w:World) (x:kt.den),jM_ kt x->(Instr.keyThatStays (QG_ kt x) (QG_ kt x)).run P w=.ok (QG_ kt x) w
theorem Y6_ {β:Type} {a:TypeId} {kt:Ty} (heq:∀ (w:World) (x y:kt.den),jM_ kt x->jM_ kt y->(Op.equal a (QG_ kt x) (QG_ kt y)).run P w=.ok (decide (x=y)) w) (w:World) (x:kt.den) (hx:jM_ kt x):∀ (l:List (kt.den × β)) (es:List MapEntry) (i:Nat),l.length=es.length->(∀ j (h:j < l.length) (h':j < es.length),es[j].key=QG_ kt l[j].1/\jM_ kt l[j].1)->
 (Instr.findAsking a (QG_ kt x) es i).run P w=.ok (if Zj_ l x < l.length then (es[Zj_ l x]?).map (fun e=>(i+Zj_ l x,e.val)) else none) w
 | [],[],i,_,_=>rfl
 | [],_ :: _,_,h,_=>by cases h
 | _ :: _,[],_,h,_=>by cases h
 | (p,b) :: l,e :: es,i,hl,h=>by
   have h0:=h 0 (by simp) (by simp)
   simp only [List.getElem_cons_zero] at h0
   have hs:=heq w x p hx h0.2
   unfold Instr.findAsking
   rw [Sem.run_bind,h0.1,hs]
   by_cases e1:p=x
   ·have em:Zj_ ((p,b) :: l) x=0:=if_pos e1
    rw [em,if_pos (by simp)]
    subst e1
    simp
   ·have em:Zj_ ((p,b) :: l) x=Zj_ l x+1:=if_neg e1
    have hb:decide (x=p)=false:=decide_eq_false fun e=>e1 e.symm
    rw [em,hb]
    simp only [Result.andThen_ok]
    have ih:=Y6_ heq w x hx l es (i+1) (by simpa using hl) (fun j h1 h2=>by have:=h (j+1) (by simpa using h1) (by simpa using h2);simpa using this)
    rw [if_neg (by decide),ih]
    by_cases hm:Zj_ l x < l.length
    ·rw [if_pos hm,if_pos (by simpa using hm),List.getElem?_cons_succ,show i+1+Zj_ l x=i+(Zj_ l x+1) by omega]
    ·rw [if_neg hm,if_neg (by simpa using hm)]
theorem ve_:∀ (n:Nat) (l:List Value),(∀ v ∈ l,Instr.sameBits n v v=true)->((l.zip l).all fun (x,y)=>Instr.sameBits n x y)=true
 | _,[],_=>rfl
 | n,v :: l,h=>by
   rw [List.zip_cons_cons,List.all_cons,ve_ n l fun u hu=>h u (List.mem_cons_of_mem _ hu),Bool.and_true]
   exact h v (List.mem_cons_self ..)
theorem vd_ (n:Nat):∀ (t:Ty) (x:t.den),∀ v ∈ zC_ t x,Instr.sameBits n v v=true
 | .int k,x,v,h=>by rw [List.mem_singleton.1 h];simp [Instr.sameBits]
 | .bool,x,v,h=>by rw [List.mem_singleton.1 h];simp [Instr.sameBits]
 | .str,_,_,h=>by cases h
 | .nil,_,_,h=>by cases h
 | .cons a b,x,v,h=>by
   rcases List.mem_append.1 h with h | h
   ·exact vd_ n a x.1 v h
   ·exact vd_ n b x.2 v h
 | .sl _,_,_,h=>by cases h
theorem Hj_ {a:TypeId} {kt:Ty} (h:Hk_ P a kt=true):KeyP P a kt:=by
 unfold Hk_ at h
 split at h
 ·rename_i k
  split at h
  ·rename_i k' hk
   simp only [beq_iff_eq] at h
   subst h
   refine ⟨fun {I w x u} hr=>?_,fun w e x _=>bj_ hk,fun {β} w x l es _ hl he=>?_,fun w x _=>HN_⟩
   ·obtain ⟨h1,h2⟩:=zar_ hr
    exact ⟨h1,h2⟩
   ·have h:=Y5_ (β:=β) (d:=.int k) (k:=k) (n:=x) l es 0 hl (fun j h1 h2=>(he j h1 h2).1) rfl
    simp only [Nat.zero_add] at h
    unfold Instr.findKey
    rw [Sem.run_bind,run_underlying hk]
    simp only [Result.andThen]
    show (match Instr.findNow (.int k) (.int k x) es 0 with | some r=>pure r | none=>Instr.findAsking a (.int k x) es:Sem _).run P w=_
    rw [h];rfl
  ·cases h
 ·rename_i ta tb
  simp only [Bool.and_eq_true] at h
  obtain ⟨⟨hw,hk⟩,hl⟩:=h
  split at hl
  ·rename_i ks ks' e1 e2
   have he:=of_decide_eq_true hl
   subst he
   have hlen:=gq_ e2 hw
   have fm:∀ x:(Ty.cons ta tb).den,jM_ (.cons ta tb) x->(QG_ (.cons ta tb) x).formed P a=true:=fun x hx=>by
    have hs:(zC_ (.cons ta tb) x).toArray.size=P.cellsOf a:=by rw [<- hlen,<- Qv_ _ _ x e1];simp
    unfold uU_ at hw
    show (Value.agg (zC_ (.cons ta tb) x).toArray).formed P a=true
    simp only [Value.formed]
    split at hw
    ·rename_i e;rw [e];simp [hs]
    ·rename_i e;rw [e];simp [hs]
    ·cases hw
   have kl:∀ x:(Ty.cons ta tb).den,jM_ (.cons ta tb) x->P.keyLits 8 a (QG_ (.cons ta tb) x).cells.toList=some ((zC_ (.cons ta tb) x).map QM_):=fun x hx=>by
    have:(QG_ (.cons ta tb) x).cells.toList=zC_ (.cons ta tb) x:=by show (zC_ (.cons ta tb) x).toArray.toList=_;simp
    rw [this]
    exact WK_ 8 a ks _ e2 (Y4_ _ _ _ e1 hx)
   have heq:∀ (w:World) (x y:(Ty.cons ta tb).den),jM_ (.cons ta tb) x->jM_ (.cons ta tb) y->(Op.equal a (QG_ (.cons ta tb) x) (QG_ (.cons ta tb) y)).run P w=.ok (decide (x=y)) w:=fun w x y hx hy=>by
    obtain ⟨r,hr,hri⟩:=run_equalIn_deep (P:=P) 9992 8 a hk w 8 8 (QG_ (.cons ta tb) x) (QG_ (.cons ta tb) y) _ _ (fm x hx) (fm y hy) (kl x hx) (kl y hy)
    have hrb:r=decide (x=y):=by
     cases r with
     | true=>exact (decide_eq_true (uS_ _ _ _ _ e1 (hri.1 rfl))).symm
     | false=>exact (decide_eq_false fun e=>by subst e;cases hri.2 rfl).symm
    subst hrb;exact hr
   refine ⟨fun {I w x u} hr=>?_,fun w e x hx=>?_,fun {β} w x l es hx hll he=>?_,fun w x hx=>?_⟩
   ·obtain ⟨h1,h2⟩:=hr
    obtain ⟨c1,c2⟩:=hF_ _ _ _ _ e1 h1
    refine ⟨?_,c2⟩
    cases u with
    | agg cs=>
      show Value.agg cs=Value.agg (zC_ (.cons ta tb) x).toArray
      rw [<- c1];rfl
    | _=>cases h2
   ·exact run_checkKey_deep e 9992 8 a hk w 8 (QG_ (.cons ta tb) x) _ (fm x hx) (kl x hx)
   ·rw [run_findKey_eq w hw]
    have:=Y6_ heq w x hx l es 0 hll he
    simpa using this
   ·have hb:Instr.sameBits 10000 (QG_ (.cons ta tb) x) (QG_ (.cons ta tb) x)=true:=by
     show Instr.sameBits (9999+1) (.agg (zC_ (.cons ta tb) x).toArray) (.agg (zC_ (.cons ta tb) x).toArray)=true
     unfold Instr.sameBits
     rw [Bool.and_eq_true]
     exact ⟨by simp,ve_ _ _ (by simpa using vd_ 9999 (.cons ta tb) x)⟩
    simp [Instr.keyThatStays,hb]
  ·cases hl
 ·cases h
theorem gP_ {I:Nat->Prop} {w w':World} {q:Bool} {kt vt:Ty} {l:List (kt.den × vt.den)} {es:Array MapEntry} {c:Nat} {n:kt.den} {a:TypeId} (hE:ke_ I w q kt vt l es c) (KP:KeyP P a kt) (hn:jM_ kt n):
 (Instr.findKey a (QG_ kt n) es.toList).run P w'=.ok (if Zj_ l n < l.length then (es[Zj_ l n]?).map (fun e=>(Zj_ l n,e.val)) else none) w':=by
 have h:=KP.find w' n l es.toList hn (by simpa using hE.1) (fun j h1 h2=>by
  have:=(hE.2.1 j h1 (by simpa using h2)).1
  have:=KP.val this
  simpa using this)
 simp only [Array.getElem?_toList] at h
 exact h
theorem zay_ {t:TypeId} {ty:Ty} {z:ty.den} (h:Wt_ P t ty z=true) (h2:yO_ P t ty=true):∃ v,(∀ w:World,(zeroValue t).run P w=.ok v w)/\∀ (I:Nat->Prop) (w:World),wM_ I w ty z v:=by
 obtain ⟨i,v,e1,e2,e3⟩:=xX_ h
 refine ⟨v,fun w=>qG_ e1 e2,fun I w=>⟨e3 I w,?_⟩⟩
 unfold yO_ at h2
 rw [e1] at h2
 simp only [e2,beq_iff_eq] at h2
 rw [<- h2];cases v<;>rfl
theorem G3_ {I:Nat->Prop} {w:World} {q:Bool} {kt vt:Ty} {l:List (kt.den × vt.den)} {es:Array MapEntry} {c b:Nat} {n:kt.den} {t a e:TypeId} {z:vt.den} {ok:Bool} (hE:ke_ I w q kt vt l es c) (ht:P.underlying t=some (.map a e)) (KP:KeyP P a kt) (hn:jM_ kt n)
 (hz:Wt_ P e vt z=true) (hz2:yO_ P e vt=true) (hb:w.heap[b]?=some (.map es c)):
 ∃ r,wM_ I w vt ((zt_ l n).getD z) r/\(Instr.lookup t (.map (some b)) (QG_ kt n) ok).run P w=.ok (if ok then .tuple #[r,.bool (zt_ l n).isSome] else r) w:=by
 obtain ⟨v,z1,z2⟩:=zay_ hz hz2
 obtain ⟨h1,h2⟩:=WI_ l n
 have hf:=gP_ (P:=P) (w':=w) (n:=n) hE KP hn
 have hck:∀ e:Bool,(Instr.checkKey e 10000 a (QG_ kt n)).run P w=.ok () w:=fun e=>KP.check w e n hn
 by_cases hm:Zj_ l n < l.length
 ·obtain ⟨k1,k2⟩:=h1 hm
  have hes:Zj_ l n < es.size:=by rw [<- hE.1];exact hm
  rw [if_pos hm,Array.getElem?_eq_getElem hes] at hf
  refine ⟨es[Zj_ l n].val,?_,?_⟩
  ·rw [k2];exact (hE.2.1 _ hm hes).2
  ·simp [Instr.lookup,run_underlying ht,MapKept.run_getObj_map hb,hck,hf,k2,Result.andThen]
 ·rw [if_neg hm] at hf
  refine ⟨v,?_,?_⟩
  ·rw [h2 hm];exact z2 I w
  ·simp [Instr.lookup,run_underlying ht,MapKept.run_getObj_map hb,hck,hf,h2 hm,z1,Result.andThen]
theorem Bo_ {kt vt:Ty} {z:vt.den} {ok:Bool} {x' k':Opd} (hok:zx_ P o.op (.mget kt vt z ok x' k')=true) (ev:zu_ Γ (.mget kt vt z ok x' k') fr st nx K):MOK P o [x',k'] fr (ZA_ [x',k'] fr) wr st nx K:=by
 simp only [zu_] at ev
 simp only [zx_] at hok
 split at hok
 ·rename_i t x k ok' ho
  simp only [Bool.and_eq_true,beq_iff_eq] at hok
  obtain ⟨⟨⟨rfl,hx⟩,hk⟩,ht⟩:=hok
  split at ht
  ·rename_i a b hm
   simp only [Bool.and_eq_true] at ht
   obtain ⟨⟨ha,hz⟩,hz2⟩:=ht
   have KP:=Hj_ ha
   obtain ⟨n,ev,hn⟩:=Wv_ ev
   split at ev
   ·rename_i i hb
    split at ev
    ·rename_i q kt' vt' l hl
     split at ev
     ·rename_i e1 e2 _ _
      subst e1;subst e2
      simp only [] at ev
      obtain ⟨av,ea,hav⟩:=zao_ vt' ((zt_ l n).getD z)
      have main:∀ {I:Nat->Prop} {w:World} {m:M} {a:Act} {σ:Sto},FOn [x',k'] fr I w m a->HRel I w m σ->(∀ i ∈ ZA_ [x',k'] fr,σ i=st.get i)->∃ r,wM_ I w vt' ((zt_ l n).getD z) r/\(Instr.lookup t (a.eval x) (a.eval k) ok').run P w=.ok (if ok' then .tuple #[r,.bool (zt_ l n).isSome] else r) w:=fun {I w m a σ} hf hH ha'=>by
       have hi:σ i=some (.map q kt' vt' l):=by rw [ha' i (z4_ qb_ hb i (by simp [AV.ids,AV.ids1,AV.ids0])),hl]
       obtain ⟨b',es,c,q1,q2,q3⟩:=hH.obj i _ hi
       have hv:=hf.rv qb_ hx;rw [hb] at hv
       obtain ⟨b'',q4,q5,_⟩:=hv
       rw [q1] at q4;cases q4
       obtain ⟨hkv,hkR⟩:=KP.val (hn (hf.rv Qc_ hk))
       rw [q5,hkv]
       exact G3_ q3 hm KP hkR hz hz2 q2
      have hex:∀ a:Act,execOp a.eval o=(do pure (.value (<- Instr.lookup t (a.eval x) (a.eval k) ok'))):=fun a=>by unfold execOp;rw [ho]
      cases ok' with
      | true=>
        simp only [ea] at ev
        refine zQ_ ev fun {I w m a σ} hf hH ha'=>?_
        obtain ⟨r,r1,r2⟩:=main hf hH ha'
        exact ⟨_,hex a,_,⟨#[r,.bool (zt_ l n).isSome],rfl,hav r1,rfl,trivial⟩,r2⟩
      | false=>
        simp only [ea] at ev
        refine zQ_ ev fun {I w m a σ} hf hH ha'=>?_
        obtain ⟨r,r1,r2⟩:=main hf hH ha'
        exact ⟨_,hex a,_,jj_ (Z8_ (hav r1)),r2⟩
     ·exact ev.elim
    ·exact ev.elim
   ·exact ev.elim
  ·cases ht
 ·cases hok
theorem Yd_ {w:World} {b:Nat} {es:Array MapEntry} {c:Nat} {y:Go.Obj} (h:w.heap[b]?=some (.map es c)):(setObj b y).run P w=.ok () {w with heap:=w.heap.setIfInBounds b y}:=by
 simp [setObj,Sem.run,h]
theorem Ye_ {w:World} {b:Nat} {x y:Go.Obj} (h:w.heap[b]?=some x):({w with heap:=w.heap.setIfInBounds b y}:World).heap[b]?=some y:=by
 have:=Z2_ h
 simp [this]
theorem Vd_ {w:World} {m:M} {i b:Nat} {y:Go.Obj} (hb:m.blk i=some b):Fr (fun b=>m.blk i=some b) w {w with heap:=w.heap.setIfInBounds b y}:=
 ⟨rfl,rfl,rfl,by simp,fun k _ hk=>by
  have hne:k ≠ b:=fun e=>hk (by rw [e];exact hb)
  simp [Array.getElem?_setIfInBounds_ne (Ne.symm hne)]⟩
theorem gT_ {I:Nat->Prop} {w:World} {kt vt:Ty} {l:List (kt.den × vt.den)} {es:Array MapEntry} {c j:Nat} {f:MapEntry->MapEntry} {p:kt.den × vt.den} (h:ke_ I w true kt vt l es c) (hj:j < l.length)
 (hf:∀ h':j < es.size,wM_ I w kt p.1 (f es[j]).key/\wM_ I w vt p.2 (f es[j]).val/\(f es[j]).born=es[j].born):ke_ I w true kt vt (l.set j p) (es.modify j f) c:=by
 obtain ⟨h1,h2,h3,h4⟩:=h
 obtain ⟨h5,h6⟩:=h4 rfl
 have hj':j < es.size:=by omega
 obtain ⟨f1,f2,f3⟩:=hf hj'
 refine ⟨by simp [h1],fun i hi hi'=>?_,fun i hi=>?_,fun _=>⟨by simp [h5],fun i hi=>?_⟩⟩
 ·simp only [List.length_set] at hi
  simp only [Array.size_modify] at hi'
  rw [Array.getElem_modify]
  by_cases e:j=i
  ·subst e
   rw [if_pos rfl,List.getElem_set_self];exact ⟨f1,f2⟩
  ·rw [if_neg e,List.getElem_set_ne e];exact h2 i hi hi'
 ·simp only [Array.size_modify] at hi
  rw [Array.getElem_modify]
  split
  ·rename_i e;subst e;rw [f3];exact h3 _ hi
  ·exact h3 _ hi
 ·simp only [Array.size_modify] at hi
  rw [Array.getElem_modify]
  split
  ·rename_i e;subst e;rw [f3];exact h6 _ hi
  ·exact h6 _ hi
theorem Uj_ {I:Nat->Prop} {w:World} {kt vt:Ty} {l:List (kt.den × vt.den)} {es:Array MapEntry} {c:Nat} {p:kt.den × vt.den} {u v:Value} (h:ke_ I w true kt vt l es c) (hu:wM_ I w kt p.1 u) (hv:wM_ I w vt p.2 v):
 ke_ I w true kt vt (l++[p]) (es.push {key:=u,val:=v,born:=c}) (c+1):=by
 obtain ⟨h1,h2,h3,h4⟩:=h
 obtain ⟨h5,h6⟩:=h4 rfl
 refine ⟨by simp [h1],fun i hi hi'=>?_,fun i hi=>?_,fun _=>⟨by simp [h5],fun i hi=>?_⟩⟩
 ·simp only [Array.size_push] at hi'
  rw [Array.getElem_push]
  by_cases e:i < es.size
  ·rw [dif_pos e,List.getElem_append_left (by omega)];exact h2 i (by omega) e
  ·rw [dif_neg e,List.getElem_append_right (by omega)]
   simp only [List.getElem_singleton];exact ⟨hu,hv⟩
 ·simp only [Array.size_push] at hi
  rw [Array.getElem_push]
  by_cases e:i < es.size
  ·rw [dif_pos e];exact Nat.lt_succ_of_lt (h3 i e)
  ·rw [dif_neg e];exact Nat.lt_succ_self _
 ·simp only [Array.size_push] at hi
  rw [Array.getElem_push]
  by_cases e:i < es.size
  ·rw [dif_pos e];exact h6 i e
  ·rw [dif_neg e]
   show c=i
   omega
theorem Bk_ {kt vt:Ty} {x' k' v':Opd} (hok:zx_ P o.op (.mput kt vt x' k' v')=true) (ev:zu_ Γ (.mput kt vt x' k' v') fr st nx K):MOK P o [x',k',v'] fr (ZA_ [x',k',v'] fr) true st nx K:=by
 simp only [zu_,zc_.setK_eq] at ev
 simp only [zx_] at hok
 split at hok
 ·rename_i t x k v ho
  simp only [Bool.and_eq_true,beq_iff_eq] at hok
  obtain ⟨⟨⟨hx,hk⟩,hv⟩,ht⟩:=hok
  split at ht
  ·rename_i a b hm
   have KP:=Hj_ ht
   obtain ⟨n,ev,hn⟩:=Wv_ ev
   obtain ⟨y,ev,hy⟩:=Wv_ ev
   split at ev
   ·rename_i i hb
    split at ev
    ·rename_i kt' vt' l hl
     split at ev
     ·rename_i e1 e2 _ _
      subst e1;subst e2
      simp only [] at ev
      have hiF:i ∈ ZA_ [x',k',v'] fr:=z4_ (x:=x') (by simp) hb i (by simp [AV.ids,AV.ids1,AV.ids0])
      refine GZ_ (wV_ (ob:=.map true kt' vt' l) (ob':=.map true kt' vt' (q4_ l n y)) hl rfl rfl hiF rfl ev fun {I w m a' σ} _ hf hH ha'=>?_)
      have hi:σ i=some (.map true kt' vt' l):=by rw [ha' i hiF,hl]
      obtain ⟨bb,es,c,q1,q2,q3⟩:=hH.obj i _ hi
      have hvx:=hf.rv (y:=x') (by simp) hx;rw [hb] at hvx
      obtain ⟨b'',q4,q5,_⟩:=hvx
      rw [q1] at q4;cases q4
      have hkr:=hn (hf.rv (y:=k') (by simp) hk)
      obtain ⟨hkv,hkR⟩:=KP.val hkr
      have hck:∀ e:Bool,(Instr.checkKey e 10000 a (QG_ kt' n)).run P w=.ok () w:=fun e=>KP.check w e n hkR
      have hst:=KP.stays w n hkR
      have hyr:=hy (hf.rv (y:=v') (by simp) hv)
      have hfr:=gP_ (P:=P) (w':=w) (n:=n) q3 KP hkR
      have hex:execOp a'.eval o=(do Instr.mapUpdate t (a'.eval x) (a'.eval k) (a'.eval v);pure .skip):=by unfold execOp;rw [ho]
      rw [Hc_]
      by_cases hmi:Zj_ l n < l.length
      ·have hes:Zj_ l n < es.size:=by rw [<- q3.1];exact hmi
       rw [if_pos hmi,Array.getElem?_eq_getElem hes] at hfr
       have hkey:es[Zj_ l n].key=QG_ kt' n:=by
        have h1:=(KP.val (q3.2.1 _ hmi hes).1).1
        rw [((WI_ l n).1 hmi).1] at h1;exact h1
       refine ⟨undef,_,.inr ⟨Uf_ hex (w':={w with heap:=w.heap.setIfInBounds bb (.map (es.modify (Zj_ l n) fun e=>{e with key:=QG_ kt' n,val:=a'.eval v}) c)}) ?_,rfl⟩,Vd_ q1,fun hs=>⟨bb,_,c,q1,Ye_ q2,?_⟩,fun _=>trivial⟩
       ·rw [q5,hkv]
        simp [Instr.mapUpdate,run_underlying hm,MapKept.run_getObj_map q2,hck,hfr,hes,hkey,hst,Yd_ q2,Result.andThen]
       ·rw [if_pos hmi]
        refine gT_ (q3.mono (fun _ h=>h) hs) hmi fun h'=>⟨?_,?_,rfl⟩
        ·have z9:=(show wM_ I _ kt' n (a'.eval k) from ⟨ZU_ (fun _ h=>h) hs _ _ _ hkr.1,hkr.2⟩);rw [hkv] at z9;exact z9
        ·exact ⟨ZU_ (fun _ h=>h) hs _ _ _ hyr.1,hyr.2⟩
      ·rw [if_neg hmi] at hfr
       refine ⟨undef,_,.inr ⟨Uf_ hex (w':={w with heap:=w.heap.setIfInBounds bb (.map (es.push {key:=QG_ kt' n,val:=a'.eval v,born:=c}) (c+1))}) ?_,rfl⟩,Vd_ q1,fun hs=>⟨bb,_,c+1,q1,Ye_ q2,?_⟩,fun _=>trivial⟩
       ·rw [q5,hkv]
        simp [Instr.mapUpdate,run_underlying hm,MapKept.run_getObj_map q2,hck,hfr,Yd_ q2,Result.andThen]
       ·rw [if_neg hmi]
        refine Uj_ (q3.mono (fun _ h=>h) hs) ?_ ?_
        ·have z9:=(show wM_ I _ kt' n (a'.eval k) from ⟨ZU_ (fun _ h=>h) hs _ _ _ hkr.1,hkr.2⟩);rw [hkv] at z9;exact z9
        ·exact ⟨ZU_ (fun _ h=>h) hs _ _ _ hyr.1,hyr.2⟩
     ·exact ev.elim
    ·exact ev.elim
   ·exact ev.elim
  ·cases ht
 ·cases hok
end ops
end Go.Eng
