/- Parts of the proof: EOps7. No condition. -/
import Derived.Test.YtimkdohmkfjfaaaGreatDoorXK04
namespace Go.Eng
set_option linter.unusedVariables false
set_option linter.unusedSimpArgs false
open Go.RowKit
section ops
variable {P:Program} {Γ:Env} {o:Oper} {L:List Opd} {fr:zd_} {F:List Nat} {wr:Bool} {st:zc_} {nx:Nat} {K:AV->zc_->Nat->Prop}
def Lies (u:Prop) (w:World) (size:Nat) (ao:Option Addr) (cap:Nat):Prop:=
 (ao=none/\cap=0)\/∃ (b:Nat) (cs:Array Value) (T:TypeId) (fz:Nat × Nat),ao=some ⟨b,0,none⟩/\w.heap[b]?=some (.cells cs T fz)/\FzR u fz cs.size/\cs.size=cap*size
def h5_ (P:Program) (w:World) (S:Sem (Array Value)) (news:List Value):Prop:=∀ w':World,(∀ a,w'.cell? a=w.cell? a)->S.run P w'=.ok news.toArray w'
theorem X4_ {I:Nat->Prop} {w:World} {t:Ty} {ys:List t.den} {cv:Value} (h:Src I w t ys cv):∃ news:List Value,news.length=ys.length*t.size/\(∀ v ∈ news,v.oneCell'=true)/\(EA I w t ys fun k=>news[k]?)/\
 h5_ P w (Builtin.firstCells t.size ys.length cv) news/\(∀ w':World,(Builtin.lenOf cv).run P w'=.ok ys.length w'):=by
 obtain ⟨ao,len,cap,rfl,h1,h2,h3⟩:=h
 subst h1
 have hlen:∀ w':World,(Builtin.lenOf (.slice ao ys.length cap)).run P w'=.ok ys.length w':=fun _=>rfl
 rcases Nat.eq_zero_or_pos ys.length with h0 | h0
 ·have hys:ys=[]:=List.eq_nil_of_length_eq_zero h0
  subst hys
  refine ⟨[],by simp,fun v hv=>(by cases hv),EA.nil,fun w' _=>?_,hlen⟩
  cases ao with
  | none=>rfl
  | some q=>simp [Builtin.firstCells,loadCells,loadCellsFrom]
 ·obtain ⟨b,ofs,rfl,h4⟩:=h3 h0
  obtain ⟨news,g1,g2,g3,g4⟩:=ba_ h4
  refine ⟨news,g1,g3,g4,fun w' hw=>?_,hlen⟩
  have:=Z3_ (P:=P) (w:=w') (b:=b) (off:=ofs) news 0 #[] (fun j hj=>by rw [Nat.add_zero,hw];exact g2 j hj)
  simp only [Builtin.firstCells,loadCells]
  rw [<- g1,this];simp
structure Appended (u:Prop) (w w':World) (size:Nat) (ao ao':Option Addr) (sLen n cap':Nat) (news:List Value):Prop where
 room:sLen+n<=cap'
 cap:cap'<=maxLen
 fr:Fr (fun b=>ao=some ⟨b,0,none⟩) w w'
 lies:(ao'=none/\cap'=0)\/∃ (b:Nat) (cs':Array Value) (T:TypeId) (fz:Nat × Nat),ao'=some ⟨b,0,none⟩/\w'.heap[b]?=some (.cells cs' T fz)/\FzR u fz cs'.size/\cs'.size=cap'*size/\(w.heap.size<=b\/ao=some ⟨b,0,none⟩)/\
  (∀ b0 cs T fz,ao=some ⟨b0,0,none⟩->w.heap[b0]?=some (.cells cs T fz)->∀ k,k < sLen*size->cs'[k]?=cs[k]?)/\∀ k,k < news.length->cs'[sLen*size+k]?=news[k]?
theorem GK_ {u:Prop} {w:World} {size sLen n sCap:Nat} {ao:Option Addr} {news:List Value} (hcap:n+sLen<=sCap) (hcm:sCap<=maxLen) (hl:Lies u w size ao sCap) (hn:news.length=n*size) (h1:∀ v ∈ news,v.oneCell'=true):
 ∃ w',((ao=none/\w'=w)\/∃ b,ao=some ⟨b,0,none⟩/\(storeCells ⟨b,sLen*size,none⟩ news).run P w=.ok () w')/\Appended u w w' size ao ao sLen n sCap news:=by
 rcases hl with ⟨rfl,rfl⟩ | ⟨b,cs,T,fz,rfl,h2,h3,h4⟩
 ·exact ⟨w,.inl ⟨rfl,rfl⟩,by omega,hcm,Fr.refl _ _,.inl ⟨rfl,rfl⟩⟩
 ·have hfit:(sLen+n)*size<=cs.size:=by rw [h4];exact Nat.mul_le_mul_right _ (by omega)
  rw [Nat.add_mul] at hfit
  have hcs:cs.toList.length=cs.size:=Array.length_toList
  obtain ⟨w',r1,r2,r3,r4,r5,r6,r7⟩:=qa_ (P:=P) news 0 (sLen*size) w cs h2 h3.1 (by omega) h1
  have hs:=wT_ cs news (sLen*size) (by omega)
  have hget:∀ k,((cs.toList.take (sLen*size+0)++news++cs.toList.drop (sLen*size+0+news.length)).toArray)[k]?=if k < sLen*size then cs[k]? else if k < sLen*size+news.length then news[k - sLen*size]? else cs[k]?:=fun k=>by
   rw [List.getElem?_toArray,Nat.add_zero,WN_ _ _ _ (by omega)]
   simp only [Array.getElem?_toList]
  refine ⟨w',.inr ⟨b,rfl,r1⟩,by omega,hcm,⟨r5,r6,r7,by omega,fun k _ hk=>r4 k (fun e=>hk (by rw [e]))⟩,.inr ⟨b,_,T,fz,rfl,r2,by rw [hs];exact h3,by rw [hs];exact h4,.inr rfl,fun b0 cs0 T0 fz0 e e' k hk=>?_,fun k hk=>?_⟩⟩
  ·cases e
   rw [h2] at e';cases e'
   rw [hget,if_pos hk]
  ·rw [hget,if_neg (by omega),if_pos (by omega)];congr 1;omega
theorem Q4_ (z:Array Value) (n:Nat):(Builtin.zeroCells z n).size=n*z.size:=by simp [Builtin.zeroCells]
theorem zav_ {w:World} {need old:Nat} {e:TypeId} (h:need<=maxLen):need<=grownCap w need old e/\grownCap w need old e<=maxLen:=by
 refine ⟨by simp [grownCap,Question.cut],?_⟩
 have hlt:=Nat.mod_lt (w.tape w.drawn (.appendCap need old e)) (show 0 < 2 ^ 63 - need by simp only [maxLen] at h;omega)
 simp only [grownCap,Question.cut,maxLen] at h ⊢
 omega
theorem GL_ {u:Prop} {w:World} {size sLen n sCap:Nat} {ao:Option Addr} {news olds:List Value} {e:TypeId} {z:Array Value} (hz:z.size=size) (h47:sLen+n<=maxLen) (hn:news.length=n*size) (ho:olds.length=sLen*size)
 (hold:∀ b0 cs T fz,ao=some ⟨b0,0,none⟩->w.heap[b0]?=some (.cells cs T fz)->∀ k,k < sLen*size->olds[k]?=cs[k]?):
 Appended u w (w.drew.alloc (.cells (olds.toArray++news.toArray++Builtin.zeroCells z (grownCap w (sLen+n) sCap e - (sLen+n))) e)) size ao (some ⟨w.heap.size,0,none⟩) sLen n (grownCap w (sLen+n) sCap e) news:=by
 obtain ⟨h1,h2⟩:=zav_ (w:=w) (old:=sCap) (e:=e) h47
 refine ⟨h1,h2,⟨rfl,rfl,rfl,by simp,fun k hk _=>uT_ w.drew _ hk⟩,.inr ⟨w.heap.size,_,e,(0,0),rfl,qu_ w.drew _,FzR.zero _ _,?_,.inl (Nat.le_refl _),fun b0 cs T fz hao hb k hk=>?_,fun k hk=>?_⟩⟩
 ·simp only [Array.size_append,List.size_toArray,Q4_,hz,ho,hn]
  rw [<- Nat.add_mul,<- Nat.add_mul];congr 1;omega
 ·rw [Array.getElem?_append_left (by simp;omega),Array.getElem?_append_left (by simp;omega),List.getElem?_toArray]
  exact hold b0 cs T fz hao hb k hk
 ·rw [Array.getElem?_append_left (by simp;omega),Array.getElem?_append_right (by simp;omega),List.getElem?_toArray]
  congr 1;simp;omega
theorem up_ {u:Prop} {w:World} {size sLen sCap:Nat} {ao:Option Addr} (hcap:sLen<=sCap) (hl:Lies u w size ao sCap):∃ olds:List Value,olds.length=sLen*size/\h5_ P w (Builtin.firstCells size sLen (.slice ao sLen sCap)) olds/\
 ∀ b0 cs T fz,ao=some ⟨b0,0,none⟩->w.heap[b0]?=some (.cells cs T fz)->∀ k,k < sLen*size->olds[k]?=cs[k]?:=by
 rcases hl with ⟨rfl,rfl⟩ | ⟨b,cs,T,fz,rfl,h2,h3,h4⟩
 ·obtain rfl:sLen=0:=by omega
  exact ⟨[],by simp,fun w' _=>rfl,fun b0 cs T fz e=>by cases e⟩
 ·have hfit:sLen*size<=cs.size:=by rw [h4];exact Nat.mul_le_mul_right _ hcap
  refine ⟨cs.toList.take (sLen*size),by simp;omega,fun w' hw=>?_,fun b0 cs0 T0 fz0 e e' k hk=>?_⟩
  ·have:=Z3_ (P:=P) (w:=w') (b:=b) (off:=0) (cs.toList.take (sLen*size)) 0 #[] (fun j hj=>by
    simp only [List.length_take,Array.length_toList] at hj
    rw [hw,ZW_ h2];simp)
   simp only [Builtin.firstCells,loadCells]
   rw [show (cs.toList.take (sLen*size)).length=sLen*size by simp;omega] at this
   rw [this];simp
  ·cases e
   rw [h2] at e';cases e'
   rw [List.getElem?_take,if_pos hk,Array.getElem?_toList]
theorem xQ_ {q:Prop} {t u e:TypeId} {i:TypeInfo} {v:Value} {w:World} {ty:TypeId} {ao:Option Addr} {sLen sCap n:Nat} {news:List Value} {src:Value} (ht:P.underlying t=some (.slice e)) (hu:(∃ e',P.underlying u=some (.slice e'))\/P.underlying u=some .string) (hi:P.info? e=some i) (hz:i.zero=some v) (hv:v.cells.size=i.size)
 (hcap:sLen<=sCap) (hcm:sCap<=maxLen) (hl:Lies q w i.size ao sCap) (hn:news.length=n*i.size) (h1:∀ v ∈ news,v.oneCell'=true) (hy:h5_ P w (Builtin.firstCells i.size n src) news) (hlen:∀ w':World,(Builtin.lenOf src).run P w'=.ok n w')
 (hb:(sLen+n)*i.bytes<=140737488355328) (h47:sLen+n<=140737488355328) (hb0:0 < i.bytes):
 ∃ w' ao' cap',(Builtin.append_ #[t,u] ty #[.slice ao sLen sCap,src]).run P w=.ok (.slice ao' (sLen+n) cap') w'/\Appended q w w' i.size ao ao' sLen n cap' news:=by
 rcases hu with ⟨e',hu⟩ | hu
 all_goals
  by_cases hroom:sLen+n<=sCap
  ·obtain ⟨w',r1,r2⟩:=GK_ (P:=P) (w:=w) (size:=i.size) (sLen:=sLen) (n:=n) (by omega) hcm hl hn h1
   refine ⟨w',ao,sCap,?_,r2⟩
   rcases r1 with ⟨rfl,rfl⟩ | ⟨b,rfl,r1⟩
   ·simp [Builtin.append_,run_underlying ht,run_underlying hu,zQ_ hi,hlen,hroom,hy w' (fun _=>rfl)]
   ·simp [Builtin.append_,run_underlying ht,run_underlying hu,zQ_ hi,hlen,hroom,hy w (fun _=>rfl),qd_,r1]
  ·obtain ⟨olds,g1,g2,g3⟩:=up_ (P:=P) hcap hl
   have hfit:=growslice_fits (need:=sLen+n) (old:=sCap) (bytes:=i.bytes) (by omega) hb
   have hfit':¬ (281474976710656 < Builtin.nextslicecap (sLen+n) sCap*i.bytes):=by omega
   have hb1:i.bytes ≠ 0:=by omega
   refine ⟨_,_,_,?_,GL_ (z:=v.cells) (e:=e) (sCap:=sCap) hv (by unfold maxLen;omega) hn g1 g3⟩
   have y1:=g2 w.drew (fun _=>rfl)
   have y2:=hy w.drew (fun _=>rfl)
   simp [Builtin.append_,run_underlying ht,run_underlying hu,zQ_ hi,hlen,hroom,typeInfo,hi,hfit',hb1,Question.forced,y1,y2,Qg_ hi hz,newRow,grownCap]
   congr 2
   apply Array.ext'
   simp [List.append_assoc]
theorem Yn_ {q:Prop} {t u e:TypeId} {i:TypeInfo} {v:Value} {w:World} {ty:TypeId} {ao:Option Addr} {sLen sCap n:Nat} {k:IntKind} {ik:IntKind} (ht:P.underlying t=some (.slice e)) (hu:P.underlying u=some (.int ik)) (hi:P.info? e=some i) (hz:i.zero=some v) (hv:v.cells.size=i.size)
 (hcap:sLen<=sCap) (hcm:sCap<=maxLen) (hl:Lies q w i.size ao sCap) (h1:∀ u ∈ v.cells.toList,u.oneCell'=true) (hs0:0 < i.size)
 (hb:(sLen+n)*i.bytes<=140737488355328) (h47:sLen+n<=140737488355328) (hb0:0 < i.bytes):
 ∃ w' ao' cap',(Builtin.append_ #[t,u] ty #[.slice ao sLen sCap,.int k n]).run P w=.ok (.slice ao' (sLen+n) cap') w'/\Appended q w w' i.size ao ao' sLen n cap' (Builtin.zeroCells v.cells n).toList:=by
 have hw:IntKind.i64.wrap (n:Int)=n:=WL_ ⟨by simp [IntKind.min,IntKind.signed,IntKind.bits]<;>omega,by simp [IntKind.max,IntKind.signed,IntKind.bits];omega⟩
 have hw0:IntKind.i64.wrap 0=0:=rfl
 have hneg:¬ ((n:Int) < 0):=by omega
 have h63':¬ (9223372036854775807 < (sLen:Int)+n):=by omega
 have hz0:(Builtin.zeroCells v.cells 0).toList=[]:=by simp [Builtin.zeroCells]
 have hnb:(n:Int)*i.bytes<=140737488355328:=by
  have:n*i.bytes<=(sLen+n)*i.bytes:=Nat.mul_le_mul_right _ (by omega)
  have h:((n*i.bytes:Nat):Int)<=140737488355328:=by omega
  rwa [Int.natCast_mul] at h
 have hnb':¬ (281474976710656 < (n:Int)*i.bytes):=by omega
 have hn:(Builtin.zeroCells v.cells n).toList.length=n*i.size:=by rw [Array.length_toList,Q4_,hv]
 have hone:∀ u ∈ (Builtin.zeroCells v.cells n).toList,u.oneCell'=true:=fun u hu=>by
  simp only [Builtin.zeroCells,Array.mem_toList_iff,Array.mem_map,Array.mem_range] at hu
  obtain ⟨j,hj,rfl⟩:=hu
  have hpos:0 < v.cells.size:=by
   rcases Nat.eq_zero_or_pos v.cells.size with h | h
   ·rw [h] at hj;omega
   ·exact h
  have hm:=Nat.mod_lt j hpos
  rw [getElem!_pos v.cells _ hm]
  exact h1 _ (by simp)
 by_cases hroom:sLen+n<=sCap
 ·obtain ⟨w',r1,r2⟩:=GK_ (P:=P) (w:=w) (size:=i.size) (sLen:=sLen) (n:=n) (by omega) hcm hl hn hone
  refine ⟨w',ao,sCap,?_,r2⟩
  rcases Nat.eq_zero_or_pos n with h0 | h0
  ·subst h0
   rcases r1 with ⟨rfl,rfl⟩ | ⟨b,rfl,r1⟩
   ·simp [Builtin.append_,run_underlying ht,run_underlying hu,zQ_ hi,hroom,asInt,asIntOf,typeInfo,hi,hw0,hcap]
   ·rw [hz0] at r1
    simp [Builtin.append_,run_underlying ht,run_underlying hu,zQ_ hi,hroom,asInt,asIntOf,typeInfo,hi,qd_,hw0,hcap]
    rw [r1];rfl
  ·have h0':¬ (n*i.size=0):=by have:=Nat.mul_pos h0 hs0;omega
   rcases r1 with ⟨rfl,rfl⟩ | ⟨b,rfl,r1⟩
   ·simp [Builtin.append_,run_underlying ht,run_underlying hu,zQ_ hi,hroom,asInt,asIntOf,hw,typeInfo,hi,hnb',hneg,h0',Qg_ hi hz]
   ·simp [Builtin.append_,run_underlying ht,run_underlying hu,zQ_ hi,hroom,asInt,asIntOf,hw,typeInfo,hi,hnb',hneg,h0',Qg_ hi hz,qd_,r1]
 ·obtain ⟨olds,g1,g2,g3⟩:=up_ (P:=P) hcap hl
  have hfit:=growslice_fits (need:=sLen+n) (old:=sCap) (bytes:=i.bytes) (by omega) hb
  have hfit':¬ (281474976710656 < Builtin.nextslicecap (sLen+n) sCap*i.bytes):=by omega
  have hb1:i.bytes ≠ 0:=by omega
  have h0':¬ (n*i.size=0):=by have:=Nat.mul_pos (show 0 < n by omega) hs0;omega
  refine ⟨_,_,_,?_,GL_ (z:=v.cells) (e:=e) (sCap:=sCap) hv (by unfold maxLen;omega) hn g1 g3⟩
  have y1:=g2 w.drew (fun _=>rfl)
  simp [Builtin.append_,run_underlying ht,run_underlying hu,zQ_ hi,hroom,asInt,asIntOf,hw,typeInfo,hi,hnb',hneg,hfit',hb1,h63',  Question.forced,y1,h0',Qg_ hi hz,newRow,grownCap]
theorem q0_ {I:Nat->Prop} {w w':World} {m:M} {t:Ty} {x0 ys:List t.den} {ao ao':Option Addr} {cap':Nat} {news:List Value} (hs:qF_ I w w') (h:Appended (t=.int .u8) w w' t.size ao ao' x0.length ys.length cap' news) (hn:news.length=ys.length*t.size) (he:EA I w t ys fun k=>news[k]?)
 (hold:x0=[]\/∃ (b:Nat) (cs:Array Value) (T:TypeId) (fz:Nat × Nat),ao=some ⟨b,0,none⟩/\w.heap[b]?=some (.cells cs T fz)/\EA I w t x0 fun k=>cs[k]?):
 ∃ blk:Option Nat,(∀ b,blk=some b->w.heap.size<=b\/ao=some ⟨b,0,none⟩)/\zM_ I w' (m.push nx blk cap' (x0++ys).length t.size) nx (.row false t (x0++ys))/\
   RV I w' (m.push nx blk cap' (x0++ys).length t.size) (.own nx) (.slice ao' (x0.length+ys.length) cap'):=by
 have hl:(x0++ys).length=x0.length+ys.length:=List.length_append
 have hr:=h.room
 rcases h.lies with ⟨rfl,rfl⟩ | ⟨b,cs',T,fz,rfl,h2,h3,h4,h5,h6,h7⟩
 ·refine ⟨none,fun b hb=>(by cases hb),⟨M.push_sz _ _ _ _ _ _,(M.push_len _ _ _ _ _ _).symm,by rw [M.push_cap];omega,by rw [M.push_cap];exact Nat.zero_le _,.inl ⟨M.push_blk _ _ _ _ _ _,M.push_cap _ _ _ _ _ _⟩⟩,⟨_,_,_,rfl,.inr rfl,?_,(M.push_cap _ _ _ _ _ _).symm,hr,h.cap,.inl ⟨M.push_blk _ _ _ _ _ _,rfl,rfl⟩⟩⟩
  rw [M.push_len,hl]
 ·refine ⟨some b,fun b' hb=>(by cases hb;exact h5),⟨M.push_sz _ _ _ _ _ _,(M.push_len _ _ _ _ _ _).symm,by rw [M.push_cap];omega,by rw [M.push_cap];exact h.cap,.inr ⟨b,cs',T,fz,M.push_blk _ _ _ _ _ _,h2,h3,by rw [M.push_cap];exact h4,?_⟩⟩,⟨_,_,_,rfl,.inr rfl,?_,(M.push_cap _ _ _ _ _ _).symm,hr,h.cap,.inr ⟨b,M.push_blk _ _ _ _ _ _,rfl⟩⟩⟩
  ·refine EA.append ?_ ((he.mono (fun _ h=>h) hs).congr fun k hk=>h7 k (by omega))
   rcases hold with rfl | ⟨b0,cs,T0,fz0,hao,hb0,h8⟩
   ·exact EA.nil
   ·exact (h8.mono (fun _ h=>h) hs).congr fun k hk=>h6 b0 cs T0 fz0 hao hb0 k hk
  ·rw [M.push_len,hl]
theorem gW_ {i:Nat} {t:Ty} {x0 ys:List t.den} (hi:st.get i=some (.row false t x0)) (hF:i ∈ F) (hwr:wr=true) (hK:K (.own nx) ((nx,.row false t (x0++ys)) :: st.set i .dead) (nx+1))
 (h:∀ {I:Nat->Prop} {w:World} {m:M} {a:Act} {σ:Sto},FOn L fr I w m a->HRel I w m σ->(∀ i ∈ F,σ i=st.get i)->zM_ I w m i (.row false t x0)->∃ ao ao' cap' w' news,(execOp a.eval o).run P w=.ok (.value (.slice ao' (x0.length+ys.length) cap')) w'/\
   Appended (t=.int .u8) w w' t.size ao ao' x0.length ys.length cap' news/\news.length=ys.length*t.size/\(EA I w t ys fun k=>news[k]?)/\RO m i ao x0.length (m.cap i)):MOK P o L fr F wr st nx K:=by
 refine ⟨.own nx,_,nx+1,[i,nx],Nat.le_succ _,hK,fun j hj=>?_,fun j hj=>?_,fun {X0 I0 w0 σ I w m a} hf hs ha hN=>?_⟩
 ·simp only [List.mem_cons,List.not_mem_nil,or_false,not_or] at hj
  rw [zc_.get_cons,if_neg hj.2,zc_.get_set,if_neg hj.1]
 ·simp only [List.mem_cons,List.not_mem_nil,or_false] at hj
  rcases hj with rfl | rfl
  ·exact .inl ⟨hwr,hF,by rw [hi];intro h;cases h⟩
  ·exact .inr ⟨Nat.le_refl _,Nat.lt_succ_self _⟩
 ·have hu:=hN nx (Nat.le_refl _) (Nat.lt_succ_self _)
  have hσ:σ i=some (.row false t x0):=by rw [ha i hF,hi]
  have hui:m.used i:=hs.H.lt i (by rw [hσ];intro h;cases h)
  have hne:i ≠ nx:=fun e=>hu (e ▸ hui)
  have hok:=hs.H.obj i _ hσ
  obtain ⟨ao,ao',cap',w',news,hr,hA,hn,he,hO⟩:=h hf hs.H ha hok
  have hblk:∀ b,ao=some ⟨b,0,none⟩->m.blk i=some b:=fun b e=>by
   obtain ⟨_,_,_,_,_,h6⟩:=hO
   rcases h6 with ⟨_,h6,_⟩ | ⟨b',h6,h7⟩
   ·rw [h6] at e;cases e
   ·rw [h7] at e;cases e;exact h6
  have hsame:qF_ I w w':=fun b hb=>hA.fr.block b (hs.H.Ilt b hb) fun e=>hs.H.notI i _ b hσ rfl (hblk b e) hb
  have hold:x0=[]\/∃ (b:Nat) (cs:Array Value) (T:TypeId) (fz:Nat × Nat),ao=some ⟨b,0,none⟩/\w.heap[b]?=some (.cells cs T fz)/\EA I w t x0 fun k=>cs[k]?:=by
   obtain ⟨_,_,q3,_,q5⟩:=hok
   rcases q5 with ⟨_,q6⟩ | ⟨b,cs,T,fz,q6,q7,_,_,q8⟩
   ·exact .inl (List.eq_nil_of_length_eq_zero (by omega))
   ·obtain ⟨_,_,_,_,_,h6⟩:=hO
    rcases h6 with ⟨h6,_⟩ | ⟨b',h6,h7⟩
    ·rw [q6] at h6;cases h6
    ·rw [q6] at h6;cases h6
     exact .inr ⟨b,cs,T,fz,h7,q7,q8⟩
  obtain ⟨blk,g1,g2,g3⟩:=q0_ (nx:=nx) (m:=m) hsame hA hn he hold
  have hE:Evo I w m I w' (m.push nx blk cap' (x0++ys).length t.size):=⟨fun _ h=>h,hsame,M.push_le hu⟩
  have hget:∀ j,upd σ [i,nx] ((nx,Obj.row false t (x0++ys)) :: st.set i .dead) j=if j=nx then some (.row false t (x0++ys)) else if j=i then some .dead else σ j:=fun j=>by
   unfold upd
   simp only [List.mem_cons,List.not_mem_nil,or_false,zc_.get_cons,zc_.get_set]
   by_cases h1:j=nx
   ·simp [h1]
   ·by_cases h2:j=i
    ·simp [h2]
    ·simp [h1,h2]
  have hb:∀ b,blk=some b->w.heap.size<=b\/m.blk i=some b:=fun b e=>(g1 b e).imp id (hblk b)
  have hgn:∀ o',upd σ [i,nx] ((nx,Obj.row false t (x0++ys)) :: st.set i .dead) nx=some o'->o'=.row false t (x0++ys):=fun o' e=>by rw [hget,if_pos rfl] at e;exact (Option.some.inj e).symm
  have hgi:∀ o',upd σ [i,nx] ((nx,Obj.row false t (x0++ys)) :: st.set i .dead) i=some o'->o'=.dead:=fun o' e=>by rw [hget,if_neg hne,if_pos rfl] at e;exact (Option.some.inj e).symm
  refine jv_ hr ⟨g3,hs.step hE (fun j=>j=i\/j=nx) (fun j hj=>by rw [hget,if_neg (fun h=>hj (.inr h)),if_neg (fun h=>hj (.inl h))]) (hA.fr.weak fun b e=>⟨i,_,.inl rfl,hσ,rfl,hblk b e⟩) (fun b h=>.inl h) (fun b h=>Nat.lt_of_lt_of_le (hs.H.Ilt b h) hA.fr.size)
   (fun j o' hj e=>?_) (fun j o' b hj e hl hbb=>?_) (fun j k o' o'' b hj hk e e' hl hl' _ _=>?_) (fun j o' b hj e hm hbb hI=>?_) (fun j t' x' b hj e hbb=>?_) (fun j wr kn hj e=>by rcases hj with rfl | rfl<;>first | (cases hgi _ e;done) | (cases hgn _ e;done)) (fun b hb=>.inl hb),hE,fun j hj=>?_⟩
  ·rcases hj with rfl | rfl
   ·cases hgi o' e;exact ⟨.inl hui,trivial⟩
   ·cases hgn o' e;exact ⟨.inr rfl,g2⟩
  ·rcases hj with rfl | rfl
   ·cases hgi o' e;cases hl
   ·rw [M.push_blk] at hbb
    exact (hb b hbb).imp id fun h=>⟨i,_,.inl rfl,hσ,rfl,fun _=>rfl,h⟩
  ·rcases hj with rfl | rfl<;>rcases hk with rfl | rfl
   ·rfl
   ·cases hgi o' e;cases hl
   ·cases hgi o'' e';cases hl'
   ·rfl
  ·rcases hj with rfl | rfl
   ·cases hgi o' e;cases hm
   ·rw [M.push_blk] at hbb
    rcases hb b hbb with h | h
    ·have:=hs.H.Ilt b hI;omega
    ·exact hs.H.notI i _ b hσ rfl h hI
  ·rcases hj with rfl | rfl
   ·cases hgi _ e
   ·cases hgn _ e
  ·rcases hj with h | h
   ·exact .inl h
   ·subst h;exact .inr ⟨Nat.le_refl _,Nat.lt_succ_self _⟩
theorem bO_ {t:Ty} {v:AV} {K':List t.den->Prop} (ev:Yg_ t st v K'):v.ids0=v.ids/\∀ {I:Nat->Prop} {w:World} {m:M} {cv:Value},RV I w m v cv->RV0 I w m v cv:=by
 unfold Yg_ at ev
 cases v<;>first | exact ⟨rfl,fun h=>h⟩ | exact ev.elim
theorem Uc_ {I:Nat->Prop} {w:World} {m:M} {i:Nat} {t:Ty} {x:List t.den} {fz:Bool} {ao:Option Addr} {len cap:Nat} (h:zM_ I w m i (.row fz t x)) (hO:RO m i ao len cap):len=x.length/\cap=m.cap i/\len<=cap/\cap<=maxLen/\Lies (t=.int .u8) w t.size ao cap:=by
 obtain ⟨q1,q2,q3,q4,q5⟩:=h
 obtain ⟨h1,h2,h3,h4,h5,h6⟩:=hO
 refine ⟨by omega,h3,h4,h5,?_⟩
 rcases q5 with ⟨q5,q6⟩ | ⟨b,cs,T,fz,q6,q7,q8,q9,_⟩
 ·rcases h6 with ⟨_,h6,h7⟩ | ⟨b',h6,h7⟩
  ·exact .inl ⟨h6,h7⟩
  ·rw [q5] at h6;cases h6
 ·rcases h6 with ⟨h6,_⟩ | ⟨b',h6,h7⟩
  ·rw [q6] at h6;cases h6
  ·rw [q6] at h6;cases h6
   exact .inr ⟨b,cs,T,fz,h7,q7,q8,by rw [h3];exact q9⟩
theorem h3_ {t:Ty} {bytes:Nat} {x' y':Opd} (hok:zy_ P o.op (.append t bytes x' y')=true) (ev:zu_ Γ (.append t bytes x' y') fr st nx K):MOK P o [x',y'] fr (zZ_ [x',y'] fr) true st nx K:=by
 simp only [zu_,zc_.setK_eq] at ev
 simp only [zy_] at hok
 split at hok
 ·rename_i args ts ho
  simp only [Bool.and_eq_true] at hok
  obtain ⟨h1,h2⟩:=hok
  obtain ⟨x,y,rfl,hx,hy⟩:=XN_ h1
  split at h2
  ·rename_i tt u hts
   simp only [Bool.and_eq_true] at h2
   obtain ⟨h2,h3⟩:=h2
   obtain ⟨e',hu⟩:=JN_ h3
   split at h2
   ·rename_i e he
    have he:=qt_ he
    simp only [Bool.and_eq_true,decide_eq_true_eq] at h2
    obtain ⟨⟨⟨⟨h4,h5⟩,h6⟩,h7⟩,h8⟩:=h2
    obtain ⟨i,hi,hsz⟩:=qT_ h4
    obtain ⟨i',hi',hby⟩:=JZ_ h5
    rw [hi] at hi' h8;cases hi'
    simp only at h8
    split at h8
    ·rename_i v hv
     simp only [beq_iff_eq] at h8
     have hts':ts=#[tt,u]:=Array.toList_inj.1 hts
     subst hts'
     have hex:∀ a:Act,execOp a.eval o=(do pure (.value (<- Builtin.append_ #[tt,u] o.type #[a.eval x,a.eval y]))):=fun a=>by rw [qI_ ho];simp [builtin]
     obtain ⟨ys,ev1,hd⟩:=Yf_ ev
     obtain ⟨di1,di2⟩:=bO_ ev
     have hyF:∀ j ∈ (y'.ev fr).ids0,j ∈ zZ_ [x',y'] fr:=fun j hj=>zD_ qb_ rfl j (by rw [<- di1];exact hj)
     split at ev1
     ·-- onto nil
      rename_i hb
      obtain ⟨⟨n1,n2⟩,hK⟩:=zj_ ev1
      refine kW_ hK (fun _ _ h=>by cases h) fun {I w m a σ} hf hH ha hN=>?_
      have hv1:=hf.rv ZL_ hx;rw [hb] at hv1
      have hv1:a.eval x=.slice none 0 0:=hv1
      have hsrc:=hd hH (fun j hj=>ha j (hyF j hj)) (di2 (hf.rv qb_ hy))
      obtain ⟨news,g1,g2,g3,g4,g5⟩:=X4_ (P:=P) hsrc
      obtain ⟨w',ao',cap',r1,r2⟩:=xQ_ (q:=t=.int .u8) (ty:=o.type) (sLen:=0) (sCap:=0) (ao:=none) (src:=a.eval y) he (.inl ⟨e',hu⟩) hi hv (by rw [hsz];exact h8) (Nat.le_refl _) (Nat.zero_le _) (.inl ⟨rfl,rfl⟩) (by rw [hsz];exact g1) g2 (by rw [hsz];exact g4) g5 (by rw [hby,Nat.zero_add];exact n1) (by omega) (by omega)
      rw [hsz] at r2
      have hfr:Fr (fun _=>False) w w':=r2.fr.weak fun b e=>by cases e
      have hrow:=fun hs:qF_ I w w'=>q0_ (nx:=nx) (m:=m) (x0:=([]:List t.den)) (ys:=ys) hs r2 g1 g3 (.inl rfl)
      have hsm:qF_ I w w':=fun b hb=>hfr.block b (hH.Ilt b hb) id
      obtain ⟨blk,k1,k2,k3⟩:=hrow hsm
      refine ⟨_,hex a,.slice ao' (0+ys.length) cap',w',blk,cap',ys.length,t.size,by rw [hv1];exact r1,hfr,fun b hb=>?_,fun _=>k2,fun _=>k3⟩
      rcases k1 b hb with h | h
      ·exact h
      ·cases h
     ·-- onto a row
      rename_i j hb
      split at ev1
      ·rename_i t' x0' hl
       obtain ⟨rfl,ev2⟩:=ZP_ ev1
       obtain ⟨⟨n1,n2⟩,hK⟩:=zj_ ev2
       refine gW_ (i:=j) (x0:=x0') hl (zD_ ZL_ hb j (by simp [AV.ids,AV.ids1,AV.ids0])) rfl hK fun {I w m a σ} hf hH ha hok=>?_
       have hv1:=hf.rv ZL_ hx;rw [hb] at hv1
       obtain ⟨ao,len,cap,e1,hO⟩:=hv1
       obtain ⟨l1,l2,l3,l4,l5⟩:=Uc_ hok hO
       subst l1;subst l2
       have hsrc:=hd hH (fun j hj=>ha j (hyF j hj)) (di2 (hf.rv qb_ hy))
       obtain ⟨news,g1,g2,g3,g4,g5⟩:=X4_ (P:=P) hsrc
       obtain ⟨w',ao',cap',r1,r2⟩:=xQ_ (ty:=o.type) (src:=a.eval y) he (.inl ⟨e',hu⟩) hi hv (by rw [hsz];exact h8) l3 l4 (by rw [hsz];exact l5) (by rw [hsz];exact g1) g2 (by rw [hsz];exact g4) g5 (by rw [hby];exact n1) n2 (by omega)
       rw [hsz] at r2
       exact ⟨ao,ao',cap',w',news,JV_ (hex a) (by rw [e1];exact r1),r2,g1,g3,hO⟩
      ·exact ev1.elim
     ·exact ev1.elim
    ·cases h8
   ·cases h2
  ·cases h2
 ·cases hok
theorem ut_ {i:Nat} {t:Ty} {x0:List t.den} {ob':Obj} (hi:st.get i=some (.row false t x0)) (hF:i ∈ F) (hwr:wr=true) (hmu:ob'.mut=true) (hK:K (.own nx) ((nx,ob') :: st.set i .dead) (nx+1))
 (h:∀ {I:Nat->Prop} {w:World} {m:M} {a:Act} {σ:Sto},FOn L fr I w m a->HRel I w m σ->(∀ i ∈ F,σ i=st.get i)->zM_ I w m i (.row false t x0)->∃ (ao:Option Addr) (w':World) (cv:Value) (blk:Option Nat) (cap len sz:Nat),(execOp a.eval o).run P w=.ok (.value cv) w'/\
   Fr (fun b=>ao=some ⟨b,0,none⟩) w w'/\RO m i ao x0.length (m.cap i)/\(∀ b,blk=some b->w.heap.size<=b\/ao=some ⟨b,0,none⟩)/\(¬ m.used nx->qF_ I w w'->zM_ I w' (m.push nx blk cap len sz) nx ob'/\RV I w' (m.push nx blk cap len sz) (.own nx) cv)):MOK P o L fr F wr st nx K:=by
 refine ⟨.own nx,_,nx+1,[i,nx],Nat.le_succ _,hK,fun j hj=>?_,fun j hj=>?_,fun {X0 I0 w0 σ I w m a} hf hs ha hN=>?_⟩
 ·simp only [List.mem_cons,List.not_mem_nil,or_false,not_or] at hj
  rw [zc_.get_cons,if_neg hj.2,zc_.get_set,if_neg hj.1]
 ·simp only [List.mem_cons,List.not_mem_nil,or_false] at hj
  rcases hj with rfl | rfl
  ·exact .inl ⟨hwr,hF,by rw [hi];intro h;cases h⟩
  ·exact .inr ⟨Nat.le_refl _,Nat.lt_succ_self _⟩
 ·have hu:=hN nx (Nat.le_refl _) (Nat.lt_succ_self _)
  have hσ:σ i=some (.row false t x0):=by rw [ha i hF,hi]
  have hui:m.used i:=hs.H.lt i (by rw [hσ];intro h;cases h)
  have hne:i ≠ nx:=fun e=>hu (e ▸ hui)
  have hok:=hs.H.obj i _ hσ
  have hml:∀ {o:Obj},o.mut=true->o.live=true:=fun {o} h=>by cases o<;>first | rfl | cases h
  obtain ⟨ao,w',cv,blk,cap',len',sz',hr,hfr,hO,g1,g23⟩:=h hf hs.H ha hok
  have hblk:∀ b,ao=some ⟨b,0,none⟩->m.blk i=some b:=fun b e=>by
   obtain ⟨_,_,_,_,_,h6⟩:=hO
   rcases h6 with ⟨_,h6,_⟩ | ⟨b',h6,h7⟩
   ·rw [h6] at e;cases e
   ·rw [h7] at e;cases e;exact h6
  have hsame:qF_ I w w':=fun b hb=>hfr.block b (hs.H.Ilt b hb) fun e=>hs.H.notI i _ b hσ rfl (hblk b e) hb
  obtain ⟨g2,g3⟩:=g23 hu hsame
  have hE:Evo I w m I w' (m.push nx blk cap' len' sz'):=⟨fun _ h=>h,hsame,M.push_le hu⟩
  have hget:∀ j,upd σ [i,nx] ((nx,ob') :: st.set i .dead) j=if j=nx then some ob' else if j=i then some .dead else σ j:=fun j=>by
   unfold upd
   simp only [List.mem_cons,List.not_mem_nil,or_false,zc_.get_cons,zc_.get_set]
   by_cases h1:j=nx
   ·simp [h1]
   ·by_cases h2:j=i
    ·simp [h2]
    ·simp [h1,h2]
  have hb:∀ b,blk=some b->w.heap.size<=b\/m.blk i=some b:=fun b e=>(g1 b e).imp id (hblk b)
  have hgn:∀ o',upd σ [i,nx] ((nx,ob') :: st.set i .dead) nx=some o'->o'=ob':=fun o' e=>by rw [hget,if_pos rfl] at e;exact (Option.some.inj e).symm
  have hgi:∀ o',upd σ [i,nx] ((nx,ob') :: st.set i .dead) i=some o'->o'=.dead:=fun o' e=>by rw [hget,if_neg hne,if_pos rfl] at e;exact (Option.some.inj e).symm
  refine jv_ hr ⟨g3,hs.step hE (fun j=>j=i\/j=nx) (fun j hj=>by rw [hget,if_neg (fun h=>hj (.inr h)),if_neg (fun h=>hj (.inl h))]) (hfr.weak fun b e=>⟨i,_,.inl rfl,hσ,rfl,hblk b e⟩) (fun b h=>.inl h) (fun b h=>Nat.lt_of_lt_of_le (hs.H.Ilt b h) hfr.size)
   (fun j o' hj e=>?_) (fun j o' b hj e hl hbb=>?_) (fun j k o' o'' b hj hk e e' hl hl' _ _=>?_) (fun j o' b hj e hm hbb hI=>?_) (fun j t' x' b hj e hbb=>?_) (fun j wr kn hj e=>?_) (fun b hb=>.inl hb),hE,fun j hj=>?_⟩
  ·rcases hj with rfl | rfl
   ·cases hgi o' e;exact ⟨.inl hui,trivial⟩
   ·cases hgn o' e;exact ⟨.inr rfl,g2⟩
  ·rcases hj with rfl | rfl
   ·cases hgi o' e;cases hl
   ·rw [M.push_blk] at hbb
    exact (hb b hbb).imp id fun h=>⟨i,_,.inl rfl,hσ,rfl,fun _=>rfl,h⟩
  ·rcases hj with rfl | rfl<;>rcases hk with rfl | rfl
   ·rfl
   ·cases hgi o' e;cases hl
   ·cases hgi o'' e';cases hl'
   ·rfl
  ·rcases hj with rfl | rfl
   ·cases hgi o' e;cases hm
   ·rw [M.push_blk] at hbb
    rcases hb b hbb with h | h
    ·have:=hs.H.Ilt b hI;omega
    ·exact hs.H.notI i _ b hσ rfl h hI
  ·rcases hj with rfl | rfl
   ·cases hgi _ e
   ·have:=hgn _ e;subst this;cases hmu
  ·rcases hj with rfl | rfl
   ·cases hgi _ e
   ·have:=hgn _ e;subst this;cases hmu
  ·rcases hj with h | h
   ·exact .inl h
   ·subst h;exact .inr ⟨Nat.le_refl _,Nat.lt_succ_self _⟩
theorem GJ_ {t:Ty} {bytes:Nat} {x' y':Opd} (hok:zy_ P o.op (.appendJ t bytes x' y')=true) (ev:zu_ Γ (.appendJ t bytes x' y') fr st nx K):MOK P o [x',y'] fr (zZ_ [x',y'] fr) true st nx K:=by
 simp only [zu_,zc_.setK_eq,ZG_] at ev
 simp only [zy_] at hok
 split at hok
 ·rename_i args ts ho
  simp only [Bool.and_eq_true] at hok
  obtain ⟨h1,h2⟩:=hok
  obtain ⟨x,y,rfl,hx,hy⟩:=XN_ h1
  split at h2
  ·rename_i tt u hts
   simp only [Bool.and_eq_true] at h2
   obtain ⟨h2,h3⟩:=h2
   obtain ⟨e',hu⟩:=JN_ h3
   split at h2
   ·rename_i e he
    have he:=qt_ he
    simp only [Bool.and_eq_true,decide_eq_true_eq] at h2
    obtain ⟨⟨⟨⟨h4,h5⟩,h6⟩,h7⟩,h8⟩:=h2
    obtain ⟨i,hi,hsz⟩:=qT_ h4
    obtain ⟨i',hi',hby⟩:=JZ_ h5
    rw [hi] at hi' h8;cases hi'
    simp only at h8
    split at h8
    ·rename_i v hv
     simp only [beq_iff_eq] at h8
     have hts':ts=#[tt,u]:=Array.toList_inj.1 hts
     subst hts'
     have hex:∀ a:Act,execOp a.eval o=(do pure (.value (<- Builtin.append_ #[tt,u] o.type #[a.eval x,a.eval y]))):=fun a=>by rw [qI_ ho];simp [builtin]
     split at ev
     ·rename_i j hb
      split at ev
      ·rename_i fz t' x0' hl
       split at ev
       ·exact ev.elim
       ·obtain ⟨rfl,ev⟩:=ZP_ ev
        split at ev
        ·rename_i r t'' ys' hyb
         split at ev
         ·rename_i wr0 kn hr0
          split at ev
          ·obtain ⟨rfl,ev⟩:=ZP_ ev
           obtain ⟨⟨n0,n1,n2⟩,ev3⟩:=zj_ ev
           clear ev
           simp only at n0 n1 n2 ev3
           have hx0:x0'=[]:=List.eq_nil_of_length_eq_zero n0
           subst hx0
           have hjF:j ∈ zZ_ [x',y'] fr:=zD_ ZL_ hb j (by simp [AV.ids,AV.ids1,AV.ids0])
           have hrF:r ∈ zZ_ [x',y'] fr:=zD_ qb_ hyb r (by simp [AV.ids,AV.ids1,AV.ids0])
           have run:∀ {I:Nat->Prop} {w:World} {m:M} {a:Act} {σ:Sto},FOn [x',y'] fr I w m a->HRel I w m σ->(∀ i ∈ zZ_ [x',y'] fr,σ i=st.get i)->zM_ I w m j (.row false t'' [])->
            ∃ (ao ao':Option Addr) (cap':Nat) (w':World) (news:List Value),(execOp a.eval o).run P w=.ok (.value (.slice ao' (0+ys'.length) cap')) w'/\Appended (t''=.int .u8) w w' t''.size ao ao' 0 ys'.length cap' news/\news.length=ys'.length*t''.size/\
              (EA (m.rg r).dp w t'' ys' fun k=>news[k]?)/\RO m j ao 0 (m.cap j)/\m.used r/\qF_ (m.rg r).dp (m.rg r).wc w/\qF_ (m.rg r).dp w w':=fun {I w m a σ} hf hH ha hok=>by
            have hv1:=hf.rv ZL_ hx;rw [hb] at hv1
            obtain ⟨ao,len,cap,e1,hO⟩:=hv1
            obtain ⟨l1,l2,l3,l4,l5⟩:=Uc_ hok hO
            subst l1;subst l2
            have hv2:=hf.rv qb_ hy;rw [hyb] at hv2
            obtain ⟨⟨ao2,len2,cap2,e2,s1,s2,s3,s4⟩,hur⟩:=hv2
            have hrg:σ r=some (.reg wr0 true):=by rw [ha r hrF,hr0]
            have hk:qF_ (m.rg r).dp (m.rg r).wc w:=fun b hd=>(hH.gar r wr0 true b hrg hd).2.2.2.2.1 rfl
            have hsrc:Src (m.rg r).dp w t'' ys' (a.eval y):=⟨ao2,len2,cap2,e2,s1,by omega,fun h0=>by
             obtain ⟨b,o2,q1,q2,q3⟩:=s4 h0
             refine ⟨b,o2,q1,fun k hk'=>?_⟩
             obtain ⟨es,q4,q5⟩:=q3 k hk'
             refine ⟨es,Zm_ (fun _ h=>h) hk _ _ _ q4,fun q hq=>?_⟩
             rw [<- q5 q hq,<- hk.cell q2,Nat.add_assoc]⟩
            obtain ⟨news,g1,g2,g3,g4,g5⟩:=X4_ (P:=P) hsrc
            obtain ⟨w',ao',cap',r1,r2⟩:=xQ_ (q:=t''=.int .u8) (ty:=o.type) (src:=a.eval y) he (.inl ⟨e',hu⟩) hi hv (by rw [hsz];exact h8) l3 l4 (by rw [hsz];exact l5) (by rw [hsz];exact g1) g2 (by rw [hsz];exact g4) g5 (by rw [hby];simpa using n1) (by simpa using n2) (by omega)
            rw [hsz] at r2
            have hj:σ j=some (.row false t'' []):=by rw [ha j hjF,hl]
            refine ⟨ao,ao',cap',w',news,JV_ (hex a) (by rw [e1];exact r1),r2,g1,g3,hO,hur,hk,fun b hd=>?_⟩
            obtain ⟨d1,d2,d3,_⟩:=hH.gar r wr0 true b hrg hd
            refine r2.fr.block b d1 fun e3=>d3 j _ hj rfl ?_
            obtain ⟨_,_,_,_,_,h6⟩:=hO
            rcases h6 with ⟨_,h6,_⟩ | ⟨b',h6,h7⟩
            ·rw [h6] at e3;cases e3
            ·rw [h7] at e3;cases e3;exact h6
           rcases QT_ ev3 with ⟨hd,ev4⟩ | ⟨hd,ev4⟩
           ·have hd:=of_decide_eq_true hd
            refine ut_ (i:=j) (x0:=([]:List t''.den)) hl hjF rfl rfl ev4 fun {I w m a σ} hf hH ha hok=>?_
            obtain ⟨ao,ao',cap',w',news,hr,hA,hn,he,hO,hur,hk,hk'⟩:=run hf hH ha hok
            obtain ⟨blk,g1,g2,g3⟩:=q0_ (nx:=nx) (m:=m) (x0:=([]:List t''.den)) hk' hA hn he (.inl rfl)
            refine ⟨ao,w',_,blk,cap',_,t''.size,hr,hA.fr,hO,g1,fun hnu hs=>⟨?_,g3⟩⟩
            obtain ⟨p1,p2,p3,p4,p5⟩:=g2
            change ys'.length=_ at p2
            change ys'.length<=_ at p3
            have hrn:r ≠ nx:=fun e=>hnu (e ▸ hur)
            have hur':(m.push nx blk cap' ([]++ys').length t''.size).used r:=.inl hur
            rcases p5 with ⟨_,p5⟩ | ⟨b,cs,T,fz,q1,q2,q3,q4,q5⟩
            ·omega
            ·have hdp:∀ k (h:k < ys'.length),∃ es,RC (m.rg r).dp (m.rg r).wc t'' ys'[k] es/\∀ j (hj:j < es.length),cs[k*t''.size+j]?=some es[j]:=fun k hk2=>by
              obtain ⟨es,f1,f2⟩:=q5 k (by simpa using hk2)
              refine ⟨es,Zm_ (fun _ h=>h) (fun b hb=>((hk' b hb).trans (hk b hb)).symm) _ _ _ f1,f2⟩
             refine ⟨p1,p2,p3,p4,hd,r,_,b,cs,T,fz,rfl,hur',?_,q1,q2,q3,q4,fun k hk2=>?_⟩
             ·obtain ⟨es,f1,_⟩:=hdp 0 hd
              have hg:ys'.getD 0 t''.dflt=ys'[0]:=by simp [hd]
              rw [hg,Zy_ (WJ_ (I:=I) (w:=w) hur _ _ _ f1),Zi_ _ _ _ f1]
             ·obtain ⟨es,f1,f2⟩:=hdp k hk2
              refine ⟨es,Zi_ _ _ _ f1,fun h=>absurd h (Nat.not_lt_zero _),fun _=>f1,fun h=>?_,f2⟩
              subst h
              have hg:ys'.getD 0 t''.dflt=ys'[0]:=by simp [hd]
              rw [hg]
              exact WJ_ (m:=m.push nx blk cap' ([]++ys').length t''.size) hur' _ _ _ f1
           ·have hd:=of_decide_eq_false hd
            have hys:ys'=[]:=List.eq_nil_of_length_eq_zero (by omega)
            subst hys
            refine ut_ (i:=j) (x0:=([]:List t''.den)) hl hjF rfl rfl ev4 fun {I w m a σ} hf hH ha hok=>?_
            obtain ⟨ao,ao',cap',w',news,hr,hA,hn,he,hO,hur,hk,hk'⟩:=run hf hH ha hok
            have mk:=fun hs:qF_ I w w'=>q0_ (nx:=nx) (m:=m) (x0:=([]:List t''.den)) (ys:=[]) hs hA hn EA.nil (.inl rfl)
            obtain ⟨blk,g1,g2,g3⟩:=q0_ (nx:=nx) (m:=m) (x0:=([]:List t''.den)) hk' hA hn he (.inl rfl)
            refine ⟨ao,w',_,blk,cap',_,t''.size,hr,hA.fr,hO,g1,fun hnu hs=>⟨?_,g3⟩⟩
            obtain ⟨p1,p2,p3,p4,p5⟩:=g2
            refine ⟨p1,p2,p3,p4,p5.imp id ?_⟩
            rintro ⟨b,cs,T,fz,q1,q2,q3,q4,_⟩
            exact ⟨b,cs,T,fz,q1,q2,q3,q4,fun k hk2=>absurd hk2 (Nat.not_lt_zero _)⟩
          ·exact ev.elim
         ·exact ev.elim
        ·exact ev.elim
      ·exact ev.elim
     ·exact ev.elim
    ·cases h8
   ·cases h2
  ·cases h2
 ·cases hok
theorem xZ_ {I:Nat->Prop} {w:World} {t:Ty} {z:t.den} {n:Nat} {v:Value} (hz:RC I w t z v.cells.toList):EA I w t (List.replicate n z) fun k=>(Builtin.zeroCells v.cells n).toList[k]?:=by
 have hl:v.cells.size=t.size:=by have:=Zi_ t _ _ hz;simpa using this
 refine EA.replicate hz fun k hk=>?_
 rw [Array.getElem?_toList]
 show ((Array.range (n*v.cells.size)).map fun i=>v.cells[i % v.cells.size]!)[k]?=_
 rw [uj_ _ _ _ (by rw [hl];exact hk),hl]
theorem GI_ {t:Ty} {bytes:Nat} {z:t.den} {x' n':Opd} (hok:zy_ P o.op (.appendz t bytes z x' n')=true) (ev:zu_ Γ (.appendz t bytes z x' n') fr st nx K):MOK P o [x',n'] fr (zZ_ [x',n'] fr) true st nx K:=by
 simp only [zu_,zc_.setK_eq] at ev
 simp only [zy_] at hok
 split at hok
 ·rename_i args ts ho
  simp only [Bool.and_eq_true] at hok
  obtain ⟨h1,h2⟩:=hok
  obtain ⟨x,y,rfl,hx,hy⟩:=XN_ h1
  split at h2
  ·rename_i tt u hts
   simp only [Bool.and_eq_true] at h2
   obtain ⟨h2,h3⟩:=h2
   have hu:∃ ik,P.underlying u=some (.int ik):=by
    unfold zak_ at h3
    split at h3
    ·exact ⟨_,by assumption⟩
    ·cases h3
   obtain ⟨ik,hu⟩:=hu
   split at h2
   ·rename_i e he
    have he:=qt_ he
    simp only [Bool.and_eq_true,decide_eq_true_eq] at h2
    obtain ⟨⟨⟨⟨h4,h5⟩,h6⟩,h7⟩,h8⟩:=h2
    obtain ⟨i,hi,hsz⟩:=qT_ h4
    obtain ⟨i',hi',hby⟩:=JZ_ h5
    rw [hi] at hi';cases hi'
    obtain ⟨i',v,hi',hv,hz⟩:=XX_ h8
    rw [hi] at hi';cases hi'
    have hvs:v.cells.size=t.size:=by
     have:=Zi_ t _ _ (hz (fun _=>False) default);simpa using this
    have hone:∀ q ∈ v.cells.toList,q.oneCell'=true:=VE_ t _ _ (hz (fun _=>False) default)
    have hts':ts=#[tt,u]:=Array.toList_inj.1 hts
    subst hts'
    have hex:∀ a:Act,execOp a.eval o=(do pure (.value (<- Builtin.append_ #[tt,u] o.type #[a.eval x,a.eval y]))):=fun a=>by rw [qI_ ho];simp [builtin]
    obtain ⟨kk,N,hN,ev1⟩:=ZF_ ev
    split at ev1
    ·rename_i hb
     obtain ⟨⟨n0,n1,n2⟩,hK⟩:=zj_ ev1
     refine kW_ hK (fun _ _ h=>by cases h) fun {I w m a σ} hf hH ha hNu=>?_
     have hv1:=hf.rv ZL_ hx;rw [hb] at hv1
     have hv1:a.eval x=.slice none 0 0:=hv1
     have hv2:=hf.rv qb_ hy;rw [hN] at hv2
     have hv2:a.eval y=.int kk (N.toNat:Int):=by rw [(zq_ hv2).1];congr 1;omega
     have hnb:N.toNat*bytes<=140737488355328:=by
      have:((N.toNat*bytes:Nat):Int)<=140737488355328:=by rw [Int.natCast_mul,Int.toNat_of_nonneg n0];exact n1
      omega
     obtain ⟨w',ao',cap',r1,r2⟩:=Yn_ (q:=t=.int .u8) (ty:=o.type) (sLen:=0) (sCap:=0) (ao:=none) (n:=N.toNat) (k:=kk) (w:=w) he hu hi hv (by rw [hsz];exact hvs) (Nat.le_refl _) (Nat.zero_le _) (.inl ⟨rfl,rfl⟩) hone (by omega) (by rw [hby,Nat.zero_add];exact hnb) (by omega) (by omega)
     rw [hsz] at r2
     have hfr:Fr (fun _=>False) w w':=r2.fr.weak fun b e=>by cases e
     have hsm:qF_ I w w':=fun b hb=>hfr.block b (hH.Ilt b hb) id
     have hl:(List.replicate N.toNat z).length=N.toNat:=List.length_replicate
     rw [<- hl] at r2
     obtain ⟨blk,k1,k2,k3⟩:=q0_ (nx:=nx) (m:=m) (x0:=([]:List t.den)) (ys:=List.replicate N.toNat z) hsm r2 (by rw [hl,Array.length_toList,Q4_,hvs]) (by rw [hl];exact xZ_ (hz _ _)) (.inl rfl)
     refine ⟨_,hex a,.slice ao' (0+N.toNat) cap',w',blk,cap',_,t.size,by rw [hv1,hv2];exact r1,hfr,fun b hb=>?_,fun _=>k2,fun _=>by rw [hl] at k3;exact k3⟩
     rcases k1 b hb with h | h
     ·exact h
     ·cases h
    ·rename_i j hb
     split at ev1
     ·rename_i t' x0' hl
      obtain ⟨rfl,ev2⟩:=ZP_ ev1
      obtain ⟨⟨n0,n1',n2'⟩,hK⟩:=zj_ ev2
      have n1:((x0'.length:Int)+N)*bytes<=140737488355328:=n1'
      have n2:(x0'.length:Int)+N<=140737488355328:=n2'
      refine gW_ (i:=j) (x0:=x0') hl (zD_ ZL_ hb j (by simp [AV.ids,AV.ids1,AV.ids0])) rfl hK fun {I w m a σ} hf hH ha hok=>?_
      have hv1:=hf.rv ZL_ hx;rw [hb] at hv1
      obtain ⟨ao,len,cap,e1,hO⟩:=hv1
      obtain ⟨l1,l2,l3,l4,l5⟩:=Uc_ hok hO
      subst l1;subst l2
      have hv2:=hf.rv qb_ hy;rw [hN] at hv2
      have hv2:a.eval y=.int kk (N.toNat:Int):=by rw [(zq_ hv2).1];congr 1;omega
      have hnb:(x0'.length+N.toNat)*bytes<=140737488355328:=by
       have:(((x0'.length+N.toNat)*bytes:Nat):Int)<=140737488355328:=by rw [Int.natCast_mul,Int.natCast_add,Int.toNat_of_nonneg n0];exact n1
       omega
      obtain ⟨w',ao',cap',r1,r2⟩:=Yn_ (ty:=o.type) (n:=N.toNat) (k:=kk) he hu hi hv (by rw [hsz];exact hvs) l3 l4 (by rw [hsz];exact l5) hone (by omega) (by rw [hby];exact hnb) (by omega) (by omega)
      rw [hsz] at r2
      have hll:(List.replicate N.toNat z).length=N.toNat:=List.length_replicate
      rw [<- hll] at r2
      refine ⟨ao,ao',cap',w',_,JV_ (hex a) (by rw [e1,hv2,hll];exact r1),r2,by rw [hll,Array.length_toList,Q4_,hvs],by rw [hll];exact xZ_ (hz _ _),hO⟩
     ·exact ev1.elim
    ·exact ev1.elim
   ·cases h2
  ·cases h2
 ·cases hok
end ops
end Go.Eng
