/- Parts of the proof: EOps7, EOps9. No condition. -/
import Derived.Test.YtodnkagabgglfaaGreatDoorWB04
import Derived.WalkKit
import Derived.MapFrom
namespace Go.Eng
set_option linter.unusedVariables false
set_option linter.unusedSimpArgs false
open Go.RowKit
section ops
variable {P:Program} {Γ:Env} {o:Oper} {L:List Opd} {fr:zg_} {F:List Nat} {wr:Bool} {st:zc_} {nx:Nat} {K:AV->zc_->Nat->Prop}
def Lies (w:World) (size:Nat) (ao:Option Addr) (cap:Nat):Prop:=
 (ao=none/\cap=0)\/∃ (b:Nat) (cs:Array Value) (T:TypeId) (fz:Nat × Nat),ao=some ⟨b,0,none⟩/\w.heap[b]?=some (.cells cs T fz)/\yT_ fz cs.size/\cs.size=cap*size
def Bi_ (P:Program) (w:World) (S:Sem (Array Value)) (news:List Value):Prop:=∀ w':World,(∀ a,w'.cell? a=w.cell? a)->S.run P w'=.ok news.toArray w'
theorem u2_ {I:Nat->Prop} {w:World} {t:Ty} {ys:List t.den} {cv:Value} (h:Src I w t ys cv):∃ news:List Value,news.length=ys.length*t.size/\(∀ v ∈ news,v.oneCell'=true)/\(EA I w t ys fun k=>news[k]?)/\
 Bi_ P w (Builtin.firstCells t.size ys.length cv) news/\(∀ w':World,(Builtin.lenOf cv).run P w'=.ok ys.length w'):=by
 obtain ⟨ao,len,cap,rfl,h1,h2,h3⟩:=h
 subst h1
 have hlen:∀ w':World,(Builtin.lenOf (.slice ao ys.length cap)).run P w'=.ok ys.length w':=fun _=>rfl
 rcases Nat.eq_zero_or_pos ys.length with h0 | h0
 ·have hys:ys=[]:=List.eq_nil_of_length_eq_zero h0
  subst hys
  refine ⟨[],by simp,fun v hv=>(by cases hv),EA.nil,fun w' _=>?_,hlen⟩
  cases ao with
  | none=>rfl
  | some q=>simp [Builtin.firstCells,loadCells,loadCellsFrom]
 ·obtain ⟨b,ofs,rfl,h4⟩:=h3 h0
  obtain ⟨news,g1,g2,g3,g4⟩:=zae_ h4
  refine ⟨news,g1,g3,g4,fun w' hw=>?_,hlen⟩
  have:=ZO_ (P:=P) (w:=w') (b:=b) (off:=ofs) news 0 #[] (fun j hj=>by rw [Nat.add_zero,hw];exact g2 j hj)
  simp only [Builtin.firstCells,loadCells]
  rw [<- g1,this];simp
structure Appended (w w':World) (size:Nat) (ao ao':Option Addr) (sLen n cap':Nat) (news:List Value):Prop where
 room:sLen+n<=cap'
 cap:cap'<=maxLen
 fr:Fr (fun b=>ao=some ⟨b,0,none⟩) w w'
 lies:(ao'=none/\cap'=0)\/∃ (b:Nat) (cs':Array Value) (T:TypeId) (fz:Nat × Nat),ao'=some ⟨b,0,none⟩/\w'.heap[b]?=some (.cells cs' T fz)/\yT_ fz cs'.size/\cs'.size=cap'*size/\(w.heap.size<=b\/ao=some ⟨b,0,none⟩)/\
  (∀ b0 cs T fz,ao=some ⟨b0,0,none⟩->w.heap[b0]?=some (.cells cs T fz)->∀ k,k < sLen*size->cs'[k]?=cs[k]?)/\∀ k,k < news.length->cs'[sLen*size+k]?=news[k]?
theorem HL_ {w:World} {size sLen n sCap:Nat} {ao:Option Addr} {news:List Value} (hcap:n+sLen<=sCap) (hcm:sCap<=maxLen) (hl:Lies w size ao sCap) (hn:news.length=n*size) (h1:∀ v ∈ news,v.oneCell'=true):
 ∃ w',((ao=none/\w'=w)\/∃ b,ao=some ⟨b,0,none⟩/\(storeCells ⟨b,sLen*size,none⟩ news).run P w=.ok () w')/\Appended w w' size ao ao sLen n sCap news:=by
 rcases hl with ⟨rfl,rfl⟩ | ⟨b,cs,T,fz,rfl,h2,h3,h4⟩
 ·exact ⟨w,.inl ⟨rfl,rfl⟩,by omega,hcm,Fr.refl _ _,.inl ⟨rfl,rfl⟩⟩
 ·have hfit:(sLen+n)*size<=cs.size:=by rw [h4];exact Nat.mul_le_mul_right _ (by omega)
  rw [Nat.add_mul] at hfit
  have hcs:cs.toList.length=cs.size:=Array.length_toList
  obtain ⟨w',r1,r2,r3,r4,r5,r6,r7⟩:=QH_ (P:=P) news 0 (sLen*size) w cs h2 h3 (by omega) h1
  have hs:=vk_ cs news (sLen*size) (by omega)
  have hget:∀ k,((cs.toList.take (sLen*size+0)++news++cs.toList.drop (sLen*size+0+news.length)).toArray)[k]?=if k < sLen*size then cs[k]? else if k < sLen*size+news.length then news[k - sLen*size]? else cs[k]?:=fun k=>by
   rw [List.getElem?_toArray,Nat.add_zero,gc_ _ _ _ (by omega)]
   simp only [Array.getElem?_toList]
  refine ⟨w',.inr ⟨b,rfl,r1⟩,by omega,hcm,⟨r5,r6,r7,by omega,fun k _ hk=>r4 k (fun e=>hk (by rw [e]))⟩,.inr ⟨b,_,T,fz,rfl,r2,by rw [hs];exact h3,by rw [hs];exact h4,.inr rfl,fun b0 cs0 T0 fz0 e e' k hk=>?_,fun k hk=>?_⟩⟩
  ·cases e
   rw [h2] at e';cases e'
   rw [hget,if_pos hk]
  ·rw [hget,if_neg (by omega),if_pos (by omega)];congr 1;omega
theorem QE_ (z:Array Value) (n:Nat):(Builtin.zeroCells z n).size=n*z.size:=by simp [Builtin.zeroCells]
theorem zcq_ {w:World} {need old:Nat} {e:TypeId} (h:need<=maxLen):need<=grownCap w need old e/\grownCap w need old e<=maxLen:=by
 refine ⟨by simp [grownCap,Question.cut],?_⟩
 have hlt:=Nat.mod_lt (w.tape w.drawn (.appendCap need old e)) (show 0 < 2 ^ 63 - need by simp only [maxLen] at h;omega)
 simp only [grownCap,Question.cut,maxLen] at h ⊢
 omega
theorem HM_ {w:World} {size sLen n sCap:Nat} {ao:Option Addr} {news olds:List Value} {e:TypeId} {z:Array Value} (hz:z.size=size) (h47:sLen+n<=maxLen) (hn:news.length=n*size) (ho:olds.length=sLen*size)
 (hold:∀ b0 cs T fz,ao=some ⟨b0,0,none⟩->w.heap[b0]?=some (.cells cs T fz)->∀ k,k < sLen*size->olds[k]?=cs[k]?):
 Appended w (w.drew.alloc (.cells (olds.toArray++news.toArray++Builtin.zeroCells z (grownCap w (sLen+n) sCap e - (sLen+n))) e)) size ao (some ⟨w.heap.size,0,none⟩) sLen n (grownCap w (sLen+n) sCap e) news:=by
 obtain ⟨h1,h2⟩:=zcq_ (w:=w) (old:=sCap) (e:=e) h47
 refine ⟨h1,h2,⟨rfl,rfl,rfl,by simp,fun k hk _=>za5_ w.drew _ hk⟩,.inr ⟨w.heap.size,_,e,(0,0),rfl,ky_ w.drew _,yT_.zero _,?_,.inl (Nat.le_refl _),fun b0 cs T fz hao hb k hk=>?_,fun k hk=>?_⟩⟩
 ·simp only [Array.size_append,List.size_toArray,QE_,hz,ho,hn]
  rw [<- Nat.add_mul,<- Nat.add_mul];congr 1;omega
 ·rw [Array.getElem?_append_left (by simp;omega),Array.getElem?_append_left (by simp;omega),List.getElem?_toArray]
  exact hold b0 cs T fz hao hb k hk
 ·rw [Array.getElem?_append_left (by simp;omega),Array.getElem?_append_right (by simp;omega),List.getElem?_toArray]
  congr 1;simp;omega
theorem Uh_ {w:World} {size sLen sCap:Nat} {ao:Option Addr} (hcap:sLen<=sCap) (hl:Lies w size ao sCap):∃ olds:List Value,olds.length=sLen*size/\Bi_ P w (Builtin.firstCells size sLen (.slice ao sLen sCap)) olds/\
 ∀ b0 cs T fz,ao=some ⟨b0,0,none⟩->w.heap[b0]?=some (.cells cs T fz)->∀ k,k < sLen*size->olds[k]?=cs[k]?:=by
 rcases hl with ⟨rfl,rfl⟩ | ⟨b,cs,T,fz,rfl,h2,h3,h4⟩
 ·obtain rfl:sLen=0:=by omega
  exact ⟨[],by simp,fun w' _=>rfl,fun b0 cs T fz e=>by cases e⟩
 ·have hfit:sLen*size<=cs.size:=by rw [h4];exact Nat.mul_le_mul_right _ hcap
  refine ⟨cs.toList.take (sLen*size),by simp;omega,fun w' hw=>?_,fun b0 cs0 T0 fz0 e e' k hk=>?_⟩
  ·have:=ZO_ (P:=P) (w:=w') (b:=b) (off:=0) (cs.toList.take (sLen*size)) 0 #[] (fun j hj=>by
    simp only [List.length_take,Array.length_toList] at hj
    rw [hw,kt_ h2];simp)
   simp only [Builtin.firstCells,loadCells]
   rw [show (cs.toList.take (sLen*size)).length=sLen*size by simp;omega] at this
   rw [this];simp
  ·cases e
   rw [h2] at e';cases e'
   rw [List.getElem?_take,if_pos hk,Array.getElem?_toList]
theorem Vw_ {t u e:TypeId} {i:TypeInfo} {v:Value} {w:World} {ty:TypeId} {ao:Option Addr} {sLen sCap n:Nat} {news:List Value} {src:Value} (ht:P.underlying t=some (.slice e)) (hu:(∃ e',P.underlying u=some (.slice e'))\/P.underlying u=some .string) (hi:P.info? e=some i) (hz:i.zero=some v) (hv:v.cells.size=i.size)
 (hcap:sLen<=sCap) (hcm:sCap<=maxLen) (hl:Lies w i.size ao sCap) (hn:news.length=n*i.size) (h1:∀ v ∈ news,v.oneCell'=true) (hy:Bi_ P w (Builtin.firstCells i.size n src) news) (hlen:∀ w':World,(Builtin.lenOf src).run P w'=.ok n w')
 (hb:(sLen+n)*i.bytes<=140737488355328) (h47:sLen+n<=140737488355328) (hb0:0 < i.bytes):
 ∃ w' ao' cap',(Builtin.append_ #[t,u] ty #[.slice ao sLen sCap,src]).run P w=.ok (.slice ao' (sLen+n) cap') w'/\Appended w w' i.size ao ao' sLen n cap' news:=by
 rcases hu with ⟨e',hu⟩ | hu
 all_goals
  by_cases hroom:sLen+n<=sCap
  ·obtain ⟨w',r1,r2⟩:=HL_ (P:=P) (w:=w) (size:=i.size) (sLen:=sLen) (n:=n) (by omega) hcm hl hn h1
   refine ⟨w',ao,sCap,?_,r2⟩
   rcases r1 with ⟨rfl,rfl⟩ | ⟨b,rfl,r1⟩
   ·simp [Builtin.append_,run_underlying ht,run_underlying hu,zS_ hi,hlen,hroom,hy w' (fun _=>rfl)]
   ·simp [Builtin.append_,run_underlying ht,run_underlying hu,zS_ hi,hlen,hroom,hy w (fun _=>rfl),ZQ_,r1]
  ·obtain ⟨olds,g1,g2,g3⟩:=Uh_ (P:=P) hcap hl
   have hfit:=growslice_fits (need:=sLen+n) (old:=sCap) (bytes:=i.bytes) (by omega) hb
   have hfit':¬ (281474976710656 < Builtin.nextslicecap (sLen+n) sCap*i.bytes):=by omega
   have hb1:i.bytes ≠ 0:=by omega
   refine ⟨_,_,_,?_,HM_ (z:=v.cells) (e:=e) (sCap:=sCap) hv (by unfold maxLen;omega) hn g1 g3⟩
   have y1:=g2 w.drew (fun _=>rfl)
   have y2:=hy w.drew (fun _=>rfl)
   simp [Builtin.append_,run_underlying ht,run_underlying hu,zS_ hi,hlen,hroom,typeInfo,hi,hfit',hb1,Question.forced,y1,y2,Qd_ hi hz,newRow,grownCap]
   congr 2
   apply Array.ext'
   simp [List.append_assoc]
theorem Ym_ {t u e:TypeId} {i:TypeInfo} {v:Value} {w:World} {ty:TypeId} {ao:Option Addr} {sLen sCap n:Nat} {k:IntKind} {ik:IntKind} (ht:P.underlying t=some (.slice e)) (hu:P.underlying u=some (.int ik)) (hi:P.info? e=some i) (hz:i.zero=some v) (hv:v.cells.size=i.size)
 (hcap:sLen<=sCap) (hcm:sCap<=maxLen) (hl:Lies w i.size ao sCap) (h1:∀ u ∈ v.cells.toList,u.oneCell'=true) (hs0:0 < i.size)
 (hb:(sLen+n)*i.bytes<=140737488355328) (h47:sLen+n<=140737488355328) (hb0:0 < i.bytes):
 ∃ w' ao' cap',(Builtin.append_ #[t,u] ty #[.slice ao sLen sCap,.int k n]).run P w=.ok (.slice ao' (sLen+n) cap') w'/\Appended w w' i.size ao ao' sLen n cap' (Builtin.zeroCells v.cells n).toList:=by
 have hw:IntKind.i64.wrap (n:Int)=n:=jW_ ⟨by simp [IntKind.min,IntKind.signed,IntKind.bits]<;>omega,by simp [IntKind.max,IntKind.signed,IntKind.bits];omega⟩
 have hw0:IntKind.i64.wrap 0=0:=rfl
 have hneg:¬ ((n:Int) < 0):=by omega
 have h63':¬ (9223372036854775807 < (sLen:Int)+n):=by omega
 have hz0:(Builtin.zeroCells v.cells 0).toList=[]:=by simp [Builtin.zeroCells]
 have hnb:(n:Int)*i.bytes<=140737488355328:=by
  have:n*i.bytes<=(sLen+n)*i.bytes:=Nat.mul_le_mul_right _ (by omega)
  have h:((n*i.bytes:Nat):Int)<=140737488355328:=by omega
  rwa [Int.natCast_mul] at h
 have hnb':¬ (281474976710656 < (n:Int)*i.bytes):=by omega
 have hn:(Builtin.zeroCells v.cells n).toList.length=n*i.size:=by rw [Array.length_toList,QE_,hv]
 have hone:∀ u ∈ (Builtin.zeroCells v.cells n).toList,u.oneCell'=true:=fun u hu=>by
  simp only [Builtin.zeroCells,Array.mem_toList_iff,Array.mem_map,Array.mem_range] at hu
  obtain ⟨j,hj,rfl⟩:=hu
  have hpos:0 < v.cells.size:=by
   rcases Nat.eq_zero_or_pos v.cells.size with h | h
   ·rw [h] at hj;omega
   ·exact h
  have hm:=Nat.mod_lt j hpos
  rw [getElem!_pos v.cells _ hm]
  exact h1 _ (by simp)
 by_cases hroom:sLen+n<=sCap
 ·obtain ⟨w',r1,r2⟩:=HL_ (P:=P) (w:=w) (size:=i.size) (sLen:=sLen) (n:=n) (by omega) hcm hl hn hone
  refine ⟨w',ao,sCap,?_,r2⟩
  rcases Nat.eq_zero_or_pos n with h0 | h0
  ·subst h0
   rcases r1 with ⟨rfl,rfl⟩ | ⟨b,rfl,r1⟩
   ·simp [Builtin.append_,run_underlying ht,run_underlying hu,zS_ hi,hroom,asInt,asIntOf,typeInfo,hi,hw0,hcap]
   ·rw [hz0] at r1
    simp [Builtin.append_,run_underlying ht,run_underlying hu,zS_ hi,hroom,asInt,asIntOf,typeInfo,hi,ZQ_,hw0,hcap]
    rw [r1];rfl
  ·have h0':¬ (n*i.size=0):=by have:=Nat.mul_pos h0 hs0;omega
   rcases r1 with ⟨rfl,rfl⟩ | ⟨b,rfl,r1⟩
   ·simp [Builtin.append_,run_underlying ht,run_underlying hu,zS_ hi,hroom,asInt,asIntOf,hw,typeInfo,hi,hnb',hneg,h0',Qd_ hi hz]
   ·simp [Builtin.append_,run_underlying ht,run_underlying hu,zS_ hi,hroom,asInt,asIntOf,hw,typeInfo,hi,hnb',hneg,h0',Qd_ hi hz,ZQ_,r1]
 ·obtain ⟨olds,g1,g2,g3⟩:=Uh_ (P:=P) hcap hl
  have hfit:=growslice_fits (need:=sLen+n) (old:=sCap) (bytes:=i.bytes) (by omega) hb
  have hfit':¬ (281474976710656 < Builtin.nextslicecap (sLen+n) sCap*i.bytes):=by omega
  have hb1:i.bytes ≠ 0:=by omega
  have h0':¬ (n*i.size=0):=by have:=Nat.mul_pos (show 0 < n by omega) hs0;omega
  refine ⟨_,_,_,?_,HM_ (z:=v.cells) (e:=e) (sCap:=sCap) hv (by unfold maxLen;omega) hn g1 g3⟩
  have y1:=g2 w.drew (fun _=>rfl)
  simp [Builtin.append_,run_underlying ht,run_underlying hu,zS_ hi,hroom,asInt,asIntOf,hw,typeInfo,hi,hnb',hneg,hfit',hb1,h63',  Question.forced,y1,h0',Qd_ hi hz,newRow,grownCap]
theorem Ju_ {I:Nat->Prop} {w w':World} {m:M} {t:Ty} {x0 ys:List t.den} {ao ao':Option Addr} {cap':Nat} {news:List Value} (hs:QY_ I w w') (h:Appended w w' t.size ao ao' x0.length ys.length cap' news) (hn:news.length=ys.length*t.size) (he:EA I w t ys fun k=>news[k]?)
 (hold:x0=[]\/∃ (b:Nat) (cs:Array Value) (T:TypeId) (fz:Nat × Nat),ao=some ⟨b,0,none⟩/\w.heap[b]?=some (.cells cs T fz)/\EA I w t x0 fun k=>cs[k]?):
 ∃ blk:Option Nat,(∀ b,blk=some b->w.heap.size<=b\/ao=some ⟨b,0,none⟩)/\z3_ I w' (m.push nx blk cap' (x0++ys).length t.size) nx (.row false t (x0++ys))/\
   RV I w' (m.push nx blk cap' (x0++ys).length t.size) (.own nx) (.slice ao' (x0.length+ys.length) cap'):=by
 have hl:(x0++ys).length=x0.length+ys.length:=List.length_append
 have hr:=h.room
 rcases h.lies with ⟨rfl,rfl⟩ | ⟨b,cs',T,fz,rfl,h2,h3,h4,h5,h6,h7⟩
 ·refine ⟨none,fun b hb=>(by cases hb),⟨M.push_sz _ _ _ _ _ _,(M.push_len _ _ _ _ _ _).symm,by rw [M.push_cap];omega,by rw [M.push_cap];exact Nat.zero_le _,.inl ⟨M.push_blk _ _ _ _ _ _,M.push_cap _ _ _ _ _ _⟩⟩,⟨_,_,_,rfl,.inr rfl,?_,(M.push_cap _ _ _ _ _ _).symm,hr,h.cap,.inl ⟨M.push_blk _ _ _ _ _ _,rfl,rfl⟩⟩⟩
  rw [M.push_len,hl]
 ·refine ⟨some b,fun b' hb=>(by cases hb;exact h5),⟨M.push_sz _ _ _ _ _ _,(M.push_len _ _ _ _ _ _).symm,by rw [M.push_cap];omega,by rw [M.push_cap];exact h.cap,.inr ⟨b,cs',T,fz,M.push_blk _ _ _ _ _ _,h2,h3,by rw [M.push_cap];exact h4,?_⟩⟩,⟨_,_,_,rfl,.inr rfl,?_,(M.push_cap _ _ _ _ _ _).symm,hr,h.cap,.inr ⟨b,M.push_blk _ _ _ _ _ _,rfl⟩⟩⟩
  ·refine EA.append ?_ ((he.mono (fun _ h=>h) hs).congr fun k hk=>h7 k (by omega))
   rcases hold with rfl | ⟨b0,cs,T0,fz0,hao,hb0,h8⟩
   ·exact EA.nil
   ·exact (h8.mono (fun _ h=>h) hs).congr fun k hk=>h6 b0 cs T0 fz0 hao hb0 k hk
  ·rw [M.push_len,hl]
theorem hS_ {i:Nat} {t:Ty} {x0 ys:List t.den} (hi:st.get i=some (.row false t x0)) (hF:i ∈ F) (hwr:wr=true) (hK:K (.own nx) ((nx,.row false t (x0++ys)) :: st.set i .dead) (nx+1))
 (h:∀ {I:Nat->Prop} {w:World} {m:M} {a:Act} {σ:Sto},FOn L fr I w m a->HRel I w m σ->(∀ i ∈ F,σ i=st.get i)->z3_ I w m i (.row false t x0)->∃ ao ao' cap' w' news,(execOp a.eval o).run P w=.ok (.value (.slice ao' (x0.length+ys.length) cap')) w'/\
   Appended w w' t.size ao ao' x0.length ys.length cap' news/\news.length=ys.length*t.size/\(EA I w t ys fun k=>news[k]?)/\RO m i ao x0.length (m.cap i)):MOK P o L fr F wr st nx K:=by
 refine ⟨.own nx,_,nx+1,[i,nx],Nat.le_succ _,hK,fun j hj=>?_,fun j hj=>?_,fun {X0 I0 w0 σ I w m a} hf hs ha hN=>?_⟩
 ·simp only [List.mem_cons,List.not_mem_nil,or_false,not_or] at hj
  rw [zc_.get_cons,if_neg hj.2,zc_.get_set,if_neg hj.1]
 ·simp only [List.mem_cons,List.not_mem_nil,or_false] at hj
  rcases hj with rfl | rfl
  ·exact .inl ⟨hwr,hF,by rw [hi];intro h;cases h⟩
  ·exact .inr ⟨Nat.le_refl _,Nat.lt_succ_self _⟩
 ·have hu:=hN nx (Nat.le_refl _) (Nat.lt_succ_self _)
  have hσ:σ i=some (.row false t x0):=by rw [ha i hF,hi]
  have hui:m.used i:=hs.H.lt i (by rw [hσ];intro h;cases h)
  have hne:i ≠ nx:=fun e=>hu (e ▸ hui)
  have hok:=hs.H.obj i _ hσ
  obtain ⟨ao,ao',cap',w',news,hr,hA,hn,he,hO⟩:=h hf hs.H ha hok
  have hblk:∀ b,ao=some ⟨b,0,none⟩->m.blk i=some b:=fun b e=>by
   obtain ⟨_,_,_,_,_,h6⟩:=hO
   rcases h6 with ⟨_,h6,_⟩ | ⟨b',h6,h7⟩
   ·rw [h6] at e;cases e
   ·rw [h7] at e;cases e;exact h6
  have hsame:QY_ I w w':=fun b hb=>hA.fr.block b (hs.H.Ilt b hb) fun e=>hs.H.notI i _ b hσ rfl (hblk b e) hb
  have hold:x0=[]\/∃ (b:Nat) (cs:Array Value) (T:TypeId) (fz:Nat × Nat),ao=some ⟨b,0,none⟩/\w.heap[b]?=some (.cells cs T fz)/\EA I w t x0 fun k=>cs[k]?:=by
   obtain ⟨_,_,q3,_,q5⟩:=hok
   rcases q5 with ⟨_,q6⟩ | ⟨b,cs,T,fz,q6,q7,_,_,q8⟩
   ·exact .inl (List.eq_nil_of_length_eq_zero (by omega))
   ·obtain ⟨_,_,_,_,_,h6⟩:=hO
    rcases h6 with ⟨h6,_⟩ | ⟨b',h6,h7⟩
    ·rw [q6] at h6;cases h6
    ·rw [q6] at h6;cases h6
     exact .inr ⟨b,cs,T,fz,h7,q7,q8⟩
  obtain ⟨blk,g1,g2,g3⟩:=Ju_ (nx:=nx) (m:=m) hsame hA hn he hold
  have hE:Evo I w m I w' (m.push nx blk cap' (x0++ys).length t.size):=⟨fun _ h=>h,hsame,M.push_le hu⟩
  have hget:∀ j,upd σ [i,nx] ((nx,Obj.row false t (x0++ys)) :: st.set i .dead) j=if j=nx then some (.row false t (x0++ys)) else if j=i then some .dead else σ j:=fun j=>by
   unfold upd
   simp only [List.mem_cons,List.not_mem_nil,or_false,zc_.get_cons,zc_.get_set]
   by_cases h1:j=nx
   ·simp [h1]
   ·by_cases h2:j=i
    ·simp [h2]
    ·simp [h1,h2]
  have hb:∀ b,blk=some b->w.heap.size<=b\/m.blk i=some b:=fun b e=>(g1 b e).imp id (hblk b)
  have hgn:∀ o',upd σ [i,nx] ((nx,Obj.row false t (x0++ys)) :: st.set i .dead) nx=some o'->o'=.row false t (x0++ys):=fun o' e=>by rw [hget,if_pos rfl] at e;exact (Option.some.inj e).symm
  have hgi:∀ o',upd σ [i,nx] ((nx,Obj.row false t (x0++ys)) :: st.set i .dead) i=some o'->o'=.dead:=fun o' e=>by rw [hget,if_neg hne,if_pos rfl] at e;exact (Option.some.inj e).symm
  refine Kp_ hr ⟨g3,hs.step hE (fun j=>j=i\/j=nx) (fun j hj=>by rw [hget,if_neg (fun h=>hj (.inr h)),if_neg (fun h=>hj (.inl h))]) (hA.fr.weak fun b e=>⟨i,_,.inl rfl,hσ,rfl,hblk b e⟩) (fun b h=>.inl h) (fun b h=>Nat.lt_of_lt_of_le (hs.H.Ilt b h) hA.fr.size)
   (fun j o' hj e=>?_) (fun j o' b hj e hl hbb=>?_) (fun j k o' o'' b hj hk e e' hl hl' _ _=>?_) (fun j o' b hj e hm hbb hI=>?_) (fun j t' x' b hj e hbb=>?_),hE,fun j hj=>?_⟩
  ·rcases hj with rfl | rfl
   ·cases hgi o' e;exact ⟨.inl hui,trivial⟩
   ·cases hgn o' e;exact ⟨.inr rfl,g2⟩
  ·rcases hj with rfl | rfl
   ·cases hgi o' e;cases hl
   ·rw [M.push_blk] at hbb
    exact (hb b hbb).imp id fun h=>⟨i,_,.inl rfl,hσ,rfl,fun _=>rfl,h⟩
  ·rcases hj with rfl | rfl<;>rcases hk with rfl | rfl
   ·rfl
   ·cases hgi o' e;cases hl
   ·cases hgi o'' e';cases hl'
   ·rfl
  ·rcases hj with rfl | rfl
   ·cases hgi o' e;cases hm
   ·rw [M.push_blk] at hbb
    rcases hb b hbb with h | h
    ·have:=hs.H.Ilt b hI;omega
    ·exact hs.H.notI i _ b hσ rfl h hI
  ·rcases hj with rfl | rfl
   ·cases hgi _ e
   ·cases hgn _ e
  ·rcases hj with h | h
   ·exact .inl h
   ·subst h;exact .inr ⟨Nat.le_refl _,Nat.lt_succ_self _⟩
theorem zaU_ {t:Ty} {v:AV} {K':List t.den->Prop} (ev:Ye_ t st v K'):v.ids0=v.ids/\∀ {I:Nat->Prop} {w:World} {m:M} {cv:Value},RV I w m v cv->RV0 I w m v cv:=by
 unfold Ye_ at ev
 cases v<;>first | exact ⟨rfl,fun h=>h⟩ | exact ev.elim
theorem BA_ {I:Nat->Prop} {w:World} {m:M} {i:Nat} {t:Ty} {x:List t.den} {fz:Bool} {ao:Option Addr} {len cap:Nat} (h:z3_ I w m i (.row fz t x)) (hO:RO m i ao len cap):len=x.length/\cap=m.cap i/\len<=cap/\cap<=maxLen/\Lies w t.size ao cap:=by
 obtain ⟨q1,q2,q3,q4,q5⟩:=h
 obtain ⟨h1,h2,h3,h4,h5,h6⟩:=hO
 refine ⟨by omega,h3,h4,h5,?_⟩
 rcases q5 with ⟨q5,q6⟩ | ⟨b,cs,T,fz,q6,q7,q8,q9,_⟩
 ·rcases h6 with ⟨_,h6,h7⟩ | ⟨b',h6,h7⟩
  ·exact .inl ⟨h6,h7⟩
  ·rw [q5] at h6;cases h6
 ·rcases h6 with ⟨h6,_⟩ | ⟨b',h6,h7⟩
  ·rw [q6] at h6;cases h6
  ·rw [q6] at h6;cases h6
   exact .inr ⟨b,cs,T,fz,h7,q7,q8,by rw [h3];exact q9⟩
theorem Be_ {t:Ty} {bytes:Nat} {x' y':Opd} (hok:zs_ P o.op (.append t bytes x' y')=true) (ev:zq_ Γ (.append t bytes x' y') fr st nx K):MOK P o [x',y'] fr (Zz_ [x',y'] fr) true st nx K:=by
 simp only [zq_,zc_.setK_eq] at ev
 simp only [zs_] at hok
 split at hok
 ·rename_i args ts ho
  simp only [Bool.and_eq_true] at hok
  obtain ⟨h1,h2⟩:=hok
  obtain ⟨x,y,rfl,hx,hy⟩:=Vt_ h1
  split at h2
  ·rename_i tt u hts
   simp only [Bool.and_eq_true] at h2
   obtain ⟨h2,h3⟩:=h2
   obtain ⟨e',hu⟩:=xs_ h3
   split at h2
   ·rename_i e he
    have he:=Qt_ he
    simp only [Bool.and_eq_true,decide_eq_true_eq] at h2
    obtain ⟨⟨⟨⟨h4,h5⟩,h6⟩,h7⟩,h8⟩:=h2
    obtain ⟨i,hi,hsz⟩:=qP_ h4
    obtain ⟨i',hi',hby⟩:=xD_ h5
    rw [hi] at hi' h8;cases hi'
    simp only at h8
    split at h8
    ·rename_i v hv
     simp only [beq_iff_eq] at h8
     have hts':ts=#[tt,u]:=Array.toList_inj.1 hts
     subst hts'
     have hex:∀ a:Act,execOp a.eval o=(do pure (.value (<- Builtin.append_ #[tt,u] o.type #[a.eval x,a.eval y]))):=fun a=>by rw [Qu_ ho];simp [builtin]
     obtain ⟨ys,ev1,hd⟩:=Yd_ ev
     obtain ⟨di1,di2⟩:=zaU_ ev
     have hyF:∀ j ∈ (y'.ev fr).ids0,j ∈ Zz_ [x',y'] fr:=fun j hj=>zT_ qE_ rfl j (by rw [<- di1];exact hj)
     split at ev1
     ·-- onto nil
      rename_i hb
      obtain ⟨⟨n1,n2⟩,hK⟩:=zj_ ev1
      refine Ks_ hK (fun _ _ h=>by cases h) fun {I w m a σ} hf hH ha hN=>?_
      have hv1:=hf.rv Z2_ hx;rw [hb] at hv1
      have hv1:a.eval x=.slice none 0 0:=hv1
      have hsrc:=hd hH (fun j hj=>ha j (hyF j hj)) (di2 (hf.rv qE_ hy))
      obtain ⟨news,g1,g2,g3,g4,g5⟩:=u2_ (P:=P) hsrc
      obtain ⟨w',ao',cap',r1,r2⟩:=Vw_ (ty:=o.type) (sLen:=0) (sCap:=0) (ao:=none) (src:=a.eval y) he (.inl ⟨e',hu⟩) hi hv (by rw [hsz];exact h8) (Nat.le_refl _) (Nat.zero_le _) (.inl ⟨rfl,rfl⟩) (by rw [hsz];exact g1) g2 (by rw [hsz];exact g4) g5 (by rw [hby,Nat.zero_add];exact n1) (by omega) (by omega)
      rw [hsz] at r2
      have hfr:Fr (fun _=>False) w w':=r2.fr.weak fun b e=>by cases e
      have hrow:=fun hs:QY_ I w w'=>Ju_ (nx:=nx) (m:=m) (x0:=([]:List t.den)) (ys:=ys) hs r2 g1 g3 (.inl rfl)
      have hsm:QY_ I w w':=fun b hb=>hfr.block b (hH.Ilt b hb) id
      obtain ⟨blk,k1,k2,k3⟩:=hrow hsm
      refine ⟨_,hex a,.slice ao' (0+ys.length) cap',w',blk,cap',ys.length,t.size,by rw [hv1];exact r1,hfr,fun b hb=>?_,fun _=>k2,fun _=>k3⟩
      rcases k1 b hb with h | h
      ·exact h
      ·cases h
     ·-- onto a row
      rename_i j hb
      split at ev1
      ·rename_i t' x0' hl
       obtain ⟨rfl,ev2⟩:=qH_ ev1
       obtain ⟨⟨n1,n2⟩,hK⟩:=zj_ ev2
       refine hS_ (i:=j) (x0:=x0') hl (zT_ Z2_ hb j (by simp [AV.ids,AV.ids1,AV.ids0])) rfl hK fun {I w m a σ} hf hH ha hok=>?_
       have hv1:=hf.rv Z2_ hx;rw [hb] at hv1
       obtain ⟨ao,len,cap,e1,hO⟩:=hv1
       obtain ⟨l1,l2,l3,l4,l5⟩:=BA_ hok hO
       subst l1;subst l2
       have hsrc:=hd hH (fun j hj=>ha j (hyF j hj)) (di2 (hf.rv qE_ hy))
       obtain ⟨news,g1,g2,g3,g4,g5⟩:=u2_ (P:=P) hsrc
       obtain ⟨w',ao',cap',r1,r2⟩:=Vw_ (ty:=o.type) (src:=a.eval y) he (.inl ⟨e',hu⟩) hi hv (by rw [hsz];exact h8) l3 l4 (by rw [hsz];exact l5) (by rw [hsz];exact g1) g2 (by rw [hsz];exact g4) g5 (by rw [hby];exact n1) n2 (by omega)
       rw [hsz] at r2
       exact ⟨ao,ao',cap',w',news,jq_ (hex a) (by rw [e1];exact r1),r2,g1,g3,hO⟩
      ·exact ev1.elim
     ·exact ev1.elim
    ·cases h8
   ·cases h2
  ·cases h2
 ·cases hok
theorem xV_ {I:Nat->Prop} {w:World} {t:Ty} {z:t.den} {n:Nat} {v:Value} (hz:RC I w t z v.cells.toList):EA I w t (List.replicate n z) fun k=>(Builtin.zeroCells v.cells n).toList[k]?:=by
 have hl:v.cells.size=t.size:=by have:=Zq_ t _ _ hz;simpa using this
 refine EA.replicate hz fun k hk=>?_
 rw [Array.getElem?_toList]
 show ((Array.range (n*v.cells.size)).map fun i=>v.cells[i % v.cells.size]!)[k]?=_
 rw [u9_ _ _ _ (by rw [hl];exact hk),hl]
theorem HK_ {t:Ty} {bytes:Nat} {z:t.den} {x' n':Opd} (hok:zs_ P o.op (.appendz t bytes z x' n')=true) (ev:zq_ Γ (.appendz t bytes z x' n') fr st nx K):MOK P o [x',n'] fr (Zz_ [x',n'] fr) true st nx K:=by
 simp only [zq_,zc_.setK_eq] at ev
 simp only [zs_] at hok
 split at hok
 ·rename_i args ts ho
  simp only [Bool.and_eq_true] at hok
  obtain ⟨h1,h2⟩:=hok
  obtain ⟨x,y,rfl,hx,hy⟩:=Vt_ h1
  split at h2
  ·rename_i tt u hts
   simp only [Bool.and_eq_true] at h2
   obtain ⟨h2,h3⟩:=h2
   have hu:∃ ik,P.underlying u=some (.int ik):=by
    unfold zcg_ at h3
    split at h3
    ·exact ⟨_,by assumption⟩
    ·cases h3
   obtain ⟨ik,hu⟩:=hu
   split at h2
   ·rename_i e he
    have he:=Qt_ he
    simp only [Bool.and_eq_true,decide_eq_true_eq] at h2
    obtain ⟨⟨⟨⟨h4,h5⟩,h6⟩,h7⟩,h8⟩:=h2
    obtain ⟨i,hi,hsz⟩:=qP_ h4
    obtain ⟨i',hi',hby⟩:=xD_ h5
    rw [hi] at hi';cases hi'
    obtain ⟨i',v,hi',hv,hz⟩:=XT_ h8
    rw [hi] at hi';cases hi'
    have hvs:v.cells.size=t.size:=by
     have:=Zq_ t _ _ (hz (fun _=>False) default);simpa using this
    have hone:∀ q ∈ v.cells.toList,q.oneCell'=true:=VK_ t _ _ (hz (fun _=>False) default)
    have hts':ts=#[tt,u]:=Array.toList_inj.1 hts
    subst hts'
    have hex:∀ a:Act,execOp a.eval o=(do pure (.value (<- Builtin.append_ #[tt,u] o.type #[a.eval x,a.eval y]))):=fun a=>by rw [Qu_ ho];simp [builtin]
    obtain ⟨kk,N,hN,ev1⟩:=Zr_ ev
    split at ev1
    ·rename_i hb
     obtain ⟨⟨n0,n1,n2⟩,hK⟩:=zj_ ev1
     refine Ks_ hK (fun _ _ h=>by cases h) fun {I w m a σ} hf hH ha hNu=>?_
     have hv1:=hf.rv Z2_ hx;rw [hb] at hv1
     have hv1:a.eval x=.slice none 0 0:=hv1
     have hv2:=hf.rv qE_ hy;rw [hN] at hv2
     have hv2:a.eval y=.int kk (N.toNat:Int):=by rw [(zp_ hv2).1];congr 1;omega
     have hnb:N.toNat*bytes<=140737488355328:=by
      have:((N.toNat*bytes:Nat):Int)<=140737488355328:=by rw [Int.natCast_mul,Int.toNat_of_nonneg n0];exact n1
      omega
     obtain ⟨w',ao',cap',r1,r2⟩:=Ym_ (ty:=o.type) (sLen:=0) (sCap:=0) (ao:=none) (n:=N.toNat) (k:=kk) (w:=w) he hu hi hv (by rw [hsz];exact hvs) (Nat.le_refl _) (Nat.zero_le _) (.inl ⟨rfl,rfl⟩) hone (by omega) (by rw [hby,Nat.zero_add];exact hnb) (by omega) (by omega)
     rw [hsz] at r2
     have hfr:Fr (fun _=>False) w w':=r2.fr.weak fun b e=>by cases e
     have hsm:QY_ I w w':=fun b hb=>hfr.block b (hH.Ilt b hb) id
     have hl:(List.replicate N.toNat z).length=N.toNat:=List.length_replicate
     rw [<- hl] at r2
     obtain ⟨blk,k1,k2,k3⟩:=Ju_ (nx:=nx) (m:=m) (x0:=([]:List t.den)) (ys:=List.replicate N.toNat z) hsm r2 (by rw [hl,Array.length_toList,QE_,hvs]) (by rw [hl];exact xV_ (hz _ _)) (.inl rfl)
     refine ⟨_,hex a,.slice ao' (0+N.toNat) cap',w',blk,cap',_,t.size,by rw [hv1,hv2];exact r1,hfr,fun b hb=>?_,fun _=>k2,fun _=>by rw [hl] at k3;exact k3⟩
     rcases k1 b hb with h | h
     ·exact h
     ·cases h
    ·rename_i j hb
     split at ev1
     ·rename_i t' x0' hl
      obtain ⟨rfl,ev2⟩:=qH_ ev1
      obtain ⟨⟨n0,n1',n2'⟩,hK⟩:=zj_ ev2
      have n1:((x0'.length:Int)+N)*bytes<=140737488355328:=n1'
      have n2:(x0'.length:Int)+N<=140737488355328:=n2'
      refine hS_ (i:=j) (x0:=x0') hl (zT_ Z2_ hb j (by simp [AV.ids,AV.ids1,AV.ids0])) rfl hK fun {I w m a σ} hf hH ha hok=>?_
      have hv1:=hf.rv Z2_ hx;rw [hb] at hv1
      obtain ⟨ao,len,cap,e1,hO⟩:=hv1
      obtain ⟨l1,l2,l3,l4,l5⟩:=BA_ hok hO
      subst l1;subst l2
      have hv2:=hf.rv qE_ hy;rw [hN] at hv2
      have hv2:a.eval y=.int kk (N.toNat:Int):=by rw [(zp_ hv2).1];congr 1;omega
      have hnb:(x0'.length+N.toNat)*bytes<=140737488355328:=by
       have:(((x0'.length+N.toNat)*bytes:Nat):Int)<=140737488355328:=by rw [Int.natCast_mul,Int.natCast_add,Int.toNat_of_nonneg n0];exact n1
       omega
      obtain ⟨w',ao',cap',r1,r2⟩:=Ym_ (ty:=o.type) (n:=N.toNat) (k:=kk) he hu hi hv (by rw [hsz];exact hvs) l3 l4 (by rw [hsz];exact l5) hone (by omega) (by rw [hby];exact hnb) (by omega) (by omega)
      rw [hsz] at r2
      have hll:(List.replicate N.toNat z).length=N.toNat:=List.length_replicate
      rw [<- hll] at r2
      refine ⟨ao,ao',cap',w',_,jq_ (hex a) (by rw [e1,hv2,hll];exact r1),r2,by rw [hll,Array.length_toList,QE_,hvs],by rw [hll];exact xV_ (hz _ _),hO⟩
     ·exact ev1.elim
    ·exact ev1.elim
   ·cases h2
  ·cases h2
 ·cases hok
end ops
section ops
variable {P:Program} {Γ:Env} {o:Oper} {L:List Opd} {fr:zg_} {F:List Nat} {wr:Bool} {st:zc_} {nx:Nat} {K:AV->zc_->Nat->Prop}
theorem zdF_ {x:Operand} (h:bC_ x=true) (a:Act):a.eval x=.slice none 0 0:=by
 unfold bC_ at h
 split at h
 ·rfl
 ·cases h
theorem bA_ {t:Ty} (hok:zs_ P o.op (.nilrow t)=true) (ev:zq_ Γ (.nilrow t) fr st nx K):MOK P o [] fr F wr st nx K:=by
 simp only [zq_] at ev
 simp only [zs_] at hok
 have hop:∃ x,bC_ x=true/\∀ a:Act,execOp a.eval o=(do pure (.value (<- (pure (a.eval x):Sem Value)))):=by
  split at hok
  ·rename_i x ho;exact ⟨x,hok,fun a=>by unfold execOp;rw [ho];rfl⟩
  ·rename_i x ho;exact ⟨x,hok,fun a=>by unfold execOp;rw [ho];rfl⟩
  ·cases hok
 obtain ⟨x,hx,hex⟩:=hop
 refine Ks_ ev (fun _ _ h=>by cases h) fun {I w m a σ} hf hH ha hu=>⟨_,hex a,.slice none 0 0,w,none,0,0,t.size,by rw [zdF_ hx a];rfl,Fr.refl _ _,fun b hb=>(by cases hb),fun _=>?_,fun _=>?_⟩
 ·exact ⟨M.push_sz _ _ _ _ _ _,(M.push_len _ _ _ _ _ _).symm,Nat.zero_le _,by rw [M.push_cap];exact Nat.zero_le _,.inl ⟨M.push_blk _ _ _ _ _ _,M.push_cap _ _ _ _ _ _⟩⟩
 ·exact ⟨none,0,0,rfl,.inr rfl,(M.push_len _ _ _ _ _ _).symm,(M.push_cap _ _ _ _ _ _).symm,Nat.le_refl _,Nat.zero_le _,.inl ⟨M.push_blk _ _ _ _ _ _,rfl,rfl⟩⟩
theorem zdJ_ {t k e:TypeId} {ts:Array TypeId} {ty:TypeId} {b:Nat} {es:Array MapEntry} {c:Nat} {w:World} (h0:ts[0]?=some t) (ht:P.underlying t=some (.map k e)) (hb:w.heap[b]?=some (.map es c)):
 (Builtin.len_ ts ty #[.map (some b)]).run P w=.ok (.int .i64 es.size) w:=by
 simp [Builtin.len_,h0,run_underlying ht,goInt,MapKept.run_getObj_map hb]
theorem zb3_ {x':Opd} (hok:zs_ P o.op (.mlen x')=true) (ev:zq_ Γ (.mlen x') fr st nx K):MOK P o [x'] fr (Zz_ [x'] fr) wr st nx K:=by
 simp only [zq_] at ev
 simp only [zs_] at hok
 split at hok
 ·rename_i args ts ho
  simp only [Bool.and_eq_true] at hok
  obtain ⟨h1,h2⟩:=hok
  obtain ⟨x,rfl,hx⟩:=Vu_ h1
  split at h2
  ·rename_i t ht
   obtain ⟨k,e,he⟩:=vY_ h2
   split at ev
   ·rename_i i hb
    split at ev
    ·rename_i q kt vt l hl
     obtain ⟨hn,ev⟩:=zj_ ev
     refine zL_ ev fun {I w m a σ} hf hH ha=>⟨Builtin.len_ ts o.type #[a.eval x],by rw [Qu_ ho];simp [builtin],.int .i64 l.length,?_,?_⟩
     ·exact ZD_ (Ww_ (by unfold maxLen;omega))
     ·have hi:σ i=some (.map q kt vt l):=by rw [ha i (zT_ qW_ hb i (by simp [AV.ids,AV.ids1,AV.ids0])),hl]
      obtain ⟨b,es,c,q1,q2,q3⟩:=hH.obj i _ hi
      have hv:=hf.rv qW_ hx;rw [hb] at hv
      obtain ⟨b',q4,q5,_⟩:=hv
      rw [q1] at q4;cases q4
      rw [q5,zdJ_ ht he q2,q3.1]
    ·exact ev.elim
   ·exact ev.elim
  ·cases h2
 ·cases hok
end ops
end Go.Eng
namespace Go.Eng
set_option linter.unusedVariables false
set_option linter.unusedSimpArgs false
open Go.RowKit
theorem Uz_ {u:Value} (h:bJ_ u=false):u.cells.toList=[u]:=by
 cases u<;>first | rfl | cases h
theorem zc6_ {I:Nat->Prop} {w:World} {m:M} {v:AV} {cv:Value} {c:List AV} (h:RV I w m v cv) (ha:v.isAgg=false) (hc:v.flat=some c):bJ_ cv=false:=by
 cases v with
 | undef=>cases hc
 | skp=>cases hc
 | tup=>cases hc
 | agg=>cases ha
 | fn f l c=>obtain ⟨fs,cs,rfl,_⟩:=h;rfl
 | int=>obtain ⟨rfl,_⟩:=h;rfl
 | bool=>cases (show cv=_ from h);rfl
 | kb=>cases (show cv=_ from h);rfl
 | str=>obtain ⟨s,rfl,_⟩:=h;rfl
 | nilp=>cases (show cv=_ from h);rfl
 | nilm=>cases (show cv=_ from h);rfl
 | nils=>cases (show cv=_ from h);rfl
 | ptr=>obtain ⟨_,_,rfl,_⟩:=h;rfl
 | imm=>obtain ⟨_,_,_,rfl,_⟩:=h;rfl
 | iptr=>obtain ⟨_,_,rfl,_⟩:=h;rfl
 | own=>obtain ⟨_,_,_,rfl,_⟩:=h;rfl
 | view=>obtain ⟨_,_,_,rfl,_⟩:=h;rfl
 | rptr=>obtain ⟨_,_,rfl,_⟩:=h;rfl
 | mapv=>obtain ⟨_,_,rfl,_⟩:=h;rfl
 | bview=>obtain ⟨_,_,_,rfl,_⟩:=h;rfl
 | yv=>cases (show cv=_ from h);rfl
 | fnp=>obtain ⟨_,_,rfl,_⟩:=h;rfl
theorem W8_ {t:Ty} {v:AV} {K:t.den->Prop} (ev:valK t v K):∃ x,K x/\∀ {I:Nat->Prop} {w:World} {m:M} {cv:Value},RV I w m v cv->XM_ I w t x cv:=by
 unfold valK at ev
 split at ev
 ·rename_i hg
  unfold oneK at ev
  split at ev
  ·rename_i c hc
   obtain ⟨x,hx,ev⟩:=vG_ ev
   ·refine ⟨x,ev,fun {I w m cv} h=>⟨wP_ (KD_ h hc) hx,?_⟩⟩
    cases ht:aggT t with
    | true=>
      rw [ht] at hg
      cases v with
      | agg l=>obtain ⟨cs,rfl,_⟩:=h;rfl
      | _=>cases hg
    | false=>
      rw [ht] at hg
      refine zc6_ h ?_ hc
      cases ha:v.isAgg with
      | false=>rfl
      | true=>rw [ha] at hg;cases hg
  ·exact ev.elim
 ·exact ev.elim
theorem w9_ (t:Ty) (x:t.den):∃ a,(∀ K,VA_ t x K=K a)/\∀ {I:Nat->Prop} {w:World} {m:M} {cv:Value},XM_ I w t x cv->RV1 I w m a cv:=by
 have sc:∀ {a:AV} {t:Ty} {x:t.den},aggT t=false->t.cells x=[a]->∀ {I:Nat->Prop} {w:World} {m:M} {cv:Value},XM_ I w t x cv->RV1 I w m a cv:=fun {a t x} ht hc {I w m cv} h=>by
  have h1:=Q8_ (m:=m) t x _ h.1
  rw [hc,Uz_ (h.2.trans ht)] at h1
  exact Ke_ h1.1
 have ag:∀ {t:Ty} {x:t.den},aggT t=true->∀ {I:Nat->Prop} {w:World} {m:M} {cv:Value},XM_ I w t x cv->RV1 I w m (.agg (t.cells x)) cv:=fun {t x} ht {I w m cv} h=>by
  have h1:=Q8_ (m:=m) t x _ h.1
  have h2:=h.2.trans ht
  cases cv<;>first | exact ⟨_,rfl,h1⟩ | cases h2
 cases t with
 | int k=>exact ⟨.int k x,fun _=>rfl,sc rfl rfl⟩
 | bool=>exact ⟨.bool x,fun _=>rfl,sc rfl rfl⟩
 | str=>exact ⟨.str x,fun _=>rfl,sc rfl rfl⟩
 | nil=>exact ⟨.agg [],fun _=>rfl,ag (t:=.nil) (x:=x) rfl⟩
 | cons a b=>exact ⟨.agg (Ty.cells (.cons a b) x),fun K=>by show qo_ _ _=_;exact ZS_ _ _,ag (t:=.cons a b) rfl⟩
 | sl t=>exact ⟨.imm t x,fun _=>rfl,sc rfl rfl⟩
section lists
variable {α β:Type} [DecidableEq α]
theorem xq_:∀ (l:List (α × β)) (k:α),(∀ h:qV_ l k < l.length,l[qV_ l k].1=k/\ZK_ l k=some l[qV_ l k].2)/\(¬ qV_ l k < l.length->ZK_ l k=none)
 | [],_=>⟨fun h=>absurd h (by simp),fun _=>rfl⟩
 | (a,b) :: r,k=>by
   obtain ⟨h1,h2⟩:=xq_ r k
   by_cases e:a=k
   ·have e1:qV_ ((a,b) :: r) k=0:=if_pos e
    have e2:ZK_ ((a,b) :: r) k=some b:=if_pos e
    refine ⟨fun h=>?_,fun h=>absurd (by rw [e1];simp) h⟩
    simp only [e1,e2,List.getElem_cons_zero];exact ⟨e,True.intro⟩
   ·have e1:qV_ ((a,b) :: r) k=qV_ r k+1:=if_neg e
    have e2:ZK_ ((a,b) :: r) k=ZK_ r k:=if_neg e
    refine ⟨fun h=>?_,fun h=>?_⟩
    ·have h':qV_ r k < r.length:=by rw [e1] at h;simpa using h
     simp only [e1,e2,List.getElem_cons_succ];exact h1 h'
    ·rw [e2];exact h2 fun h'=>h (by rw [e1];simpa using h')
theorem BM_:∀ (l:List (α × β)) (k:α) (v:β),yl_ l k v=if qV_ l k < l.length then l.set (qV_ l k) (k,v) else l++[(k,v)]
 | [],_,_=>rfl
 | (a,b) :: r,k,v=>by
   by_cases e:a=k
   ·have e1:qV_ ((a,b) :: r) k=0:=if_pos e
    rw [e1,if_pos (by simp)]
    show (if a=k then _ else _)=_
    rw [if_pos e];rfl
   ·have e1:qV_ ((a,b) :: r) k=qV_ r k+1:=if_neg e
    rw [e1]
    show (if a=k then _ else _)=_
    rw [if_neg e,BM_ r k v]
    by_cases h:qV_ r k < r.length
    ·rw [if_pos h,if_pos (by simpa using h)];rfl
    ·rw [if_neg h,if_neg (by simpa using h)];rfl
end lists
section ops
variable {P:Program} {Γ:Env} {o:Oper} {L:List Opd} {fr:zg_} {F:List Nat} {wr:Bool} {st:zc_} {nx:Nat} {K:AV->zc_->Nat->Prop}
theorem hX_ {t:TypeId} {kt:Ty} (h:BP_ P t kt=true):∃ k,kt=.int k/\P.underlying t=some (.int k):=by
 unfold BP_ at h
 split at h
 ·split at h
  ·rename_i k k' hk
   simp only [beq_iff_eq] at h
   subst h
   exact ⟨_,rfl,hk⟩
  ·cases h
 ·cases h
theorem XL_ {I:Nat->Prop} {w:World} {k:IntKind} {n:(Ty.int k).den} {cv:Value} (h:XM_ I w (.int k) n cv):cv=.int k n/\inK k n:=by
 obtain ⟨h1,h2⟩:=h
 rw [Uz_ h2] at h1
 simp only [RC,List.cons.injEq,and_true] at h1
 exact h1
theorem Vj_ {β:Type} {d:TypeDesc} {k:IntKind} {n:Int}:∀ (l:List (Int × β)) (es:List MapEntry) (i:Nat),l.length=es.length->(∀ j (h:j < l.length) (h':j < es.length),es[j].key=.int k l[j].1)->d=.int k->
 Instr.findNow d (.int k n) es i=some (if qV_ l n < l.length then (es[qV_ l n]?).map (fun e=>(i+qV_ l n,e.val)) else none)
 | [],[],i,_,_,_=>rfl
 | [],_ :: _,_,h,_,_=>by cases h
 | _ :: _,[],_,h,_,_=>by cases h
 | (a,b) :: l,e :: es,i,hl,h,hd=>by
   subst hd
   have h0:=h 0 (by simp) (by simp)
   simp only [List.getElem_cons_zero] at h0
   have hs:Instr.sameNow (.int k) (.int k n) e.key=some (n == a):=by rw [h0];simp [Instr.sameNow]
   unfold Instr.findNow
   rw [hs]
   by_cases e1:a=n
   ·have em:qV_ ((a,b) :: l) n=0:=if_pos e1
    rw [em,if_pos (by simp)]
    subst e1
    simp
   ·have em:qV_ ((a,b) :: l) n=qV_ l n+1:=if_neg e1
    have hb:(n == a)=false:=by simp;exact fun e=>e1 e.symm
    rw [em,hb]
    simp only []
    rw [Vj_ l es (i+1) (by simpa using hl) (fun j h1 h2=>by have:=h (j+1) (by simpa using h1) (by simpa using h2);simpa using this) rfl]
    by_cases hm:qV_ l n < l.length
    ·rw [if_pos hm,if_pos (by simpa using hm),List.getElem?_cons_succ,show i+1+qV_ l n=i+(qV_ l n+1) by omega]
    ·rw [if_neg hm,if_neg (by simpa using hm)]
theorem Hs_ {I:Nat->Prop} {w w':World} {q:Bool} {k:IntKind} {vt:Ty} {l:List (Int × vt.den)} {es:Array MapEntry} {c:Nat} {n:Int} {a:TypeId} (hE:kM_ I w q (.int k) vt l es c) (ha:P.underlying a=some (.int k)):
 (Instr.findKey a (.int k n) es.toList).run P w'=.ok (if qV_ l n < l.length then (es[qV_ l n]?).map (fun e=>(qV_ l n,e.val)) else none) w':=by
 have h:=Vj_ (d:=.int k) (k:=k) (n:=n) l es.toList 0 (by simpa using hE.1) (fun j h1 h2=>by
  have:=(hE.2.1 j h1 (by simpa using h2)).1
  have:=(XL_ this).1
  simpa using this) rfl
 simp only [Nat.zero_add,Array.getElem?_toList] at h
 unfold Instr.findKey
 rw [Sem.run_bind,run_underlying ha]
 simp only [Result.andThen,h]
 rfl
theorem WA_ {w:World} {e:Bool} {k:IntKind} {n:Int} {a:TypeId} (ha:P.underlying a=some (.int k)):(Instr.checkKey e 10000 a (.int k n)).run P w=.ok () w:=by
 show (Instr.checkKey e (9999+1) a (.int k n)).run P w=.ok () w
 unfold Instr.checkKey
 rw [Sem.run_bind,run_underlying ha]
 rfl
theorem zdd_ {t:TypeId} {ty:Ty} {z:ty.den} (h:W7_ P t ty z=true) (h2:YM_ P t ty=true):∃ v,(∀ w:World,(zeroValue t).run P w=.ok v w)/\∀ (I:Nat->Prop) (w:World),XM_ I w ty z v:=by
 obtain ⟨i,v,e1,e2,e3⟩:=XT_ h
 refine ⟨v,fun w=>Qd_ e1 e2,fun I w=>⟨e3 I w,?_⟩⟩
 unfold YM_ at h2
 rw [e1] at h2
 simp only [e2,beq_iff_eq] at h2
 rw [<- h2];cases v<;>rfl
theorem bF_ {I:Nat->Prop} {w:World} {q:Bool} {k:IntKind} {vt:Ty} {l:List (Int × vt.den)} {es:Array MapEntry} {c b:Nat} {n:Int} {t a e:TypeId} {z:vt.den} {ok:Bool} (hE:kM_ I w q (.int k) vt l es c) (ht:P.underlying t=some (.map a e)) (ha:P.underlying a=some (.int k))
 (hz:W7_ P e vt z=true) (hz2:YM_ P e vt=true) (hb:w.heap[b]?=some (.map es c)):
 ∃ r,XM_ I w vt ((ZK_ l n).getD z) r/\(Instr.lookup t (.map (some b)) (.int k n) ok).run P w=.ok (if ok then .tuple #[r,.bool (ZK_ l n).isSome] else r) w:=by
 obtain ⟨v,z1,z2⟩:=zdd_ hz hz2
 obtain ⟨h1,h2⟩:=xq_ l n
 have hf:=Hs_ (P:=P) (w':=w) (n:=n) hE ha
 by_cases hm:qV_ l n < l.length
 ·obtain ⟨k1,k2⟩:=h1 hm
  have hes:qV_ l n < es.size:=by rw [<- hE.1];exact hm
  rw [if_pos hm,Array.getElem?_eq_getElem hes] at hf
  refine ⟨es[qV_ l n].val,?_,?_⟩
  ·rw [k2];exact (hE.2.1 _ hm hes).2
  ·simp [Instr.lookup,run_underlying ht,MapKept.run_getObj_map hb,WA_ ha,hf,k2,Result.andThen]
 ·rw [if_neg hm] at hf
  refine ⟨v,?_,?_⟩
  ·rw [h2 hm];exact z2 I w
  ·simp [Instr.lookup,run_underlying ht,MapKept.run_getObj_map hb,WA_ ha,hf,h2 hm,z1,Result.andThen]
theorem zb5_ {kt vt:Ty} {z:vt.den} {ok:Bool} {x' k':Opd} (hok:zs_ P o.op (.mget kt vt z ok x' k')=true) (ev:zq_ Γ (.mget kt vt z ok x' k') fr st nx K):MOK P o [x',k'] fr (Zz_ [x',k'] fr) wr st nx K:=by
 simp only [zq_] at ev
 simp only [zs_] at hok
 split at hok
 ·rename_i t x k ok' ho
  simp only [Bool.and_eq_true,beq_iff_eq] at hok
  obtain ⟨⟨⟨rfl,hx⟩,hk⟩,ht⟩:=hok
  split at ht
  ·rename_i a b hm
   simp only [Bool.and_eq_true] at ht
   obtain ⟨⟨ha,hz⟩,hz2⟩:=ht
   obtain ⟨kk,rfl,hak⟩:=hX_ ha
   obtain ⟨n,ev,hn⟩:=W8_ ev
   split at ev
   ·rename_i i hb
    split at ev
    ·rename_i q kt' vt' l hl
     split at ev
     ·rename_i e1 e2 _ _
      subst e1;subst e2
      simp only [] at ev
      obtain ⟨av,ea,hav⟩:=w9_ vt' ((ZK_ l n).getD z)
      have main:∀ {I:Nat->Prop} {w:World} {m:M} {a:Act} {σ:Sto},FOn [x',k'] fr I w m a->HRel I w m σ->(∀ i ∈ Zz_ [x',k'] fr,σ i=st.get i)->∃ r,XM_ I w vt' ((ZK_ l n).getD z) r/\(Instr.lookup t (a.eval x) (a.eval k) ok').run P w=.ok (if ok' then .tuple #[r,.bool (ZK_ l n).isSome] else r) w:=fun {I w m a σ} hf hH ha'=>by
       have hi:σ i=some (.map q (.int kk) vt' l):=by rw [ha' i (zT_ Z2_ hb i (by simp [AV.ids,AV.ids1,AV.ids0])),hl]
       obtain ⟨b',es,c,q1,q2,q3⟩:=hH.obj i _ hi
       have hv:=hf.rv Z2_ hx;rw [hb] at hv
       obtain ⟨b'',q4,q5,_⟩:=hv
       rw [q1] at q4;cases q4
       have hkv:=(XL_ (hn (hf.rv qE_ hk))).1
       rw [q5,hkv]
       exact bF_ q3 hm hak hz hz2 q2
      have hex:∀ a:Act,execOp a.eval o=(do pure (.value (<- Instr.lookup t (a.eval x) (a.eval k) ok'))):=fun a=>by unfold execOp;rw [ho]
      cases ok' with
      | true=>
        simp only [ea] at ev
        refine zL_ ev fun {I w m a σ} hf hH ha'=>?_
        obtain ⟨r,r1,r2⟩:=main hf hH ha'
        exact ⟨_,hex a,_,⟨#[r,.bool (ZK_ l n).isSome],rfl,hav r1,rfl,trivial⟩,r2⟩
      | false=>
        simp only [ea] at ev
        refine zL_ ev fun {I w m a σ} hf hH ha'=>?_
        obtain ⟨r,r1,r2⟩:=main hf hH ha'
        exact ⟨_,hex a,_,jU_ (qk_ (hav r1)),r2⟩
     ·exact ev.elim
    ·exact ev.elim
   ·exact ev.elim
  ·cases ht
 ·cases hok
theorem vi_ {w:World} {b:Nat} {es:Array MapEntry} {c:Nat} {y:Go.Obj} (h:w.heap[b]?=some (.map es c)):(setObj b y).run P w=.ok () {w with heap:=w.heap.setIfInBounds b y}:=by
 simp [setObj,Sem.run,h]
theorem vj_ {w:World} {b:Nat} {x y:Go.Obj} (h:w.heap[b]?=some x):({w with heap:=w.heap.setIfInBounds b y}:World).heap[b]?=some y:=by
 have:=qe_ h
 simp [this]
theorem u6_ {w:World} {m:M} {i b:Nat} {y:Go.Obj} (hb:m.blk i=some b):Fr (fun b=>m.blk i=some b) w {w with heap:=w.heap.setIfInBounds b y}:=
 ⟨rfl,rfl,rfl,by simp,fun k _ hk=>by
  have hne:k ≠ b:=fun e=>hk (by rw [e];exact hb)
  simp [Array.getElem?_setIfInBounds_ne (Ne.symm hne)]⟩
theorem zak_ {k:IntKind} {n:Int} {w:World}:(Instr.keyThatStays (.int k n) (.int k n)).run P w=.ok (.int k n) w:=by
 simp [Instr.keyThatStays,Instr.sameBits]
theorem Hx_ {I:Nat->Prop} {w:World} {kt vt:Ty} {l:List (kt.den × vt.den)} {es:Array MapEntry} {c j:Nat} {f:MapEntry->MapEntry} {p:kt.den × vt.den} (h:kM_ I w true kt vt l es c) (hj:j < l.length)
 (hf:∀ h':j < es.size,XM_ I w kt p.1 (f es[j]).key/\XM_ I w vt p.2 (f es[j]).val/\(f es[j]).born=es[j].born):kM_ I w true kt vt (l.set j p) (es.modify j f) c:=by
 obtain ⟨h1,h2,h3,h4⟩:=h
 obtain ⟨h5,h6⟩:=h4 rfl
 have hj':j < es.size:=by omega
 obtain ⟨f1,f2,f3⟩:=hf hj'
 refine ⟨by simp [h1],fun i hi hi'=>?_,fun i hi=>?_,fun _=>⟨by simp [h5],fun i hi=>?_⟩⟩
 ·simp only [List.length_set] at hi
  simp only [Array.size_modify] at hi'
  rw [Array.getElem_modify]
  by_cases e:j=i
  ·subst e
   rw [if_pos rfl,List.getElem_set_self];exact ⟨f1,f2⟩
  ·rw [if_neg e,List.getElem_set_ne e];exact h2 i hi hi'
 ·simp only [Array.size_modify] at hi
  rw [Array.getElem_modify]
  split
  ·rename_i e;subst e;rw [f3];exact h3 _ hi
  ·exact h3 _ hi
 ·simp only [Array.size_modify] at hi
  rw [Array.getElem_modify]
  split
  ·rename_i e;subst e;rw [f3];exact h6 _ hi
  ·exact h6 _ hi
theorem Gz_ {I:Nat->Prop} {w:World} {kt vt:Ty} {l:List (kt.den × vt.den)} {es:Array MapEntry} {c:Nat} {p:kt.den × vt.den} {u v:Value} (h:kM_ I w true kt vt l es c) (hu:XM_ I w kt p.1 u) (hv:XM_ I w vt p.2 v):
 kM_ I w true kt vt (l++[p]) (es.push {key:=u,val:=v,born:=c}) (c+1):=by
 obtain ⟨h1,h2,h3,h4⟩:=h
 obtain ⟨h5,h6⟩:=h4 rfl
 refine ⟨by simp [h1],fun i hi hi'=>?_,fun i hi=>?_,fun _=>⟨by simp [h5],fun i hi=>?_⟩⟩
 ·simp only [Array.size_push] at hi'
  rw [Array.getElem_push]
  by_cases e:i < es.size
  ·rw [dif_pos e,List.getElem_append_left (by omega)];exact h2 i (by omega) e
  ·rw [dif_neg e,List.getElem_append_right (by omega)]
   simp only [List.getElem_singleton];exact ⟨hu,hv⟩
 ·simp only [Array.size_push] at hi
  rw [Array.getElem_push]
  by_cases e:i < es.size
  ·rw [dif_pos e];exact Nat.lt_succ_of_lt (h3 i e)
  ·rw [dif_neg e];exact Nat.lt_succ_self _
 ·simp only [Array.size_push] at hi
  rw [Array.getElem_push]
  by_cases e:i < es.size
  ·rw [dif_pos e];exact h6 i e
  ·rw [dif_neg e]
   show c=i
   omega
theorem zb0_ {kt vt:Ty} {x' k' v':Opd} (hok:zs_ P o.op (.mput kt vt x' k' v')=true) (ev:zq_ Γ (.mput kt vt x' k' v') fr st nx K):MOK P o [x',k',v'] fr (Zz_ [x',k',v'] fr) true st nx K:=by
 simp only [zq_,zc_.setK_eq] at ev
 simp only [zs_] at hok
 split at hok
 ·rename_i t x k v ho
  simp only [Bool.and_eq_true,beq_iff_eq] at hok
  obtain ⟨⟨⟨hx,hk⟩,hv⟩,ht⟩:=hok
  split at ht
  ·rename_i a b hm
   obtain ⟨kk,rfl,hak⟩:=hX_ ht
   obtain ⟨n,ev,hn⟩:=W8_ ev
   obtain ⟨y,ev,hy⟩:=W8_ ev
   split at ev
   ·rename_i i hb
    split at ev
    ·rename_i kt' vt' l hl
     split at ev
     ·rename_i e1 e2 _ _
      subst e1;subst e2
      simp only [] at ev
      have hiF:i ∈ Zz_ [x',k',v'] fr:=zT_ (x:=x') (by simp) hb i (by simp [AV.ids,AV.ids1,AV.ids0])
      refine zb2_ (Wt_ (ob:=.map true (.int kk) vt' l) (ob':=.map true (.int kk) vt' (yl_ l n y)) hl rfl rfl hiF rfl ev fun {I w m a' σ} _ hf hH ha'=>?_)
      have hi:σ i=some (.map true (.int kk) vt' l):=by rw [ha' i hiF,hl]
      obtain ⟨bb,es,c,q1,q2,q3⟩:=hH.obj i _ hi
      have hvx:=hf.rv (y:=x') (by simp) hx;rw [hb] at hvx
      obtain ⟨b'',q4,q5,_⟩:=hvx
      rw [q1] at q4;cases q4
      have hkr:=hn (hf.rv (y:=k') (by simp) hk)
      have hkv:=(XL_ hkr).1
      have hyr:=hy (hf.rv (y:=v') (by simp) hv)
      have hfr:=Hs_ (P:=P) (w':=w) (n:=n) q3 hak
      have hex:execOp a'.eval o=(do Instr.mapUpdate t (a'.eval x) (a'.eval k) (a'.eval v);pure .skip):=by unfold execOp;rw [ho]
      rw [BM_]
      by_cases hmi:qV_ l n < l.length
      ·have hes:qV_ l n < es.size:=by rw [<- q3.1];exact hmi
       rw [if_pos hmi,Array.getElem?_eq_getElem hes] at hfr
       have hkey:es[qV_ l n].key=.int kk n:=by
        have h1:=(XL_ (q3.2.1 _ hmi hes).1).1
        rw [((xq_ l n).1 hmi).1] at h1;exact h1
       refine ⟨undef,_,.inr ⟨Gv_ hex (w':={w with heap:=w.heap.setIfInBounds bb (.map (es.modify (qV_ l n) fun e=>{e with key:=.int kk n,val:=a'.eval v}) c)}) ?_,rfl⟩,u6_ q1,fun hs=>⟨bb,_,c,q1,vj_ q2,?_⟩,fun _=>trivial⟩
       ·rw [q5,hkv]
        simp [Instr.mapUpdate,run_underlying hm,MapKept.run_getObj_map q2,WA_ hak,hfr,hes,hkey,zak_,vi_ q2,Result.andThen]
       ·rw [if_pos hmi]
        refine Hx_ (q3.mono (fun _ h=>h) hs) hmi fun h'=>⟨?_,?_,rfl⟩
        ·rw [<- hkv];exact ⟨qb_ (fun _ h=>h) hs _ _ _ hkr.1,hkr.2⟩
        ·exact ⟨qb_ (fun _ h=>h) hs _ _ _ hyr.1,hyr.2⟩
      ·rw [if_neg hmi] at hfr
       refine ⟨undef,_,.inr ⟨Gv_ hex (w':={w with heap:=w.heap.setIfInBounds bb (.map (es.push {key:=.int kk n,val:=a'.eval v,born:=c}) (c+1))}) ?_,rfl⟩,u6_ q1,fun hs=>⟨bb,_,c+1,q1,vj_ q2,?_⟩,fun _=>trivial⟩
       ·rw [q5,hkv]
        simp [Instr.mapUpdate,run_underlying hm,MapKept.run_getObj_map q2,WA_ hak,hfr,vi_ q2,Result.andThen]
       ·rw [if_neg hmi]
        refine Gz_ (q3.mono (fun _ h=>h) hs) ?_ ?_
        ·rw [<- hkv];exact ⟨qb_ (fun _ h=>h) hs _ _ _ hkr.1,hkr.2⟩
        ·exact ⟨qb_ (fun _ h=>h) hs _ _ _ hyr.1,hyr.2⟩
     ·exact ev.elim
    ·exact ev.elim
   ·exact ev.elim
  ·cases ht
 ·cases hok
theorem zbx_ {x':Opd} (hok:zs_ P o.op (.rngm x')=true) (ev:zq_ Γ (.rngm x') fr st nx K):MOK P o [x'] fr (Zz_ [x'] fr) wr st nx K:=by
 simp only [zq_] at ev
 simp only [zs_] at hok
 split at hok
 ·rename_i t x ho
  simp only [Bool.and_eq_true] at hok
  obtain ⟨hx,ht⟩:=hok
  obtain ⟨k,e,ht⟩:=vY_ ht
  split at ev
  ·rename_i i hb
   split at ev
   ·rename_i kt vt l hl
    refine Ks_ ev (fun _ _ h=>by cases h) fun {I w m a σ} hf hH ha hu=>?_
    have hi:σ i=some (.map true kt vt l):=by rw [ha i (zT_ qW_ hb i (by simp [AV.ids,AV.ids1,AV.ids0])),hl]
    obtain ⟨bb,es,c,q1,q2,q3⟩:=hH.obj i _ hi
    have hvx:=hf.rv qW_ hx;rw [hb] at hvx
    have hvx0:RV0 I w m (.mapv i) (a.eval x):=hvx
    obtain ⟨b'',q4,q5,q6⟩:=hvx
    rw [q1] at q4;cases q4
    have hc:c=l.length:=by rw [(q3.2.2.2 rfl).1,q3.1]
    refine ⟨Instr.range t (a.eval x),by unfold execOp;rw [ho],.pointer (some ⟨w.heap.size,0,none⟩),w.alloc (.mapIter (some bb) l.length #[] l.length),some w.heap.size,0,0,0,?_,Fr.alloc _ _ _,fun b hb=>by cases hb;exact Nat.le_refl _,fun hs=>⟨w.heap.size,bb,M.push_blk _ _ _ _ _ _,ky_ _ _,?_⟩,fun _=>bD_⟩
    ·rw [q5,<- hc];simp [Instr.range,run_underlying ht,MapKept.run_getObj_map q2]
    ·rw [q5] at hvx0
     exact qN_ (fun _ h=>h) hs (M.push_le hu) _ _ hvx0
   ·exact ev.elim
  ·exact ev.elim
 ·cases hok
theorem zcw_ {x:Opd} {i:Nat} {off:Nat} (h:x.ev fr=.ptr i off):i ∈ Zz_ [x] fr:=zT_ qW_ h i (by simp [AV.ids,AV.ids1,AV.ids0])
theorem zdA_ {w:World} {n:Nat} {seen:List Nat} {es:Array MapEntry} {c b bm:Nat} {T:TypeId} (hb:w.heap[b]?=some (.mapIter (some bm) n seen.toArray n)) (hm:w.heap[bm]?=some (.map es c)) (hc:c=n) (hs:es.size=n) (hbn:∀ i (h:i < es.size),es[i].born=i):
 ∃ ch,zel_ n seen ch/\((ch=none/\(Instr.next (.pointer (some ⟨b,0,none⟩)) false T).run P w=.ok (.tuple #[.bool false]) w)\/
   ∃ i,ch=some i/\∃ (h:i < es.size) (w1:World),w1.heap=w.heap/\w1.os=w.os/\w1.tape=w.tape/\w1.output=w.output/\
     (Instr.next (.pointer (some ⟨b,0,none⟩)) false T).run P w=.ok (.tuple #[.bool true,es[i].key,es[i].val]) {w1 with heap:=w1.heap.setIfInBounds b (.mapIter (some bm) n (seen++[i]).toArray n)}):=by
 have hold:∀ x ∈ es.toList,x.born < n:=fun x hx=>by
  obtain ⟨i,hi,rfl⟩:=List.mem_iff_getElem.1 hx
  simp only [Array.length_toList] at hi
  rw [Array.getElem_toList,hbn i hi];omega
 have htest:(!seen.toArray.isEmpty && !es.isEmpty && es.all (fun x=>decide (x.born >= n)))=false:=by
  by_cases h0:0 < es.size
  ·have:es.all (fun x=>decide (x.born >= n))=false:=by
    rw [Bool.eq_false_iff]
    intro h
    have h1:=Array.all_eq_true.1 h 0 h0
    rw [decide_eq_true_eq,hbn 0 h0] at h1
    omega
   rw [this];simp
  ·have:es.isEmpty=true:=by simp only [Array.isEmpty,decide_eq_true_eq];omega
   rw [this];simp
 have hL:∀ x ∈ (Array.filter (fun e=>!seen.toArray.contains e.born) es).toList,∃ (i:Nat) (h:i < es.size),x=es[i]/\i ∉ seen:=fun x hx=>by
  simp only [Array.toList_filter,List.mem_filter] at hx
  obtain ⟨i,hi,e⟩:=List.mem_iff_getElem.1 hx.1
  simp only [Array.length_toList] at hi
  rw [Array.getElem_toList] at e
  refine ⟨i,hi,e.symm,fun h=>?_⟩
  have:=hx.2
  rw [<- e,hbn i hi] at this
  simp [h] at this
 have hmem:∀ x ∈ (Array.filter (fun e=>!seen.toArray.contains e.born) es).toList,x.born < n:=fun x hx=>hold x (by
  rw [Array.toList_filter] at hx;exact (List.mem_filter.1 hx).1)
 have hno:(Array.filter (fun e=>!seen.toArray.contains e.born) es).size=0->∀ i,i < n->i ∈ seen:=fun h0 i hi=>by
  have hi':i < es.size:=by omega
  have:¬ es[i] ∈ Array.filter (fun e=>!seen.toArray.contains e.born) es:=by
   rw [Array.eq_empty_of_size_eq_zero h0];simp
  rw [Array.mem_filter] at this
  simp only [Array.getElem_mem,hbn i hi',true_and] at this
  simpa using this
 simp only [Instr.next,getObj,Sem.run_bind,Sem.run,hb,hm,Result.andThen,htest,Bool.false_eq_true,if_false]
 generalize Array.filter (fun e=>!seen.toArray.contains e.born) es=L at hL hmem hno ⊢
 have e1:L.filter (fun x=>decide (x.born < n))=L:=Array.filter_eq_self.2 (fun x hx=>by simpa using hmem x (by simpa using hx))
 have e2:L.filter (fun x=>decide (x.born >= n))=#[]:=by
  rw [Array.filter_eq_empty_iff]
  intro x hx
  have:=hmem x (by simpa using hx)
  simp
  omega
 simp only [e1,e2,Array.append_empty]
 by_cases h0:L.size=0
 ·refine ⟨none,hno h0,.inl ⟨rfl,?_⟩⟩
  have:L=#[]:=Array.eq_empty_of_size_eq_zero h0
  subst this
  simp [choose,Sem.run,Question.forced]
 ·have hne:L.isEmpty=false:=by simp [Array.isEmpty,h0]
  simp only [hne,Bool.false_eq_true,if_false,Array.empty_append,Array.size_map]
  have hch:∃ (j:Nat) (w1:World),j < L.size/\(w1.heap=w.heap/\w1.os=w.os/\w1.tape=w.tape/\w1.output=w.output)/\(choose (Question.mapNext L.size)).run P w=.ok j w1:=by
   by_cases hf:L.size<=1
   ·exact ⟨0,w,by omega,⟨rfl,rfl,rfl,rfl⟩,by simp [choose,Sem.run,Question.forced,hf]⟩
   ·exact ⟨_,w.drew,Nat.mod_lt _ (by omega),⟨rfl,rfl,rfl,rfl⟩,by
     simp only [choose,Sem.run,Question.forced,decide_eq_true_eq,hf,if_false,Question.cut]
     rfl⟩
  obtain ⟨j,w1,hj,hal,hrun⟩:=hch
  obtain ⟨i,hi,hx,hns⟩:=hL L[j] (by simp)
  refine ⟨some i,⟨by omega,hns⟩,.inr ⟨i,rfl,hi,w1,hal.1,hal.2.1,hal.2.2.1,hal.2.2.2,?_⟩⟩
  simp only [hrun,Array.getElem?_map,Array.getElem?_eq_getElem hj,Option.map_some,Sem.run_bind,setObj,Sem.run,Result.andThen,hx,hbn i hi,hc]
  simp [hal.1,hb]
theorem zbN_ {x':Opd} {X0:Bool->Nat->Prop} {I0 I:Nat->Prop} {w0 w:World} {m:M} {a:Act} (hok:zs_ P o.op (.nxtm x')=true) (hf:FOn [x'] fr I w m a) (hs:HS X0 I0 w0 st.get I w m) (ev:zq_ Γ (.nxtm x') fr st nx K):
 ∃ v st1,K v st1 nx/\JN_ P o a w (YL_ X0 I0 w0 I w m st1.get v nx nx):=by
 simp only [zq_] at ev
 simp only [zs_] at hok
 split at hok
 ·rename_i x ho
  split at ev
  ·rename_i i off hb
   split at ev
   ·split at ev
    ·rename_i vv n seen hl
     split at ev
     ·rename_i j
      split at ev
      ·rename_i kt vt l hj
       obtain ⟨hln,ev⟩:=zj_ ev
       have hv:=hf.rv qW_ hok;rw [hb] at hv
       obtain ⟨b',mb,q1,q2,q3⟩:=hs.H.obj i _ hl
       obtain ⟨b,q5,q6,_⟩:=hv
       rw [q1] at q5;cases q5
       obtain ⟨bb,es,c,g1,g2,g3⟩:=hs.H.obj j _ hj
       have q3':=q3
       obtain ⟨b2,q7,q8,q9⟩:=q3
       rw [g1] at q7;cases q7
       cases q8
       obtain ⟨s1,s2⟩:=g3.2.2.2 rfl
       have hsz:es.size=n:=by rw [<- g3.1,hln]
       obtain ⟨ch,hch,hr⟩:=zdA_ (P:=P) (T:=o.type) q2 g2 (by omega) hsz s2
       have ev:=ev ch hch
       have hex:execOp a.eval o=(do pure (.value (<- Instr.next (a.eval x) false o.type))):=by unfold execOp;rw [ho]
       rcases hr with ⟨rfl,hr⟩ | ⟨d,rfl,hd,w1,w1h,w1o,w1t,w1p,hr⟩
       ·refine ⟨_,st,ev,Kp_ (jq_ hex (by rw [q6];exact hr)) ⟨⟨#[.bool false],rfl,rfl,trivial⟩,hs,Evo.refl _ _ _,fun _ h=>.inl h⟩⟩
       ·have hdl:d < l.length:=by omega
        simp only [zc_.setK_eq] at ev
        rw [show ∀ z,l.getD d z=l[d] from fun z=>by rw [List.getD_eq_getElem?_getD,List.getElem?_eq_getElem hdl];rfl] at ev
        obtain ⟨a1,ea1,ha1⟩:=w9_ kt l[d].1
        obtain ⟨a2,ea2,ha2⟩:=w9_ vt l[d].2
        rw [ea1,ea2] at ev
        have key:=Wt_ (P:=P) (o:=o) (L:=[x']) (fr:=fr) (F:=Zz_ [x'] fr) (wr:=true) (X:=fun I' w' m' a'=>I'=I/\w'=w/\m'=m/\a'=a) (v:=.tup [.kb true,a1,a2]) (ob:=.miter (.mapv j) n seen) (ob':=.miter (.mapv j) n (seen++[d])) (K:=fun v' s' n'=>v'=.tup [.kb true,a1,a2]/\s'=st.set i (.miter (.mapv j) n (seen++[d]))/\n'=nx) hl rfl rfl (zcw_ hb) rfl ⟨rfl,rfl,rfl⟩ fun {I' w' m' a' σ'} hX _ _ _=>by
         obtain ⟨rfl,rfl,rfl,rfl⟩:=hX
         refine ⟨.tuple #[.bool true,es[d].key,es[d].val],{w1 with heap:=w1.heap.setIfInBounds b' (.mapIter (some mb) n (seen++[d]).toArray n)},.inl (jq_ hex (by rw [q6];exact hr)),⟨w1o,w1t,w1p,by simp [w1h],fun k _ hk=>?_⟩,fun hsm=>⟨b',mb,q1,?_,?_⟩,fun hsm=>?_⟩
         ·have hne:k ≠ b':=fun e=>hk (by rw [e];exact q1)
          simp [Array.getElem?_setIfInBounds_ne (Ne.symm hne),w1h]
         ·have:=qe_ q2
          simp [w1h,this]
         ·exact qN_ (fun _ h=>h) hsm (M.le_refl _) _ _ q3'
         ·obtain ⟨e1,e2⟩:=(g3.mono (fun _ h=>h) hsm).2.1 d hdl hd
          exact ⟨#[.bool true,es[d].key,es[d].val],rfl,rfl,ha1 e1,ha2 e2,trivial⟩
        obtain ⟨v,st1,nx',T,k1,⟨rfl,rfl,rfl⟩,k3,k4,k5⟩:=key
        refine ⟨_,_,ev,?_⟩
        have hrun:=k5 ⟨rfl,rfl,rfl,rfl⟩ hf hs (fun _ _=>rfl) (fun i h1 h2=>by omega)
        have hupd:upd st.get T (st.set i (.miter (.mapv j) n (seen++[d])))=(st.set i (.miter (.mapv j) n (seen++[d]))).get:=funext fun k=>by
         unfold upd
         split
         ·rfl
         ·rename_i hk;exact (k3 k hk).symm
        rw [hupd] at hrun;exact hrun
      ·exact ev.elim
     ·exact ev.elim
    ·exact ev.elim
   ·exact ev.elim
  ·exact ev.elim
 ·cases hok
theorem zcI_ {x':Opd} {X0:Bool->Nat->Prop} {I0 I:Nat->Prop} {w0 w:World} {m:M} {a:Act} (hok:zs_ P o.op (.entm x')=true) (hf:FOn [x'] fr I w m a) (hs:HS X0 I0 w0 st.get I w m) (ev:zq_ Γ (.entm x') fr st nx K):
 ∃ v st1,K v st1 nx/\JN_ P o a w (YL_ X0 I0 w0 I w m st1.get v nx nx):=by
 simp only [zq_] at ev
 simp only [zs_] at hok
 split at hok
 ·rename_i x ho
  split at ev
  ·rename_i i off hb
   split at ev
   ·split at ev
    ·rename_i vv n seen hl
     split at ev
     ·rename_i j
      split at ev
      ·rename_i kt vt l hj
       obtain ⟨⟨hln,hsn,hsd⟩,ev⟩:=zj_ ev
       have hv:=hf.rv qW_ hok;rw [hb] at hv
       obtain ⟨b',mb,q1,q2,q3⟩:=hs.H.obj i _ hl
       obtain ⟨b,q5,q6,_⟩:=hv
       rw [q1] at q5;cases q5
       obtain ⟨bb,es,c,g1,g2,g3⟩:=hs.H.obj j _ hj
       obtain ⟨b2,q7,q8,q9⟩:=q3
       rw [g1] at q7;cases q7
       cases q8
       obtain ⟨s1,s2⟩:=g3.2.2.2 rfl
       have hsz:es.size=n:=by rw [<- g3.1,hln]
       generalize hde:seen.getLastD 0=d at ev hsd
       have hd:d < es.size:=by omega
       have hex:execOp a.eval o=(do pure (.value (<- Instr.entry (a.eval x)))):=by unfold execOp;rw [ho]
       rw [show ∀ z,l.getD d z=l[d] from fun z=>by rw [List.getD_eq_getElem?_getD,List.getElem?_eq_getElem hsd];rfl] at ev
       obtain ⟨a1,ea1,ha1⟩:=w9_ kt l[d].1
       obtain ⟨a2,ea2,ha2⟩:=w9_ vt l[d].2
       rw [ea1,ea2] at ev
       have hback:seen.toArray.back?=some d:=by
        rw [List.back?_toArray,<- hde,List.getLastD_eq_getLast?]
        cases hg:seen.getLast? with
        | none=>rw [List.getLast?_eq_none_iff] at hg;rw [hg] at hsn;cases hsn
        | some z=>rfl
       have hfind:es.find? (fun e=>e.born == d)=some es[d]:=by
        rw [Array.find?_eq_some_iff_getElem]
        refine ⟨by simp [s2 d hd],d,hd,rfl,fun k hk=>?_⟩
        have hk':k < es.size:=by omega
        simp [s2 k hk'];omega
       have hcn:c=n:=by omega
       have hr:(Instr.entry (.pointer (some ⟨b',0,none⟩))).run P w=.ok (.tuple #[es[d].key,es[d].val]) w:=by
        simp [Instr.entry,getObj,Sem.run_bind,Sem.run,q2,g2,Result.andThen,hback,hcn,hfind]
       obtain ⟨e1,e2⟩:=g3.2.1 d hsd hd
       exact ⟨_,st,ev,Kp_ (jq_ hex (by rw [q6];exact hr)) ⟨⟨#[es[d].key,es[d].val],rfl,ha1 e1,ha2 e2,trivial⟩,hs,Evo.refl _ _ _,fun _ h=>.inl h⟩⟩
      ·exact ev.elim
     ·exact ev.elim
    ·exact ev.elim
   ·exact ev.elim
  ·exact ev.elim
 ·cases hok
end ops
end Go.Eng
