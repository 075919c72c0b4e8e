/- Parts of the proof: EMem. No condition. -/
import Derived.Test.YtimkdohmkfjfaaaGreatDoorXK00
import Derived.RowKit3
import Derived.Laws.Sem
import Derived.Below
import Derived.Laws.World
import Derived.Laws.Entries
import Derived.Laws.Strings
namespace Go.Eng
set_option linter.unusedVariables false
set_option linter.unusedSimpArgs false
open Go.RowKit
structure Reg where
 dp:Nat->Prop
 wc:World
structure M where
 blk:Nat->Option Nat
 cap:Nat->Nat
 len:Nat->Nat
 sz:Nat->Nat
 used:Nat->Prop
 rg:Nat->Reg
def noR:Nat->Reg:=fun _=>⟨fun _=>False,default⟩
def M.same (m m':M) (i:Nat):Prop:=m'.blk i=m.blk i/\m'.cap i=m.cap i/\m'.len i=m.len i/\m'.sz i=m.sz i/\m'.rg i=m.rg i
theorem M.same_refl (m:M) (i:Nat):m.same m i:=⟨rfl,rfl,rfl,rfl,rfl⟩
theorem M.same_trans {a b c:M} {i:Nat} (h:a.same b i) (k:b.same c i):a.same c i:=⟨k.1.trans h.1,k.2.1.trans h.2.1,k.2.2.1.trans h.2.2.1,k.2.2.2.1.trans h.2.2.2.1,k.2.2.2.2.trans h.2.2.2.2⟩
def M.le (m m':M):Prop:=(∀ i,m.used i->m'.used i)/\∀ i,m.used i->m.same m' i
theorem M.le_refl (m:M):m.le m:=⟨fun _ h=>h,fun _ _=>m.same_refl _⟩
theorem M.le_trans {a b c:M} (h:a.le b) (k:b.le c):a.le c:=⟨fun i hi=>k.1 i (h.1 i hi),fun i hi=>M.same_trans (h.2 i hi) (k.2 i (h.1 i hi))⟩
def inK (k:IntKind) (n:Int):Prop:=k.min<=n/\n<=k.max
def zO_ (s:ByteArray):List Int:=s.data.toList.map fun b=>(b.toNat:Int)
def RC (I:Nat->Prop) (w:World):(t:Ty)->t.den->List Value->Prop
 | .int k,n,cs=>cs=[.int k n]/\inK k n
 | .bool,b,cs=>cs=[.bool b]
 | .str,l,cs=>∃ s:ByteArray,cs=[.string s]/\l=zO_ s/\s.size<=maxLen
 | .nil,_,cs=>cs=[]
 | .cons a b,x,cs=>∃ c1 c2,cs=c1++c2/\RC I w a x.1 c1/\RC I w b x.2 c2
 | .sl t,l,cs=>∃ ao len cap,cs=[.slice ao len cap]/\len=l.length/\len<=cap/\cap<=maxLen/\
    (0 < len->∃ b o,ao=some ⟨b,o,none⟩/\I b/\∀ i (h:i < l.length),∃ es,RC I w t l[i] es/\∀ j (hj:j < es.length),w.cell? ⟨b,o+i*t.size+j,none⟩=some es[j])
def RS (I:Nat->Prop) (w:World) (t:Ty) (l:List t.den) (ao:Option Addr) (len cap:Nat):Prop:=
 len=l.length/\len<=cap/\cap<=maxLen/\
    (0 < len->∃ b o,ao=some ⟨b,o,none⟩/\I b/\∀ i (h:i < l.length),∃ es,RC I w t l[i] es/\∀ j (hj:j < es.length),w.cell? ⟨b,o+i*t.size+j,none⟩=some es[j])
theorem xk_ {I:Nat->Prop} {w:World} {t:Ty} {l:List t.den} {cs:List Value}:RC I w (.sl t) l cs ↔ ∃ ao len cap,cs=[.slice ao len cap]/\RS I w t l ao len cap:=by
 simp only [RC,RS]
theorem Zi_ {I:Nat->Prop} {w:World}:∀ (t:Ty) (x:t.den) (cs:List Value),RC I w t x cs->cs.length=t.size
 | .int _,_,_,h=>by simp only [RC] at h;simp [h.1,Ty.size]
 | .bool,_,_,h=>by simp only [RC] at h;simp [h,Ty.size]
 | .str,_,_,h=>by simp only [RC] at h;obtain ⟨s,h,_⟩:=h;simp [h,Ty.size]
 | .nil,_,_,h=>by simp only [RC] at h;simp [h,Ty.size]
 | .cons a b,x,cs,h=>by
   simp only [RC] at h
   obtain ⟨c1,c2,rfl,h1,h2⟩:=h
   simp [Ty.size,Zi_ a _ _ h1,Zi_ b _ _ h2]
 | .sl t,l,cs,h=>by simp only [RC] at h;obtain ⟨_,_,_,h,_⟩:=h;simp [h,Ty.size]
def qF_ (I:Nat->Prop) (w w':World):Prop:=∀ b,I b->w'.heap[b]?=w.heap[b]?
theorem qF_.cell {I:Nat->Prop} {w w':World} (h:qF_ I w w') {b o:Nat} (hb:I b):w'.cell? ⟨b,o,none⟩=w.cell? ⟨b,o,none⟩:=by
 simp only [World.cell?,h b hb]
theorem Zm_ {I I':Nat->Prop} {w w':World} (hI:∀ b,I b->I' b) (hs:qF_ I w w'):∀ (t:Ty) (x:t.den) (cs:List Value),RC I w t x cs->RC I' w' t x cs
 | .int _,_,_,h=>by simpa only [RC] using h
 | .bool,_,_,h=>by simpa only [RC] using h
 | .str,_,_,h=>by simpa only [RC] using h
 | .nil,_,_,h=>by simpa only [RC] using h
 | .cons a b,x,cs,h=>by
   simp only [RC] at h ⊢
   obtain ⟨c1,c2,rfl,h1,h2⟩:=h
   exact ⟨c1,c2,rfl,Zm_ hI hs a _ _ h1,Zm_ hI hs b _ _ h2⟩
 | .sl t,l,cs,h=>by
   simp only [RC] at h ⊢
   obtain ⟨ao,len,cap,rfl,h1,h2,h3,h4⟩:=h
   refine ⟨ao,len,cap,rfl,h1,h2,h3,fun h0=>?_⟩
   obtain ⟨b,o,rfl,hb,h5⟩:=h4 h0
   refine ⟨b,o,rfl,hI b hb,fun i hi=>?_⟩
   obtain ⟨es,he,hc⟩:=h5 i hi
   exact ⟨es,Zm_ hI hs t _ _ he,fun j hj=>by rw [hs.cell hb];exact hc j hj⟩
theorem WK_ {I I':Nat->Prop} {w w':World}:∀ (t:Ty) (x:t.den) (cs:List Value),t.plain=true->RC I w t x cs->RC I' w' t x cs
 | .int _,_,_,_,h=>by simpa only [RC] using h
 | .bool,_,_,_,h=>by simpa only [RC] using h
 | .str,_,_,_,h=>by simpa only [RC] using h
 | .nil,_,_,_,h=>by simpa only [RC] using h
 | .cons a b,x,cs,e,h=>by
   have he:a.plain=true/\b.plain=true:=by
    simp only [Ty.plain] at e
    split at e
    ·exact ⟨‹_›,e⟩
    ·cases e
   simp only [RC] at h ⊢
   obtain ⟨c1,c2,rfl,h1,h2⟩:=h
   exact ⟨c1,c2,rfl,WK_ a _ _ he.1 h1,WK_ b _ _ he.2 h2⟩
 | .sl _,_,_,e,_=>by cases e
theorem gc_ {I I':Nat->Prop} {w w':World} (hI:∀ b,I b->I' b) (hs:qF_ I w w') {t:Ty} {l:List t.den} {ao:Option Addr} {len cap:Nat}
 (h:RS I w t l ao len cap):RS I' w' t l ao len cap:=by
 have:=Zm_ hI hs (.sl t) l _ (xk_.2 ⟨ao,len,cap,rfl,h⟩)
 obtain ⟨ao',len',cap',he,h'⟩:=xk_.1 this
 simp only [List.cons.injEq,Value.slice.injEq,and_true] at he
 obtain ⟨rfl,rfl,rfl⟩:=he
 exact h'
def RO (m:M) (id:Nat) (ao:Option Addr) (len cap:Nat):Prop:=
 m.used id/\len=m.len id/\cap=m.cap id/\len<=cap/\cap<=maxLen/\((m.blk id=none/\ao=none/\cap=0)\/∃ b,m.blk id=some b/\ao=some ⟨b,0,none⟩)
def RW (m:M) (id off n:Nat) (ao:Option Addr) (len cap:Nat):Prop:=
 m.used id/\len=n/\len<=cap/\off+cap<=m.cap id/\m.cap id<=maxLen/\((m.blk id=none/\ao=none/\cap=0)\/∃ b o,m.blk id=some b/\ao=some ⟨b,o,none⟩/\(0 < cap->o=off*m.sz id))
def RV0 (I:Nat->Prop) (w:World) (m:M):AV->Value->Prop
 | .undef,v=>v.oneCell'=true
 | .skp,_=>False
 | .int k n,v=>v=.int k n/\inK k n
 | .bool b,v=>v=.bool b
 | .kb b,v=>v=.bool b
 | .str l,v=>∃ s:ByteArray,v=.string s/\l=zO_ s/\s.size<=maxLen
 | .nilp,v=>v=.pointer none
 | .nilm,v=>v=.map none
 | .nils,v=>v=.slice none 0 0
 | .ptr i o,v=>∃ b,m.blk i=some b/\v=.pointer (some ⟨b,o,none⟩)/\m.used i
 | .imm t x,v=>∃ ao len cap,v=.slice ao len cap/\RS I w t x ao len cap
 | .iptr t x i off,v=>∃ b o,v=.pointer (some ⟨b,o+i*t.size+off,none⟩)/\I b/\i < x.length/\
    ∀ i (h:i < x.length),∃ es,RC I w t x[i] es/\∀ j (hj:j < es.length),w.cell? ⟨b,o+i*t.size+j,none⟩=some es[j]
 | .own i,v=>∃ ao len cap,v=.slice ao len cap/\RO m i ao len cap
 | .view i off n,v=>∃ ao len cap,v=.slice ao len cap/\RW m i off n ao len cap
 | .rptr i j off,v=>∃ b,m.blk i=some b/\v=.pointer (some ⟨b,j*m.sz i+off,none⟩)/\m.used i
 | .mapv i,v=>∃ b,m.blk i=some b/\v=.map (some b)/\m.used i
 | .bview i off n _,v=>∃ b cap,m.blk i=some b/\v=.slice (some ⟨b,off,none⟩) n cap/\n<=cap/\cap<=maxLen/\m.used i
 | .yv l,v=>v=.func (.yield l) #[] #[]
 | .ai k,v=>∃ n,v=.int k n/\inK k n
 | .fnp f i,v=>∃ b,m.blk i=some b/\v=.func (.func f) #[] #[.pointer (some ⟨b,0,none⟩)]/\m.used i
 | .jsl i t x,v=>(∃ ao len cap,v=.slice ao len cap/\RS (m.rg i).dp (m.rg i).wc t x ao len cap)/\m.used i
 | .jptr i t x k off,v=>(∃ b o,v=.pointer (some ⟨b,o+k*t.size+off,none⟩)/\(m.rg i).dp b/\k < x.length/\
    ∀ i' (h:i' < x.length),∃ es,RC (m.rg i).dp (m.rg i).wc t x[i'] es/\∀ j (hj:j < es.length),(m.rg i).wc.cell? ⟨b,o+i'*t.size+j,none⟩=some es[j])/\m.used i
 | .agg _,_=>False
 | .tup _,_=>False
 | .fn _ _ _,_=>False
def z0_ (I:Nat->Prop) (w:World) (m:M):List AV->List Value->Prop
 | [],[]=>True
 | a :: l,v :: r=>RV0 I w m a v/\z0_ I w m l r
 | _,_=>False
def RV1 (I:Nat->Prop) (w:World) (m:M):AV->Value->Prop
 | .agg l,v=>∃ cs:Array Value,v=.agg cs/\z0_ I w m l cs.toList
 | a,v=>RV0 I w m a v
def q5_ (I:Nat->Prop) (w:World) (m:M):List AV->List Value->Prop
 | [],[]=>True
 | a :: l,v :: r=>RV1 I w m a v/\q5_ I w m l r
 | _,_=>False
def RV2 (I:Nat->Prop) (w:World) (m:M):AV->Value->Prop
 | .fn f l c,v=>∃ fs cs:Array Value,v=.func (.func f) fs cs/\q5_ I w m l fs.toList/\q5_ I w m c cs.toList
 | a,v=>RV1 I w m a v
def kn_ (I:Nat->Prop) (w:World) (m:M):List AV->List Value->Prop
 | [],[]=>True
 | a :: l,v :: r=>RV2 I w m a v/\kn_ I w m l r
 | _,_=>False
def RV (I:Nat->Prop) (w:World) (m:M):AV->Value->Prop
 | .undef,_=>True
 | .skp,v=>v=Go.undef
 | .tup l,v=>∃ cs:Array Value,v=.tuple cs/\q5_ I w m l cs.toList
 | a,v=>RV2 I w m a v
theorem KC_ {I:Nat->Prop} {w:World} {m:M} {a:AV} {v:Value} (h:RV0 I w m a v):RV1 I w m a v:=by
 cases a with
 | agg l=>exact (h:False).elim
 | _=>exact h
theorem kP_ {I:Nat->Prop} {w:World} {m:M} {a:AV} {v:Value} (h:RV1 I w m a v):
 RV0 I w m a v\/∃ l,∃ cs:Array Value,a=.agg l/\v=.agg cs/\z0_ I w m l cs.toList:=by
 cases a with
 | agg l=>obtain ⟨cs,rfl,h⟩:=h;exact .inr ⟨l,cs,rfl,rfl,h⟩
 | _=>exact .inl h
theorem qz_ {I:Nat->Prop} {w:World} {m:M} {a:AV} {v:Value} (h:RV1 I w m a v):RV2 I w m a v:=by
 cases a with
 | fn f l c=>exact (h:False).elim
 | _=>exact h
theorem QW_ {I:Nat->Prop} {w:World} {m:M} {a:AV} {v:Value} (h:RV2 I w m a v):
 RV1 I w m a v\/∃ f l c,∃ fs cs:Array Value,a=.fn f l c/\v=.func (.func f) fs cs/\q5_ I w m l fs.toList/\q5_ I w m c cs.toList:=by
 cases a with
 | fn f l c=>obtain ⟨fs,cs,rfl,h⟩:=h;exact .inr ⟨f,l,c,fs,cs,rfl,rfl,h⟩
 | _=>exact .inl h
theorem Jj_ {I:Nat->Prop} {w:World} {m:M} {a:AV} {v:Value} (h:RV2 I w m a v):RV I w m a v:=by
 cases a with
 | tup l=>exact (h:False).elim
 | undef=>trivial
 | skp=>exact (h:False).elim
 | _=>exact h
theorem XO_ {I:Nat->Prop} {w:World} {m:M} {a:AV} {v:Value} (h:RV I w m a v):
 a=.undef\/(a=.skp/\v=Go.undef)\/RV2 I w m a v\/(∃ l,∃ cs:Array Value,a=.tup l/\v=.tuple cs/\q5_ I w m l cs.toList):=by
 cases a with
 | undef=>exact .inl rfl
 | skp=>exact .inr (.inl ⟨rfl,h⟩)
 | tup l=>obtain ⟨cs,rfl,h⟩:=h;exact .inr (.inr (.inr ⟨l,cs,rfl,rfl,h⟩))
 | _=>exact .inr (.inr (.inl h))
theorem RV_0 {I:Nat->Prop} {w:World} {m:M} {a:AV} {v:Value} (h:RV0 I w m a v):RV I w m a v:=Jj_ (qz_ (KC_ h))
section mono
variable {I I':Nat->Prop} {w w':World} {m m':M} (hI:∀ b,I b->I' b) (hs:qF_ I w w') (hm:m.le m')
include hm
theorem zcu_ {i:Nat} {ao:Option Addr} {len cap:Nat} (h:RO m i ao len cap):RO m' i ao len cap:=by
 obtain ⟨h1,h2,h3,h4,h5,h6⟩:=h
 obtain ⟨e1,e2,e3,e4,e5⟩:=hm.2 i h1
 exact ⟨hm.1 i h1,by rw [e3];exact h2,by rw [e2];exact h3,h4,h5,by rw [e1];exact h6⟩
theorem zco_ {i off n:Nat} {ao:Option Addr} {len cap:Nat} (h:RW m i off n ao len cap):RW m' i off n ao len cap:=by
 obtain ⟨h1,h2,h3,h4,h5,h6⟩:=h
 obtain ⟨e1,e2,e3,e4,e5⟩:=hm.2 i h1
 exact ⟨hm.1 i h1,h2,h3,by rw [e2];exact h4,by rw [e2];exact h5,by rw [e1,e4];exact h6⟩
include hI hs
theorem kp_:∀ (a:AV) (v:Value),RV0 I w m a v->RV0 I' w' m' a v
 | .undef,_,h=>h
 | .skp,_,h=>h.elim
 | .int _ _,_,h=>h
 | .bool _,_,h=>h
 | .kb _,_,h=>h
 | .str _,_,h=>h
 | .nilp,_,h=>h
 | .nilm,_,h=>h
 | .nils,_,h=>h
 | .ptr i o,v,h=>by
   obtain ⟨b,h1,h2,h3⟩:=h
   exact ⟨b,by rw [(hm.2 i h3).1];exact h1,h2,hm.1 i h3⟩
 | .imm t x,v,h=>by
   obtain ⟨ao,len,cap,rfl,h⟩:=h
   exact ⟨ao,len,cap,rfl,gc_ hI hs h⟩
 | .iptr t x i off,v,h=>by
   obtain ⟨b,o,rfl,hb,hi,h⟩:=h
   refine ⟨b,o,rfl,hI b hb,hi,fun i hi=>?_⟩
   obtain ⟨es,he,hc⟩:=h i hi
   exact ⟨es,Zm_ hI hs t _ _ he,fun j hj=>by rw [hs.cell hb];exact hc j hj⟩
 | .own i,v,h=>by obtain ⟨ao,len,cap,rfl,h⟩:=h;exact ⟨ao,len,cap,rfl,zcu_ hm h⟩
 | .view i o n,v,h=>by obtain ⟨ao,len,cap,rfl,h⟩:=h;exact ⟨ao,len,cap,rfl,zco_ hm h⟩
 | .rptr i j o,v,h=>by
   obtain ⟨b,h1,h2,h3⟩:=h
   exact ⟨b,by rw [(hm.2 i h3).1];exact h1,by rw [(hm.2 i h3).2.2.2.1];exact h2,hm.1 i h3⟩
 | .mapv i,v,h=>by
   obtain ⟨b,h1,h2,h3⟩:=h
   exact ⟨b,by rw [(hm.2 i h3).1];exact h1,h2,hm.1 i h3⟩
 | .bview i off n t,v,h=>by
   obtain ⟨b,cap,h1,h2,h3,h4,h5⟩:=h
   exact ⟨b,cap,by rw [(hm.2 i h5).1];exact h1,h2,h3,h4,hm.1 i h5⟩
 | .yv _,_,h=>h
 | .ai _,_,h=>h
 | .fnp f i,v,h=>by
   obtain ⟨b,h1,h2,h3⟩:=h
   exact ⟨b,by rw [(hm.2 i h3).1];exact h1,h2,hm.1 i h3⟩
 | .jsl i t x,v,h=>⟨by rw [(hm.2 i h.2).2.2.2.2];exact h.1,hm.1 i h.2⟩
 | .jptr i t x k o,v,h=>⟨by rw [(hm.2 i h.2).2.2.2.2];exact h.1,hm.1 i h.2⟩
 | .agg _,_,h=>h.elim
 | .tup _,_,h=>h.elim
 | .fn _ _ _,_,h=>h.elim
theorem ZS_:∀ (l:List AV) (r:List Value),z0_ I w m l r->z0_ I' w' m' l r
 | [],[],_=>trivial
 | a :: l,v :: r,h=>⟨kp_ hI hs hm a v h.1,ZS_ l r h.2⟩
 | [],_ :: _,h=>h.elim
 | _ :: _,[],h=>h.elim
theorem GR_ (a:AV) (v:Value) (h:RV1 I w m a v):RV1 I' w' m' a v:=by
 rcases kP_ h with h' | ⟨l,cs,rfl,rfl,h'⟩
 ·exact KC_ (kp_ hI hs hm _ _ h')
 ·exact ⟨cs,rfl,ZS_ hI hs hm _ _ h'⟩
theorem W1_:∀ (l:List AV) (r:List Value),q5_ I w m l r->q5_ I' w' m' l r
 | [],[],_=>trivial
 | a :: l,v :: r,h=>⟨GR_ hI hs hm a v h.1,W1_ l r h.2⟩
 | [],_ :: _,h=>h.elim
 | _ :: _,[],h=>h.elim
theorem XS_ (a:AV) (v:Value) (h:RV2 I w m a v):RV2 I' w' m' a v:=by
 rcases QW_ h with h' | ⟨f,l,c,fs,cs,rfl,rfl,h',h''⟩
 ·exact qz_ (GR_ hI hs hm _ _ h')
 ·exact ⟨fs,cs,rfl,W1_ hI hs hm _ _ h',W1_ hI hs hm _ _ h''⟩
theorem K1_:∀ (l:List AV) (r:List Value),kn_ I w m l r->kn_ I' w' m' l r
 | [],[],_=>trivial
 | a :: l,v :: r,h=>⟨XS_ hI hs hm a v h.1,K1_ l r h.2⟩
 | [],_ :: _,h=>h.elim
 | _ :: _,[],h=>h.elim
theorem U8_ (a:AV) (v:Value) (h:RV I w m a v):RV I' w' m' a v:=by
 rcases XO_ h with rfl | ⟨rfl,rfl⟩ | h' | ⟨l,cs,rfl,rfl,h'⟩
 ·trivial
 ·rfl
 ·exact Jj_ (XS_ hI hs hm _ _ h')
 ·exact ⟨cs,rfl,W1_ hI hs hm _ _ h'⟩
end mono
def VH_ (I:Nat->Prop) (w:World) (t:Ty) (x:List t.den) (cs:Array Value):Prop:=
 ∀ i (h:i < x.length),∃ es,RC I w t x[i] es/\∀ j (hj:j < es.length),cs[i*t.size+j]?=some es[j]
def hC_:Value->Bool | .agg _=>true | _=>false
def WI_ (I:Nat->Prop) (w:World) (t:Ty) (x:t.den) (v:Value):Prop:=RC I w t x v.cells.toList/\hC_ v=b2_ t
def kX_ (I:Nat->Prop) (w:World) (sq:Bool) (kt vt:Ty) (l:List (kt.den × vt.den)) (es:Array MapEntry) (clock:Nat):Prop:=
 l.length=es.size/\(∀ i (h:i < l.length) (h':i < es.size),WI_ I w kt l[i].1 es[i].key/\WI_ I w vt l[i].2 es[i].val)/\
 (∀ i (h:i < es.size),es[i].born < clock)/\(sq=true->clock=es.size/\∀ i (h:i < es.size),es[i].born=i)
def VF_ (fz:Nat × Nat) (n:Nat):Prop:=∀ o,o < n->fz.1<=o->¬ o < fz.2
theorem VF_.zero (n:Nat):VF_ (0,0) n:=fun _ _ _ h=>by simp at h
def FzR (u:Prop) (fz:Nat × Nat) (n:Nat):Prop:=VF_ fz n/\(u\/¬ (fz.1<=n/\n < fz.2))
theorem FzR.zero (u:Prop) (n:Nat):FzR u (0,0) n:=⟨VF_.zero n,.inr fun h=>by simp at h⟩
def Ql_ (r:Go.Loop):Nat->Go.Loop
 | 0=>{r with state:=.ready,pending:=none}
 | 1=>{r with state:=.busy,pending:=none}
 | 2=>{r with state:=.done,pending:=some .ret}
 | c+3=>{r with state:=.done,pending:=some (.exit c)}
def zM_ (I:Nat->Prop) (w:World) (m:M) (id:Nat):Obj->Prop
 | .dead=>True
 | .reg _ _=>True
 | .rowm t x i L=>m.sz id=t.size/\x.length=m.len id/\x.length<=m.cap id/\m.cap id<=maxLen/\i < x.length/\
    ∃ (r:Nat) (cl:List AV) (b:Nat) (vs:Array Value) (T:TypeId) (fz:Nat × Nat),L=.jsl r t [] :: cl/\m.used r/\cl.length=t.size/\m.blk id=some b/\w.heap[b]?=some (.cells vs T fz)/\FzR (t=.int .u8) fz vs.size/\vs.size=m.cap id*t.size/\
      ∀ k (h:k < x.length),∃ es:List Value,es.length=t.size/\(k < i->RC I w t x[k] es)/\(i < k->RC (m.rg r).dp (m.rg r).wc t x[k] es)/\(k=i->z0_ I w m cl es)/\∀ j (hj:j < es.length),vs[k*t.size+j]?=some es[j]
 | .box l=>∃ (b:Nat) (cs:Array Value) (T:TypeId) (fz:Nat × Nat),m.blk id=some b/\w.heap[b]?=some (.cells cs T fz)/\VF_ fz cs.size/\z0_ I w m l cs.toList
 | .row _ t x=>m.sz id=t.size/\x.length=m.len id/\x.length<=m.cap id/\m.cap id<=maxLen/\((m.blk id=none/\m.cap id=0)\/
    ∃ (b:Nat) (cs:Array Value) (T:TypeId) (fz:Nat × Nat),m.blk id=some b/\w.heap[b]?=some (.cells cs T fz)/\FzR (t=.int .u8) fz cs.size/\cs.size=m.cap id*t.size/\VH_ I w t x cs)
 | .map sq kt vt l=>∃ (b:Nat) (es:Array MapEntry) (clock:Nat),m.blk id=some b/\w.heap[b]?=some (.map es clock)/\kX_ I w sq kt vt l es clock
 | .iter l p=>∃ (b:Nat) (s:ByteArray),m.blk id=some b/\w.heap[b]?=some (.stringIter s p)/\l=zO_ s/\s.size<=maxLen
 | .lrec r c=>∃ (b:Nat),m.blk id=some b/\w.heap[b]?=some (.loop (Ql_ r c))
 | .miter v n seen=>∃ (b mb:Nat),m.blk id=some b/\w.heap[b]?=some (.mapIter (some mb) n seen.toArray n)/\RV0 I w m v (.map (some mb))
 | .rowp t x l c=>m.sz id=t.size/\l=m.len id/\x.length<=m.cap id/\m.cap id<=maxLen/\c=m.cap id/\l<=m.cap id/\x.length<=l/\((m.blk id=none/\m.cap id=0)\/
    ∃ (b:Nat) (cs:Array Value) (T:TypeId) (fz:Nat × Nat),m.blk id=some b/\w.heap[b]?=some (.cells cs T fz)/\FzR (t=.int .u8) fz cs.size/\cs.size=m.cap id*t.size/\VH_ I w t x cs)
def ShB (u w:World) (b:Nat):Prop:=w.heap[b]?=u.heap[b]?\/∃ (cs cs':Array Value) (T:TypeId) (fz:Nat × Nat),u.heap[b]?=some (.cells cs T fz)/\w.heap[b]?=some (.cells cs' T fz)/\cs'.size=cs.size/\∀ j:Nat,cs'[j]?=cs[j]?\/∃ k n n',cs[j]?=some (.int k n)/\cs'[j]?=some (.int k n')/\inK k n'
def XV_ (w:World) (b:Nat):Prop:=∀ (cs:Array Value) (T:TypeId) (fz:Nat × Nat),w.heap[b]?=some (.cells cs T fz)->VF_ fz cs.size
def gd_ (u w:World) (wr kn:Bool) (b:Nat):Prop:=ShB u w b/\(kn=true->w.heap[b]?=u.heap[b]?)/\(wr=true->XV_ u b)
def Obj.mut:Obj->Bool
 | .dead=>false
 | .reg _ _=>false
 | .row fz _ _=>!fz
 | _=>true
def Obj.live:Obj->Bool
 | .dead=>false
 | .reg _ _=>false
 | _=>true
abbrev Sto:=Nat->Option Obj
structure HRel (I:Nat->Prop) (w:World) (m:M) (σ:Sto):Prop where
 lt:∀ i,σ i ≠ none->m.used i
 obj:∀ i o,σ i=some o->zM_ I w m i o
 inj:∀ i j o o' b,σ i=some o->σ j=some o'->o.live=true->o'.live=true->m.blk i=some b->m.blk j=some b->i=j
 notI:∀ i o b,σ i=some o->o.mut=true->m.blk i=some b->¬ I b
 isI:∀ i t x b,σ i=some (.row true t x)->m.blk i=some b->I b
 Ilt:∀ b,I b->b < w.heap.size
 gar:∀ i wr kn b,σ i=some (.reg wr kn)->(m.rg i).dp b->b < w.heap.size/\¬ I b/\(∀ j o',σ j=some o'->o'.live=true->m.blk j ≠ some b)/\gd_ (m.rg i).wc w wr kn b
 rdj:∀ i j wr kn wr' kn' b,σ i=some (.reg wr kn)->σ j=some (.reg wr' kn')->(m.rg i).dp b->(m.rg j).dp b->i=j
theorem ZR_ {w:World} {b:Nat} {x:Go.Obj} (h:w.heap[b]?=some x):b < w.heap.size:=by
 rw [Array.getElem?_eq_some_iff] at h;exact h.1
theorem zM_.lt {I:Nat->Prop} {w:World} {m:M} {id b:Nat} {o:Obj} (h:zM_ I w m id o) (hl:o.live=true) (hb:m.blk id=some b):b < w.heap.size:=by
 cases o with
 | dead=>cases hl
 | reg _ _=>cases hl
 | rowm t x i L=>
   obtain ⟨_,_,_,_,_,r,cl,b',vs,T,fz,_,_,_,e,h,_⟩:=h
   rw [hb] at e;cases e;exact ZR_ h
 | box l=>obtain ⟨b',cs,T,fz,e,h,_⟩:=h;rw [hb] at e;cases e;exact ZR_ h
 | row fz t x=>
   obtain ⟨_,_,_,_,h⟩:=h
   rcases h with ⟨e,_⟩ | ⟨b',cs,T,fz,e,h,_⟩
   ·rw [hb] at e;cases e
   ·rw [hb] at e;cases e;exact ZR_ h
 | map q kt vt l=>obtain ⟨b',cs,T,e,h,_⟩:=h;rw [hb] at e;cases e;exact ZR_ h
 | iter l p=>obtain ⟨b',s,e,h,_⟩:=h;rw [hb] at e;cases e;exact ZR_ h
 | lrec r c=>obtain ⟨b',e,h⟩:=h;rw [hb] at e;cases e;exact ZR_ h
 | miter v n s=>obtain ⟨b',mb,e,h,_⟩:=h;rw [hb] at e;cases e;exact ZR_ h
 | rowp t x l c=>
   obtain ⟨_,_,_,_,_,_,_,h⟩:=h
   rcases h with ⟨e,_⟩ | ⟨b',cs,T,fz,e,h,_⟩
   ·rw [hb] at e;cases e
   ·rw [hb] at e;cases e;exact ZR_ h
structure Fr (X:Nat->Prop) (w w':World):Prop where
 os:w'.os=w.os
 tape:w'.tape=w.tape
 output:w'.output=w.output
 size:w.heap.size<=w'.heap.size
 block:∀ k,k < w.heap.size->¬ X k->w'.heap[k]?=w.heap[k]?
theorem Fr.refl (X:Nat->Prop) (w:World):Fr X w w:=⟨rfl,rfl,rfl,Nat.le_refl _,fun _ _ _=>rfl⟩
theorem Fr.trans {X Y:Nat->Prop} {a b c:World} (h:Fr X a b) (k:Fr Y b c) (hY:∀ i,i < a.heap.size->Y i->X i):Fr X a c:=
 ⟨k.os.trans h.os,k.tape.trans h.tape,k.output.trans h.output,Nat.le_trans h.size k.size,fun i hi hx=>
  (k.block i (Nat.lt_of_lt_of_le hi h.size) (fun hy=>hx (hY i hi hy))).trans (h.block i hi hx)⟩
theorem Fr.below {X:Nat->Prop} {w w':World} (h:Fr X w w') (hX:∀ b,b < w.heap.size->¬ X b):Below w.heap.size w w':=
 ⟨h.os,h.tape,h.output,h.size,fun k hk=>h.block k hk (hX k hk)⟩
theorem Fr.of_below {w w':World} (h:Below w.heap.size w w') (X:Nat->Prop):Fr X w w':=
 ⟨h.os,h.tape,h.output,h.size,fun k hk _=>h.block k hk⟩
theorem Fr.alloc (X:Nat->Prop) (w:World) (o:Go.Obj):Fr X w (w.alloc o):=
 Fr.of_below ((Below.refl _ _).alloc (Nat.le_refl _) o) X
theorem Fr.weak {X Y:Nat->Prop} {w w':World} (h:Fr X w w') (hXY:∀ b,X b->Y b):Fr Y w w':=
 ⟨h.os,h.tape,h.output,h.size,fun k hk hy=>h.block k hk (fun hx=>hy (hXY k hx))⟩
structure HS (X0:Bool->Nat->Prop) (I0:Nat->Prop) (w0:World) (σ:Sto) (I:Nat->Prop) (w:World) (m:M):Prop where
 H:HRel I w m σ
 fr0:Fr (X0 true) w0 w
 Isub:∀ b,I0 b->I b
 Inew:∀ b,I b->I0 b\/w0.heap.size<=b\/X0 true b
 own:∀ i o b,σ i=some o->o.mut=true->m.blk i=some b->X0 true b\/w0.heap.size<=b
 ownL:∀ i o b,σ i=some o->o.live=true->m.blk i=some b->X0 false b\/w0.heap.size<=b
 Ifz:∀ b,I b->I0 b\/XV_ w b
 regw:∀ i kn b,σ i=some (.reg true kn)->(m.rg i).dp b->X0 true b\/w0.heap.size<=b
structure Evo (I:Nat->Prop) (w:World) (m:M) (I':Nat->Prop) (w':World) (m':M):Prop where
 up:∀ b,I b->I' b
 same:qF_ I w w'
 m:m.le m'
theorem Evo.refl (I:Nat->Prop) (w:World) (m:M):Evo I w m I w m:=⟨fun _ h=>h,fun _ _=>rfl,m.le_refl⟩
theorem Evo.trans {I I' I'':Nat->Prop} {w w' w'':World} {m m' m'':M} (h:Evo I w m I' w' m') (k:Evo I' w' m' I'' w'' m''):Evo I w m I'' w'' m'':=
 ⟨fun b hb=>k.up b (h.up b hb),fun b hb=>(k.same b (h.up b hb)).trans (h.same b hb),M.le_trans h.m k.m⟩
theorem Evo.rv {I I':Nat->Prop} {w w':World} {m m':M} (h:Evo I w m I' w' m') {a:AV} {v:Value} (hv:RV I w m a v):RV I' w' m' a v:=U8_ h.up h.same h.m a v hv
theorem VH_.mono {I I':Nat->Prop} {w w':World} (hI:∀ b,I b->I' b) (hs:qF_ I w w') {t:Ty} {x:List t.den} {cs:Array Value} (h:VH_ I w t x cs):VH_ I' w' t x cs:=fun i hi=>by
 obtain ⟨es,h6,h7⟩:=h i hi
 exact ⟨es,Zm_ hI hs t _ _ h6,h7⟩
theorem kX_.mono {I I':Nat->Prop} {w w':World} (hI:∀ b,I b->I' b) (hs:qF_ I w w') {q:Bool} {kt vt:Ty} {l:List (kt.den × vt.den)} {es:Array MapEntry} {c:Nat} (h:kX_ I w q kt vt l es c):kX_ I' w' q kt vt l es c:=
 ⟨h.1,fun i h1 h2=>⟨⟨Zm_ hI hs kt _ _ (h.2.1 i h1 h2).1.1,(h.2.1 i h1 h2).1.2⟩,⟨Zm_ hI hs vt _ _ (h.2.1 i h1 h2).2.1,(h.2.1 i h1 h2).2.2⟩⟩,h.2.2⟩
theorem zM_.mono {I I':Nat->Prop} {w w':World} {m m':M} {id:Nat} {o:Obj} (hI:∀ b,I b->I' b) (hs:qF_ I w w') (hm:m.le m') (hid:m.used id)
 (hb:o.live=true->∀ b,m.blk id=some b->w'.heap[b]?=w.heap[b]?) (h:zM_ I w m id o):zM_ I' w' m' id o:=by
 obtain ⟨e1,e2,e3,e4,e5⟩:=hm.2 id hid
 cases o with
 | dead=>trivial
 | reg wr kn=>trivial
 | rowm t x i L=>
   obtain ⟨h1,h2,h3,h4,h5,r,cl,b,vs,T,fz,h6,h7,h8,h9,h10,h11,h12,h13⟩:=h
   have hr:=hm.2 r h7
   refine ⟨by rw [e4];exact h1,by rw [e3];exact h2,by rw [e2];exact h3,by rw [e2];exact h4,h5,r,cl,b,vs,T,fz,h6,hm.1 r h7,h8,by rw [e1];exact h9,by rw [hb rfl b h9];exact h10,h11,by rw [e2];exact h12,fun k hk=>?_⟩
   obtain ⟨es,q1,q2,q3,q4,q5⟩:=h13 k hk
   exact ⟨es,q1,fun h=>Zm_ hI hs t _ _ (q2 h),fun h=>by rw [hr.2.2.2.2];exact q3 h,fun h=>ZS_ hI hs hm _ _ (q4 h),q5⟩
 | box l=>
   obtain ⟨b,cs,T,fz,h0,h1,hz,h2⟩:=h
   exact ⟨b,cs,T,fz,by rw [e1];exact h0,by rw [hb rfl b h0];exact h1,hz,ZS_ hI hs hm _ _ h2⟩
 | row fz t x=>
   obtain ⟨h1,h2,h3,h4,h5⟩:=h
   refine ⟨by rw [e4];exact h1,by rw [e3];exact h2,by rw [e2];exact h3,by rw [e2];exact h4,?_⟩
   rw [e1,e2]
   rcases h5 with h5 | ⟨b,cs,T,f,h6,h7,hz,h8,h9⟩
   ·exact .inl h5
   ·exact .inr ⟨b,cs,T,f,h6,by rw [hb rfl b h6];exact h7,hz,h8,h9.mono hI hs⟩
 | map q kt vt l=>
   obtain ⟨b,es,c,h0,h1,h2⟩:=h
   exact ⟨b,es,c,by rw [e1];exact h0,by rw [hb rfl b h0];exact h1,h2.mono hI hs⟩
 | iter l p=>
   obtain ⟨b,s,h0,h1,h2⟩:=h
   exact ⟨b,s,by rw [e1];exact h0,by rw [hb rfl b h0];exact h1,h2⟩
 | lrec r c=>
   obtain ⟨b,h0,h1⟩:=h
   exact ⟨b,by rw [e1];exact h0,by rw [hb rfl b h0];exact h1⟩
 | miter v n s=>
   obtain ⟨b,mb,h0,h1,h2⟩:=h
   exact ⟨b,mb,by rw [e1];exact h0,by rw [hb rfl b h0];exact h1,kp_ hI hs hm _ _ h2⟩
 | rowp t x l c=>
   obtain ⟨h1,h2,h3,h4,k1,k2,k3,h5⟩:=h
   refine ⟨by rw [e4];exact h1,by rw [e3];exact h2,by rw [e2];exact h3,by rw [e2];exact h4,by rw [e2];exact k1,by rw [e2];exact k2,k3,?_⟩
   rw [e1,e2]
   rcases h5 with h5 | ⟨b,cs,T,f,h6,h7,hz,h8,h9⟩
   ·exact .inl h5
   ·exact .inr ⟨b,cs,T,f,h6,by rw [hb rfl b h6];exact h7,hz,h8,h9.mono hI hs⟩
end Go.Eng
namespace Go.Eng
set_option linter.unusedVariables false
set_option linter.unusedSimpArgs false
open Go.RowKit
section lists
variable {I:Nat->Prop} {w:World} {m:M}
theorem Zy_:∀ {l:List AV} {r:List Value},z0_ I w m l r->l.length=r.length
 | [],[],_=>rfl
 | _ :: _,_ :: _,h=>by simp [Zy_ h.2]
 | [],_ :: _,h=>h.elim
 | _ :: _,[],h=>h.elim
theorem Jl_:∀ {l:List AV} {r:List Value} (n:Nat),z0_ I w m l r->z0_ I w m (l.drop n) (r.drop n)
 | _,_,0,h=>h
 | [],[],_+1,_=>trivial
 | _ :: _,_ :: _,n+1,h=>Jl_ n h.2
 | [],_ :: _,_,h=>h.elim
 | _ :: _,[],_,h=>h.elim
theorem W3_:∀ {l:List AV} {r:List Value} (n:Nat),z0_ I w m l r->z0_ I w m (l.take n) (r.take n)
 | [],[],0,_=>trivial
 | _ :: _,_ :: _,0,_=>trivial
 | [],[],_+1,_=>trivial
 | _ :: _,_ :: _,n+1,h=>⟨h.1,W3_ n h.2⟩
 | [],_ :: _,_,h=>h.elim
 | _ :: _,[],_,h=>h.elim
theorem jB_:∀ {l l':List AV} {r r':List Value},z0_ I w m l r->z0_ I w m l' r'->z0_ I w m (l++l') (r++r')
 | [],_,[],_,_,h'=>h'
 | _ :: _,_,_ :: _,_,h,h'=>⟨h.1,jB_ h.2 h'⟩
 | [],_,_ :: _,_,h,_=>h.elim
 | _ :: _,_,[],_,h,_=>h.elim
theorem Jk_:∀ {l:List AV} {r:List Value} (off:Nat) {c:List AV} {s:List Value},z0_ I w m l r->z0_ I w m c s->off+c.length<=l.length->
 z0_ I w m (put l off c) (r.take off++s++r.drop (off+s.length))
 | l,r,off,[],[],h,_,_=>by
   have:put l off []=l:=by cases off<;>cases l<;>rfl
   rw [this];simpa using h
 | _ :: _,_ :: _,0,c :: cs,v :: vs,h,hc,hl=>by
   simp only [List.length_cons] at hl
   have:=Jk_ 0 h.2 hc.2 (by omega)
   simp only [List.take_zero,List.nil_append,Nat.zero_add] at this
   refine ⟨hc.1,?_⟩
   simpa using this
 | [],_,0,_ :: _,_,_,_,hl=>by simp at hl
 | [],_,_+1,_ :: _,_,_,_,hl=>by simp at hl
 | _ :: _,_ :: _,off+1,c :: cs,v :: vs,h,hc,hl=>by
   have:=Jk_ off h.2 hc (by simp only [List.length_cons] at hl ⊢;omega)
   refine ⟨h.1,?_⟩
   simp only [List.length_cons] at this ⊢
   rw [show off+1+(vs.length+1)=(off+(vs.length+1))+1 by omega]
   simpa using this
 | _,_,_,[],_ :: _,_,hc,_=>hc.elim
 | _,_,_,_ :: _,[],_,hc,_=>hc.elim
 | _ :: _,[],_,_,_,h,_,_=>h.elim
theorem xy_:∀ (l:List AV) (off:Nat) (c:List AV),(put l off c).length=l.length
 | l,off,[]=>by cases off<;>cases l<;>rfl
 | _ :: l,0,_ :: c=>by simp [put,xy_ l 0 c]
 | [],0,_ :: _=>rfl
 | [],_+1,_ :: _=>rfl
 | _ :: l,off+1,c :: cs=>by simp [put,xy_ l off (c :: cs)]
theorem zcs_ {a:AV} {v:Value} (h:RV0 I w m a v) (ha:a ≠ .undef):v.cells.toList=[v]:=by
 cases a with
 | undef=>exact absurd rfl ha
 | skp=>exact h.elim
 | int=>obtain ⟨rfl,_⟩:=h;rfl
 | bool=>cases (show v=_ from h);rfl
 | kb=>cases (show v=_ from h);rfl
 | str=>obtain ⟨s,rfl,_⟩:=h;rfl
 | nilp=>cases (show v=_ from h);rfl
 | nilm=>cases (show v=_ from h);rfl
 | nils=>cases (show v=_ from h);rfl
 | ptr=>obtain ⟨_,_,rfl,_⟩:=h;rfl
 | imm=>obtain ⟨_,_,_,rfl,_⟩:=h;rfl
 | iptr=>obtain ⟨_,_,rfl,_⟩:=h;rfl
 | own=>obtain ⟨_,_,_,rfl,_⟩:=h;rfl
 | view=>obtain ⟨_,_,_,rfl,_⟩:=h;rfl
 | rptr=>obtain ⟨_,_,rfl,_⟩:=h;rfl
 | mapv=>obtain ⟨_,_,rfl,_⟩:=h;rfl
 | bview=>obtain ⟨_,_,_,rfl,_⟩:=h;rfl
 | agg=>exact h.elim
 | tup=>exact h.elim
 | fn=>exact h.elim
 | yv=>cases (show v=_ from h);rfl
 | fnp=>obtain ⟨_,_,rfl,_⟩:=h;rfl
 | jsl=>obtain ⟨⟨_,_,_,rfl,_⟩,_⟩:=h;rfl
 | jptr=>obtain ⟨⟨_,_,rfl,_⟩,_⟩:=h;rfl
 | ai=>obtain ⟨_,rfl,_⟩:=h;rfl
theorem Yo_ {a:AV} {v:Value} (h:RV0 I w m a v):v.oneCell'=true:=by
 cases a with
 | undef=>exact h
 | skp=>exact h.elim
 | int=>obtain ⟨rfl,_⟩:=h;rfl
 | bool=>cases (show v=_ from h);rfl
 | kb=>cases (show v=_ from h);rfl
 | str=>obtain ⟨s,rfl,_⟩:=h;rfl
 | nilp=>cases (show v=_ from h);rfl
 | nilm=>cases (show v=_ from h);rfl
 | nils=>cases (show v=_ from h);rfl
 | ptr=>obtain ⟨_,_,rfl,_⟩:=h;rfl
 | imm=>obtain ⟨_,_,_,rfl,_⟩:=h;rfl
 | iptr=>obtain ⟨_,_,rfl,_⟩:=h;rfl
 | own=>obtain ⟨_,_,_,rfl,_⟩:=h;rfl
 | view=>obtain ⟨_,_,_,rfl,_⟩:=h;rfl
 | rptr=>obtain ⟨_,_,rfl,_⟩:=h;rfl
 | mapv=>obtain ⟨_,_,rfl,_⟩:=h;rfl
 | bview=>obtain ⟨_,_,_,rfl,_⟩:=h;rfl
 | agg=>exact h.elim
 | tup=>exact h.elim
 | fn=>exact h.elim
 | yv=>cases (show v=_ from h);rfl
 | fnp=>obtain ⟨_,_,rfl,_⟩:=h;rfl
 | jsl=>obtain ⟨⟨_,_,_,rfl,_⟩,_⟩:=h;rfl
 | jptr=>obtain ⟨⟨_,_,rfl,_⟩,_⟩:=h;rfl
 | ai=>obtain ⟨_,rfl,_⟩:=h;rfl
def isSc:AV->Bool
 | .undef=>false
 | .skp=>false
 | .agg _=>false
 | .tup _=>false
 | .fn _ _ _=>false
 | _=>true
theorem ko_:∀ {l:List AV} {r:List Value},z0_ I w m l r->∀ v ∈ r,v.oneCell'=true
 | [],[],_=>fun v hv=>by cases hv
 | _ :: _,_ :: _,h=>fun v hv=>by
   cases hv with
   | head=>exact Yo_ h.1
   | tail _ hv=>exact ko_ h.2 v hv
 | [],_ :: _,h=>h.elim
 | _ :: _,[],h=>h.elim
theorem zeu_ {a:AV} {v:Value} (h:RV I w m a v) (e:isSc a=true):RV0 I w m a v:=by
 cases a with
 | undef=>cases e
 | skp=>cases e
 | agg=>cases e
 | tup=>cases e
 | fn=>cases e
 | _=>exact h
theorem QV_ {a:AV} {v:Value} {c:List AV} (h:RV I w m a v) (e:a.flat=some c):z0_ I w m c v.cells.toList:=by
 cases a with
 | undef=>cases e
 | skp=>cases e
 | tup=>cases e
 | fn f l cp=>
   have e:Ve_ f l cp=some c:=e
   unfold Ve_ at e
   split at e
   ·split at e
    ·split at e
     ·cases e
      obtain ⟨fs,cs,rfl,h1,h2⟩:=h
      have e1:fs.toList=[]:=by
       cases hf:fs.toList with
       | nil=>rfl
       | cons=>rw [hf] at h1;exact h1.elim
      cases hc:cs.toList with
      | nil=>rw [hc] at h2;exact h2.elim
      | cons c r=>
        rw [hc] at h2
        cases r with
        | cons=>exact h2.2.elim
        | nil=>
          obtain ⟨b,k1,k2,k3⟩:=h2.1
          have e2:fs=#[]:=by rw [<- Array.toList_inj];exact e1
          have e3:cs=#[.pointer (some ⟨b,0,none⟩)]:=by rw [<- Array.toList_inj,hc,k2]
          exact ⟨⟨b,k1,by rw [e2,e3],k3⟩,trivial⟩
     ·cases e
    ·cases e
   ·cases e
 | agg l=>cases e;obtain ⟨cs,rfl,h⟩:=h;exact h
 | _=>
   cases e
   have h0:=zeu_ h rfl
   rw [zcs_ h0 (by intro h;cases h)]
   exact ⟨h0,trivial⟩
theorem VC_ {l:List AV} {r:List Value} {n:Nat} {v:AV} {t:List AV} (h:z0_ I w m l r) (e:l.drop n=v :: t):∃ cv,r[n]?=some cv/\RV0 I w m v cv:=by
 have h':=Jl_ n h
 rw [e] at h'
 cases hr:r.drop n with
 | nil=>rw [hr] at h';exact h'.elim
 | cons c s=>
   rw [hr] at h'
   refine ⟨c,?_,h'.1⟩
   have:=List.getElem?_drop (xs:=r) (i:=n) (j:=0)
   rw [hr] at this;simpa using this.symm
theorem Gu_ {n:Option Nat} {off:Nat} {l:List AV} {K:AV->Prop} (ev:cut n off l K):
 (n=none/\∃ v t,l.drop off=v :: t/\K v)\/(∃ k,n=some k/\off+k<=l.length/\K (.agg ((l.drop off).take k))):=by
 unfold cut at ev
 split at ev
 ·split at ev
  ·rename_i v t hd
   rw [yM_] at ev
   exact .inl ⟨rfl,v,t,hd,ev⟩
  ·exact ev.elim
 ·rename_i k
  split at ev
  ·rename_i hd
   rw [ZG_] at ev
   exact .inr ⟨k,rfl,of_decide_eq_true hd,ev⟩
  ·exact ev.elim
theorem qS_:∀ (t:Ty) (x:t.den) (cs:List Value),RC I w t x cs->z0_ I w m (t.cells x) cs
 | .int k,n,cs,h=>by simp only [RC] at h;obtain ⟨rfl,h⟩:=h;exact ⟨⟨rfl,h⟩,trivial⟩
 | .bool,b,cs,h=>by simp only [RC] at h;subst h;exact ⟨rfl,trivial⟩
 | .str,l,cs,h=>by simp only [RC] at h;obtain ⟨s,rfl,h⟩:=h;exact ⟨⟨s,rfl,h⟩,trivial⟩
 | .nil,_,cs,h=>by simp only [RC] at h;subst h;exact trivial
 | .cons a b,x,cs,h=>by
   simp only [RC] at h
   obtain ⟨c1,c2,rfl,h1,h2⟩:=h
   exact jB_ (qS_ a _ _ h1) (qS_ b _ _ h2)
 | .sl t,l,cs,h=>by
   obtain ⟨ao,len,cap,rfl,h'⟩:=xk_.1 h
   exact ⟨⟨ao,len,cap,rfl,h'⟩,trivial⟩
theorem kU_:∀ (t:Ty) (l:List AV) (r:List Value) (x:t.den) (l':List AV),z0_ I w m l r->t.ofCells l=some (x,l')->
 ∃ c1 c2,r=c1++c2/\RC I w t x c1/\z0_ I w m l' c2
 | .int k,.int k' n :: l,v :: r,x,l',h,e=>by
   simp only [Ty.ofCells] at e
   split at e
   ·rename_i hk _
    simp only [Option.some.injEq,Prod.mk.injEq] at e
    obtain ⟨rfl,rfl⟩:=e
    subst hk
    obtain ⟨rfl,hn⟩:=h.1
    exact ⟨[_],r,rfl,⟨rfl,hn⟩,h.2⟩
   ·cases e
 | .bool,.bool b :: l,v :: r,x,l',h,e=>by
   simp only [Ty.ofCells,Option.some.injEq,Prod.mk.injEq] at e
   obtain ⟨rfl,rfl⟩:=e
   cases (show v=_ from h.1)
   exact ⟨[_],r,rfl,rfl,h.2⟩
 | .bool,.kb b :: l,v :: r,x,l',h,e=>by
   simp only [Ty.ofCells,Option.some.injEq,Prod.mk.injEq] at e
   obtain ⟨rfl,rfl⟩:=e
   cases (show v=_ from h.1)
   exact ⟨[_],r,rfl,rfl,h.2⟩
 | .str,.str s :: l,v :: r,x,l',h,e=>by
   simp only [Ty.ofCells,Option.some.injEq,Prod.mk.injEq] at e
   obtain ⟨rfl,rfl⟩:=e
   obtain ⟨s,rfl,hs⟩:=h.1
   exact ⟨[_],r,rfl,⟨s,rfl,hs⟩,h.2⟩
 | .nil,l,r,x,l',h,e=>by
   simp only [Ty.ofCells,Option.some.injEq,Prod.mk.injEq] at e
   obtain ⟨_,rfl⟩:=e
   exact ⟨[],r,rfl,rfl,h⟩
 | .cons a b,l,r,x,l',h,e=>by
   simp only [Ty.ofCells] at e
   split at e
   ·rename_i x1 r1 e1
    split at e
    ·rename_i x2 r2 e2
     simp only [Option.some.injEq,Prod.mk.injEq] at e
     obtain ⟨rfl,rfl⟩:=e
     obtain ⟨c1,c2,rfl,h1,h2⟩:=kU_ a l r _ _ h e1
     obtain ⟨c3,c4,rfl,h3,h4⟩:=kU_ b _ c2 _ _ h2 e2
     exact ⟨c1++c3,c4,by simp,⟨c1,c3,rfl,h1,h3⟩,h4⟩
    ·cases e
   ·cases e
 | .sl t,.imm t' y :: l,v :: r,x,l',h,e=>by
   simp only [Ty.ofCells] at e
   split at e
   ·rename_i ht _
    simp only [Option.some.injEq,Prod.mk.injEq] at e
    obtain ⟨rfl,rfl⟩:=e
    subst ht
    obtain ⟨ao,len,cap,rfl,hs⟩:=h.1
    exact ⟨[_],r,rfl,xk_.2 ⟨ao,len,cap,rfl,hs⟩,h.2⟩
   ·cases e
 | .sl t,.nils :: l,v :: r,x,l',h,e=>by
   simp only [Ty.ofCells,Option.some.injEq,Prod.mk.injEq] at e
   obtain ⟨rfl,rfl⟩:=e
   cases (show v=_ from h.1)
   exact ⟨[_],r,rfl,xk_.2 ⟨none,0,0,rfl,rfl,Nat.le_refl _,Nat.zero_le _,fun h=>absurd h (by omega)⟩,h.2⟩
theorem k8_ {t:Ty} {l:List AV} {r:List Value} {x:t.den} (h:z0_ I w m l r) (e:t.one l=some x):RC I w t x r:=by
 unfold Ty.one at e
 split at e
 ·rename_i y hy
  cases e
  obtain ⟨c1,c2,rfl,h1,h2⟩:=kU_ t l r _ _ h hy
  cases c2 with
  | nil=>simpa using h1
  | cons=>exact h2.elim
 ·cases e
theorem yT_ {t:Ty}:∀ (n:Nat) (l:List AV) (r:List Value) (x:List t.den),z0_ I w m l r->t.all n l=some x->
 x.length=n/\r.length=n*t.size/\∀ i (h:i < x.length),∃ es,RC I w t x[i] es/\∀ j (hj:j < es.length),r[i*t.size+j]?=some es[j]
 | 0,l,r,x,h,e=>by
   cases l with
   | nil=>
     simp only [Ty.all,Option.some.injEq] at e;subst e
     cases r with
     | nil=>simp
     | cons=>exact h.elim
   | cons=>simp [Ty.all] at e
 | n+1,l,r,x,h,e=>by
   simp only [Ty.all] at e
   split at e
   ·rename_i y l1 e1
    split at e
    ·rename_i z e2
     simp only [Option.some.injEq] at e;subst e
     obtain ⟨c1,c2,rfl,h1,h2⟩:=kU_ t l r _ _ h e1
     obtain ⟨h3,h4,h5⟩:=yT_ n l1 c2 z h2 e2
     have hl:=Zi_ t _ _ h1
     refine ⟨by simp [h3],by simp [hl,h4,Nat.add_mul];omega,fun i hi=>?_⟩
     cases i with
     | zero=>
       refine ⟨c1,h1,fun j hj=>?_⟩
       rw [Nat.zero_mul,Nat.zero_add,List.getElem?_append_left hj,List.getElem?_eq_getElem hj]
     | succ i=>
       obtain ⟨es,h6,h7⟩:=h5 i (by simpa using hi)
       refine ⟨es,h6,fun j hj=>?_⟩
       rw [show (i+1)*t.size+j=c1.length+(i*t.size+j) by rw [hl,Nat.add_mul];omega,List.getElem?_append_right (by omega),Nat.add_sub_cancel_left]
       exact h7 j hj
    ·cases e
   ·cases e
end lists
theorem zc_.get_cons (st:zc_) (id:Nat) (o:Obj) (i:Nat):zc_.get ((id,o) :: st) i=if i=id then some o else st.get i:=by
 show (match Nat.beq id i with | true=>some o | false=>st.get i)=_
 by_cases h:i=id
 ·subst h;rw [if_pos rfl,Nat.beq_refl]
 ·rw [if_neg h]
  have:Nat.beq id i=false:=by
   rw [<- Bool.not_eq_true,Nat.beq_eq];omega
  rw [this]
theorem zc_.get_set:∀ (st:zc_) (id:Nat) (o:Obj) (i:Nat),(st.set id o).get i=if i=id then some o else st.get i
 | [],id,o,i=>by unfold zc_.set;rw [zc_.get_cons]
 | (j,v) :: r,id,o,i=>by
   unfold zc_.set
   cases hb:Nat.beq j id with
   | true=>
     have:j=id:=Nat.eq_of_beq_eq_true hb
     subst this
     simp only [zc_.get_cons]
     split<;>rfl
   | false=>
     have hj:id ≠ j:=by intro e;subst e;rw [Nat.beq_refl] at hb;cases hb
     simp only [zc_.get_cons]
     rw [zc_.get_set r id o i]
     by_cases h1:i=j
     ·subst h1;rw [if_pos rfl,if_pos rfl];rw [if_neg];omega
     ·rw [if_neg h1,if_neg h1]
theorem zd_.get_cons (fr:zd_) (d:Nat) (v:AV) (i:Nat):zd_.get ((d,v) :: fr) i=if i=d then v else fr.get i:=by
 show (match Nat.beq d i with | true=>v | false=>fr.get i)=_
 by_cases h:i=d
 ·subst h;rw [if_pos rfl,Nat.beq_refl]
 ·rw [if_neg h]
  have:Nat.beq d i=false:=by
   rw [<- Bool.not_eq_true,Nat.beq_eq];omega
  rw [this]
def M.push (m:M) (id:Nat) (blk:Option Nat) (cap len sz:Nat):M:=
 {blk:=fun i=>if i=id then blk else m.blk i,cap:=fun i=>if i=id then cap else m.cap i,len:=fun i=>if i=id then len else m.len i,sz:=fun i=>if i=id then sz else m.sz i,used:=fun i=>m.used i\/i=id,rg:=m.rg}
theorem M.push_le {m:M} {id:Nat} {b:Option Nat} {c d e:Nat} (h:¬ m.used id):m.le (m.push id b c d e):=
 ⟨fun i hi=>.inl hi,fun i hi=>by
  have hne:i ≠ id:=fun e=>h (e ▸ hi)
  exact ⟨if_neg hne,if_neg hne,if_neg hne,if_neg hne,rfl⟩⟩
theorem M.push_blk (m:M) (id:Nat) (b:Option Nat) (c d e:Nat):(m.push id b c d e).blk id=b:=if_pos rfl
theorem M.push_cap (m:M) (id:Nat) (b:Option Nat) (c d e:Nat):(m.push id b c d e).cap id=c:=if_pos rfl
theorem M.push_len (m:M) (id:Nat) (b:Option Nat) (c d e:Nat):(m.push id b c d e).len id=d:=if_pos rfl
theorem M.push_sz (m:M) (id:Nat) (b:Option Nat) (c d e:Nat):(m.push id b c d e).sz id=e:=if_pos rfl
section hs
variable {X0:Bool->Nat->Prop} {I0 I I':Nat->Prop} {w0 w w':World} {m m':M} {σ σ':Sto}
theorem XV_.same {w w':World} {b:Nat} (h:XV_ w b) (e:w'.heap[b]?=w.heap[b]?):XV_ w' b:=by
 intro cs T fz h1
 exact h cs T fz (e.symm.trans h1)
theorem ShB.same {u w w':World} {b:Nat} (h:ShB u w b) (e:w'.heap[b]?=w.heap[b]?):ShB u w' b:=by
 rcases h with h | ⟨cs,cs',T,fz,h1,h2,h3⟩
 ·exact .inl (e.trans h)
 ·exact .inr ⟨cs,cs',T,fz,h1,e.trans h2,h3⟩
theorem gd_.same {u w w':World} {wr kn:Bool} {b:Nat} (h:gd_ u w wr kn b) (e:w'.heap[b]?=w.heap[b]?):gd_ u w' wr kn b:=⟨h.1.same e,fun k=>e.trans (h.2.1 k),h.2.2⟩
theorem HS.step (h:HS X0 I0 w0 σ I w m) (E:Evo I w m I' w' m') (T:Nat->Prop)
 (hσ:∀ i,¬ T i->σ' i=σ i)
 (hfr:Fr (fun b=>∃ i o,T i/\σ i=some o/\o.mut=true/\m.blk i=some b) w w')
 (hIn:∀ b,I' b->I b\/w.heap.size<=b\/∃ i o,T i/\σ i=some o/\o.mut=true/\m.blk i=some b)
 (hIlt:∀ b,I' b->b < w'.heap.size)
 (hobj:∀ i o,T i->σ' i=some o->m'.used i/\zM_ I' w' m' i o)
 (hblk:∀ i o b,T i->σ' i=some o->o.live=true->m'.blk i=some b->w.heap.size<=b\/∃ j o',T j/\σ j=some o'/\o'.live=true/\(o.mut=true->o'.mut=true)/\m.blk j=some b)
 (hinj:∀ i j o o' b,T i->T j->σ' i=some o->σ' j=some o'->o.live=true->o'.live=true->m'.blk i=some b->m'.blk j=some b->i=j)
 (hmut:∀ i o b,T i->σ' i=some o->o.mut=true->m'.blk i=some b->¬ I' b)
 (hisI:∀ i t x b,T i->σ' i=some (.row true t x)->m'.blk i=some b->I' b)
 (hgar:∀ i wr kn,T i->σ' i=some (.reg wr kn)->(∃ kn0,σ i=some (.reg wr kn0))/\∀ b,(m.rg i).dp b->gd_ (m.rg i).wc w' wr kn b)
 (hfz:∀ b,I' b->I b\/XV_ w' b):HS X0 I0 w0 σ' I' w' m':=by
 have hml:∀ {o:Obj},o.mut=true->o.live=true:=fun {o} h=>by cases o<;>first | rfl | cases h
 have holdR:∀ i wr kn,σ' i=some (.reg wr kn)->∃ kn0,σ i=some (.reg wr kn0):=fun i wr kn hi=>by
  by_cases hT:T i
  ·exact (hgar i wr kn hT hi).1
  ·rw [hσ i hT] at hi;exact ⟨_,hi⟩
 have hblk':∀ {i o},σ i=some o->m'.blk i=m.blk i:=fun {i o} hi=>(E.m.2 i (h.H.lt i (by rw [hi];intro h;cases h))).1
 refine ⟨⟨fun i hi=>?_,fun i o hi=>?_,fun i j o o' b hi hj hl hl' hb hb'=>?_,fun i o b hi hm hb=>?_,fun i t x b hi hb=>?_,hIlt,fun i wr kn b hi hd=>?_,fun i j wr kn wr' kn' b hi hj hd hd'=>?_⟩,?_,fun b hb=>E.up b (h.Isub b hb),fun b hb=>?_,fun i o b hi hm hb=>?_,fun i o b hi hm hb=>?_,fun b hb=>?_,fun i kn b hi hd=>?_⟩
 ·by_cases hT:T i
  ·cases e:σ' i with
   | none=>exact absurd e hi
   | some o=>exact (hobj i o hT e).1
  ·rw [hσ i hT] at hi;exact E.m.1 i (h.H.lt i hi)
 ·by_cases hT:T i
  ·exact (hobj i o hT hi).2
  ·rw [hσ i hT] at hi
   have hn:σ i ≠ none:=by rw [hi];intro h;cases h
   refine zM_.mono E.up E.same E.m (h.H.lt i hn) (fun hl b hb=>hfr.block b ((h.H.obj i o hi).lt hl hb) ?_) (h.H.obj i o hi)
   rintro ⟨j,o',hTj,hj,hm,hbj⟩
   exact hT (h.H.inj j i o' o b hj hi (hml hm) hl hbj hb ▸ hTj)
 ·by_cases hT:T i<;>by_cases hT':T j
  ·exact hinj i j o o' b hT hT' hi hj hl hl' hb hb'
  ·rw [hσ j hT'] at hj
   rw [hblk' hj] at hb'
   rcases hblk i o b hT hi hl hb with h1 | ⟨k,ok,hTk,hk,hlk,_,hbk⟩
   ·have:=(h.H.obj j o' hj).lt hl' hb';omega
   ·exact absurd (h.H.inj k j ok o' b hk hj hlk hl' hbk hb' ▸ hTk) hT'
  ·rw [hσ i hT] at hi
   rw [hblk' hi] at hb
   rcases hblk j o' b hT' hj hl' hb' with h1 | ⟨k,ok,hTk,hk,hlk,_,hbk⟩
   ·have:=(h.H.obj i o hi).lt hl hb;omega
   ·exact absurd (h.H.inj k i ok o b hk hi hlk hl hbk hb ▸ hTk) hT
  ·rw [hσ i hT] at hi;rw [hσ j hT'] at hj
   rw [hblk' hi] at hb;rw [hblk' hj] at hb'
   exact h.H.inj i j o o' b hi hj hl hl' hb hb'
 ·by_cases hT:T i
  ·exact hmut i o b hT hi hm hb
  ·rw [hσ i hT] at hi
   rw [hblk' hi] at hb
   intro hI
   rcases hIn b hI with h1 | h1 | ⟨j,o',hTj,hj,hm',hbj⟩
   ·exact h.H.notI i o b hi hm hb h1
   ·have:=(h.H.obj i o hi).lt (hml hm) hb;omega
   ·exact hT (h.H.inj j i o' o b hj hi (hml hm') (hml hm) hbj hb ▸ hTj)
 ·by_cases hT:T i
  ·exact hisI i t x b hT hi hb
  ·rw [hσ i hT] at hi
   rw [hblk' hi] at hb
   exact E.up b (h.H.isI i t x b hi hb)
 ·obtain ⟨kn0,hi0⟩:=holdR i wr kn hi
  have hrg:m'.rg i=m.rg i:=(E.m.2 i (h.H.lt i (by rw [hi0];intro h;cases h))).2.2.2.2
  rw [hrg] at hd ⊢
  obtain ⟨g1,g2,g3,g4⟩:=h.H.gar i wr kn0 b hi0 hd
  have hno:¬ ∃ i o,T i/\σ i=some o/\o.mut=true/\m.blk i=some b:=fun ⟨j,o',_,hj,hm',hbj⟩=>g3 j o' hj (hml hm') hbj
  have hsm:w'.heap[b]?=w.heap[b]?:=hfr.block b g1 hno
  refine ⟨Nat.lt_of_lt_of_le g1 hfr.size,fun hI=>?_,fun j o' hj hl hbj=>?_,?_⟩
  ·rcases hIn b hI with h1 | h1 | h1
   ·exact g2 h1
   ·omega
   ·exact hno h1
  ·by_cases hT:T j
   ·rcases hblk j o' b hT hj hl hbj with h1 | ⟨k,ok,_,hk,hlk,_,hbk⟩
    ·omega
    ·exact g3 k ok hk hlk hbk
   ·rw [hσ j hT] at hj
    rw [hblk' hj] at hbj
    exact g3 j o' hj hl hbj
  ·by_cases hT:T i
   ·exact (hgar i wr kn hT hi).2 b hd
   ·rw [hσ i hT,hi0] at hi
    cases hi
    exact g4.same hsm
 ·obtain ⟨k1,hi0⟩:=holdR i wr kn hi
  obtain ⟨k2,hj0⟩:=holdR j wr' kn' hj
  rw [(E.m.2 i (h.H.lt i (by rw [hi0];intro h;cases h))).2.2.2.2] at hd
  rw [(E.m.2 j (h.H.lt j (by rw [hj0];intro h;cases h))).2.2.2.2] at hd'
  exact h.H.rdj i j _ _ _ _ b hi0 hj0 hd hd'
 ·refine h.fr0.trans hfr ?_
  rintro b hb ⟨j,o',_,hj,hm',hbj⟩
  rcases h.own j o' b hj hm' hbj with h1 | h1
  ·exact h1
  ·omega
 ·rcases hIn b hb with h1 | h1 | ⟨j,o',_,hj,hm',hbj⟩
  ·exact h.Inew b h1
  ·exact .inr (.inl (Nat.le_trans h.fr0.size h1))
  ·rcases h.own j o' b hj hm' hbj with h1 | h1
   ·exact .inr (.inr h1)
   ·exact .inr (.inl h1)
 ·by_cases hT:T i
  ·rcases hblk i o b hT hi (hml hm) hb with h1 | ⟨j,o',_,hj,_,hmm,hbj⟩
   ·exact .inr (Nat.le_trans h.fr0.size h1)
   ·exact h.own j o' b hj (hmm hm) hbj
  ·rw [hσ i hT] at hi
   rw [hblk' hi] at hb
   exact h.own i o b hi hm hb
 ·by_cases hT:T i
  ·rcases hblk i o b hT hi hm hb with h1 | ⟨j,o',_,hj,hl,_,hbj⟩
   ·exact .inr (Nat.le_trans h.fr0.size h1)
   ·exact h.ownL j o' b hj hl hbj
  ·rw [hσ i hT] at hi
   rw [hblk' hi] at hb
   exact h.ownL i o b hi hm hb
 ·rcases hfz b hb with h1 | h1
  ·rcases h.Ifz b h1 with h2 | h2
   ·exact .inl h2
   ·exact .inr (h2.same (E.same b h1))
  ·exact .inr h1
 ·obtain ⟨kn0,hi0⟩:=holdR i true kn hi
  rw [(E.m.2 i (h.H.lt i (by rw [hi0];intro h;cases h))).2.2.2.2] at hd
  exact h.regw i kn0 b hi0 hd
theorem HS.gstore (h:HS X0 I0 w0 σ I w m) {i b:Nat} {kn:Bool} (hi:σ i=some (.reg true kn)) (hσ:∀ j,σ' j=if j=i then some (.reg true false) else σ j) (hd:(m.rg i).dp b) (hfr:Fr (fun c=>c=b) w w') (hsh:ShB (m.rg i).wc w' b) (hfz:XV_ w' b):
 HS X0 I0 w0 σ' I w' m/\Evo I w m I w' m:=by
 obtain ⟨g1,g2,g3,g4⟩:=h.H.gar i true kn b hi hd
 have ml:∀ {o:Obj},o.mut=true->o.live=true:=fun {o} h=>by cases o<;>first | rfl | cases h
 have hsm:∀ c,c < w.heap.size->c ≠ b->w'.heap[c]?=w.heap[c]?:=fun c hc hne=>hfr.block c hc hne
 have hsame:qF_ I w w':=fun c hc=>hsm c (h.H.Ilt c hc) fun e=>g2 (e ▸ hc)
 have old:∀ j o,σ' j=some o->(∀ a k,o ≠ .reg a k)->σ j=some o:=fun j o e hn=>by
  rw [hσ] at e
  split at e
  ·cases e;exact absurd rfl (hn true false)
  ·exact e
 have oldR:∀ j a k,σ' j=some (.reg a k)->∃ k0,σ j=some (.reg a k0)/\(j ≠ i->k0=k):=fun j a k e=>by
  rw [hσ] at e
  split at e
  ·rename_i hj;subst hj;cases e;exact ⟨kn,hi,fun h=>absurd rfl h⟩
  ·exact ⟨k,e,fun _=>rfl⟩
 have lv:∀ {o:Obj},o.live=true->∀ a k,o ≠ .reg a k:=fun {o} hl a k e=>by subst e;cases hl
 refine ⟨⟨⟨fun j hj=>?_,fun j o e=>?_,fun j k o o' c e e' hl hl' hb hb'=>h.H.inj j k o o' c (old j o e (lv hl)) (old k o' e' (lv hl')) hl hl' hb hb',fun j o c e hm hb=>h.H.notI j o c (old j o e (lv (ml hm))) hm hb,fun j t x c e hb=>h.H.isI j t x c (old j _ e (fun _ _ h=>by cases h)) hb,fun c hc=>Nat.lt_of_lt_of_le (h.H.Ilt c hc) hfr.size,fun j a k c e hdc=>?_,fun j j' a k a' k' c e e' hdc hdc'=>?_⟩,
  h.fr0.trans hfr (fun c hc e=>?_),h.Isub,h.Inew,fun j o c e hm hb=>h.own j o c (old j o e (lv (ml hm))) hm hb,fun j o c e hl hb=>h.ownL j o c (old j o e (lv hl)) hl hb,fun c hc=>(h.Ifz c hc).imp id fun hf=>hf.same (hsame c hc),fun j k c e hdc=>?_⟩,⟨fun _ h=>h,hsame,m.le_refl⟩⟩
 ·refine h.H.lt j fun e=>hj ?_
  rw [hσ]
  split
  ·rename_i hji;subst hji;rw [hi] at e;cases e
  ·exact e
 ·by_cases hr:∃ a k,o=.reg a k
  ·obtain ⟨a,k,rfl⟩:=hr;trivial
  ·have hn:∀ a k,o ≠ .reg a k:=fun a k e=>hr ⟨a,k,e⟩
   have e0:=old j o e hn
   refine (h.H.obj j o e0).mono (fun _ h=>h) hsame m.le_refl (h.H.lt j (by rw [e0];intro h;cases h)) fun hl c hc=>hsm c ((h.H.obj j o e0).lt hl hc) fun ec=>?_
   subst ec;exact g3 j o e0 hl hc
 ·obtain ⟨k0,e0,hk0⟩:=oldR j a k e
  obtain ⟨q1,q2,q3,q4⟩:=h.H.gar j a k0 c e0 hdc
  refine ⟨Nat.lt_of_lt_of_le q1 hfr.size,q2,fun p o' ep hl hb=>q3 p o' (old p o' ep (lv hl)) hl hb,?_⟩
  by_cases hc:c=b
  ·subst hc
   have hji:=h.H.rdj j i _ _ _ _ c e0 hi hdc hd
   subst hji
   rw [hσ,if_pos rfl] at e;cases e
   exact ⟨hsh,fun h=>(by cases h),g4.2.2⟩
  ·refine ⟨q4.1.same (hsm c q1 hc),fun hk=>?_,q4.2.2⟩
   by_cases hji:j=i
   ·subst hji;rw [hσ,if_pos rfl] at e;cases e;cases hk
   ·exact (hsm c q1 hc).trans (q4.2.1 (by rw [hk0 hji];exact hk))
 ·obtain ⟨k1,e1,_⟩:=oldR j a k e
  obtain ⟨k2,e2,_⟩:=oldR j' a' k' e'
  exact h.H.rdj j j' _ _ _ _ c e1 e2 hdc hdc'
 ·subst e
  rcases h.regw i kn c hi hd with h1 | h1
  ·exact h1
  ·omega
 ·obtain ⟨k0,e0,_⟩:=oldR j true k e
  exact h.regw j k0 c e0 hdc
theorem HS.ext (h:HS X0 I0 w0 σ I w m) (e:∀ i,σ' i=σ i):HS X0 I0 w0 σ' I w m:=by
 have:σ'=σ:=funext e
 rw [this];exact h
theorem VO_ {w:World} {b:Nat} {cs:Array Value} {T:TypeId} {f:Nat × Nat} (h:w.heap[b]?=some (.cells cs T f)) (o:Nat) (v:Value):
 (w.setCell ⟨b,o,none⟩ v).heap[b]?=some (.cells (cs.setIfInBounds o v) T f):=by
 simp [World.setCell,Array.getElem?_modify,h]
theorem ZW_ {w:World} {b:Nat} {cs:Array Value} {T:TypeId} {f:Nat × Nat} (h:w.heap[b]?=some (.cells cs T f)) (o:Nat):
 w.cell? ⟨b,o,none⟩=cs[o]?:=by
 simp [World.cell?,h]
theorem UU_ {w:World} {b:Nat} {cs:Array Value} {T:TypeId} {fz:Nat × Nat} (h:w.heap[b]?=some (.cells cs T fz)) (hz:VF_ fz cs.size) (o:Nat) (ho:o < cs.size):
 w.frozen? ⟨b,o,none⟩=false:=by
 have:=hz o ho
 obtain ⟨lo,hi⟩:=fz
 simp only [World.frozen?,h,Bool.and_eq_false_iff,decide_eq_false_iff_not]
 by_cases h1:lo<=o
 ·exact .inr (this h1)
 ·exact .inl h1
theorem qd_ (b o i:Nat):(Addr.add ⟨b,o,none⟩ i)=⟨b,o+i,none⟩:=by
 unfold Addr.add;split
 ·subst_vars;rfl
 ·rfl
theorem qa_ {P:Program} {b:Nat} {T:TypeId} {fz:Nat × Nat}:∀ (vs:List Value) (i off:Nat) (w:World) (cs:Array Value),w.heap[b]?=some (.cells cs T fz)->VF_ fz cs.size->off+i+vs.length<=cs.size->
 (∀ v ∈ vs,v.oneCell'=true)->
 ∃ w',(storeCells ⟨b,off,none⟩ vs i).run P w=.ok () w'/\w'.heap[b]?=some (.cells ((cs.toList.take (off+i)++vs++cs.toList.drop (off+i+vs.length)).toArray) T fz)/\
   w'.heap.size=w.heap.size/\(∀ k,k ≠ b->w'.heap[k]?=w.heap[k]?)/\w'.os=w.os/\w'.tape=w.tape/\w'.output=w.output
 | [],i,off,w,cs,h,_,_,_=>⟨w,rfl,by simp [h],rfl,fun _ _=>rfl,rfl,rfl,rfl⟩
 | v :: vs,i,off,w,cs,h,hz,hl,hv=>by
   simp only [List.length_cons] at hl
   have ha:=qd_ b off i
   have hc:w.cell? ⟨b,off+i,none⟩=some cs[off+i]:=by rw [ZW_ h];exact Array.getElem?_eq_getElem (by omega)
   have hst:(store ⟨b,off+i,none⟩ v).run P w=.ok () (w.setCell ⟨b,off+i,none⟩ v):=by
    rw [run_store P w _ v _ (hv v (by simp)),hc]
    simp [UU_ h hz (off+i) (by omega)]
   obtain ⟨w',h1,h2,h3,h4,h5,h6,h7⟩:=qa_ vs (i+1) off (w.setCell ⟨b,off+i,none⟩ v) _ (VO_ h (off+i) v) (by simpa using hz) (by simp;omega) (fun u hu=>hv u (by simp [hu]))
   refine ⟨w',?_,?_,?_,?_,?_,?_,?_⟩
   ·unfold storeCells
    rw [Sem.run_bind,ha,hst];exact h1
   ·rw [h2]
    have hlen:off+i < cs.toList.length:=by simp;omega
    simp only [Option.some.injEq,Go.Obj.cells.injEq,and_true,List.toArray_eq_iff]
    simp only [Array.toList_setIfInBounds,List.length_cons]
    rw [show off+(i+1)=off+i+1 by omega,List.take_set,List.take_succ_eq_append_getElem hlen,List.set_append_right _ _ (by simp;omega)]
    simp only [List.length_take,Nat.min_eq_left (Nat.le_of_lt hlen),Nat.sub_self,List.set_cons_zero]
    rw [List.drop_set_of_lt (by omega),show off+i+1+vs.length=off+i+(vs.length+1) by omega]
    simp
   ·rw [h3];simp
   ·intro k hk;rw [h4 k hk];exact Below.heap_setCell _ _ _ _ hk
   ·rw [h5];rfl
   ·rw [h6];rfl
   ·rw [h7];rfl
theorem Gz_ {w:World} {cs:Array Value} {T:TypeId} {b:Nat} {f:Nat × Nat} (h:w.heap[b]?=some (.cells cs T f)):∀ j (hj:j < cs.toList.length),w.cell? ⟨b,0+j,none⟩=some cs.toList[j]:=fun j hj=>by
 rw [ZW_ h,Nat.zero_add]
 simp only [Array.length_toList] at hj
 rw [Array.getElem?_eq_getElem hj];simp
end hs
end Go.Eng
