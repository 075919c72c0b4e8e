/- Parts of the proof: P3, P4, P5, P6, PA. No condition. -/
import Derived.Test.YtjajlkddpekdjaaDoorProg
import Derived.Test.YtjajlkddpekdjaaDoorXC10
import Derived.KernelRfl
import Derived.Test.YtjajlkddpekdjaaDoorXC15
namespace Go.Eng
open Go.Proofs
set_option linter.unusedVariables false
set_option linter.unusedSimpArgs false
set_option maxRecDepth 100000
set_option maxHeartbeats 1000000
abbrev KTY:Ty:=.cons (.int .i64) (.cons (.int .i64) (.cons (.int .u64) .nil))
def kyO (o:OV):KTY.den:=(o.1,o.2.1,o.2.2.2.1,())
def odO:OV:=(0,0,false,0,[],[],())
theorem hh_ {x y:OV}:alO x y=true ↔ kyO x=kyO y:=by
 rw [ko_]
 unfold kyO
 constructor
 ·rintro ⟨h1,h2,h3⟩;rw [h1,h2,h3]
 ·intro h
  have h1:=congrArg Prod.fst h
  have h2:x.2.1=y.2.1:=congrArg (fun z:Int × Int × Int × Unit=>z.2.1) h
  have h3:x.2.2.2.1=y.2.2.2.1:=congrArg (fun z:Int × Int × Int × Unit=>z.2.2.1) h
  exact ⟨h1,h2,h3⟩
abbrev MPO:=List (KTY.den × (Ty.int .i64).den)
theorem G8_ {α β:Type} [DecidableEq α]:∀ (m:List (α × β)) (k:α) (v:β) (z:α),zM_ (yP_ m k v) z=if k=z then some v else zM_ m z
 | [],k,v,z=>by simp only [yP_,zM_]
 | (a,b) :: r,k,v,z=>by
   unfold yP_
   by_cases c:a=k
   ·rw [if_pos c];subst c
    simp only [zM_]
    split<;>rfl
   ·rw [if_neg c]
    simp only [zM_,G8_ r k v z]
    by_cases d:a=z
    ·rw [if_pos d,if_pos d,if_neg (fun e=>c (d.trans e.symm))]
    ·rw [if_neg d,if_neg d]
abbrev WS:=List OV × MPO
def stp (s:WS) (o:OV):WS:=match zM_ s.2 (kyO o) with
 | some i=>(s.1.set (Int.toNat i) (kZ_ (s.1.getD (Int.toNat i) odO) o),s.2)
 | none=>(s.1++[o],yP_ s.2 (kyO o) (s.1.length:Int))
def v7_ (s:WS):Prop:=∀ (k:KTY.den) (i:Int),zM_ s.2 k=some i ↔ ∃ n:Nat,n < s.1.length/\i=(n:Int)/\kyO (s.1.getD n odO)=k
theorem HT_:v7_ ([],[]):=fun k i=>⟨fun h=>(nomatch h),fun ⟨n,h,_⟩=>absurd h (Nat.not_lt_zero n)⟩
theorem U7_ (a b:OV):kyO (kZ_ a b)=kyO a:=rfl
theorem HS_ {s:WS} (h:v7_ s) (o:OV):v7_ (stp s o):=by
 unfold stp
 split
 ·rename_i i e
  obtain ⟨n,hn,rfl,hk⟩:=(h _ i).1 e
  intro k j
  rw [h k j]
  simp only [Int.toNat_natCast,List.length_set]
  constructor
  ·rintro ⟨n2,h1,h2,h3⟩
   refine ⟨n2,h1,h2,?_⟩
   rw [List.getD_eq_getElem?_getD,List.getElem?_set]
   split
   ·rename_i e2;subst e2
    show kyO (kZ_ _ _)=k
    rw [U7_];exact h3
   ·rw [<- List.getD_eq_getElem?_getD];exact h3
  ·rintro ⟨n2,h1,h2,h3⟩
   refine ⟨n2,h1,h2,?_⟩
   rw [List.getD_eq_getElem?_getD,List.getElem?_set] at h3
   split at h3
   ·rename_i e2;subst e2
    have h3:kyO (kZ_ _ _)=k:=h3
    rw [U7_] at h3;exact h3
   ·rw [<- List.getD_eq_getElem?_getD] at h3;exact h3
 ·rename_i e
  intro k j
  show zM_ (yP_ s.2 (kyO o) (s.1.length:Int)) k=some j ↔ _
  rw [G8_]
  simp only [List.length_append,List.length_singleton]
  by_cases c:kyO o=k
  ·rw [if_pos c]
   constructor
   ·intro h1
    cases h1
    refine ⟨s.1.length,by omega,rfl,?_⟩
    rw [List.getD_eq_getElem?_getD,List.getElem?_append_right (Nat.le_refl _),Nat.sub_self];exact c
   ·rintro ⟨n,h1,h2,h3⟩
    by_cases d:n=s.1.length
    ·rw [h2,d]
    ·rw [List.getD_eq_getElem?_getD,List.getElem?_append_left (by omega),<- List.getD_eq_getElem?_getD] at h3
     have:=(h k n).2 ⟨n,by omega,rfl,h3⟩
     rw [<- c,e] at this;cases this
  ·rw [if_neg c,h k j]
   constructor
   ·rintro ⟨n,h1,h2,h3⟩
    refine ⟨n,by omega,h2,?_⟩
    rw [List.getD_eq_getElem?_getD,List.getElem?_append_left h1,<- List.getD_eq_getElem?_getD];exact h3
   ·rintro ⟨n,h1,h2,h3⟩
    by_cases d:n=s.1.length
    ·subst d
     rw [List.getD_eq_getElem?_getD,List.getElem?_append_right (Nat.le_refl _),Nat.sub_self] at h3
     exact absurd h3 c
    ·rw [List.getD_eq_getElem?_getD,List.getElem?_append_left (by omega),<- List.getD_eq_getElem?_getD] at h3
     exact ⟨n,by omega,h2,h3⟩
def wkO (l:List OV):WS:=l.foldl stp ([],[])
theorem W9_ (l:List OV) (o:OV):wkO (l++[o])=stp (wkO l) o:=by unfold wkO;rw [List.foldl_append];rfl
theorem ua_:∀ (l:List OV) (s:WS),v7_ s->v7_ (l.foldl stp s)
 | [],_,h=>h
 | o :: r,s,h=>ua_ r _ (HS_ h o)
theorem vM_ (l:List OV):v7_ (wkO l):=ua_ l _ HT_
theorem UU_ {s:WS} (h:v7_ s) {o:OV} (k:∀ z ∈ s.1,alO z o=false):(stp s o).1=s.1++[o]:=by
 unfold stp
 split
 ·rename_i i e
  obtain ⟨n,hn,rfl,hk⟩:=(h _ i).1 e
  have h1:s.1.getD n odO ∈ s.1:=z1_ hn odO
  have h2:=k _ h1
  rw [hh_.2 hk] at h2;cases h2
 ·rfl
theorem Hj_ {s:WS} (h:v7_ s) {o:OV} {n:Nat} (hn:n < s.1.length) (k:alO (s.1.getD n odO) o=true):(stp s o).1=s.1.set n (kZ_ (s.1.getD n odO) o):=by
 have e:=(h (kyO o) n).2 ⟨n,hn,rfl,hh_.1 k⟩
 unfold stp
 rw [e]
 rfl
theorem GB_ {P:List OV->Prop} (h0:P []) (h1:∀ l o,P l->P (l++[o])) (l:List OV):P l:=by
 rw [<- List.reverse_reverse l]
 generalize l.reverse=r
 induction r with
 | nil=>exact h0
 | cons o r ih=>rw [List.reverse_cons];exact h1 _ _ ih
theorem jd_ {l:List OV} {o:OV} (h:Sep (l++[o])):Sep l/\∀ z ∈ l,alO z o=false:=by
 have:=List.pairwise_append.1 h
 exact ⟨this.1,fun z hz=>this.2.2 z hz o (List.mem_singleton.2 rfl)⟩
theorem Bi_:∀ (a:List OV),Sep a->(wkO a).1=a:=GB_ (P:=fun a=>Sep a->(wkO a).1=a) (fun _=>rfl) fun l o ih h=>by
 obtain ⟨h1,h2⟩:=jd_ h
 rw [W9_,UU_ (vM_ l) (by rw [ih h1];exact h2),ih h1]
theorem VQ_ {b:List OV} {y o:OV} (h:alO o y=false):mgO (b++[y]) o=mgO b o:=by
 unfold mgO
 rw [List.find?_append]
 have:[y].find? (fun y=>alO o y)=none:=by rw [List.find?_cons,h];rfl
 rw [this]
 cases b.find? (fun y=>alO o y)<;>rfl
theorem HH_ {a b:List OV} {y:OV} (h:∀ x ∈ a,alO x y=false):mrg a (b++[y])=mrg a b++[y]:=by
 unfold mrg
 have h1:a.map (mgO (b++[y]))=a.map (mgO b):=List.map_congr_left fun x hx=>VQ_ (h x hx)
 have h2:a.any (fun x=>alO x y)=false:=by
  rw [List.any_eq_false];intro x hx;rw [h x hx];decide
 rw [h1,List.filter_append,List.append_assoc]
 congr 2
 rw [List.filter_cons,h2];rfl
theorem HG_ {a b:List OV} {y:OV} (ha:Sep a) (hb:Sep (b++[y])) {n:Nat} (hn:n < a.length) (h:alO (a.getD n odO) y=true):
 (mrg a b).getD n odO=a.getD n odO/\mrg a (b++[y])=(mrg a b).set n (kZ_ (a.getD n odO) y):=by
 obtain ⟨hb1,hb2⟩:=jd_ hb
 have hg:a.getD n odO=a[n]:=by rw [List.getD_eq_getElem?_getD,List.getElem?_eq_getElem hn];rfl
 rw [hg] at h ⊢
 have h0:mgO b a[n]=a[n]:=J5_ fun z hz=>Bool.eq_false_iff.2 fun k=>by
  have:=hb2 z hz
  rw [jz_ (jA_ k) h] at this;cases this
 refine ⟨?_,?_⟩
 ·unfold mrg
  rw [List.getD_eq_getElem?_getD,List.getElem?_append_left (by rw [List.length_map];exact hn),List.getElem?_map,List.getElem?_eq_getElem hn]
  exact h0
 ·unfold mrg
  have h2:a.any (fun x=>alO x y)=true:=List.any_eq_true.2 ⟨a[n],List.getElem_mem hn,h⟩
  have h3:[y].filter (fun y=>!a.any fun x=>alO x y)=[]:=by rw [List.filter_cons,h2];rfl
  rw [List.filter_append,h3,List.append_nil,List.set_append_left _ _ (by rw [List.length_map];exact hn)]
  congr 1
  refine List.ext_getElem? fun i=>?_
  rw [List.getElem?_map,List.getElem?_set,List.length_map,List.getElem?_map]
  by_cases c:n=i
  ·subst c
   rw [if_pos rfl,if_pos hn,List.getElem?_eq_getElem hn]
   show some _=some _
   rw [J4_ hb (List.mem_append_right _ (List.mem_singleton.2 rfl)) h]
  ·rw [if_neg c]
   cases e:a[i]? with
   | none=>rfl
   | some x=>
     show some _=some _
     rw [VQ_ (Bool.eq_false_iff.2 fun k=>?_)]
     obtain ⟨hi,rfl⟩:=List.getElem?_eq_some_iff.1 e
     have hp:=List.pairwise_iff_getElem.1 ha
     by_cases d:n < i
     ·have:=hp n i hn hi d
      rw [jz_ h (jA_ k)] at this;cases this
     ·have:=hp i n hi hn (by omega)
      rw [jz_ k (jA_ h)] at this;cases this
theorem bl_ {a:List OV} (ha:Sep a):∀ (b:List OV),Sep b->(wkO (a++b)).1=mrg a b:=GB_ (P:=fun b=>Sep b->(wkO (a++b)).1=mrg a b) (fun _=>by
 rw [List.append_nil,Bi_ a ha]
 unfold mrg
 rw [List.filter_nil,List.append_nil]
 have:a.map (mgO [])=a.map id:=List.map_congr_left fun x _=>rfl
 rw [this,List.map_id]) fun b y ih h=>by
 obtain ⟨h1,h2⟩:=jd_ h
 rw [<- List.append_assoc,W9_]
 by_cases c:∃ x ∈ a,alO x y=true
 ·obtain ⟨x,hx,hxy⟩:=c
  obtain ⟨n,hn,rfl⟩:=List.mem_iff_getElem.1 hx
  have hg:a.getD n odO=a[n]:=by rw [List.getD_eq_getElem?_getD,List.getElem?_eq_getElem hn];rfl
  obtain ⟨m1,m2⟩:=HG_ ha h hn (by rw [hg];exact hxy)
  have hl:n < (wkO (a++b)).1.length:=by
   rw [ih h1];unfold mrg;rw [List.length_append,List.length_map];omega
  rw [Hj_ (vM_ _) hl (by rw [ih h1,m1,hg];exact hxy),ih h1,m1,m2]
 ·have c:∀ x ∈ a,alO x y=false:=fun x hx=>Bool.eq_false_iff.2 fun k=>c ⟨x,hx,k⟩
  rw [UU_ (vM_ _) (fun z hz=>?_),ih h1,HH_ c]
  rw [ih h1] at hz
  rcases (vz_ h1 z).1 hz with ⟨x,hx,w,hw,k1,rfl⟩ | ⟨k1,k2⟩ | ⟨k1,k2⟩
  ·exact c x hx
  ·exact c z k1
  ·exact h2 z k1
theorem bv_ (l:List OV):(wkO l).1.length<=l.length:=GB_ (P:=fun l=>(wkO l).1.length<=l.length) (Nat.le_refl 0) (fun l o ih=>by
 rw [W9_];unfold stp
 split
 ·rw [List.length_set,List.length_append];exact Nat.le_trans ih (Nat.le_add_right _ _)
 ·rw [List.length_append,List.length_append];exact Nat.add_le_add_right ih _) l
theorem Hb_ {l:List OV} {j:Nat} (hj:j < l.length):wkO (l.take (j+1))=stp (wkO (l.take j)) (l.getD j odO):=by
 have:l.take (j+1)=l.take j++[l.getD j odO]:=by
  rw [List.take_add_one,List.getD_eq_getElem?_getD,List.getElem?_eq_getElem hj];rfl
 rw [this,W9_]
theorem bR_ {s:WS} (hI:v7_ s) {o:OV} (h:(zM_ s.2 (kyO o)).isSome=true):
 (0<=((zM_ s.2 (kyO o)).getD 0:Int)/\((zM_ s.2 (kyO o)).getD 0:Int) < s.1.length)/\Int.toNat ((zM_ s.2 (kyO o)).getD 0) < s.1.length/\alO (s.1.getD (Int.toNat ((zM_ s.2 (kyO o)).getD 0)) odO) o=true/\stp s o=(s.1.set (Int.toNat ((zM_ s.2 (kyO o)).getD 0)) (kZ_ (s.1.getD (Int.toNat ((zM_ s.2 (kyO o)).getD 0)) odO) o),s.2):=by
 unfold stp
 cases e:zM_ s.2 (kyO o) with
 | none=>rw [e] at h;cases h
 | some i=>
   obtain ⟨n,hn,rfl,hk⟩:=(hI _ i).1 e
   have e2:(((some (n:Int):Option Int).getD 0:Int))=(n:Int):=rfl
   refine ⟨⟨?_,?_⟩,?_,?_,rfl⟩
   ·show (0:Int)<=(n:Int);omega
   ·show (n:Int) < s.1.length;omega
   ·exact hn
   ·exact hh_.2 hk
theorem bS_ {s:WS} {o:OV} (h:(zM_ s.2 (kyO o)).isSome=false):stp s o=(s.1++[o],yP_ s.2 (kyO o) (s.1.length:Int)):=by
 unfold stp
 cases e:zM_ s.2 (kyO o) with
 | none=>rfl
 | some i=>rw [e] at h;cases h
theorem GL_ {l:List OV} (h:rgM l=true):∀ o ∈ l,rgO o=true:=by
 unfold rgM at h
 rw [Bool.and_eq_true,Bool.and_eq_true,decide_eq_true_eq,List.all_eq_true] at h
 exact h.1.1
theorem XM_ {a b:List OV} (ra:rgM a=true) (rb:rgM b=true) {o:OV} (h:o ∈ a++b):o.2.2.2.2.1.length<=100/\o.2.2.2.2.2.1.length<=100:=by
 have:rgO o=true:=by
  rcases List.mem_append.1 h with h | h
  ·exact GL_ ra o h
  ·exact GL_ rb o h
 unfold rgO at this
 have h1:=Yi_ this
 have h2:=GV_ o.1 o.2.1
 cases e:o.2.2.1
 ·have:=h1.2.2.1 e
  constructor<;>omega
 ·have:=h1.2.1 e
  constructor<;>omega
theorem bU_ {a b:List OV} (ra:rgM a=true) (rb:rgM b=true) (ba:∀ o ∈ a,Zd_ o) (bb:∀ o ∈ b,Zd_ o) (ap:Zp_ a b=false) {j:Nat} (hj:j < (a++b).length) {z:OV} (hz:z ∈ (wkO ((a++b).take j)).1) (al:alO z ((a++b).getD j odO)=true):
 z.2.2.2.2.1.length=((a++b).getD j odO).2.2.2.2.1.length/\z.2.2.2.2.1.length<=1000/\z.2.2.2.2.2.1.length<=1000:=by
 have ma:=Xk_ ra ba
 have mb:=Xk_ rb bb
 have hg:(a++b).getD j odO=(a++b)[j]:=by rw [List.getD_eq_getElem?_getD,List.getElem?_eq_getElem hj];rfl
 by_cases c:j < a.length
 ·exfalso
  have h1:(a++b).take j=a.take j:=List.take_append_of_le_length (by omega)
  have h2:Sep (a.take (j+1)):=ma.sp.sublist (List.take_sublist _ _)
  have h3:a.take (j+1)=a.take j++[(a++b).getD j odO]:=by
   rw [hg,List.take_add_one,List.getElem?_eq_getElem c,List.getElem_append_left c];rfl
  rw [h3] at h2
  obtain ⟨s1,s2⟩:=jd_ h2
  rw [h1,Bi_ _ s1] at hz
  have:=s2 z hz
  rw [al] at this;cases this
 ·have h1:(a++b).take j=a++b.take (j - a.length):=by
   rw [List.take_append]
   congr 1
   exact List.take_of_length_le (by omega)
  have hj2:j - a.length < b.length:=by rw [List.length_append] at hj;omega
  have h2:Sep (b.take (j - a.length+1)):=mb.sp.sublist (List.take_sublist _ _)
  have hg2:(a++b)[j]=b[j - a.length]:=List.getElem_append_right (by omega)
  have h3:b.take (j - a.length+1)=b.take (j - a.length)++[(a++b).getD j odO]:=by
   rw [hg,hg2,List.take_add_one,List.getElem?_eq_getElem hj2];rfl
  rw [h3] at h2
  obtain ⟨s1,s2⟩:=jd_ h2
  rw [h1,bl_ ma.sp _ s1] at hz
  have ob:(a++b).getD j odO ∈ b:=by rw [hg,hg2];exact List.getElem_mem hj2
  rcases (vz_ s1 z).1 hz with ⟨x,hx,w,hw,k1,rfl⟩ | ⟨k1,k2⟩ | ⟨k1,k2⟩
  ·exfalso
   have:=s2 w hw
   rw [jz_ (jA_ k1) al] at this;cases this
  ·have P:=H8_ ma mb ap k1 ob al
   have:=XM_ ra rb (List.mem_append_left b k1)
   exact ⟨P.ln,by omega,by omega⟩
  ·exfalso
   have:=s2 z k1
   rw [al] at this;cases this
theorem HI_ {a b:List OV} (ra:rgM a=true) (rb:rgM b=true) (ba:∀ o ∈ a,Zd_ o) (bb:∀ o ∈ b,Zd_ o):allLen (mrg a b):=⟨fun z hz=>by
 have mb:=Xk_ rb bb
 rcases (vz_ mb.sp z).1 hz with ⟨x,hx,w,hw,k1,rfl⟩ | ⟨k1,k2⟩ | ⟨k1,k2⟩
 ·have h1:=XM_ ra rb (List.mem_append_left b hx)
  have h2:=hQ_ x w
  have h3:=jM_ x w
  unfold lnV at h2 h3
  refine ⟨by omega,?_⟩
  show (if ue_ x w=true then orM x w else []).length<=100000
  split
  ·omega
  ·exact Nat.zero_le _
 ·have h1:=XM_ ra rb (List.mem_append_left b k1)
  exact ⟨by omega,by omega⟩
 ·have h1:=XM_ ra rb (List.mem_append_right a k1)
  exact ⟨by omega,by omega⟩⟩
theorem bw_ {a b:List OV} (ra:rgM a=true) (rb:rgM b=true) (ba:∀ o ∈ a,Zd_ o) (bb:∀ o ∈ b,Zd_ o) {j:Nat} (hj:(a++b).length<=j):(wkO ((a++b).take j)).1=mrg a b:=by
 rw [List.take_of_length_le hj]
 exact bl_ (Xk_ ra ba).sp b (Xk_ rb bb).sp
theorem BE_ (o:OV):((o.1,o.2.1,o.2.2.1,o.2.2.2.1,List.take (List.length o.2.2.2.2.1) (List.drop 0 (o.2.2.2.2.1++o.2.2.2.2.2.1)),List.take (List.length o.2.2.2.2.2.1) (List.drop (List.length o.2.2.2.2.1) (o.2.2.2.2.1++o.2.2.2.2.2.1)),()):OV)=o:=by
 have h1:List.take (List.length o.2.2.2.2.1) (List.drop 0 (o.2.2.2.2.1++o.2.2.2.2.2.1))=o.2.2.2.2.1:=List.take_left
 have h2:List.take (List.length o.2.2.2.2.2.1) (List.drop (List.length o.2.2.2.2.1) (o.2.2.2.2.1++o.2.2.2.2.2.1))=o.2.2.2.2.2.1:=by
  rw [List.drop_left];exact List.take_length
 rw [h1,h2]
def q7_ (a b:List OV):Bool:=rgM a && rgM b && !Zp_ a b && rgM (isG ltO (mrg a b))
def J7_ (a b:List OV):List OV:=if q7_ a b=true then isG ltO (mrg a b) else []
def Qv_:IR:=
(sq (kr [0] [oD 2 (.nilrow Y1)])
(sq (sq (.reg [oM 3 0,
oD 4 (.isnil false 3)])
(.cond 4
(sq (.reg [oD 2 (.nilrow Y1)])
.ret)
.skip))
(sq (.reg [oD 5 (.slice0 Y1),
oM 6 0,
oD 7 (.append Y1 80 5 6),
oM 2 7])
.ret)))
def Qo_:List RD:=[.tmp 2 false none]
theorem Qr_:zm_ Tryd.prog Tryd.f24 Qv_ Qo_=true:=by kernel_rfl
def zX_:List AV->List Obj->Option (Prop × AV × List Obj)
 | [.imm (.cons (.int .i64) (.cons (.int .i64) (.cons .bool (.cons (.int .u64) (.cons (.sl (.int .u8)) (.cons (.sl (.int .u8)) .nil)))))) l],[]=>some ((l.length<=1000000,.own 0,[.row false Y1 l]))
 | _,_=>none
theorem qZ_:zf_ Tryd.prog 24 (RwF zX_).sum:=by
 refine Wp_ Tryd.func24 Qr_ (ze_ _) fun args objs p v o e=>?_
 unfold zX_ at e
 split at e
 ·rename_i l
  cases e
  refine ⟨rfl,fun hw ho hp=>?_⟩
  repeat'(intro t ht;first|(cases t<;>first|(cases ht;done)|(try simp only[zg_]at ht;try(exfalso;first|contradiction|omega)))|((first|refine za_ ht ?_|refine ht ?_ ?_|refine ht.1 ?_ ?_|refine ht ?_)<;>clear ht))
  all_goals first
   | exact True.intro
   | (have hl:l=[]:=by first | assumption | (apply_assumption;rfl) | simp_all
      subst hl;exact ⟨rfl,rfl⟩)
   | exact ⟨rfl,rfl⟩
   | (simp only [us_,List.length_nil,Nat.zero_add];omega)
 ·cases e
def y4_:IR:=
(sq (kr [0,1] [oD 4 (.nilrow Y1),
oD 5 (.mov cF)])
(sq (sq (kr [0,1] [oM 13 0,
oC 14 5 [13],
oD 15 (.un .not 14),
oM 16 15,
oF 16 17 (.mov 1),
oF 16 18 (.call false (.f 5) [17]),
oF 16 19 (.un .not 18),
oP 20 16 cT 19,
oM 21 20,
oF 21 22 (.mov 0),
oF 21 23 (.mov 1),
oF 21 24 (.call false (.f 8) [22,23]),
oP 25 21 cT 24])
(.cond 25
(sq (kr [] [oD 4 (.nilrow Y1),
oD 5 (.mov cF)])
.ret)
.skip))
(sq (kr [0,1] [oD 26 (.mkmap (.cons (.int .i64) (.cons (.int .i64) (.cons (.int .u64) .nil))) (.int .i64)),
oM 6 26])
(sq (.reg [oD 7 (.nilrow Y1)])
(sq (sq (kr [0,1,6,7] [oM 27 0,
oC 28 24 [27],
oM 29 1,
oD 30 (.append Y1 80 28 29),
oE 31 30,
oD 32 (.mov (cI 0))])
(.block 0
(.loop
(sq (kr [6,7,30,31,32] [oB 33 .lss 32 31])
(sq (.cond 33
.skip
(.exit 0))
(sq (.block 1
(sq (.reg [oI 34 6 30 32,
oK 35 6 34,
oD 9 (.box [.int .i64 0,.int .i64 0,.kb false,.int .u64 0,.imm (.int .u8) [],.imm (.int .u8) []]),
oS 6 9 35])
(sq (kr [6,7,9,30,31,32] [oA 36 0 9,
oL 37 36,
oA 38 1 9,
oL 39 38,
oA 40 3 9,
oL 41 40,
oD 42 (.buildAll 3 [(0,1,37),(1,1,39),(2,1,41)]),
oD 10 (.box [.int .i64 0,.int .i64 0,.int .u64 0]),
oS 3 10 42])
(sq (sq (kr [6,7,9,10,30,31,32] [oM 44 6,
oK 45 3 10,
oD 46 (.mget (.cons (.int .i64) (.cons (.int .i64) (.cons (.int .u64) .nil))) (.int .i64) (0:Int) true 44 45),
oM 43 46,
oX 47 43 0,
oX 48 43 1,
oM 11 47,
oM 12 48])
(sq (kr [6,7,9,10,11,12,30,31,32] [oM 49 12])
(.cond 49
(sq (kd [6,7,9,11,30,31,32] [(oM 50 7,[]),
(oM 51 11,[0]),
(oM 52 7,[0,0]),
(oM 53 11,[0,0,0]),
(oI 54 6 52 53,[2,0]),
(oK 55 6 54,[3,0]),
(oK 56 6 9,[0,0,0,0,0,0]),
(oC 57 25 [55,56],[5,0]),
(oI 58 6 50 51,[]),
(oS 6 58 57,[])])
(.exit 1))
.skip)))
(sq (kr [6,7,9,10,30,31,32] [oM 59 6,
oK 60 3 10,
oM 61 7,
oE 62 61,
oN (.mput (.cons (.int .i64) (.cons (.int .i64) (.cons (.int .u64) .nil))) (.int .i64) 59 60 62)])
(kr [6,7,9,30,31,32] [oM 63 7,
oK 64 6 9,
oC 65 26 [64],
oD 66 (.sliceAll Y1 1 [(0,6,65)]),
oD 67 (.append Y1 80 63 66),
oM 7 67]))))))
(kr [6,7,30,31,32] [oB 68 .add 32 (cI 1),
oM 32 68])))))))
(sq (sq (kr [7] [oM 69 7,
oC 70 27 [69],
oM 7 70])
(sq (.reg [oM 71 7,
oC 72 5 [71],
oD 73 (.un .not 72)])
(.cond 73
(sq (kr [] [oD 4 (.nilrow Y1),
oD 5 (.mov cF)])
.ret)
.skip)))
(sq (kr [7] [oM 74 7,
oM 4 74,
oD 5 (.mov cT)])
.ret)))))))
def yx_:List RD:=[.tmp 4 true (some Y1),.tmp 5 true none]
theorem yM_:zm_ Tryd.prog Tryd.f9 y4_ yx_=true:=by kernel_rfl
def kq_:List AV->List Obj->Option (Prop × AV)
 | [.imm (.cons (.int .i64) (.cons (.int .i64) (.cons .bool (.cons (.int .u64) (.cons (.sl (.int .u8)) (.cons (.sl (.int .u8)) .nil)))))) a,.imm (.cons (.int .i64) (.cons (.int .i64) (.cons .bool (.cons (.int .u64) (.cons (.sl (.int .u8)) (.cons (.sl (.int .u8)) .nil)))))) b],[]=>some ((okM a/\okM b/\a.length<=60/\b.length<=60/\(∀ o ∈ (a:List OV),Zd_ o)/\(∀ o ∈ (b:List OV),Zd_ o),.tup [.imm Y1 (J7_ a b),.bool (q7_ a b)]))
 | _,_=>none
theorem jb_:zf_ Tryd.prog 9 (RoF kq_).sum:=by
 refine zi_ Tryd.func9 yM_ (zb_ (s:=RoF QU_) KY_ (zb_ (s:=RoF qC_) ka_ (zb_ (s:=RwF zX_) qZ_ (zb_ (s:=RoF KV_) xG_ (zb_ (s:=RwF kI_) Kq_ (zb_ (s:=RoF jG_) yj_ (ze_ _))))))) fun args objs p v e=>?_
 unfold kq_ at e
 split at e
 ·rename_i a b
  cases e
  refine ⟨rfl,fun hw ho hp=>?_⟩
  change List OV at a
  change List OV at b
  clear hw ho
  obtain ⟨oa,ob,la,lb,ba,bb⟩:=hp
  have aa:=oa.a
  repeat'(intro t ht;first|(cases t<;>first|(cases ht;done)|(try simp only[zg_]at ht;try(exfalso;first|contradiction|omega)))|((first|refine za_ ht ?_|refine ht ?_ ?_|refine ht.1 ?_ ?_|refine ht ?_)<;>clear ht))
  all_goals first
   | exact True.intro
   | assumption
   | omega
   | (refine ⟨?_,rfl⟩
      have e:q7_ a b=false:=by
       unfold q7_
       first
        | (rw [‹rgM a=false›];rfl)
        | (rw [‹rgM b=false›];simp)
        | (rw [‹Zp_ a b=true›];simp)
      unfold J7_
      rw [e];rfl)
   | (intro r h1 h2;clear h1;refine h2 ⟨[6,7,30,31,32],Nat,(fun j=>j<=(a++b).length/\True),fun j=>[.mapv 0,.own 1,.own 2,.int .i64 (a++b).length,.int .i64 j],fun j=>[.map true KTY (.int .i64) (wkO ((a++b).take j)).2,.row false Y1 (wkO ((a++b).take j)).1,.row false Y1 (a++b)],fun j=>(a++b).length - j,⟨0,⟨Nat.zero_le _,True.intro⟩,rfl,rfl⟩,?_⟩;clear h2)
  rintro j ⟨hj,-⟩
  have hab:(a++b).length<=120:=by rw [List.length_append];omega
  have hI:=vM_ ((a++b).take j)
  have hn:(wkO ((a++b).take j)).1.length<=j:=Nat.le_trans (bv_ _) (by rw [List.length_take];omega)
  have ra:rgM a=true:=by assumption
  have rb:rgM b=true:=by assumption
  have ap:Zp_ a b=false:=by assumption
  have hL:=fun h:j < (a++b).length=>XM_ ra rb (z1_ h odO)
  have hF:=fun h=>bR_ hI (o:=(a++b).getD j odO) h
  have hN:=fun h=>bS_ (s:=wkO ((a++b).take j)) (o:=(a++b).getD j odO) h
  have hS:=fun h:j < (a++b).length=>Hb_ h
  have hC:=fun (h:j < (a++b).length) z=>bU_ (z:=z) ra rb ba bb ap h
  have hE:=fun h:(a++b).length<=j=>bw_ ra rb ba bb h
  have hA:=HI_ ra rb ba bb
  repeat'(intro t ht;first|(cases t<;>first|(cases ht;done)|(try simp only[zg_]at ht;try(exfalso;first|contradiction|omega)))|((first|refine za_ ht ?_|refine ht ?_ ?_|refine ht.1 ?_ ?_|refine ht ?_)<;>clear ht))
  all_goals first
   | exact True.intro
   | assumption
   | omega
   | ((try dsimp only);simp only [zp_];omega)
   | (rw [hE (by omega)] at hn ⊢;exact ⟨by omega,hA⟩)
   | (rw [hE (by omega)] at hn ⊢;exact ⟨bX_ hA,by rw [(wb_ _).length_eq];omega⟩)
   | (rw [hE (by omega)] at ht
      refine ⟨?_,rfl⟩
      have e:q7_ a b=true:=by unfold q7_;rw [ra,rb,ap,ht];rfl
      unfold J7_
      rw [e,hE (by omega)];rfl)
   | (rw [hE (by omega)] at ht
      refine ⟨?_,rfl⟩
      have e:q7_ a b=false:=by unfold q7_;rw [ra,rb,ap,ht];rfl
      unfold J7_
      rw [e];rfl)
   | (have h1:=hL (by omega)
      exact ⟨Nat.le_trans h1.1 (by decide),Nat.le_trans h1.2 (by decide)⟩)
   | (rw [List.length_append];omega)
   | (constructor<;>(simp only [List.length_cons,List.length_nil];omega))
   | exact (hF ht).1
   | exact (hF ht).2.1
   | exact hC (by omega) _ (z1_ (hF ht).2.1 odO) (hF ht).2.2.1
   | (refine ⟨j+1,⟨by omega,True.intro⟩,by dsimp only;omega,rfl,?_⟩
      have e1:=(hS (by omega)).trans (hN ht)
      have e2:=BE_ ((a++b).getD j odO)
      dsimp only
      rw [e1]
      exact List.cons_eq_cons.2 ⟨rfl,List.cons_eq_cons.2 ⟨congrArg (Obj.row false Y1) (congrArg (fun z=>(wkO ((a++b).take j)).1++[z]) e2),rfl⟩⟩)
   | (refine ⟨j+1,⟨by omega,True.intro⟩,by dsimp only;omega,rfl,?_⟩
      have e1:=(hS (by omega)).trans (hF ht).2.2.2
      dsimp only
      rw [e1]
      rfl)
 ·cases e
theorem G5_ {a b:List OV} (ha:KH_ a=true) (hb:KH_ b=true) (ba:∀ o ∈ a,Zd_ o) (bb:∀ o ∈ b,Zd_ o):okM a/\okM b/\a.length<=60/\b.length<=60/\(∀ o ∈ a,Zd_ o)/\(∀ o ∈ b,Zd_ o):=⟨(QG_ ha).1,(QG_ hb).1,(QG_ ha).2,(QG_ hb).2,ba,bb⟩
def ye_:List OV:=[(32768,5,false,0,[8,0],[],()),(32768,11,true,0,[10,0,0,0],[255,0,0,0],())]
def W7_:List OV:=[(32768,5,false,0,[8,0],[],()),(32768,11,true,0,[10,1,0,0],[255,255,0,0],())]
def Bh_:List OV:=[(32768,5,false,0,[8,0],[],()),(32768,11,false,0,[10,2,3,4],[],())]
theorem s11:q7_ ye_ W7_=true/\J7_ ye_ W7_=W7_/\Zm_ W7_ ye_=true/\Zm_ ye_ W7_=false/\v2_ ye_ Bh_=true/\v2_ W7_ Bh_=false/\Zp_ ye_ W7_=false:=by decide+kernel
theorem BX_:okM ye_/\ye_.length<=60:=QG_ (by decide)
theorem BW_:okM W7_/\W7_.length<=60:=QG_ (by decide)
theorem BV_:∀ o ∈ ye_,Zd_ o:=by
 show ∀ o ∈ ye_,(0<=o.2.2.2.1/\(∀ x ∈ o.2.2.2.2.1,0<=x/\x<=255)/\(∀ x ∈ o.2.2.2.2.2.1,0<=x/\x<=255))
 decide
theorem BU_:∀ o ∈ W7_,Zd_ o:=by
 show ∀ o ∈ W7_,(0<=o.2.2.2.1/\(∀ x ∈ o.2.2.2.2.1,0<=x/\x<=255)/\(∀ x ∈ o.2.2.2.2.2.1,0<=x/\x<=255))
 decide
def V7_:IR:=
(sq (kr [] [oD 0 (.mov cF)])
(sq (.reg [oD 7 (.sliceAll (.int .u8) 2 [(0,1,(.c (.int .u8 8))),(1,1,(.c (.int .u8 0)))]),
oD 8 (.build [.int .i64 0,.int .i64 0,.kb false,.int .u64 0,.imm (.int .u8) [],.imm (.int .u8) []] [(0,1,(cI 32768)),(1,1,(cI 5)),(4,1,7)]),
oD 1 (.box [.int .i64 0,.int .i64 0,.kb false,.int .u64 0,.imm (.int .u8) [],.imm (.int .u8) []]),
oS 6 1 8])
(sq (kr [1] [oK 9 6 1,
oD 10 (.sliceAll (.int .u8) 4 [(0,1,(.c (.int .u8 10))),(1,1,(.c (.int .u8 0))),(2,1,(.c (.int .u8 0))),(3,1,(.c (.int .u8 0)))]),
oD 11 (.sliceAll (.int .u8) 4 [(0,1,(.c (.int .u8 255))),(1,1,(.c (.int .u8 0))),(2,1,(.c (.int .u8 0))),(3,1,(.c (.int .u8 0)))]),
oD 12 (.build [.int .i64 0,.int .i64 0,.kb false,.int .u64 0,.imm (.int .u8) [],.imm (.int .u8) []] [(0,1,(cI 32768)),(1,1,(cI 11)),(2,1,cT),(4,1,10),(5,1,11)]),
oD 13 (.sliceAll Y1 2 [(0,6,9),(6,6,12)]),
oM 2 13])
(sq (kr [1,2] [oK 14 6 1,
oD 15 (.sliceAll (.int .u8) 4 [(0,1,(.c (.int .u8 10))),(1,1,(.c (.int .u8 1))),(2,1,(.c (.int .u8 0))),(3,1,(.c (.int .u8 0)))]),
oD 16 (.sliceAll (.int .u8) 4 [(0,1,(.c (.int .u8 255))),(1,1,(.c (.int .u8 255))),(2,1,(.c (.int .u8 0))),(3,1,(.c (.int .u8 0)))]),
oD 17 (.build [.int .i64 0,.int .i64 0,.kb false,.int .u64 0,.imm (.int .u8) [],.imm (.int .u8) []] [(0,1,(cI 32768)),(1,1,(cI 11)),(2,1,cT),(4,1,15),(5,1,16)]),
oD 18 (.sliceAll Y1 2 [(0,6,14),(6,6,17)]),
oM 3 18])
(sq (kr [1,2,3] [oM 20 2,
oM 21 3,
oC 22 9 [20,21],
oM 19 22,
oX 23 19 0,
oX 24 19 1,
oM 4 23,
oM 5 24])
(sq (kr [1,2,3,4,5] [oK 25 6 1,
oD 26 (.sliceAll (.int .u8) 4 [(0,1,(.c (.int .u8 10))),(1,1,(.c (.int .u8 2))),(2,1,(.c (.int .u8 3))),(3,1,(.c (.int .u8 4)))]),
oD 27 (.build [.int .i64 0,.int .i64 0,.kb false,.int .u64 0,.imm (.int .u8) [],.imm (.int .u8) []] [(0,1,(cI 32768)),(1,1,(cI 11)),(4,1,26)]),
oD 28 (.sliceAll Y1 2 [(0,6,25),(6,6,27)]),
oM 6 28])
(sq (kr [2,3,4,5,6] [oM 29 5,
oM 30 29,
oT 30 31 (.mov 4),
oT 30 32 (.mov 3),
oT 30 33 (.call false (.f 10) [31,32]),
oP 34 30 33 cF,
oM 35 34,
oT 35 36 (.mov 3),
oT 35 37 (.mov 2),
oT 35 38 (.call false (.f 7) [36,37]),
oP 39 35 38 cF,
oM 40 39,
oT 40 41 (.mov 2),
oT 40 42 (.mov 3),
oT 40 43 (.call false (.f 7) [41,42]),
oT 40 44 (.un .not 43),
oP 45 40 44 cF,
oM 46 45,
oT 46 47 (.mov 2),
oT 46 48 (.mov 6),
oT 46 49 (.call false (.f 18) [47,48]),
oP 50 46 49 cF,
oM 51 50,
oT 51 52 (.mov 3),
oT 51 53 (.mov 6),
oT 51 54 (.call false (.f 18) [52,53]),
oT 51 55 (.un .not 54),
oP 56 51 55 cF,
oM 57 56,
oT 57 58 (.mov 2),
oT 57 59 (.mov 3),
oT 57 60 (.call false (.f 8) [58,59]),
oT 57 61 (.un .not 60),
oP 62 57 61 cF,
oM 0 62])
.ret)))))))
def Vs_:List RD:=[.tmp 0 true none]
theorem VG_:zm_ Tryd.prog Tryd.f6 V7_ Vs_=true:=by kernel_rfl
def Jz_:List AV->List Obj->Option (Prop × AV)
 | [],[]=>some ((True,.bool true))
 | _,_=>none
theorem Y8_:zf_ Tryd.prog 6 (RoF Jz_).sum:=by
 refine zi_ Tryd.func6 VG_ (zb_ (s:=RoF kq_) jb_ (zb_ (s:=RoF KM_) JJ_ (zb_ (s:=RoF Qj_) k9_ (zb_ (s:=RoF k8_) WM_ (zb_ (s:=RoF qC_) ka_ (ze_ _)))))) fun args objs p v e=>?_
 unfold Jz_ at e
 split at e
 ·cases e
  refine ⟨rfl,fun hw ho hp=>?_⟩
  clear hw ho
  have z:=s11
  have za:=BX_
  have zb:=BW_
  have zc:=BV_
  have zd:=BU_
  unfold ye_ W7_ Bh_ at*
  obtain ⟨z1,z2,z3,z4,z5,z6,z7⟩:=z
  repeat'(intro t ht;first|(cases t<;>first|(cases ht;done)|(try simp only[zg_]at ht;try(exfalso;first|contradiction|omega)))|((first|refine za_ ht ?_|refine ht ?_ ?_|refine ht.1 ?_ ?_|refine ht ?_)<;>clear ht))
  all_goals first
   | exact True.intro
   | exact ⟨za.1,zb.1,za.2,zb.2,zc,zd⟩
   | exact za.1.a
   | exact zb.1.a
   | exact ⟨rfl,by first | rfl | exact True.intro⟩
 ·cases e
structure Order (a b c:List OV):Prop where
 o1:Zm_ a b=true->Zm_ b c=true->Zm_ a c=true
 o2:Zp_ a b=Zp_ b a
 o3:Zp_ a a=false
 o4:q7_ a a=true
 o5:J7_ a a=isG ltO a
 o6:Zm_ a b=true->q7_ a b=true/\J7_ a b=isG ltO a
theorem Bp_ {a b c:List OV} (ba:∀ o ∈ a,Zd_ o) (bb:∀ o ∈ b,Zd_ o) (bc:∀ o ∈ c,Zd_ o) (ra:rgM a=true) (rb:rgM b=true):Order a b c:=by
 have ma:=Xk_ ra ba
 have mb:=Xk_ rb bb
 have k:∀ d:List OV,rgM d=true->Mt d->Zm_ a d=true->q7_ a d=true/\J7_ a d=isG ltO a:=fun d rd md h=>by
  have e1:=YV_ ma md h
  have e2:=uH_ ma md h
  have e3:q7_ a d=true:=by unfold q7_;rw [ra,rd,e1,e2,gY_ ra];rfl
  refine ⟨e3,?_⟩
  unfold J7_
  rw [e3,e2];rfl
 have s:=k a ra ma (gv_ ba)
 exact ⟨fun h1 h2=>gu_ ba bb bc h1 h2,UA_ ba bb,UB_ ma,s.1,s.2,fun h=>k b rb mb h⟩
def wc_:IR:=
(sq (kr [0,1,2] [oD 6 (.mov cF)])
(sq (sq (kr [0,1,2] [oM 11 0,
oC 12 4 [11],
oD 13 (.un .not 12),
oM 14 13,
oF 14 15 (.mov 1),
oF 14 16 (.call false (.f 4) [15]),
oF 14 17 (.un .not 16),
oP 18 14 cT 17,
oM 19 18,
oF 19 20 (.mov 2),
oF 19 21 (.call false (.f 4) [20]),
oF 19 22 (.un .not 21),
oP 23 19 cT 22,
oM 24 23,
oF 24 25 (.mov 0),
oF 24 26 (.call false (.f 5) [25]),
oF 24 27 (.un .not 26),
oP 28 24 cT 27,
oM 29 28,
oF 29 30 (.mov 1),
oF 29 31 (.call false (.f 5) [30]),
oF 29 32 (.un .not 31),
oP 33 29 cT 32,
oM 34 33,
oF 34 35 (.mov 2),
oF 34 36 (.call false (.f 5) [35]),
oF 34 37 (.un .not 36),
oP 38 34 cT 37])
(.cond 38
(sq (kr [] [oC 39 6 [],
oM 6 39])
.ret)
.skip))
(sq (sq (kr [0,1,2] [oM 40 0,
oM 41 1,
oC 42 7 [40,41],
oM 43 42,
oT 43 44 (.mov 1),
oT 43 45 (.mov 2),
oT 43 46 (.call false (.f 7) [44,45]),
oP 47 43 46 cF,
oM 48 47,
oT 48 49 (.mov 0),
oT 48 50 (.mov 2),
oT 48 51 (.call false (.f 7) [49,50]),
oT 48 52 (.un .not 51),
oP 53 48 52 cF,
oM 54 53,
oF 54 55 (.mov 0),
oF 54 56 (.mov 1),
oF 54 57 (.call false (.f 8) [55,56]),
oF 54 58 (.mov 1),
oF 54 59 (.mov 0),
oF 54 60 (.call false (.f 8) [58,59]),
oF 54 61 (.eqb true 57 60),
oP 62 54 cT 61,
oM 63 62,
oF 63 64 (.mov 0),
oF 63 65 (.mov 0),
oF 63 66 (.call false (.f 8) [64,65]),
oP 67 63 cT 66])
(.cond 67
(sq (kr [] [oD 6 (.mov cF)])
.ret)
.skip))
(sq (kr [0,1] [oM 69 0,
oM 70 0,
oC 71 9 [69,70],
oM 68 71,
oX 72 68 0,
oX 73 68 1,
oM 7 72,
oM 8 73])
(sq (sq (kr [0,1,7,8] [oM 74 8,
oD 75 (.un .not 74),
oM 76 75,
oF 76 77 (.mov 7),
oF 76 78 (.mov 0),
oF 76 79 (.call false (.f 11) [78]),
oF 76 80 (.call false (.f 10) [77,79]),
oF 76 81 (.un .not 80),
oP 82 76 cT 81])
(.cond 82
(sq (kr [] [oD 6 (.mov cF)])
.ret)
.skip))
(sq (sq (kr [0,1,7] [oM 84 0,
oM 85 1,
oC 86 9 [84,85],
oM 83 86,
oX 87 83 0,
oX 88 83 1,
oM 9 87,
oM 10 88])
(sq (kr [0,1,7,9,10] [oM 89 0,
oM 90 1,
oC 91 7 [89,90],
oM 92 91,
oT 92 93 (.mov 10),
oT 92 94 (.un .not 93),
oT 92 95 (.mov 94),
oF 95 96 (.mov 9),
oF 95 97 (.mov 7),
oF 95 98 (.call false (.f 10) [96,97]),
oF 95 99 (.un .not 98),
oT 92 100 (.pick 95 cT 99),
oP 101 92 100 cF])
(.cond 101
(sq (kr [] [oD 6 (.mov cF)])
.ret)
.skip)))
(sq (kr [] [oC 102 6 [],
oM 6 102])
.ret)))))))
def JO_:List RD:=[.tmp 6 true none]
theorem JV_:zm_ Tryd.prog Tryd.f3 wc_ JO_=true:=by kernel_rfl
def QL_:List AV->List Obj->Option (Prop × AV)
 | [.imm (.cons (.int .i64) (.cons (.int .i64) (.cons .bool (.cons (.int .u64) (.cons (.sl (.int .u8)) (.cons (.sl (.int .u8)) .nil)))))) a,.imm (.cons (.int .i64) (.cons (.int .i64) (.cons .bool (.cons (.int .u64) (.cons (.sl (.int .u8)) (.cons (.sl (.int .u8)) .nil)))))) b,.imm (.cons (.int .i64) (.cons (.int .i64) (.cons .bool (.cons (.int .u64) (.cons (.sl (.int .u8)) (.cons (.sl (.int .u8)) .nil)))))) c],[]=>some ((True,.bool true))
 | _,_=>none
theorem j8_:zf_ Tryd.prog 3 (RoF QL_).sum:=by
 refine zi_ Tryd.func3 JV_ (zb_ (s:=RoF Wd_) Ve_ (zb_ (s:=RoF QU_) KY_ (zb_ (s:=RoF Jz_) Y8_ (zb_ (s:=RoF Qj_) k9_ (zb_ (s:=RoF qC_) ka_ (zb_ (s:=RoF kq_) jb_ (zb_ (s:=RoF Jt_) Y2_ (zb_ (s:=RoF KM_) JJ_ (ze_ _))))))))) fun args objs p v e=>?_
 unfold QL_ at e
 split at e
 ·rename_i a b c
  cases e
  refine ⟨rfl,fun hw ho hp=>?_⟩
  change List OV at a
  change List OV at b
  change List OV at c
  have ba:=uW_ (hw (.imm Y1 a) (by simp))
  have bb:=uW_ (hw (.imm Y1 b) (by simp))
  have bc:=uW_ (hw (.imm Y1 c) (by simp))
  clear hw ho
  repeat'(intro t ht;first|(cases t<;>first|(cases ht;done)|(try simp only[zg_]at ht;try(exfalso;first|contradiction|omega)))|((first|refine za_ ht ?_|refine ht ?_ ?_|refine ht.1 ?_ ?_|refine ht ?_)<;>clear ht))
  all_goals first
   | exact True.intro
   | exact ⟨rfl,by first | rfl | exact True.intro⟩
   | exact G5_ ‹KH_ a=true› ‹KH_ a=true› ba ba
   | exact G5_ ‹KH_ a=true› ‹KH_ b=true› ba bb
   | exact (QG_ ‹KH_ a=true›).1
   | exact (QG_ ‹KH_ b=true›).1
   | exact (QG_ ‹KH_ c=true›).1
   | exact (QG_ ‹KH_ a=true›).1.a
   | exact (QG_ ‹KH_ b=true›).1.a
   | exact (QG_ ‹KH_ c=true›).1.a
   | (have:=(QG_ ‹KH_ a=true›).2;omega)
   | (have W:=Bp_ (c:=c) ba bb bc ‹rgM a=true› ‹rgM b=true›
      exfalso
      first
       | exact absurd (W.o1 ‹_› ‹_›) (by rw [ht];decide)
       | exact absurd W.o3 (by rw [ht];decide)
       | exact absurd W.o4 (by rw [ht];decide)
       | exact absurd (W.o6 ‹_›).1 (by rw [ht];decide)
       | exact ht W.o5
       | exact ht ((W.o6 ‹_›).2.trans W.o5.symm)
       | (rw [W.o2] at ht;revert ht;cases Zp_ b a<;>decide)
       | (have e:=W.o2;rw [‹Zp_ a b=true›] at e;rw [<- e] at ht;revert ht;decide)
       | (have e:=W.o2;rw [‹Zp_ a b=false›] at e;rw [<- e] at ht;revert ht;decide)
       | fail)
 ·cases e
end Go.Eng
