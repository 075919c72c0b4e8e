/- Parts of the proof: I1, I2, P2, P3, P4, P5, P6, I3, I4. No condition. -/
import Derived.Test.YtimkdohmkfjfaaaGreatDoorProg
import Derived.Test.YtimkdohmkfjfaaaGreatDoorXJ11
import Derived.KernelRfl
import Derived.Test.YtimkdohmkfjfaaaGreatDoorXJ17
import Derived.Lib.BytesEntry
import Derived.Lib.Walk
import Derived.Laws.Externs
import Derived.Lib.Strings
import Derived.Lib.Slices
import Derived.Test.YtimkdohmkfjfaaaGreatDoorXJ12
import Derived.Test.YtimkdohmkfjfaaaGreatDoorXJ16
namespace Go.Eng
open Go.Proofs
set_option linter.unusedVariables false
set_option linter.unusedSimpArgs false
set_option maxRecDepth 100000
set_option maxHeartbeats 1000000
abbrev VIt:=Int × List Int × Unit
def wI (t:Int):List Int:=if t=1 then [1,-3] else if t=2 then [-4,8,8] else if t=3\/t=4\/t=5 then [-4] else if t=6\/t=65535 then [4] else []
def kI (t:Int):Bool:=decide (t=1) || decide (t=2) || decide (t=3) || decide (t=4) || decide (t=5) || decide (t=6) || decide (t=65535)
def dI (t:Int):Bool:=decide (t=3) || decide (t=4)
def mI (t:Int):Bool:=decide (t=3) || decide (t=4) || decide (t=65535)
def qI (t a b:Int):Int:=if t=1/\254 < a then 771 else if t=2/\¬ Qk_ .andNot .u64 a b=0 then 772 else 0
def nuI (t:Int):Int:=zF_ (wI t)
def sI (t:Int):Int:=zV_ (wI t)
theorem ve_ {t:Int} (h:kI t=true):t=1\/t=2\/t=3\/t=4\/t=5\/t=6\/t=65535:=by
 unfold kI at h;simp only [Bool.or_eq_true,decide_eq_true_eq] at h;omega
theorem gW_ {t:Int} (h:kI t=true):(sI t=4\/sI t=20)/\0<=nuI t/\nuI t<=2:=by
 rcases ve_ h with rfl | rfl | rfl | rfl | rfl | rfl | rfl<;>decide
theorem zc1_ {t:Int} (h:kI t=true):0<=t/\t<=65535:=by have:=ve_ h;omega
def xI (i:VIn):List Int:=[i.2.1,i.2.2.1].take (nuI i.1).toNat
theorem zdb_ {n a b:Int} (h0:0<=n/\n<=2) (h2:2<=n\/b=0) (h1:1<=n\/a=0):([a,b].take n.toNat++[0,0]).getD 0 0=a/\([a,b].take n.toNat++[0,0]).getD 1 0=b:=by
 have:n=0\/n=1\/n=2:=by omega
 rcases this with rfl | rfl | rfl
 ·obtain rfl:a=0:=by omega
  obtain rfl:b=0:=by omega
  exact ⟨rfl,rfl⟩
 ·obtain rfl:b=0:=by omega
  exact ⟨rfl,rfl⟩
 ·exact ⟨rfl,rfl⟩
theorem zel_ {n:Int} {l:List Int} (h0:0<=n/\n<=2) (h:(l.length:Int)=n):[(l++[0,0]).getD 0 0,(l++[0,0]).getD 1 0].take n.toNat=l/\(2<=n\/(l++[0,0]).getD 1 0=0)/\(1<=n\/(l++[0,0]).getD 0 0=0):=by
 subst h
 rcases l with _ | ⟨p,_ | ⟨q,_ | ⟨r,s⟩⟩⟩
 ·exact ⟨rfl,.inr rfl,.inr rfl⟩
 ·exact ⟨rfl,.inr rfl,.inl (by simp)⟩
 ·exact ⟨rfl,.inl (by simp),.inl (by simp)⟩
 ·simp only [List.length_cons] at h0;omega
def gdI (i:VIn):Bool:=kI i.1 && decide (qI i.1 i.2.1 i.2.2.1=0) && (decide (2<=nuI i.1) || decide (i.2.2.1=0)) && (decide (1<=nuI i.1) || decide (i.2.1=0)) && (dI i.1 || decide (i.2.2.2.1.length=0)) && (decide (i.1=65535) || decide (i.2.2.2.2.1.length=0)) && decide (i.2.2.2.2.1.length % 8=0)
def byI (i:VIn):Option (List Int):=BV_ (BV_ (Bd_ (wI i.1) (xI i)) (BR_ i.2.2.2.1)) (some i.2.2.2.2.1)
def bdO (i:VIn):Option (List Int):=if gdI i=true then (match byI i with | some y=>if (65524:Int) < y.length then none else some y | none=>none) else none
structure BdOk (i:VIn) (y:List Int):Prop where
 k:kI i.1=true
 q:qI i.1 i.2.1 i.2.2.1=0
 b:2<=nuI i.1\/i.2.2.1=0
 a:1<=nuI i.1\/i.2.1=0
 d:dI i.1=true\/i.2.2.2.1=[]
 e:i.1=65535\/i.2.2.2.2.1=[]
 m:i.2.2.2.2.1.length % 8=0
 p:Qc_ (wI i.1) (xI i)=true
 r:rgL i.2.2.2.1=true
 s:y=ZZ_ (wI i.1) (xI i)++boA i.2.2.2.1++i.2.2.2.2.1
 l:(y.length:Int)<=65524
theorem y0_ {i:VIn}:gdI i=true ↔ kI i.1=true/\qI i.1 i.2.1 i.2.2.1=0/\(2<=nuI i.1\/i.2.2.1=0)/\(1<=nuI i.1\/i.2.1=0)/\(dI i.1=true\/i.2.2.2.1=[])/\(i.1=65535\/i.2.2.2.2.1=[])/\i.2.2.2.2.1.length % 8=0:=by
 unfold gdI
 simp only [Bool.and_eq_true,Bool.or_eq_true,decide_eq_true_eq,List.length_eq_zero_iff,and_assoc]
theorem w7_ {i:VIn} {y:List Int}:bdO i=some y ↔ BdOk i y:=by
 constructor
 ·intro h
  unfold bdO at h
  split at h
  ·rename_i hg
   obtain ⟨g1,g2,g3,g4,g5,g6,g7⟩:=y0_.1 hg
   cases hy:byI i with
   | none=>rw [hy] at h;cases h
   | some z=>
     rw [hy] at h
     dsimp only at h
     split at h
     ·cases h
     ·rename_i hl
      cases h
      unfold byI at hy
      obtain ⟨p,q,w1,w2,w3⟩:=uq_ hy
      obtain ⟨p1,p2,w4,w5,w6⟩:=uq_ w1
      obtain ⟨k1,k2⟩:=Bc_ w4
      obtain ⟨k3,k4⟩:=BQ_ w5
      cases w2
      exact ⟨g1,g2,g3,g4,g5,g6,g7,k1,k3,by rw [w3,w6,k2,k4],by omega⟩
  ·cases h
 ·rintro ⟨g1,g2,g3,g4,g5,g6,g7,g8,g9,rfl,g11⟩
  unfold bdO byI
  have e1:Bd_ (wI i.1) (xI i)=some (ZZ_ (wI i.1) (xI i)):=if_pos g8
  have e2:BR_ i.2.2.2.1=some (boA i.2.2.2.1):=if_pos g9
  rw [if_pos (y0_.2 ⟨g1,g2,g3,g4,g5,g6,g7⟩),e1,e2,bh_,bh_]
  dsimp only
  rw [if_neg (by omega)]
theorem zc9_:∀ {l:List AC},l.all rgA=true->(boA l).length % 8=0
 | [],_=>rfl
 | a :: r,h=>by
   rw [List.all_cons,Bool.and_eq_true] at h
   have h1:=(Ya_ h.1).2.2.2
   have h2:=zc9_ h.2
   rw [Kg_,List.length_append];omega
theorem zda_ {i:VIn} (ha:0<=i.2.1/\i.2.1<=18446744073709551615) (hb:0<=i.2.2.1/\i.2.2.1<=18446744073709551615):∀ z ∈ xI i,0<=z/\z<=18446744073709551615:=fun z hz=>by
 have:=List.mem_of_mem_take hz
 simp only [List.mem_cons,List.not_mem_nil,or_false] at this
 rcases this with rfl | rfl<;>assumption
theorem YO_ {w xs:List Int} (h:Qc_ w xs=true):((ZZ_ w xs).length:Int)=zV_ w:=x7_ h
theorem H2_ {i:VIn} {y:List Int} (h:bdO i=some y):y.length % 8=4/\4<=y.length/\(y.length:Int)<=65524:=by
 have g:=w7_.1 h
 have h1:=YO_ g.p
 have h2:=zc9_ (K0_ g.r).1
 have h3:=(gW_ g.k).1
 unfold sI at h3
 have hl:=g.l
 have hm:=g.m
 have hy:=congrArg List.length g.s
 rw [List.length_append,List.length_append] at hy
 omega
def enH (t:Int) (y:List Int):List Int:=zd_ t 2++zd_ (4+y.length) 2++y
theorem xA_ (t:Int) (y:List Int):(enH t y).length=4+y.length:=by
 have l2:(zd_ t 2).length=2:=by have:=zk_ (n:=t) (w:=2) (by decide);omega
 have l3:(zd_ (4+y.length) 2).length=2:=by have:=zk_ (n:=4+(y.length:Int)) (w:=2) (by decide);omega
 unfold enH;simp only [List.length_append];omega
def bdY (i:VIn):List Int:=(bdO i).getD []
def enI (i:VIn):List Int:=enH i.1 (bdY i)
def itI (i:VIn):VIt:=(i.1,bdY i,())
def boI (l:List VIn):List Int:=l.flatMap enI
theorem vU_ (i:VIn) (r:List VIn):boI (i :: r)=enI i++boI r:=List.flatMap_cons
def snI (acc:List VIn) (t:Int):Bool:=acc.any fun i=>decide (i.1=t)
def dbI (acc:List VIn) (t:Int):Bool:=snI acc t && decide (¬ t=65535)
def gdL (acc:List VIn):List VIn->Bool
 | []=>true
 | i :: r=>(bdO i).isSome && !dbI acc i.1 && gdL (acc++[i]) r
theorem zbc_ {acc l:List VIn} {i:Nat} {d:VIn} (h:i < l.length):gdL acc (l.drop i)=((bdO (l.getD i d)).isSome && !dbI acc (l.getD i d).1 && gdL (acc++[l.getD i d]) (l.drop (i+1))):=by
 rw [zX_ h d];rfl
def rgI (l:List VIn):Bool:=gdL [] l && decide ((boI l).length<=65528)
def ieL (l:List VIn):List Int:=if rgI l=true then boI l else []
def ieE (l:List VIn):Int:=if rgI l=true then 0 else 10001
theorem vX_ {i:VIn} {y:List Int} (h:bdO i=some y):bdY i=y:=by unfold bdY;rw [h];rfl
theorem yZ_:∀ {l acc:List VIn},gdL acc l=true->∀ i ∈ l,(bdO i).isSome=true
 | i :: r,acc,h,j,hj=>by
   unfold gdL at h
   simp only [Bool.and_eq_true] at h
   rcases List.mem_cons.1 hj with rfl | hj
   ·exact h.1.1
   ·exact yZ_ h.2 j hj
theorem bT_:∀ {l:List VIn},(∀ i ∈ l,(bdO i).isSome=true)->8*l.length<=(boI l).length/\(boI l).length % 8=0/\(boI l).length<=65528*l.length
 | [],_=>⟨Nat.le_refl _,rfl,Nat.le_refl _⟩
 | i :: r,h=>by
   obtain ⟨y,hy⟩:=Option.isSome_iff_exists.1 (h i (List.mem_cons_self ..))
   obtain ⟨i1,i2,i3⟩:=bT_ (l:=r) fun j hj=>h j (List.mem_cons_of_mem _ hj)
   obtain ⟨b1,b2,b3⟩:=H2_ hy
   have e:=xA_ i.1 (bdY i)
   rw [vX_ hy] at e
   rw [vU_,List.length_append,List.length_cons]
   unfold enI;rw [vX_ hy];omega
def o5N (t:Int) (x:List Int):List Int:=kU_ (wI t) x 0 0++[0,0]
def o5A (t:Int) (x:List Int):Int:=(o5N t x).getD 0 0
def o5B (t:Int) (x:List Int):Int:=(o5N t x).getD 1 0
def o5K (t:Int) (x:List Int):Bool:=decide (Zo_ (wI t) x=0) && (mI t || decide ((x.length:Int)<=sI t))
def o5R (t:Int) (x:List Int):List Int:=x.drop (sI t).toNat
def o5E (s:Bool) (t:Int) (x:List Int):Int:=if kI t=false then 769 else if s=true/\¬ t=65535 then 778 else if o5K t x=false then 776 else if t=65535 then 0 else if ¬ qI t (o5A t x) (o5B t x)=0 then qI t (o5A t x) (o5B t x) else adE (o5R t x)
def o5V (s:Bool) (t:Int) (x:List Int):VIn:=if kI t=false\/(s=true/\¬ t=65535) then (t,0,0,[],[],()) else (t,o5A t x,o5B t x,(if o5E s t x=0/\¬ t=65535 then adL (o5R t x) else []),(if o5K t x=true/\t=65535 then o5R t x else []),())
def inE (acc:List VIn) (y:List Int):Int:=if ¬ tlE y 8 8 776=0 then tlE y 8 8 776 else o5E (snI acc (tT y)) (tT y) (bd y)
def vI (acc:List VIn) (y:List Int):VIn:=o5V (snI acc (tT y)) (tT y) (bd y)
def inG (acc:List VIn) (y:List Int):List VIn × Int:=
 if y.length=0 then (acc,0) else if ¬ inE acc y=0 then ([],inE acc y) else inG (acc++[vI acc y]) (y.drop (max 1 (tN y).toNat))
termination_by y.length
decreasing_by all_goals (rw [List.length_drop];omega)
theorem xw_ {acc:List VIn} {y:List Int} (h:y.length=0):inG acc y=(acc,0):=by rw [inG,if_pos h]
theorem jI_ {acc:List VIn} {y:List Int} (h:¬ y.length=0) (h2:¬ inE acc y=0):inG acc y=([],inE acc y):=by rw [inG,if_neg h,if_pos h2]
theorem Xp_ {acc:List VIn} {y:List Int} (h:¬ y.length=0) (h2:inE acc y=0) (hn:1<=tN y):inG acc y=inG (acc++[vI acc y]) (y.drop (tN y).toNat):=by
 rw [inG,if_neg h,if_neg (not_not_intro h2),show max 1 (tN y).toNat=(tN y).toNat by omega]
def idE (b:List Int):Int:=if ¬ (inG [] b).2=0 then (inG [] b).2 else if 65528 < b.length then 776 else 0
def idL (b:List Int):List VIn:=if idE b=0 then (inG [] b).1 else []
theorem vx_ {b:List Int} {e:Int} (h:(inG [] b).2=e) (h0:¬ e=0):idL b=[]/\idE b=e:=by
 have:idE b=e:=by unfold idE;rw [h,if_pos h0]
 exact ⟨by unfold idL;rw [this,if_neg h0],this⟩
theorem HJ_ {b:List Int} {acc:List VIn} (h:inG [] b=(acc,0)):(65528 < b.length->idL b=[]/\idE b=776)/\(¬ 65528 < b.length->idL b=acc/\idE b=0):=by
 have e:idE b=if 65528 < b.length then 776 else 0:=by unfold idE;rw [h];rfl
 constructor
 ·intro hl
  rw [if_pos hl] at e
  exact ⟨by unfold idL;rw [e];rfl,e⟩
 ·intro hl
  rw [if_neg hl] at e
  exact ⟨by unfold idL;rw [e,h];rfl,e⟩
theorem y8_ {b:List Int} {bad:Int} (hT:tlE b 8 8 bad=0) (hbad:bad ≠ 0):4<=b.length/\8<=tN b/\(tN b).tmod 8=0/\tN b<=b.length:=by
 unfold tlE at hT
 by_cases h1:b.length < 4
 ·rw [if_pos h1] at hT;exact absurd hT hbad
 ·rw [if_neg h1] at hT
  by_cases h2:tN b < 8\/¬ (tN b).tmod 8=0
  ·rw [if_pos h2] at hT;exact absurd hT hbad
  ·rw [if_neg h2] at hT
   by_cases h3:(b.length:Int) < tN b
   ·rw [if_pos h3] at hT;exact absurd hT hbad
   ·omega
theorem za2_ {acc:List VIn} {b:List Int} (h0:inE acc b=0):tlE b 8 8 776=0/\o5E (snI acc (tT b)) (tT b) (bd b)=0:=by
 unfold inE at h0
 by_cases h:tlE b 8 8 776=0
 ·rw [if_neg (not_not_intro h)] at h0;exact ⟨h,h0⟩
 ·rw [if_pos h] at h0;exact absurd h0 h
theorem vt_ {acc:List VIn} {b:List Int} (h0:inE acc b=0):8<=tN b/\tN b<=b.length/\(tN b).tmod 8=0:=by
 obtain ⟨p1,p2,p3,p4⟩:=y8_ (za2_ h0).1 (by decide)
 exact ⟨p2,p4,p3⟩
structure OkI (s:Bool) (t:Int) (x:List Int):Prop where
 k:kI t=true
 s:s=false\/t=65535
 o:o5K t x=true
 q:qI t (o5A t x) (o5B t x)=0
 a:t=65535\/adE (o5R t x)=0
theorem qI_x {a b:Int}:qI 65535 a b=0:=by unfold qI;rw [if_neg (by omega),if_neg (by omega)]
theorem Hq_ {s:Bool} {t:Int} {x:List Int}:o5E s t x=0 ↔ OkI s t x:=by
 unfold o5E
 constructor
 ·intro h
  cases hk:kI t with
  | false=>rw [if_pos hk] at h;cases h
  | true=>
    rw [if_neg (by rw [hk];decide)] at h
    by_cases hs:s=true/\¬ t=65535
    ·rw [if_pos hs] at h;cases h
    ·rw [if_neg hs] at h
     have hs':s=false\/t=65535:=by
      cases s with
      | false=>exact .inl rfl
      | true=>exact .inr (Decidable.of_not_not fun c=>hs ⟨rfl,c⟩)
     cases ho:o5K t x with
     | false=>rw [if_pos ho] at h;cases h
     | true=>
       rw [if_neg (by rw [ho];decide)] at h
       by_cases hx:t=65535
       ·subst hx;exact ⟨hk,.inr rfl,ho,qI_x,.inl rfl⟩
       ·rw [if_neg hx] at h
        by_cases hq:qI t (o5A t x) (o5B t x)=0
        ·rw [if_neg (not_not_intro hq)] at h
         exact ⟨hk,hs',ho,hq,.inr h⟩
        ·rw [if_pos hq] at h;exact absurd h hq
 ·rintro ⟨h1,h2,h3,h4,h5⟩
  have h2':¬ (s=true/\¬ t=65535):=by
   rintro ⟨c1,c2⟩
   rcases h2 with h2 | h2
   ·rw [h2] at c1;cases c1
   ·exact c2 h2
  rw [if_neg (by rw [h1];decide),if_neg h2',if_neg (by rw [h3];decide)]
  by_cases hx:t=65535
  ·rw [if_pos hx]
  ·rw [if_neg hx,if_neg (not_not_intro h4)]
   rcases h5 with h5 | h5
   ·exact absurd h5 hx
   ·exact h5
theorem zc0_ {s:Bool} {t:Int} {x:List Int} (h:OkI s t x):o5V s t x=(t,o5A t x,o5B t x,(if t=65535 then [] else adL (o5R t x)),(if t=65535 then o5R t x else []),()):=by
 have h0:=Hq_.2 h
 unfold o5V
 have h2:¬ (kI t=false\/(s=true/\¬ t=65535)):=by
  rintro (c | c)
  ·rw [h.k] at c;cases c
  ·rcases h.s with e | e
   ·rw [e] at c;cases c.1
   ·exact c.2 e
 rw [if_neg h2]
 by_cases hx:t=65535
 ·rw [if_neg (fun c=>c.2 hx),if_pos ⟨h.o,hx⟩,if_pos hx,if_pos hx]
 ·rw [if_pos ⟨h0,hx⟩,if_neg (fun c=>hx c.2),if_neg hx,if_neg hx]
structure wfI (i:VIn):Prop where
 a:0<=i.2.1/\i.2.1<=18446744073709551615
 b:0<=i.2.2.1/\i.2.2.1<=18446744073709551615
 c:∀ a ∈ i.2.2.2.1,bysU a
theorem zeG_ {t:Int} {body rest:List Int} (ht:0<=t/\t<=65535) (h8:4<=body.length) (hm:body.length % 8=4) (hN2:(body.length:Int)<=65524):
 tT (enH t body++rest)=t/\tN (enH t body++rest)=4+body.length/\tlE (enH t body++rest) 8 8 776=0/\bd (enH t body++rest)=body:=by
 obtain ⟨e1,e2,e3,e4⟩:=hl_ (t:=t) (N:=4+body.length) (body:=body) (rest:=rest) ht rfl (by omega) (by omega) (by omega)
 refine ⟨e1,e2,?_,e4⟩
 have e5:(4<=(enH t body++rest).length/\8<=tN (enH t body++rest)/\(tN (enH t body++rest)).tmod 8=0/\tN (enH t body++rest)<=(enH t body++rest).length):=y8_ (bad:=514) e3 (by decide)
 unfold tlE
 rw [if_neg (by omega),if_neg (by omega),if_neg (by omega)]
theorem zaZ_ {i:VIn} {y rest:List Int} {acc:List VIn} (h:bdO i=some y) (hw:wfI i) (hs:dbI acc i.1=false):inE acc (enI i++rest)=0/\vI acc (enI i++rest)=i/\tN (enI i++rest)=(enI i).length:=by
 have g:=w7_.1 h
 obtain ⟨b1,b2,b3⟩:=H2_ h
 have hy:=vX_ h
 obtain ⟨e1,e2,e3,e4⟩:=zeG_ (rest:=rest) (zc1_ g.k) b2 b1 b3
 have eI:enI i=enH i.1 y:=by unfold enI;rw [hy]
 rw [<- eI] at e1 e2 e3 e4
 obtain ⟨w1,w2,w3⟩:=gW_ g.k
 have hpz:=YO_ g.p
 have gy:y=ZZ_ (wI i.1) (xI i)++(boA i.2.2.2.1++i.2.2.2.2.1):=by rw [g.s,List.append_assoc]
 obtain ⟨f1,f2⟩:=uA_ (boA i.2.2.2.1++i.2.2.2.2.1) (zda_ hw.a hw.b) g.p
 rw [<- gy] at f1
 have gL:Z0_ (wI i.1) y=xI i:=congrArg Prod.fst f1
 have gK:Zo_ (wI i.1) y=0:=congrArg Prod.snd f1
 have hN:o5N i.1 y=xI i++[0,0]:=by
  unfold o5N kU_;rw [if_pos rfl,show (0:Int).toNat=0 from rfl,List.drop_zero,gL]
 obtain ⟨n1,n2⟩:=zdb_ ⟨w2,w3⟩ g.b g.a
 have hA:o5A i.1 y=i.2.1:=by unfold o5A;rw [hN];exact n1
 have hB:o5B i.1 y=i.2.2.1:=by unfold o5B;rw [hN];exact n2
 have hR:o5R i.1 y=boA i.2.2.2.1++i.2.2.2.2.1:=by
  unfold o5R sI;rw [gy];exact List.drop_left' (by omega)
 have hsI:snI acc i.1=false\/i.1=65535:=by
  unfold dbI at hs
  rcases Bool.and_eq_false_iff.1 hs with c | c
  ·exact .inl c
  ·exact .inr (Decidable.of_not_not (of_decide_eq_false c))
 have hO:OkI (snI acc i.1) i.1 y:=by
  refine ⟨g.k,hsI,?_,by rw [hA,hB];exact g.q,?_⟩
  ·unfold o5K
   rw [decide_eq_true gK,Bool.true_and,Bool.or_eq_true,decide_eq_true_eq]
   by_cases hx:i.1=65535
   ·left;unfold mI;rw [decide_eq_true hx];simp
   ·rcases g.d with d | d
    ·left;unfold mI;unfold dI at d;rw [d];rfl
    ·right
     rcases g.e with e | e
     ·exact absurd e hx
     ·have hyl:=congrArg List.length gy
      rw [d,e] at hyl
      simp only [List.length_append,List.length_nil] at hyl
      rw [show (boA ([]:List AC)).length=0 from rfl] at hyl
      unfold sI;omega
  ·by_cases hx:i.1=65535
   ·exact .inl hx
   ·rcases g.e with e | e
    ·exact absurd e hx
    ·right
     rw [hR,e,List.append_nil]
     exact (zbF_ g.r hw.c).2
 have hE:inE acc (enI i++rest)=0:=by
  unfold inE;rw [if_neg (not_not_intro e3),e1,e4];exact Hq_.2 hO
 refine ⟨hE,?_,?_⟩
 ·unfold vI;rw [e1,e4,zc0_ hO,hA,hB,hR]
  obtain ⟨t,a,b,ac,d,u⟩:=i
  refine Prod.ext rfl (Prod.ext rfl (Prod.ext rfl (Prod.ext ?_ (Prod.ext ?_ rfl))))
  ·show (if t=65535 then [] else adL (boA ac++d))=ac
   by_cases hx:t=65535
   ·rw [if_pos hx]
    rcases g.d with e | e
    ·exfalso;rw [show ((t,a,b,ac,d,u):VIn).1=t from rfl,hx] at e;exact absurd e (by decide)
    ·exact e.symm
   ·rw [if_neg hx]
    rcases g.e with e | e
    ·exact absurd e hx
    ·rw [show d=[] from e,List.append_nil];exact (zbF_ g.r hw.c).1
  ·show (if t=65535 then boA ac++d else [])=d
   by_cases hx:t=65535
   ·rw [if_pos hx]
    rcases g.d with e | e
    ·exfalso;rw [show ((t,a,b,ac,d,u):VIn).1=t from rfl,hx] at e;exact absurd e (by decide)
    ·rw [show ac=[] from e];rfl
   ·rw [if_neg hx]
    rcases g.e with e | e
    ·exact absurd e hx
    ·exact e.symm
 ·rw [e2,eI,xA_];omega
theorem bH_:∀ (r acc:List VIn),gdL acc r=true->(∀ i ∈ r,wfI i)->inG acc (boI r)=(acc++r,0)
 | [],acc,_,_=>by rw [xw_ (by rfl),List.append_nil]
 | i :: r,acc,h,hu=>by
   unfold gdL at h
   simp only [Bool.and_eq_true,Bool.not_eq_true'] at h
   obtain ⟨y,hy⟩:=Option.isSome_iff_exists.1 h.1.1
   obtain ⟨e1,e2,e3⟩:=zaZ_ (rest:=boI r) hy (hu i (List.mem_cons_self ..)) h.1.2
   obtain ⟨g1,g2,_⟩:=vt_ e1
   rw [List.length_append] at g2
   rw [vU_,Xp_ (by rw [List.length_append];omega) e1 (by omega),e2,e3,Int.toNat_natCast,List.drop_left,bH_ r (acc++[i]) h.2 (fun j hj=>hu j (List.mem_cons_of_mem _ hj)),List.append_assoc];rfl
theorem za7_ {l:List VIn} (h:rgI l=true) (hu:∀ i ∈ l,wfI i):idL (boI l)=l/\idE (boI l)=0:=by
 unfold rgI at h
 simp only [Bool.and_eq_true,decide_eq_true_eq] at h
 have hg:=bH_ l [] h.1 hu
 rw [List.nil_append] at hg
 exact (HJ_ hg).2 (by omega)
theorem zdn_ {w b:List Int} (hb:∀ x ∈ b,0<=x/\x<=255) (h:Zo_ w b=0):((Z0_ w b).length:Int)=zF_ w:=by
 obtain ⟨p1,_,_⟩:=K2_ hb (show Z5_ w b=(Z0_ w b,0) from Prod.ext rfl h)
 unfold Qc_ KB_ at p1
 split at p1
 ·rename_i hc;exact hc.2.symm
 ·cases p1
theorem zd9_:adL []=[]/\adE []=0:=(XF_ (w8_ rfl)).2 (by decide)
theorem zdQ_ {acc:List VIn} {b:List Int} (hb:∀ x ∈ b,0<=x/\x<=255) (h0:inE acc b=0):(bdO (vI acc b)).isSome=true/\dbI acc (vI acc b).1=false/\enI (vI acc b)=b.take (tN b).toNat:=by
 obtain ⟨hT,hO⟩:=za2_ h0
 obtain ⟨c1,c2,c3,c4⟩:=y8_ hT (by decide)
 have hN0:0<=tN b/\tN b<=65535:=jy_ (a:=2) hb
 have hT0:0<=tT b/\tT b<=65535:=jy_ (a:=0) hb
 rw [Int.tmod_eq_emod_of_nonneg hN0.1] at c3
 have hbl:(bd b).length=(tN b).toNat - 4:=by unfold bd;rw [List.length_drop,List.length_take];omega
 have hbb:∀ x ∈ bd b,0<=x/\x<=255:=fun x hx=>hb x (List.mem_of_mem_take (List.mem_of_mem_drop hx))
 have b1:zd_ (tT b) 2=b.take 2:=Qj_ 2 (b.take 2) (by decide) (by rw [List.length_take];omega) fun x hx=>hb x (List.mem_of_mem_take hx)
 have b2:zd_ (tN b) 2=(b.drop 2).take 2:=Qj_ 2 ((b.drop 2).take 2) (by decide) (by rw [List.length_take,List.length_drop];omega) fun x hx=>hb x (List.mem_of_mem_drop (List.mem_of_mem_take hx))
 have hsplit:b.take (tN b).toNat=b.take 2++(b.drop 2).take 2++bd b:=by
  have e1:b.take 4=b.take 2++(b.drop 2).take 2:=by rw [<- List.take_add]
  rw [<- e1]
  unfold bd
  have e2:b.take 4=(b.take (tN b).toNat).take 4:=by rw [List.take_take,Nat.min_eq_left (by omega)]
  rw [e2,List.take_append_drop]
 have hen:enH (tT b) (bd b)=b.take (tN b).toNat:=by
  unfold enH;rw [hbl,show (4+(((tN b).toNat - 4:Nat):Int))=tN b by omega,b1,b2,hsplit]
 have g:=Hq_.1 hO
 have hv:vI acc b=(tT b,o5A (tT b) (bd b),o5B (tT b) (bd b),(if tT b=65535 then [] else adL (o5R (tT b) (bd b))),(if tT b=65535 then o5R (tT b) (bd b) else []),()):=zc0_ g
 have hk:=g.o
 unfold o5K at hk
 rw [Bool.and_eq_true,decide_eq_true_eq,Bool.or_eq_true,decide_eq_true_eq] at hk
 obtain ⟨p1,p2,p3⟩:=K2_ hbb (show Z5_ (wI (tT b)) (bd b)=(Z0_ (wI (tT b)) (bd b),0) from Prod.ext rfl hk.1)
 have hcl:((Z0_ (wI (tT b)) (bd b)).length:Int)=nuI (tT b):=(zdn_ hbb hk.1)
 obtain ⟨w1,w2,w3⟩:=gW_ g.k
 obtain ⟨n1,n2,n3⟩:=zel_ ⟨w2,w3⟩ hcl
 have hN:o5N (tT b) (bd b)=Z0_ (wI (tT b)) (bd b)++[0,0]:=by
  unfold o5N kU_;rw [if_pos rfl,show (0:Int).toNat=0 from rfl,List.drop_zero]
 have hx:xI (vI acc b)=Z0_ (wI (tT b)) (bd b):=by
  unfold xI;rw [hv]
  show [o5A (tT b) (bd b),o5B (tT b) (bd b)].take (nuI (tT b)).toNat=_
  unfold o5A o5B;rw [hN];exact n1
 have hRb:∀ x ∈ o5R (tT b) (bd b),0<=x/\x<=255:=fun x hx=>hbb x (List.mem_of_mem_drop hx)
 have hRl:(o5R (tT b) (bd b)).length=(bd b).length - (sI (tT b)).toNat:=by unfold o5R;rw [List.length_drop]
 have hsum:(bd b)=ZZ_ (wI (tT b)) (Z0_ (wI (tT b)) (bd b))++o5R (tT b) (bd b):=by
  unfold o5R sI;rw [p2,List.take_append_drop]
 have key:BdOk (vI acc b) (bd b):=by
  by_cases h6:tT b=65535
  ·rw [if_pos h6,if_pos h6] at hv
   refine ⟨by rw [hv];exact g.k,by rw [hv];exact g.q,?_,?_,by rw [hv];exact .inr rfl,by rw [hv];exact .inl h6,?_,by rw [hx,hv];exact p1,by rw [hv];rfl,?_,by omega⟩
   ·rw [hv];show 2<=nuI (tT b)\/o5B (tT b) (bd b)=0
    unfold o5B;rw [hN];exact n2
   ·rw [hv];show 1<=nuI (tT b)\/o5A (tT b) (bd b)=0
    unfold o5A;rw [hN];exact n3
   ·rw [hv];show (o5R (tT b) (bd b)).length % 8=0
    have:sI (tT b)=4:=by rw [h6];decide
    omega
   ·rw [hx,hv];show bd b=ZZ_ (wI (tT b)) _++boA []++o5R (tT b) (bd b)
    rw [show boA []=[] from rfl,List.append_nil];exact hsum
  ·rw [if_neg h6,if_neg h6] at hv
   have ha:adE (o5R (tT b) (bd b))=0:=by
    rcases g.a with c | c
    ·exact absurd c h6
    ·exact c
   obtain ⟨a1,a2,a3⟩:=zea_ hRb ha
   refine ⟨by rw [hv];exact g.k,by rw [hv];exact g.q,?_,?_,?_,by rw [hv];exact .inr rfl,by rw [hv];rfl,by rw [hx,hv];exact p1,by rw [hv];exact a1,?_,by omega⟩
   ·rw [hv];show 2<=nuI (tT b)\/o5B (tT b) (bd b)=0
    unfold o5B;rw [hN];exact n2
   ·rw [hv];show 1<=nuI (tT b)\/o5A (tT b) (bd b)=0
    unfold o5A;rw [hN];exact n3
   ·rw [hv];show dI (tT b)=true\/adL (o5R (tT b) (bd b))=[]
    rcases hk.2 with c | c
    ·left
     unfold mI at c;rw [decide_eq_false h6,Bool.or_false] at c;exact c
    ·right
     have:o5R (tT b) (bd b)=[]:=List.eq_nil_of_length_eq_zero (by omega)
     rw [this];exact zd9_.1
   ·rw [hx,hv];show bd b=ZZ_ (wI (tT b)) _++boA (adL (o5R (tT b) (bd b)))++[]
    rw [a2,List.append_nil];exact hsum
 have hb2:=w7_.2 key
 refine ⟨by rw [hb2];rfl,?_,?_⟩
 ·rw [hv];show dbI acc (tT b)=false
  unfold dbI
  rcases g.s with e | e
  ·rw [e];rfl
  ·rw [decide_eq_false (not_not_intro e),Bool.and_false]
 ·unfold enI;rw [vX_ hb2,hv];exact hen
theorem bI_:∀ (n:Nat) (y:List Int) (acc l:List VIn),y.length<=n->(∀ x ∈ y,0<=x/\x<=255)->inG acc y=(l,0)->∃ r,l=acc++r/\gdL acc r=true/\boI r=y
 | 0,y,acc,l,hn,hb,h=>by
   rw [xw_ (by omega)] at h
   cases h
   refine ⟨[],by rw [List.append_nil],rfl,?_⟩
   rw [List.eq_nil_of_length_eq_zero (show y.length=0 by omega)];rfl
 | n+1,y,acc,l,hn,hb,h=>by
   by_cases h0:y.length=0
   ·rw [xw_ h0] at h
    cases h
    refine ⟨[],by rw [List.append_nil],rfl,?_⟩
    rw [List.eq_nil_of_length_eq_zero h0];rfl
   ·by_cases h2:inE acc y=0
    ·obtain ⟨g1,g2,_⟩:=vt_ h2
     rw [Xp_ h0 h2 (by omega)] at h
     obtain ⟨r,e1,e2,e3⟩:=bI_ n (y.drop (tN y).toNat) (acc++[vI acc y]) l (by rw [List.length_drop];omega) (fun x hx=>hb x (List.mem_of_mem_drop hx)) h
     obtain ⟨f1,f2,f3⟩:=zdQ_ hb h2
     refine ⟨vI acc y :: r,?_,?_,?_⟩
     ·rw [e1,List.append_assoc];rfl
     ·unfold gdL;rw [f1,f2,e2];rfl
     ·rw [vU_,e3,f3,List.take_append_drop]
    ·rw [jI_ h0 h2] at h
     exact absurd (congrArg Prod.snd h) h2
theorem zdV_ {b:List Int} (hb:∀ x ∈ b,0<=x/\x<=255) (h:idE b=0):rgI (idL b)=true/\boI (idL b)=b/\b.length<=65528:=by
 have h1:(inG [] b).2=0:=Classical.byContradiction fun hn=>by
  unfold idE at h;rw [if_pos hn] at h;exact hn h
 have h2:¬ 65528 < b.length:=fun hl=>by
  unfold idE at h;rw [if_neg (not_not_intro h1),if_pos hl] at h;cases h
 have hL:idL b=(inG [] b).1:=if_pos h
 obtain ⟨r,e1,e2,e3⟩:=bI_ b.length b [] (inG [] b).1 (Nat.le_refl _) hb (Prod.ext rfl h1)
 rw [List.nil_append] at e1
 rw [hL]
 rw [<- e1] at e2 e3
 refine ⟨?_,e3,by omega⟩
 unfold rgI;rw [e2,e3,Bool.true_and,decide_eq_true_eq];omega
theorem Hw_ {k v:Int}:∀ (m:List (Int × Int)) (k':Int),zt_ (QX_ m k v) k'=if k=k' then some v else zt_ m k'
 | [],k'=>by unfold QX_;rfl
 | (a,b) :: r,k'=>by
   have ih:=Hw_ (k:=k) (v:=v) r k'
   by_cases h:a=k
   ·subst h
    have e:QX_ ((a,b) :: r) a v=(a,v) :: r:=if_pos rfl
    rw [e]
    show (if a=k' then some v else zt_ r k')=if a=k' then some v else if a=k' then some b else zt_ r k'
    split<;>rfl
   ·have e:QX_ ((a,b) :: r) k v=(a,b) :: QX_ r k v:=if_neg h
    rw [e]
    show (if a=k' then some b else zt_ (QX_ r k v) k')=if k=k' then some v else if a=k' then some b else zt_ r k'
    rw [ih]
    by_cases h2:a=k'
    ·rw [if_pos h2,if_pos h2,if_neg (fun c=>h (h2.trans c.symm))]
    ·rw [if_neg h2,if_neg h2]
theorem zaE_ {k v w:Int}:∀ (m:List (Int × Int)),QX_ (QX_ m k v) k w=QX_ m k w/\Zu_ (QX_ m k v) k=Zu_ m k/\Zu_ m k < (QX_ m k v).length/\(QX_ m k v).length<=m.length+1
 | []=>⟨if_pos rfl,if_pos rfl,Nat.zero_lt_one,Nat.le_refl _⟩
 | (a,b) :: r=>by
   obtain ⟨i1,i2,i3,i4⟩:=zaE_ (k:=k) (v:=v) (w:=w) r
   by_cases h:a=k
   ·subst h
    have e:∀ v,QX_ ((a,b) :: r) a v=(a,v) :: r:=fun v=>if_pos rfl
    have x:∀ b,Zu_ ((a,b) :: r) a=0:=fun b=>if_pos rfl
    rw [e,e,x,x]
    refine ⟨if_pos rfl,rfl,Nat.zero_lt_succ _,?_⟩
    simp only [List.length_cons];omega
   ·have e:∀ v,QX_ ((a,b) :: r) k v=(a,b) :: QX_ r k v:=fun v=>if_neg h
    have x:∀ r:List (Int × Int),Zu_ ((a,b) :: r) k=Zu_ r k+1:=fun r=>if_neg h
    rw [e,e,x,x,i2]
    refine ⟨by rw [show QX_ ((a,b) :: QX_ r k v) k w=(a,b) :: QX_ (QX_ r k v) k w from if_neg h,i1],rfl,?_,?_⟩
    ·simp only [List.length_cons];omega
    ·simp only [List.length_cons];omega
structure mOk (m:List (Int × Int)) (acc:List VIn):Prop where
 s:∀ k,(0 < (zt_ m k).getD 0 ↔ snI acc k=true)
 r:∀ k,0<=(zt_ m k).getD 0/\(zt_ m k).getD 0<=acc.length
 l:m.length<=acc.length
theorem U8_:mOk [] []:=⟨fun k=>⟨fun h=>absurd h (by show ¬ (0:Int) < 0;decide),fun h=>by cases h⟩,fun k=>⟨by show (0:Int)<=0;decide,by show (0:Int)<=0;decide⟩,Nat.le_refl _⟩
theorem zbZ_ (a b:List VIn) (t:Int):snI (a++b) t=(snI a t || snI b t):=List.any_append
theorem zbY_ (i:VIn) (t:Int):snI [i] t=decide (i.1=t):=by unfold snI;simp
theorem U9_ {m:List (Int × Int)} {acc:List VIn} {i:VIn} (h:mOk m acc):mOk (QX_ m i.1 ((zt_ m i.1).getD 0+1)) (acc++[i]):=by
 have hr:=h.r i.1
 refine ⟨fun k=>?_,fun k=>?_,?_⟩
 ·rw [Hw_,zbZ_,zbY_]
  by_cases c:i.1=k
  ·rw [if_pos c,decide_eq_true c,Bool.or_true]
   exact ⟨fun _=>rfl,fun _=>by show 0 < (zt_ m i.1).getD 0+1;omega⟩
  ·rw [if_neg c,decide_eq_false c,Bool.or_false];exact h.s k
 ·have hk:=h.r k
  rw [Hw_,List.length_append,List.length_singleton]
  by_cases c:i.1=k
  ·rw [if_pos c];show 0<=(zt_ m i.1).getD 0+1/\(zt_ m i.1).getD 0+1<=_;omega
  ·rw [if_neg c];omega
 ·have:=(zaE_ (k:=i.1) (v:=(zt_ m i.1).getD 0+1) (w:=0) m).2.2.2
  have:=h.l
  rw [List.length_append,List.length_singleton];omega
theorem bC_ {m:List (Int × Int)} {acc:List VIn} (h:mOk m acc) (t:Int):decide (0 < (zt_ m t).getD 0)=snI acc t:=by
 rw [Bool.eq_iff_iff,decide_eq_true_eq];exact h.s t
def n8 (q:P8):List Int:=[q.1,q.2.1,q.2.2.1,q.2.2.2.1,q.2.2.2.2.1,q.2.2.2.2.2.1,q.2.2.2.2.2.2.1,q.2.2.2.2.2.2.2.1]
def gf_:IR:=
(sq (kr [0,1] [oD 4 (.nilrow (.int .u64)),
oD 5 (.mov (cI 0))])
(sq (sq (.reg [oM 10 0,
oC 11 164 [10],
oD 12 (.un .not 11)])
(.cond 12
(sq (.reg [oD 4 (.nilrow (.int .u64)),
oD 5 (.mov (cI 2))])
.ret)
.skip))
(sq (kr [0,1] [oD 6 (.nilrow (.int .u64))])
(sq (sq (.reg [oM 13 0,
oE 14 13,
oD 15 (.mov (cI 0))])
(.block 0
(.loop
(sq (kr [1,6,13,14,15] [oB 16 .lss 15 14])
(sq (.cond 16
.skip
(.exit 0))
(sq (.block 1
(sq (.reg [oI 17 1 13 15,
oL 18 17,
oM 8 18])
(sq (kr [1,6,8,13,14,15] [oM 19 8,
oM 20 8,
oD 21 (.un .neg 20),
oD 22 (.minmax true 19 21),
oM 9 22])
(sq (.block 2
(sq (kr [1,6,8,9,13,14,15] [oM 24 1,
oE 25 24,
oM 26 9,
oB 27 .lss 25 26,
oM 23 27])
(.cond 23
(sq (.reg [oD 4 (.nilrow (.int .u64)),
oD 5 (.mov (cI 1))])
.ret)
(sq (.reg [oM 29 8,
oB 30 .gtr 29 (cI 0),
oM 28 30])
(.cond 28
(kr [1,6,9,13,14,15] [oM 31 6,
oM 32 1,
oM 33 9,
oD 34 (.slice 1 32 none (some 33) none),
oC 35 165 [34],
oD 36 (.sliceAll (.int .u64) 1 [(0,1,35)]),
oD 37 (.append (.int .u64) 8 31 36),
oM 6 37])
(sq (kr [1,6,9,13,14,15] [oM 39 1,
oM 40 9,
oD 41 (.slice 1 39 none (some 40) none),
oC 42 166 [41],
oD 43 (.un .not 42),
oM 38 43])
(.cond 38
(sq (kr [] [oD 4 (.nilrow (.int .u64)),
oD 5 (.mov (cI 2))])
.ret)
.skip)))))))
(kr [1,6,9,13,14,15] [oM 44 1,
oM 45 9,
oD 46 (.slice 1 44 (some 45) none none),
oM 1 46])))))
(kr [1,6,13,14,15] [oB 47 .add 15 (cI 1),
oM 15 47])))))))
(sq (kr [6] [oM 48 6,
oM 4 48,
oD 5 (.mov (cI 0))])
.ret)))))
def Ux_:List RD:=[.tmp 4 false none,.tmp 5 false none]
theorem UO_:zl_ Tryz.prog Tryz.f140 gf_ Ux_=true:=by kernel_rfl
def wJ_:List AV->List Obj->Option (Prop × AV × List Obj)
 | [.imm (.int .i64) w,.imm (.int .u8) b],[]=>some ((True,.tup [.own 0,.int .i64 (Zo_ w b)],[.row false (.int .u64) (Z0_ w b)]))
 | _,_=>none
theorem Vc_:zf_ Tryz.prog 140 (RwF wJ_).sum:=by
 refine Qi_ Tryz.func140 UO_ (za_ (s:=RoF qA_) qW_ (za_ (s:=RoF kW_) JT_ (za_ (s:=RoF jP_) W3_ (ze_ _)))) fun args objs p v o e=>?_
 unfold wJ_ at e
 split at e
 ·rename_i w b
  cases e
  refine ⟨rfl,fun hw ho hp=>?_⟩
  change List Int at w
  change List Int at b
  have hb:b.length<=maxLen:=(hw (.imm (.int .u8) b) (by simp)).2
  unfold maxLen at hb
  repeat'(intro t ht;first|(cases t<;>first|(cases ht;done)|(try simp only[zh_]at ht))|((first|refine zb_ ht ?_|refine ht ?_ ?_|refine ht.1 ?_ ?_|refine ht ?_)<;>clear ht))
  all_goals first
   | exact True.intro
   | (intro r h1 h2;clear h1;refine h2 ⟨[],[1,6,13,14,15],Nat × List Int × List Int,(fun a=>a.1<=w.length/\a.2.1.length<=b.length/\a.2.2.length<=a.1/\ZF_ w b []=ZF_ (w.drop a.1) a.2.1 a.2.2),fun a=>[.imm (.int .u8) a.2.1,.own 0,.imm (.int .i64) w,.int .i64 w.length,.int .i64 a.1],fun a=>[.row false (.int .u64) a.2.2],fun a=>w.length - a.1,⟨(0,b,[]),⟨Nat.zero_le _,Nat.le_refl _,Nat.zero_le _,rfl⟩,rfl,rfl⟩,?_⟩;clear h2)
   | (have hr:ZR_ w=false:=by assumption
      have hf:Z5_ w b=([],2):=by unfold Z5_;rw [hr];rfl
      unfold Z0_ Zo_;rw [hf];exact ⟨rfl,rfl⟩)
  rintro ⟨i,c,o⟩ ⟨hi,hc,ho,he⟩
  dsimp only at hi hc ho he
  have hr:ZR_ w=true:=by assumption
  have hl:=(ZQ_.1 hr).1
  repeat'(intro t ht;first|(cases t<;>first|(cases ht;done)|(try simp only[zh_]at ht))|((first|refine zb_ ht ?_|refine ht ?_ ?_|refine ht.1 ?_ ?_|refine ht ?_)<;>clear ht))
  all_goals first
   | ((try simp only [zn_,zo_,zm_] at*);omega)
   | (have hge:w.length<=i:=by omega
      rw [List.drop_of_length_le hge] at he
      have hf:Z5_ w b=(o,0):=by unfold Z5_;rw [if_pos hr,he];rfl
      unfold Z0_ Zo_;rw [hf];exact ⟨rfl,rfl⟩)
   | skip
  all_goals have hlt:i < w.length:=by omega
  all_goals have hkk:=(ZQ_.1 hr).2 _ (zW_ (α:=Int) hlt 0)
  all_goals have ha:=jO_ (n:=w.getD i 0)
  all_goals have hA:(if 0 - w.getD i 0 > w.getD i 0 then 0 - w.getD i 0 else w.getD i 0)=zq_ (w.getD i 0):=rfl
  all_goals first
   | exact True.intro
   | ((try simp only [zn_,zo_,zm_] at*);omega)
   | (have h1:(c.length:Int) < zq_ (w.getD i 0):=by assumption
      have hf:Z5_ w b=([],1):=by unfold Z5_;rw [if_pos hr,he];exact vz_ hlt h1
      unfold Z0_ Zo_;rw [hf];exact ⟨rfl,rfl⟩)
   | (have h1:¬ (c.length:Int) < zq_ (w.getD i 0):=by assumption
      first
       | (have h2:¬ 0 < w.getD i 0:=by assumption
          first
           | (have h3:Z6_ (c.take (zq_ (w.getD i 0)).toNat)=true:=by assumption
              refine ⟨(i+1,c.drop (zq_ (w.getD i 0)).toNat,o),⟨hlt,?_,by dsimp only;omega,?_⟩,by dsimp only;omega,rfl,rfl⟩
              ·dsimp only;rw [List.length_drop];omega
              ·rw [he];exact uI_ hlt h1 h2 h3)
           | (have h3:Z6_ (c.take (zq_ (w.getD i 0)).toNat)=false:=by assumption
              have hf:Z5_ w b=([],2):=by unfold Z5_;rw [if_pos hr,he];exact hn_ hlt h1 h2 h3
              unfold Z0_ Zo_;rw [hf];exact ⟨rfl,rfl⟩))
       | (have h2:0 < w.getD i 0:=by assumption
          first
           | (show (c.take (zq_ (w.getD i 0)).toNat).length<=8;rw [List.length_take];omega)
           | (simp only [Z8_,List.length_append,List.length_cons,List.length_nil];omega)
           | (refine ⟨(i+1,c.drop (zq_ (w.getD i 0)).toNat,o++[ZN_ (c.take (zq_ (w.getD i 0)).toNat)]),⟨hlt,?_,?_,?_⟩,by dsimp only;omega,rfl,rfl⟩
              ·dsimp only;rw [List.length_drop];omega
              ·simp only [List.length_append,List.length_cons,List.length_nil];omega
              ·rw [he];exact ho_ hlt h1 h2)))
 ·cases e
def jE_:IR:=
(sq (kr [0,1] [oD 4 (.nilrow (.int .u64))])
(sq (sq (.reg [oM 7 0,
oC 8 53 [7],
oB 9 .neq 8 (cI 0)])
(.cond 9
(sq (.reg [oD 4 (.nilrow (.int .u64))])
.ret)
.skip))
(sq (kd [0,1] [(oM 11 1,[]),
(oM 12 0,[0]),
(oD 13 (.nilck 12),[1]),
(oA 14 0 13,[2]),
(oL 15 14,[3]),
(oM 16 0,[0,0,0,0,0]),
(oD 17 (.nilck 16),[1,0,0,0,0]),
(oA 18 1 17,[2,0,0,0,0]),
(oL 19 18,[3,0,0,0,0]),
(oD 20 (.slice 1 15 (some 19) none none),[8]),
(oC 21 140 [11,20],[]),
(oM 10 21,[]),
(oX 22 10 0,[]),
(oX 23 10 1,[0]),
(oM 5 22,[0]),
(oM 6 23,[])])
(sq (sq (kr [0,1,5,6] [oM 24 6])
(.block 0
(sq (.reg [oB 35 .eql 24 (cI 1),
oM 34 35])
(.cond 34
(kr [0,5] [oM 36 0,
oM 37 0,
oD 38 (.nilck 37),
oA 39 2 38,
oL 40 39,
oC 41 110 [36,40]])
(sq (.reg [oB 43 .eql 24 (cI 2),
oM 42 43])
(.cond 42
(kr [0,5] [oM 44 0,
oM 45 0,
oD 46 (.nilck 45),
oA 47 3 46,
oL 48 47,
oC 49 110 [44,48]])
(kd [0,1,5] [(oM 25 0,[]),
(oD 26 (.nilck 25),[]),
(oA 27 1 26,[]),
(oL 28 27,[]),
(oM 29 1,[0,0,0,0]),
(oC 30 141 [29],[1,0,0,0]),
(oB 31 .add 28 30,[]),
(oD 32 (.nilck 25),[]),
(oA 33 1 32,[]),
(oS 1 33 31,[])])))))))
(sq (kr [5] [oM 50 5,
oM 4 50])
.ret)))))
def jn_:List RD:=[.tmp 4 false none]
theorem ju_:zl_ Tryz.prog Tryz.f89 jE_ jn_=true:=by kernel_rfl
def qk_:List AV->List Obj->Option (Prop × AV × List Obj)
 | [.ptr 0 0,.imm (.int .i64) w],[.box [.imm (.int .u8) b,.int .i64 p,.int .i64 sh,.int .i64 od,.int .i64 e,.bool true]]=>some ((0<=p/\p<=b.length/\b.length<=140737488355328,.own 1,[.box [.imm (.int .u8) b,.int .i64 (K4_ w b p e),.int .i64 sh,.int .i64 od,.int .i64 (wz_ w b p sh od e),.bool true],.row false (.int .u64) (kU_ w b p e)]))
 | _,_=>none
theorem KT_:zf_ Tryz.prog 89 (RwF qk_).sum:=by
 refine Qi_ Tryz.func89 ju_ (za_ (s:=RoF zB_) zG_ (za_ (s:=RwF wJ_) Vc_ (za_ (s:=RwF zE_) zJ_ (za_ (s:=RoF Qe_) Qs_ (ze_ _))))) fun args objs p v o e=>?_
 unfold qk_ at e
 split at e
 ·rename_i w b p sh od e
  cases e
  refine ⟨rfl,fun hw ho hp=>?_⟩
  change List Int at w
  change List Int at b
  have hz:=JY_ w
  repeat'(intro t ht;first|(cases t<;>first|(cases ht;done)|(try simp only[zh_]at ht))|((first|refine zb_ ht ?_|refine ht ?_ ?_|refine ht.1 ?_ ?_|refine ht ?_)<;>clear ht))
  all_goals first
   | exact True.intro
   | ((try simp only [zn_,zo_,zm_] at*);omega)
   | (refine ⟨rfl,?_⟩;unfold kU_ K4_ wz_;simp_all [Zd_];done)
 ·cases e
theorem vA_:∀ (w b o:List Int),(ZF_ w b o).1.length<=o.length+w.length
 | [],b,o=>by simp [ZF_]
 | n :: r,b,o=>by
   simp only [ZF_]
   split
   ·simp
   ·split
    ·have ih:=vA_ r (b.drop (zq_ n).toNat) (o++[ZN_ (b.take (zq_ n).toNat)])
     simp only [List.length_append,List.length_cons,List.length_nil] at ih ⊢;omega
    ·split
     ·have ih:=vA_ r (b.drop (zq_ n).toNat) o
      simp only [List.length_cons];omega
     ·simp
theorem zcE_ (w b:List Int) (p e:Int):(kU_ w b p e).length<=w.length:=by
 unfold kU_ Z0_ Z5_
 split
 ·split
  ·have:=vA_ w (b.drop p.toNat) [];simpa using this
  ·simp
 ·simp
theorem vB_:∀ (w b o:List Int),((ZF_ w b o).2=0\/(ZF_ w b o).2=1\/(ZF_ w b o).2=2)/\((ZF_ w b o).2=0->(w.map zq_).sum<=b.length)
 | [],b,o=>⟨.inl rfl,fun _=>by simp⟩
 | n :: r,b,o=>by
   have ha:=jO_ (n:=n)
   have hd:(b.drop (zq_ n).toNat).length=b.length - (zq_ n).toNat:=List.length_drop
   simp only [ZF_]
   rw [List.map_cons,List.sum_cons]
   split
   ·exact ⟨.inr (.inl rfl),fun h=>by cases h⟩
   ·split
    ·have ih:=vB_ r (b.drop (zq_ n).toNat) (o++[ZN_ (b.take (zq_ n).toNat)])
     exact ⟨ih.1,fun h=>by have:=ih.2 h;omega⟩
    ·split
     ·have ih:=vB_ r (b.drop (zq_ n).toNat) o
      exact ⟨ih.1,fun h=>by have:=ih.2 h;omega⟩
     ·exact ⟨.inr (.inr rfl),fun h=>by cases h⟩
theorem zba_ (w b:List Int):(Zo_ w b=0\/Zo_ w b=1\/Zo_ w b=2)/\(Zo_ w b=0->zV_ w<=b.length):=by
 unfold Zo_ Z5_ zV_
 split
 ·exact vB_ w b []
 ·exact ⟨.inr (.inr rfl),fun h=>by cases h⟩
theorem zcD_ {w b:List Int} {p e:Int} (h0:0<=p) (h1:p<=b.length):0<=K4_ w b p e/\K4_ w b p e<=b.length:=by
 have hk:=zba_ w (b.drop p.toNat)
 have hz:=JY_ w
 have hd:(b.drop p.toNat).length=b.length - p.toNat:=List.length_drop
 unfold K4_
 by_cases he:e=0
 ·rw [if_pos he]
  by_cases h2:Zo_ w (b.drop p.toNat)=1
  ·rw [if_pos h2];exact ⟨h0,h1⟩
  ·rw [if_neg h2]
   by_cases h3:Zo_ w (b.drop p.toNat)=2
   ·rw [if_pos h3];exact ⟨h0,h1⟩
   ·rw [if_neg h3]
    have:=hk.2 (by omega)
    omega
 ·rw [if_neg he];exact ⟨h0,h1⟩
theorem zeA_ {t:Int} (h:¬ (t=1\/t=2\/t=3\/t=4\/t=5\/t=6\/t=65535)):wI t=[]/\mI t=false/\kI t=false:=by
 refine ⟨?_,?_,?_⟩
 ·unfold wI;rw [if_neg (by omega),if_neg (by omega),if_neg (by omega),if_neg (by omega)]
 ·unfold mI;rw [decide_eq_false (by omega),decide_eq_false (by omega),decide_eq_false (by omega)];rfl
 ·cases h2:kI t with
  | false=>rfl
  | true=>exact absurd (ve_ h2) h
def V4_:IR:=
(sq (kr [0] [oD 2 (.mov (.c (.imm (.int .i64) []))),
oD 3 (.mov cF),
oD 4 (.mov cF)])
(sq (sq (.reg [oM 5 0])
(.block 0
(sq (.block 6
(sq (.block 5
(sq (.block 4
(sq (.block 3
(sq (.block 2
(sq (.block 1
(sq (sq (sq (.reg [oB 7 .eql 5 (cI 1),
oM 6 7])
(.cond 6
(.exit 1)
.skip))
(sq (sq (kr [3,5] [oB 9 .eql 5 (cI 2),
oM 8 9])
(.cond 8
(.exit 2)
.skip))
(sq (sq (sq (.reg [oB 11 .eql 5 (cI 3),
oM 10 11])
(.cond 10
.skip
(.reg [oB 12 .eql 5 (cI 4),
oM 10 12])))
(.cond 10
(.exit 3)
.skip))
(sq (sq (kr [3,5] [oB 14 .eql 5 (cI 5),
oM 13 14])
(.cond 13
(.exit 4)
.skip))
(sq (sq (.reg [oB 16 .eql 5 (cI 65535),
oM 15 16])
(.cond 15
(.exit 5)
.skip))
(sq (.reg [oB 18 .eql 5 (cI 6),
oM 17 18])
(.cond 17
(.exit 6)
.skip)))))))
(.exit 0)))
(sq (sq (kr [] [oD 19 (.sliceAll (.int .i64) 2 [(0,1,(cI 1)),(1,1,(cI (-3)))]),
oM 2 19,
oD 3 (.mov cF),
oD 4 (.mov cT)])
.ret)
(.exit 0))))
(sq (sq (kr [] [oD 20 (.sliceAll (.int .i64) 3 [(0,1,(cI (-4))),(1,1,(cI 8)),(2,1,(cI 8))]),
oM 2 20,
oD 3 (.mov cF),
oD 4 (.mov cT)])
.ret)
(.exit 0))))
(kr [] [oD 3 (.mov cT)])))
(sq (sq (kr [3] [oD 21 (.sliceAll (.int .i64) 1 [(0,1,(cI (-4)))]),
oM 22 3,
oM 2 21,
oM 3 22,
oD 4 (.mov cT)])
.ret)
(.exit 0))))
(kr [] [oD 3 (.mov cT)])))
(sq (sq (kr [3] [oD 23 (.sliceAll (.int .i64) 1 [(0,1,(cI 4))]),
oM 24 3,
oM 2 23,
oM 3 24,
oD 4 (.mov cT)])
.ret)
(.exit 0)))))
(sq (kr [] [oD 2 (.mov (.c (.imm (.int .i64) []))),
oD 3 (.mov cF),
oD 4 (.mov cF)])
.ret)))
def Vq_:List RD:=[.tmp 2 true (some (.int .i64)),.tmp 3 true none,.tmp 4 true none]
theorem VJ_:zl_ Tryz.prog Tryz.f123 V4_ Vq_=true:=by kernel_rfl
def kX_:List AV->List Obj->Option (Prop × AV)
 | [.int .i64 tt],[]=>some ((True,.tup [.imm (.int .i64) (wI tt),.bool (mI tt),.bool (kI tt)]))
 | _,_=>none
theorem JU_:zf_ Tryz.prog 123 (RoF kX_).sum:=by
 refine zj_ Tryz.func123 VJ_ (ze_ _) fun args objs p v e=>?_
 unfold kX_ at e
 split at e
 ·rename_i tt
  cases e
  refine ⟨rfl,fun hw ho hp=>?_⟩
  clear hw ho
  repeat'(intro t ht;first|(cases t<;>first|(cases ht;done)|(try simp only[zh_]at ht;try(exfalso;first|contradiction|omega)))|((first|refine zb_ ht ?_|refine ht ?_ ?_|refine ht.1 ?_ ?_|refine ht ?_)<;>clear ht))
  all_goals first
   | exact True.intro
   | (have h:=zeA_ (t:=tt) (by omega)
      rw [h.1,h.2.1,h.2.2];exact ⟨rfl,rfl⟩)
   | (subst_vars;exact ⟨rfl,rfl⟩)
 ·cases e
def vj_:IR:=
(sq (kr [0] [oD 1 (.boxv 0),
oD 2 (.mov (cI 0))])
(sq (.block 0
(sq (kr [1] [oA 4 0 1,
oL 5 4,
oB 6 .eql 5 (cI 1),
oM 7 6,
oT 7 8 (.fieldAddr 1 1),
oT 7 9 (.load none 8),
oT 7 10 (.bin .gtr 9 (.c (.int .u64 254))),
oP 11 7 10 cF,
oM 3 11])
(.cond 3
(sq (kr [] [oD 2 (.mov (cI 771))])
.ret)
(sq (kr [1] [oA 13 0 1,
oL 14 13,
oB 15 .eql 14 (cI 2),
oM 16 15,
oT 16 17 (.fieldAddr 1 1),
oT 16 18 (.load none 17),
oT 16 19 (.fieldAddr 2 1),
oT 16 20 (.load none 19),
oT 16 21 (.bin .andNot 18 20),
oT 16 22 (.bin .neq 21 (.c (.int .u64 0))),
oP 23 16 22 cF,
oM 12 23])
(.cond 12
(sq (kr [] [oD 2 (.mov (cI 772))])
.ret)
.skip)))))
(sq (kr [] [oD 2 (.mov (cI 0))])
.ret)))
def YA_:List RD:=[.tmp 2 true none]
theorem YV_:zl_ Tryz.prog Tryz.f125 vj_ YA_=true:=by kernel_rfl
def kf_:List AV->List Obj->Option (Prop × AV)
 | [.agg [.int .i64 tt,.int .u64 a,.int .u64 b,.imm ty0 c,.imm (.int .u8) d]],[]=>Zs_ ty0 Y2 c fun c=>some ((True,.int .i64 (qI tt a b)))
 | _,_=>none
theorem j6_:zf_ Tryz.prog 125 (RoF kf_).sum:=by
 refine zj_ Tryz.func125 YV_ (ze_ _) fun args objs p v e=>?_
 unfold kf_ at e
 split at e
 ·rename_i tt a b ty0 c d
  obtain rfl:=zv_ e
  replace e:=zw_ e
  cases e
  refine ⟨rfl,fun hw ho hp=>?_⟩
  change List Int at d
  clear hw ho
  repeat'(intro t ht;first|(cases t<;>first|(cases ht;done)|(try simp only[zh_]at ht;try(exfalso;first|contradiction|omega)))|((first|refine zb_ ht ?_|refine ht ?_ ?_|refine ht.1 ?_ ?_|refine ht ?_)<;>clear ht))
  all_goals first
   | exact True.intro
   | (refine ⟨congrArg (AV.int .i64) ?_,rfl⟩;unfold qI;repeat' split
      all_goals first | rfl | omega)
 ·cases e
def bdF (i:VIn) (l:List Int) (e:Int):List Int × Int:=(Kf_ i.2.2.2.2.1 (apB i.2.2.2.1 (kk_ (wI i.1) (xI i) l 65524 e) 65524 (Ka_ (wI i.1) (xI i) l 65524 e)) 65524 (apE i.2.2.2.1 (kk_ (wI i.1) (xI i) l 65524 e) 65524 (Ka_ (wI i.1) (xI i) l 65524 e)),kV_ i.2.2.2.2.1 (apB i.2.2.2.1 (kk_ (wI i.1) (xI i) l 65524 e) 65524 (Ka_ (wI i.1) (xI i) l 65524 e)) 65524 (apE i.2.2.2.1 (kk_ (wI i.1) (xI i) l 65524 e) 65524 (Ka_ (wI i.1) (xI i) l 65524 e)))
theorem wr_I (i:VIn):WrOk 65524 (bdF i) (byI i):=((zdc_ 65524 (wI i.1) (xI i)).seq (zbR_ 65524 i.2.2.2.1)).seq (gT_ 65524 i.2.2.2.2.1)
theorem bV_ {i:VIn} (hg:gdI i=true):((bdF i [] 0).2=0->bdO i=some (bdF i [] 0).1)/\((bdF i [] 0).2 ≠ 0->bdO i=none):=by
 obtain ⟨f1,f2⟩:=(wr_I i).fin (by decide)
 unfold bdO
 rw [if_pos hg]
 cases hv:byI i with
 | none=>exact ⟨fun h=>absurd h (f2 fun y e=>by rw [hv] at e;cases e),fun _=>rfl⟩
 | some y=>
   dsimp only
   by_cases hl:(65524:Int) < y.length
   ·rw [if_pos hl]
    exact ⟨fun h=>absurd h (f2 fun z e=>by rw [hv] at e;cases e;exact hl),fun _=>rfl⟩
   ·rw [if_neg hl,f1 y hv (by omega)]
    exact ⟨fun _=>rfl,fun h=>absurd rfl h⟩
theorem zd5_ {i:VIn} (h:gdI i=false):bdO i=none:=by unfold bdO;rw [h];rfl
theorem zd4_ {i:VIn} (h:rgL i.2.2.2.1=false):bdO i=none:=by
 cases hb:bdO i with
 | none=>rfl
 | some y=>have:=(w7_.1 hb).r;rw [h] at this;cases this
theorem zbl_ (e:Int):wx_ [] e=e:=by unfold wx_;split<;>simp_all
theorem zcI_ {i:VIn} (hg:gdI i=true):ww_ (bdF i [] 0).1 [] (bdF i [] 0).2=bdY i/\decide (wx_ [] (bdF i [] 0).2=0)=(bdO i).isSome:=by
 obtain ⟨c1,c2⟩:=bV_ hg
 rw [zbl_]
 by_cases h:(bdF i [] 0).2=0
 ·have e:=c1 h
  unfold bdY;rw [e,h];exact ⟨rfl,rfl⟩
 ·have e:=c2 h
  unfold bdY ww_ j9_;rw [e,decide_eq_false h];exact ⟨rfl,rfl⟩
theorem zbk_ {l:List Int}:ww_ l [] 0=l:=rfl
def V6_:IR:=
(sq (kr [0] [oD 1 (.boxv 0),
oD 2 (.mov (.c (.imm (.int .u8) []))),
oD 3 (.mov cF)])
(sq (kr [1] [oA 14 0 1,
oL 15 14,
oC 16 123 [15],
oM 13 16,
oX 17 13 0,
oX 18 13 1,
oX 19 13 2,
oM 4 17,
oM 5 18,
oM 6 19])
(sq (sq (kr [1,4,6] [oM 20 6,
oD 21 (.un .not 20),
oM 22 21,
oF 22 23 (.load (some 5) 1),
oF 22 24 (.call false (.f 125) [23]),
oF 22 25 (.bin .neq 24 (cI 0)),
oP 26 22 cT 25,
oM 27 26,
oF 27 28 (.fieldAddr 3 1),
oF 27 29 (.load none 28),
oF 27 30 (.call false (.f 102) [29]),
oF 27 31 (.un .not 30),
oP 32 27 cT 31])
(.cond 32
(sq (kr [] [oD 2 (.mov (.c (.imm (.int .u8) []))),
oD 3 (.mov cF)])
.ret)
.skip))
(sq (kr [1,4] [oM 33 4,
oC 34 151 [33],
oM 7 34])
(sq (kd [1,4,7] [(oA 35 0 1,[]),
(oL 36 35,[]),
(oB 37 .eql 36 (cI 3),[]),
(oM 38 37,[]),
(oF 38 39 (.fieldAddr 0 1),[]),
(oF 38 40 (.load none 39),[]),
(oF 38 41 (.bin .eql 40 (cI 4)),[]),
(oP 42 38 cT 41,[]),
(oA 43 0 1,[0,0,0,0,0,0,0,0]),
(oL 44 43,[1,0,0,0,0,0,0,0]),
(oB 45 .eql 44 (cI 65535),[2,0,0,0,0,0,0,0]),
(oM 8 42,[0,0,0]),
(oM 9 45,[])])
(sq (sq (kr [1,4,7,8,9] [oM 46 7,
oB 47 .lss 46 (cI 2),
oM 48 47,
oT 48 49 (.fieldAddr 2 1),
oT 48 50 (.load none 49),
oT 48 51 (.bin .neq 50 (.c (.int .u64 0))),
oP 52 48 51 cF,
oM 53 52,
oF 53 54 (.mov 7),
oF 53 55 (.bin .lss 54 (cI 1)),
oF 53 56 (.mov 55),
oT 56 57 (.fieldAddr 1 1),
oT 56 58 (.load none 57),
oT 56 59 (.bin .neq 58 (.c (.int .u64 0))),
oF 53 60 (.pick 56 59 cF),
oP 61 53 cT 60,
oM 62 61,
oF 62 63 (.mov 8),
oF 62 64 (.un .not 63),
oF 62 65 (.mov 64),
oT 65 66 (.fieldAddr 3 1),
oT 65 67 (.load none 66),
oT 65 68 (.len 67),
oT 65 69 (.bin .gtr 68 (cI 0)),
oF 62 70 (.pick 65 69 cF),
oP 71 62 cT 70,
oM 72 71,
oF 72 73 (.mov 9),
oF 72 74 (.un .not 73),
oF 72 75 (.mov 74),
oT 75 76 (.fieldAddr 4 1),
oT 75 77 (.load none 76),
oT 75 78 (.len 77),
oT 75 79 (.bin .gtr 78 (cI 0)),
oF 72 80 (.pick 75 79 cF),
oP 81 72 cT 80,
oM 82 81,
oF 82 83 (.fieldAddr 4 1),
oF 82 84 (.load none 83),
oF 82 85 (.len 84),
oF 82 86 (.bin .rem 85 (cI 8)),
oF 82 87 (.bin .neq 86 (cI 0)),
oP 88 82 cT 87])
(.cond 88
(sq (kr [] [oD 2 (.mov (.c (.imm (.int .u8) []))),
oD 3 (.mov cF)])
.ret)
.skip))
(sq (kr [1,4,7] [oC 89 48 [(cI 65524)],
oM 10 89])
(sq (kr [1,4,7,10] [oM 90 10,
oM 91 4,
oA 92 1 1,
oL 93 92,
oA 94 2 1,
oL 95 94,
oD 96 (.sliceAll (.int .u64) 2 [(0,1,93),(1,1,95)]),
oM 97 7,
oD 98 (.slice 1 96 none (some 97) none),
oC 99 105 [90,91,98]])
(sq (kr [1,10] [oM 100 10,
oA 101 3 1,
oL 102 101,
oC 103 106 [100,102]])
(sq (.reg [oM 104 10,
oA 105 4 1,
oL 106 105,
oC 107 122 [104,106]])
(sq (kr [10] [oM 109 10,
oC 110 50 [109],
oM 108 110,
oX 111 108 0,
oX 112 108 1,
oM 11 111,
oM 12 112])
(sq (kr [11,12] [oM 113 11,
oM 114 12,
oB 115 .eql 114 (cI 0),
oM 2 113,
oM 3 115])
.ret))))))))))))
def Vs_:List RD:=[.tmp 2 true (some (.int .u8)),.tmp 3 true none]
theorem VL_:zl_ Tryz.prog Tryz.f118 V6_ Vs_=true:=by kernel_rfl
def jX_:List AV->List Obj->Option (Prop × AV)
 | [.agg [.int .i64 tt,.int .u64 a,.int .u64 b,.imm ty0 c,.imm (.int .u8) d]],[]=>Zs_ ty0 Y2 c fun c=>some ((okL c/\d.length<=1000000,.tup [.imm (.int .u8) (bdY ((tt,a,b,c,d,()):VIn)),.bool (bdO ((tt,a,b,c,d,()):VIn)).isSome]))
 | _,_=>none
theorem Yk_:zf_ Tryz.prog 118 (RoF jX_).sum:=by
 refine zj_ Tryz.func118 VL_ (za_ (s:=RoF kX_) JU_ (za_ (s:=RoF kf_) j6_ (za_ (s:=RoF k0_) JX_ (za_ (s:=RoF Ql_) kb_ (za_ (s:=RwF qO_) Qv_ (za_ (s:=RwF zY_) Zn_ (za_ (s:=RwF WX_) Un_ (za_ (s:=RwF zA_) zH_ (za_ (s:=RwF z9_) ZE_ (ze_ _)))))))))) fun args objs p v e=>?_
 unfold jX_ at e
 split at e
 ·rename_i tt a b ty0 c d
  obtain rfl:=zv_ e
  replace e:=zw_ e
  cases e
  refine ⟨rfl,fun hw ho hp=>?_⟩
  change List Int at d
  clear hw ho
  change List AC at c
  obtain ⟨hc,hd⟩:=hp
  have hroom:Wm_ 65524=65524:=by decide
  have hwi:kI tt=true->0<=zF_ (wI tt)/\zF_ (wI tt)<=2:=fun h=>(gW_ h).2
  have hlim:(kk_ (wI tt) ([a,b].take (zF_ (wI tt)).toNat) [] 65524 0).length<=1000000:=Gb_ (by decide) (by decide)
  have hlim2:=zcL_ (x:=c) (e:=Ka_ (wI tt) ([a,b].take (zF_ (wI tt)).toNat) [] 65524 0) hlim (by decide:(65524:Int)<=1000000)
  have hlim3:=wC_ (x:=d) (e:=apE c (kk_ (wI tt) ([a,b].take (zF_ (wI tt)).toNat) [] 65524 0) 65524 (Ka_ (wI tt) ([a,b].take (zF_ (wI tt)).toNat) [] 65524 0)) hlim2 (by decide:(65524:Int)<=1000000)
  by_cases hG:gdI ((tt,a,b,c,d,()):VIn)=true/\rgL c=true
  ·obtain ⟨hG,hr⟩:=hG
   obtain ⟨b1,b2⟩:=bV_ hG
   obtain ⟨g1,g2,g3,g4,g5,g6,g7⟩:=y0_.1 hG
   replace g1:kI tt=true:=g1
   replace g2:qI tt a b=0:=g2
   replace g3:2<=zF_ (wI tt)\/b=0:=g3
   replace g4:1<=zF_ (wI tt)\/a=0:=g4
   replace g5:(tt=3\/tt=4)\/c.length=0:=by
    rcases g5 with g | g
    ·left;unfold dI at g;simpa using g
    ·right;rw [show c=[] from g];rfl
   replace g6:tt=65535\/d.length=0:=by
    rcases g6 with g | g
    ·exact .inl g
    ·right;rw [show d=[] from g];rfl
   replace g7:(d.length:Int).tmod 8=0:=by
    have g:d.length % 8=0:=g7
    rw [Int.tmod_eq_emod_of_nonneg (by omega)];omega
   obtain ⟨w1,w2⟩:=hwi g1
   clear hwi
   repeat'(intro t ht;first|(cases t<;>first|(cases ht;done)|(try simp only[zh_]at ht;try(exfalso;first|contradiction|omega)))|((first|refine zb_ ht ?_|refine ht ?_ ?_|refine ht.1 ?_ ?_|refine ht ?_)<;>clear ht))
   all_goals first
    | exact True.intro
    | exact hc
    | exact (by decide:(8:Int) ≠ 0)
    | exact ⟨w1,w2⟩
    | (exfalso;simp_all;done)
    | (obtain ⟨q1,q2⟩:=zcI_ hG;rw [<- q1,<- q2];exact ⟨rfl,rfl⟩)
    | exact ⟨by decide,by decide,by decide⟩
    | exact ⟨hc,by decide,by decide,hlim⟩
    | exact ⟨by decide,by decide,hlim2,hd⟩
    | exact ⟨Nat.le_trans hlim3 (by decide),by decide⟩
  ·have hno:bdY ((tt,a,b,c,d,()):VIn)=[]/\(bdO ((tt,a,b,c,d,()):VIn)).isSome=false:=by
    have:bdO ((tt,a,b,c,d,()):VIn)=none:=by
     cases hg:gdI ((tt,a,b,c,d,()):VIn) with
     | false=>exact zd5_ hg
     | true=>
       cases hr:rgL c with
       | false=>exact zd4_ (i:=((tt,a,b,c,d,()):VIn)) hr
       | true=>exact absurd ⟨hg,hr⟩ hG
    unfold bdY;rw [this];exact ⟨rfl,rfl⟩
   have hbad:¬ (kI tt=true/\qI tt a b=0/\(2<=zF_ (wI tt)\/b=0)/\(1<=zF_ (wI tt)\/a=0)/\((tt=3\/tt=4)\/c.length=0)/\(tt=65535\/d.length=0)/\(d.length:Int).tmod 8=0/\rgL c=true):=fun ⟨g1,g2,g3,g4,g5,g6,g7,g8⟩=>hG ⟨y0_.2 ⟨g1,g2,g3,g4,(by
    rcases g5 with g | g
    ·left;show dI tt=true;unfold dI;simpa using g
    ·right;exact List.eq_nil_of_length_eq_zero g),(by
    rcases g6 with g | g
    ·exact .inl g
    ·right;exact List.eq_nil_of_length_eq_zero g),(by
    rw [Int.tmod_eq_emod_of_nonneg (by omega)] at g7;show d.length % 8=0;omega)⟩,g8⟩
   clear hG hwi hlim3
   repeat'(intro t ht;first|(cases t<;>first|(cases ht;done)|(try simp only[zh_]at ht;try(exfalso;first|contradiction|omega)))|((first|refine zb_ ht ?_|refine ht ?_ ?_|refine ht.1 ?_ ?_|refine ht ?_)<;>clear ht))
   all_goals first
    | exact True.intro
    | exact hc
    | (rw [hno.1,hno.2];exact ⟨rfl,rfl⟩)
    | exact (by decide:(8:Int) ≠ 0)
    | (exfalso;refine hbad ⟨by assumption,by assumption,by omega,by omega,by omega,by omega,by assumption,by assumption⟩)
 ·cases e
structure okI (l:List VIn):Prop where
 a:∀ i ∈ l,okL i.2.2.2.1/\i.2.2.2.2.1.length<=1000000
 n:l.length<=1000
def itL (l:List VIn):List VIt:=if gdL [] l=true then l.map itI else []
theorem VY_ {α β:Type} {l:List α} {i:Nat} (h:i < l.length) (d:α) (f:α->β):(l.take (i+1)).map f=(l.take i).map f++[f (l.getD i d)]:=by
 rw [<- KN_ (d:=d) h,List.map_append];rfl
def vi_:IR:=
(sq (kr [0] [oD 2 (.nilrow YB),
oD 3 (.mov cF)])
(sq (.reg [oD 10 (.mkmap (.int .i64) (.int .i64)),
oM 4 10])
(sq (.reg [oD 5 (.nilrow YB)])
(sq (sq (.reg [oM 11 0,
oE 12 11,
oD 13 (.mov (cI 0))])
(.block 0
(.loop
(sq (kr [4,5,11,12,13] [oB 14 .lss 13 12])
(sq (.cond 14
.skip
(.exit 0))
(sq (.block 1
(sq (.reg [oI 15 5 11 13,
oK 16 5 15,
oD 7 (.box [.int .i64 0,.int .u64 0,.int .u64 0,.imm Y2 [],.imm (.int .u8) []]),
oS 5 7 16])
(sq (kr [4,5,7,11,12,13] [oK 18 5 7,
oC 19 118 [18],
oM 17 19,
oX 20 17 0,
oX 21 17 1,
oM 8 20,
oM 9 21])
(sq (sq (kr [4,5,7,8,9,11,12,13] [oM 22 9,
oD 23 (.un .not 22),
oM 24 23,
oF 24 25 (.mov 4),
oF 24 26 (.fieldAddr 0 7),
oF 24 27 (.load none 26),
oF 24 28 (.mget (.int .i64) (.int .i64) (0:Int) false 25 27),
oF 24 29 (.bin .gtr 28 (cI 0)),
oF 24 30 (.mov 29),
oT 30 31 (.fieldAddr 0 7),
oT 30 32 (.load none 31),
oT 30 33 (.bin .neq 32 (cI 65535)),
oF 24 34 (.pick 30 33 cF),
oP 35 24 cT 34])
(.cond 35
(sq (kr [] [oD 2 (.nilrow YB),
oD 3 (.mov cF)])
.ret)
.skip))
(sq (kr [4,5,7,8,11,12,13] [oM 36 4,
oA 37 0 7,
oL 38 37,
oD 39 (.mget (.int .i64) (.int .i64) (0:Int) false 36 38),
oB 40 .add 39 (cI 1),
oN (.mput (.int .i64) (.int .i64) 36 38 40)])
(kr [4,5,7,8,11,12,13] [oM 41 5,
oA 42 0 7,
oL 43 42,
oM 44 8,
oD 45 (.buildAll 2 [(0,1,43),(1,1,44)]),
oD 46 (.sliceAll YB 1 [(0,2,45)]),
oD 47 (.append YB 32 41 46),
oM 5 47]))))))
(kr [4,5,11,12,13] [oB 48 .add 13 (cI 1),
oM 13 48])))))))
(sq (kr [5] [oM 49 5,
oM 2 49,
oD 3 (.mov cT)])
.ret)))))
def Yz_:List RD:=[.tmp 2 true (some YB),.tmp 3 true none]
theorem YU_:zl_ Tryz.prog Tryz.f61 vi_ Yz_=true:=by kernel_rfl
def KG_:List AV->List Obj->Option (Prop × AV)
 | [.imm ty0 l],[]=>Zs_ ty0 Y3 l fun l=>some ((okI l,.tup [.imm YB (itL l),.bool (gdL [] l)]))
 | _,_=>none
theorem yj_:zf_ Tryz.prog 61 (RoF KG_).sum:=by
 refine zj_ Tryz.func61 YU_ (za_ (s:=RoF jX_) Yk_ (ze_ _)) fun args objs p v e=>?_
 unfold KG_ at e
 split at e
 ·rename_i ty0 l
  obtain rfl:=zv_ e
  replace e:=zw_ e
  cases e
  refine ⟨rfl,fun hw ho hp=>?_⟩
  change List VIn at l
  clear hw ho
  obtain ⟨hok,hn⟩:=hp
  repeat'(intro t ht;first|(cases t<;>first|(cases ht;done)|(try simp only[zh_]at ht;try(exfalso;first|contradiction|omega)))|((first|refine zb_ ht ?_|refine ht ?_ ?_|refine ht.1 ?_ ?_|refine ht ?_)<;>clear ht))
  all_goals first
   | exact True.intro
   | (intro r h1 h2;clear h1;refine h2 ⟨[],[4,5,11,12,13],Nat × List (Int × Int),(fun a=>a.1<=l.length/\mOk a.2 (l.take a.1)/\gdL [] l=gdL (l.take a.1) (l.drop a.1)),fun a=>[.mapv 0,.own 1,.imm Y3 l,.int .i64 l.length,.int .i64 a.1],fun a=>[.map true (.int .i64) (.int .i64) a.2,.row false YB ((l.take a.1).map itI)],fun a=>l.length - a.1,⟨(0,[]),⟨Nat.zero_le _,U8_,rfl⟩,rfl,rfl⟩,?_⟩;clear h2)
  rintro ⟨i,m⟩ ⟨hi,hm,he⟩
  dsimp only at hi hm he
  have hst:=fun (d:VIn) (h:i < l.length)=>he.trans (zbc_ (d:=d) h)
  repeat'(intro t ht;first|(cases t<;>first|(cases ht;done)|(try simp only[zh_]at ht;try(exfalso;first|contradiction|omega)))|((first|refine zb_ ht ?_|refine ht ?_ ?_|refine ht.1 ?_ ?_|refine ht ?_)<;>clear ht))
  all_goals (try generalize (Ty.dflt Y3)=od at*)
  all_goals first
   | exact True.intro
   | ((try simp only [zn_,zo_,zm_] at*);omega)
   | (have hge:l.length<=i:=by omega
      have g:gdL [] l=true:=by rw [he,List.drop_of_length_le hge];rfl
      have e:itL l=(l.take i).map itI:=by unfold itL;rw [if_pos g,List.take_of_length_le hge]
      rw [g,e];exact ⟨rfl,rfl⟩)
   | (have hlt:i < l.length:=by omega
      have hs:=hst od hlt
      have hr:=hm.r (l.getD i od).1
      rw [List.length_take] at hr
      have hd:=bC_ hm (l.getD i od).1
      first
       | exact hok _ (zW_ hlt od)
       | exact (show IntKind.i64.min<=(zt_ m (l.getD i od).1).getD 0+1/\(zt_ m (l.getD i od).1).getD 0+1<=IntKind.i64.max from by simp only [zm_];omega)
       | (simp only [List.length_map,List.length_take,List.length_cons,List.length_nil];constructor<;>omega)
       | (have hsome:(bdO (l.getD i od)).isSome=false:=ht
          have g:gdL [] l=false:=by rw [hs,hsome];rfl
          have e:itL l=[]:=by unfold itL;rw [g];rfl
          rw [g,e];exact ⟨rfl,rfl⟩)
       | (have hdb:dbI (l.take i) (l.getD i od).1=true:=by
           have h1:0 < (zt_ m (l.getD i od).1).getD 0:=by assumption
           have h2:¬ (l.getD i od).1=65535:=ht
           unfold dbI;rw [<- hd,decide_eq_true h1,decide_eq_true h2];rfl
          have g:gdL [] l=false:=by rw [hs,hdb];simp
          have e:itL l=[]:=by unfold itL;rw [g];rfl
          rw [g,e];exact ⟨rfl,rfl⟩)
       | (have hsome:(bdO (l.getD i od)).isSome=true:=by assumption
          have hdb:dbI (l.take i) (l.getD i od).1=false:=by
           first
            | (have h1:¬ 0 < (zt_ m (l.getD i od).1).getD 0:=ht
               unfold dbI;rw [<- hd,decide_eq_false h1];rfl)
            | (have h2:(l.getD i od).1=65535:=ht
               unfold dbI;rw [decide_eq_false (not_not_intro h2),Bool.and_false])
          rw [hsome,hdb] at hs
          refine ⟨(i+1,QX_ m (l.getD i od).1 ((zt_ m (l.getD i od).1).getD 0+1)),⟨by dsimp only;omega,?_,?_⟩,by dsimp only;omega,rfl,?_⟩
          ·dsimp only;rw [<- KN_ (d:=od) hlt];exact U9_ hm
          ·dsimp only;rw [<- KN_ (d:=od) hlt];exact hs
          ·dsimp only;rw [VY_ hlt od itI];rfl))
 ·cases e
structure okJ (l:List VIt):Prop where
 a:∀ x ∈ l,(0<=x.1/\x.1<=65535)/\x.2.1.length % 8=4/\4<=x.2.1.length/\x.2.1.length<=65524
 n:l.length<=1000
def jnB (l:List VIt):List Int:=l.flatMap fun x=>enH x.1 x.2.1
theorem G0_ {l:List VIt} {i:Nat} {d:VIt} (h:i < l.length):jnB (l.take (i+1))=jnB (l.take i)++enH (l.getD i d).1 (l.getD i d).2.1:=by
 unfold jnB
 rw [<- KN_ (d:=d) h,List.flatMap_append];simp
theorem zcp_ {l:List VIt} (h:okJ l) (i:Nat):(jnB (l.take i)).length<=65528*i:=by
 induction i with
 | zero=>simp [jnB]
 | succ i ih=>
   by_cases hl:i < l.length
   ·rw [G0_ (d:=(0,[],())) hl,List.length_append,xA_]
    have:=(h.a _ (zW_ hl (0,[],()))).2.2.2
    omega
   ·rw [List.take_of_length_le (by omega)] at ih ⊢;omega
theorem zdN_ {t:Int} {y:List Int} (ht:0<=t/\t<=65535) (h4:4<=y.length) (hl:y.length<=65524):Kf_ y (kk_ [2,2] [t,4+y.length] [] (4+y.length) 0) (4+y.length) (Ka_ [2,2] [t,4+y.length] [] (4+y.length) 0)=enH t y/\kV_ y (kk_ [2,2] [t,4+y.length] [] (4+y.length) 0) (4+y.length) (Ka_ [2,2] [t,4+y.length] [] (4+y.length) 0)=0:=by
 obtain ⟨p1,p2⟩:=zaf_ (a:=t) (n:=4+y.length) ht (by omega)
 have l4:(zd_ t 2++zd_ (4+y.length) 2).length=4:=by
  have:=xA_ t y
  unfold enH at this;rw [List.length_append] at this;omega
 have b1:=QE_ (x:=ZZ_ [2,2] [t,4+y.length]) (l:=[]) (room:=4+y.length) (by rw [p1,l4];simp;omega)
 have r1:kk_ [2,2] [t,4+y.length] [] (4+y.length) 0=zd_ t 2++zd_ (4+y.length) 2:=by
  unfold kk_;rw [if_pos p2,b1.1,p1,List.nil_append]
 have r2:Ka_ [2,2] [t,4+y.length] [] (4+y.length) 0=0:=by
  unfold Ka_;rw [if_pos p2,b1.2]
 rw [r1,r2]
 have b2:=QE_ (x:=y) (l:=zd_ t 2++zd_ (4+y.length) 2) (room:=4+y.length) (by rw [l4];omega)
 exact ⟨b2.1,b2.2⟩
def G3_:IR:=
(sq (kr [0,1] [oD 2 (.boxv 0),
oD 4 (.nilrow (.int .u8)),
oD 5 (.mov (cI 0))])
(sq (sq (.reg [oK 16 5 2,
oC 17 119 [16],
oD 18 (.un .not 17)])
(.cond 18
(sq (kr [] [oD 4 (.nilrow (.int .u8)),
oD 5 (.mov (cI 10001))])
.ret)
.skip))
(sq (sq (kr [1,2] [oM 19 1,
oE 20 19,
oD 21 (.mov (cI 0))])
(.block 0
(.loop
(sq (kr [1,2,19,20,21] [oB 22 .lss 21 20])
(sq (.cond 22
.skip
(.exit 0))
(sq (.block 1
(sq (.reg [oI 23 2 19 21,
oK 24 2 23,
oD 7 (.box [.int .i64 0,.imm (.int .u8) []]),
oS 2 7 24])
(sq (kr [1,2,7,19,20,21] [oA 25 1 7,
oL 26 25,
oE 27 26,
oB 28 .add (cI 4) 27,
oM 8 28])
(sq (kr [1,2,7,8,19,20,21] [oA 29 0 7,
oL 30 29,
oB 31 .lss 30 (cI 0),
oM 32 31,
oF 32 33 (.fieldAddr 0 7),
oF 32 34 (.load none 33),
oF 32 35 (.bin .gtr 34 (cI 65535)),
oP 36 32 cT 35,
oM 37 36,
oF 37 38 (.mov 8),
oF 37 39 (.bin .gtr 38 (cI 65535)),
oP 40 37 cT 39,
oM 41 40,
oF 41 42 (.load (some 5) 2),
oF 41 43 (.mov 8),
oF 41 44 (.call false (.f 120) [42,43]),
oF 41 45 (.un .not 44),
oP 46 41 cT 45])
(.cond 46
(sq (kr [] [oD 4 (.nilrow (.int .u8)),
oD 5 (.mov (cI 10001))])
.ret)
.skip)))))
(kr [1,2,19,20,21] [oB 47 .add 21 (cI 1),
oM 21 47])))))))
(sq (kr [1,2] [oD 9 (.nilrow (.int .u8))])
(sq (sq (.reg [oM 48 1,
oE 49 48,
oD 50 (.mov (cI 0))])
(.block 2
(.loop
(sq (kr [2,9,48,49,50] [oB 51 .lss 50 49])
(sq (.cond 51
.skip
(.exit 2))
(sq (.block 3
(sq (.reg [oI 52 2 48 50,
oK 53 2 52,
oD 11 (.box [.int .i64 0,.imm (.int .u8) []]),
oS 2 11 53])
(sq (kr [2,9,11,48,49,50] [oA 54 1 11,
oL 55 54,
oE 56 55,
oB 57 .add (cI 4) 56,
oM 12 57])
(sq (kr [2,9,11,12,48,49,50] [oM 58 12,
oK 59 5 2,
oM 60 12,
oC 61 121 [59,60],
oB 62 .add 58 61,
oC 63 48 [62],
oM 13 63])
(sq (kr [2,9,11,12,13,48,49,50] [oM 64 13,
oD 65 (.sliceAll (.int .i64) 2 [(0,1,(cI 2)),(1,1,(cI 2))]),
oA 66 0 11,
oL 67 66,
oD 68 (.conv .u64 67),
oM 69 12,
oD 70 (.conv .u64 69),
oD 71 (.sliceAll (.int .u64) 2 [(0,1,68),(1,1,70)]),
oC 72 105 [64,65,71]])
(sq (kr [2,9,11,12,13,48,49,50] [oM 73 13,
oA 74 1 11,
oL 75 74,
oC 76 122 [73,75]])
(sq (kr [2,9,12,13,48,49,50] [oM 77 13,
oK 78 5 2,
oM 79 12,
oC 80 121 [78,79],
oD 81 (.mkrow (.int .u8) 1 (0:Int) 80 80),
oC 82 122 [77,81]])
(sq (kr [2,9,13,48,49,50] [oM 84 13,
oC 85 50 [84],
oM 83 85,
oX 86 83 0,
oX 87 83 1,
oM 14 86,
oM 15 87])
(sq (sq (kr [2,9,14,15,48,49,50] [oM 88 15,
oB 89 .neq 88 (cI 0)])
(.cond 89
(sq (.reg [oM 90 15,
oD 4 (.nilrow (.int .u8)),
oM 5 90])
.ret)
.skip))
(.reg [oM 91 9,
oM 92 14,
oD 93 (.append (.int .u8) 1 91 92),
oM 9 93]))))))))))
(kr [2,9,48,49,50] [oB 94 .add 50 (cI 1),
oM 50 94])))))))
(sq (kr [9] [oM 95 9,
oM 4 95,
oD 5 (.mov (cI 0))])
.ret))))))
def Gg_:List RD:=[.tmp 4 true (some (.int .u8)),.tmp 5 true none]
theorem GA_:zl_ Tryz.prog Tryz.f62 G3_ Gg_=true:=by kernel_rfl
def WO_:List AV->List Obj->Option (Prop × AV)
 | [.agg [.int .i64 least,.int .i64 step,.bool pad,.int .i64 bad,.int .i64 odd],.imm (.cons (.int .i64) (.cons (.sl (.int .u8)) .nil)) l],[]=>some ((pad=false/\least=8/\step=8/\bad ≠ 0/\odd ≠ 0/\okJ l,.tup [.imm (.int .u8) (jnB l),.int .i64 0]))
 | _,_=>none
theorem Ue_:zf_ Tryz.prog 62 (RoF WO_).sum:=by
 refine zj_ Tryz.func62 GA_ (za_ (s:=RoF Qa_) Kq_ (za_ (s:=RoF qL_) k5_ (za_ (s:=RoF qo_) kK_ (za_ (s:=RwF qO_) Qv_ (za_ (s:=RwF zY_) Zn_ (za_ (s:=RwF zA_) zH_ (za_ (s:=RwF z9_) ZE_ (ze_ _)))))))) fun args objs p v e=>?_
 unfold WO_ at e
 split at e
 ·rename_i least step pad bad odd l
  cases e
  refine ⟨rfl,fun hw ho hp=>?_⟩
  change List VIt at l
  clear hw ho
  obtain ⟨rfl,rfl,rfl,hbad,hodd,hok⟩:=hp
  have hn:=hok.n
  repeat'(intro t ht;first|(cases t<;>first|(cases ht;done)|(try simp only[zh_]at ht;try(exfalso;first|contradiction|omega)))|((first|refine zb_ ht ?_|refine ht ?_ ?_|refine ht.1 ?_ ?_|refine ht ?_)<;>clear ht))
  all_goals first
   | exact True.intro
   | exact ⟨by decide,by decide,by decide,by decide,hbad,hodd⟩
   | (intro r h1 h2;clear h1;refine h2 ⟨[],[1,2,19,20,21],Nat,(fun i=>i<=l.length),fun i=>[.imm YB l,.ptr 0 0,.imm YB l,.int .i64 l.length,.int .i64 i],fun i=>[.box [.int .i64 8,.int .i64 8,.bool false,.int .i64 bad,.int .i64 odd]],fun i=>l.length - i,⟨0,Nat.zero_le _,rfl,rfl⟩,?_⟩;clear h2)
  rintro i hi
  by_cases hlt:i < l.length
  ·have hx:=hok.a _ (zW_ hlt (Ty.dflt YB))
   have htm:((4:Int)+((l.getD i (Ty.dflt YB)).2.1.length:Int)).tmod 8=0:=by rw [Int.tmod_eq_emod_of_nonneg (by omega)];omega
   repeat'(intro t ht;first|(cases t<;>first|(cases ht;done)|(try simp only[zh_]at ht;try(exfalso;first|contradiction|omega)))|((first|refine zb_ ht ?_|refine ht ?_ ?_|refine ht.1 ?_ ?_|refine ht ?_)<;>clear ht))
   all_goals (try generalize (Ty.dflt YB)=od at*)
   all_goals first
    | exact True.intro
    | exact ⟨rfl,(by decide:(1:Int)<=8)⟩
    | ((try simp only [zn_,zo_,zm_] at*);omega)
    | (refine ⟨i+1,?_,?_,rfl,rfl⟩
       ·(try dsimp only);omega
       ·(try dsimp only);omega)
    | (exfalso;simp_all;omega)
  ·repeat'(intro t ht;first|(cases t<;>first|(cases ht;done)|(try simp only[zh_]at ht;try(exfalso;first|contradiction|omega)))|((first|refine zb_ ht ?_|refine ht ?_ ?_|refine ht.1 ?_ ?_|refine ht ?_)<;>clear ht))
   all_goals first
    | exact True.intro
    | (intro r h1 h2;clear h1;refine h2 ⟨[],[2,9,48,49,50],Nat,(fun i=>i<=l.length),fun i=>[.ptr 0 0,.own 1,.imm YB l,.int .i64 l.length,.int .i64 i],fun i=>[.box [.int .i64 8,.int .i64 8,.bool false,.int .i64 bad,.int .i64 odd],.row false (.int .u8) (jnB (l.take i))],fun i=>l.length - i,⟨0,Nat.zero_le _,rfl,rfl⟩,?_⟩;clear h2)
   clear ht hlt hi i
   rintro i hi
   have hjl:=zcp_ hok i
   by_cases hlt:i < l.length
   ·have hx:=hok.a _ (zW_ hlt (Ty.dflt YB))
    obtain ⟨j1,j2⟩:=zdN_ hx.1 hx.2.2.1 hx.2.2.2
    have hrm:Wm_ (4+((l.getD i (Ty.dflt YB)).2.1.length:Int)+0)=4+((l.getD i (Ty.dflt YB)).2.1.length:Int):=by unfold Wm_;omega
    have hel:=xA_ (l.getD i (Ty.dflt YB)).1 (l.getD i (Ty.dflt YB)).2.1
    have hrl:(kk_ [2,2] [(l.getD i (Ty.dflt YB)).1,4+((l.getD i (Ty.dflt YB)).2.1.length:Int)] [] (4+((l.getD i (Ty.dflt YB)).2.1.length:Int)) 0).length<=1000000:=Gb_ (by decide) (by omega)
    have j3:Kf_ ([]:List Int) (enH (l.getD i (Ty.dflt YB)).1 (l.getD i (Ty.dflt YB)).2.1) (4+((l.getD i (Ty.dflt YB)).2.1.length:Int)) 0=enH (l.getD i (Ty.dflt YB)).1 (l.getD i (Ty.dflt YB)).2.1:=by rw [(QE_ (by rw [hel];simp)).1,List.append_nil]
    have j4:kV_ ([]:List Int) (enH (l.getD i (Ty.dflt YB)).1 (l.getD i (Ty.dflt YB)).2.1) (4+((l.getD i (Ty.dflt YB)).2.1.length:Int)) 0=0:=(QE_ (by rw [hel];simp)).2
    have j5:List.replicate (Int.toNat 0) (0:Int)=[]:=rfl
    have j6:wx_ [] 0=0:=rfl
    repeat'(intro t ht;first|(cases t<;>first|(cases ht;done)|(try simp only[zh_]at ht;try(exfalso;first|contradiction|omega)))|((first|refine zb_ ht ?_|refine ht ?_ ?_|refine ht.1 ?_ ?_|refine ht ?_)<;>clear ht))
    all_goals (try generalize (Ty.dflt YB)=od at*)
    all_goals (try simp only [zn_,zo_,hrm,j1,j2,j3,j4,j5,j6,zbk_] at*)
    all_goals first
     | exact True.intro
     | ((try simp only [zn_,zo_,zm_] at*);omega)
     | (exfalso;contradiction)
     | exact ⟨by omega,by omega,by decide⟩
     | exact ⟨by omega,by omega,hrl,by omega⟩
     | exact ⟨by omega,by omega,by omega,by decide⟩
     | exact ⟨by omega,by decide⟩
     | (refine ⟨i+1,by omega,by omega,rfl,?_⟩
        rw [G0_ (d:=od) hlt])
   ·repeat'(intro t ht;first|(cases t<;>first|(cases ht;done)|(try simp only[zh_]at ht;try(exfalso;first|contradiction|omega)))|((first|refine zb_ ht ?_|refine ht ?_ ?_|refine ht.1 ?_ ?_|refine ht ?_)<;>clear ht))
    all_goals first
     | exact True.intro
     | (rw [List.take_of_length_le (by omega)];exact ⟨rfl,rfl⟩)
 ·cases e
end Go.Eng
