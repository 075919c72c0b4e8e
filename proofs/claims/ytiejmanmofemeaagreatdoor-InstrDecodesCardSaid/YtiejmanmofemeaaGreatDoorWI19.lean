/- Parts of the proof: X1, I1, I2, P2, P3, P4, P5, P6, I3. No condition. -/
import Derived.Test.YtiejmanmofemeaaGreatDoorProg
import Derived.Test.YtiejmanmofemeaaGreatDoorWI10
import Derived.KernelRfl
import Derived.Test.YtiejmanmofemeaaGreatDoorWI18
import Derived.Lib.BytesEntry
import Derived.Lib.Walk
import Derived.Laws.Externs
import Derived.Lib.Strings
import Derived.Lib.Slices
import Derived.Test.YtiejmanmofemeaaGreatDoorWI11
import Derived.Test.YtiejmanmofemeaaGreatDoorWI12
import Derived.Test.YtiejmanmofemeaaGreatDoorWI16
namespace Go.Eng
open Go.Proofs
set_option linter.unusedVariables false
set_option linter.unusedSimpArgs false
set_option maxRecDepth 100000
set_option maxHeartbeats 1000000
structure WrOk (room:Int) (f:List Int->Int->List Int × Int) (v:Option (List Int)):Prop where
 ok:∀ y,v=some y->∀ l:List Int,(l.length:Int)+y.length<=room->f l 0=(l++y,0)
 full:∀ y,v=some y->∀ l:List Int,(l.length:Int)<=room->¬ (l.length:Int)+y.length<=room->(f l 0).2 ≠ 0
 bad:v=none->∀ l:List Int,(f l 0).2 ≠ 0
 ne:∀ (l:List Int) (e:Int),e ≠ 0->(f l e).2 ≠ 0
def wcat (a b:Option (List Int)):Option (List Int):=match a,b with | some x,some y=>some (x++y) | _,_=>none
theorem WrOk.seq {room:Int} {f g:List Int->Int->List Int × Int} {v w:Option (List Int)} (hf:WrOk room f v) (hg:WrOk room g w):WrOk room (fun l e=>g (f l e).1 (f l e).2) (wcat v w):=by
 cases v with
 | none=>exact ⟨fun y h=>(by cases h),fun y h=>(by cases h),fun _ l=>hg.ne _ _ (hf.bad rfl l),fun l e h=>hg.ne _ _ (hf.ne l e h)⟩
 | some x=>
   cases w with
   | none=>
     refine ⟨fun y h=>(by cases h),fun y h=>(by cases h),fun _ l=>?_,fun l e h=>hg.ne _ _ (hf.ne l e h)⟩
     show (g (f l 0).1 (f l 0).2).2 ≠ 0
     by_cases h0:(f l 0).2=0
     ·rw [h0];exact hg.bad rfl _
     ·exact hg.ne _ _ h0
   | some z=>
     refine ⟨fun y h l hl=>?_,fun y h l h0 hl=>?_,fun h=>(by cases h),fun l e h=>hg.ne _ _ (hf.ne l e h)⟩
     ·cases h
      rw [List.length_append] at hl
      show g (f l 0).1 (f l 0).2=_
      rw [hf.ok x rfl l (by omega)]
      show g (l++x) 0=_
      rw [hg.ok z rfl _ (by rw [List.length_append];omega),List.append_assoc]
     ·cases h
      rw [List.length_append] at hl
      show (g (f l 0).1 (f l 0).2).2 ≠ 0
      by_cases c:(l.length:Int)+x.length<=room
      ·rw [hf.ok x rfl l c]
       exact hg.full z rfl _ (by rw [List.length_append];omega) (by rw [List.length_append];omega)
      ·exact hg.ne _ _ (hf.full x rfl l h0 c)
theorem WrOk.fin {room:Int} {f:List Int->Int->List Int × Int} {v:Option (List Int)} (h:WrOk room f v) (h0:0<=room):(∀ y,v=some y->(y.length:Int)<=room->f [] 0=(y,0))/\((∀ y,v=some y->room < (y.length:Int))->(f [] 0).2 ≠ 0):=by
 refine ⟨fun y e hl=>h.ok y e [] (by simpa using hl),fun hy=>?_⟩
 cases v with
 | none=>exact h.bad rfl []
 | some y=>have:=hy y rfl;exact h.full y rfl [] (by simpa using h0) (by simp;omega)
theorem g6_ (room:Int) (x:List Int):WrOk room (fun l e=>(kK_ x l room e,ko_ x l room e)) (some x):=
 ⟨fun y h l hl=>by cases h;obtain ⟨a,b⟩:=Qi_ (x:=x) (l:=l) (room:=room) (by omega);rw [a,b],fun y h l _ hl=>by cases h;exact h7_ (by omega),fun h=>(by cases h),fun l e h=>BJ_ h⟩
def B8_ (w xs:List Int):Option (List Int):=if q7_ w xs=true then some (ZO_ w xs) else none
theorem zeb_ (room:Int) (w xs:List Int):WrOk room (fun l e=>(QU_ w xs l room e,kF_ w xs l room e)) (B8_ w xs):=by
 unfold B8_
 by_cases hk:q7_ w xs=true
 ·have h:=g6_ room (ZO_ w xs)
  rw [if_pos hk]
  unfold QU_ kF_
  simp only [if_pos hk]
  exact h
 ·rw [if_neg hk]
  unfold QU_ kF_
  simp only [if_neg hk]
  exact ⟨fun y h=>(by cases h),fun y h=>(by cases h),fun _ l=>by show (10001:Int) ≠ 0;decide,fun l e h=>wD_ h⟩
def actO (x:List AC):Option (List Int):=if rgL x=true then some (boA x) else none
theorem zcP_ (room:Int) (x:List AC):WrOk room (fun l e=>(apB x l room e,apE x l room e)) (actO x):=by
 unfold actO
 cases hr:rgL x with
 | false=>
   rw [if_neg (by decide)]
   refine ⟨fun y h=>(by cases h),fun y h=>(by cases h),fun _ l=>?_,fun l e h=>?_⟩
   ·show apE x l room 0 ≠ 0;rw [(zcx_ hr).2];decide
   ·show apE x l room e ≠ 0;rw [(zcx_ hr).2];exact wD_ h
 | true=>
   rw [if_pos rfl]
   refine ⟨fun y h l hl=>?_,fun y h l h0 hl=>?_,fun h=>(by cases h),fun l e h=>zeU_ h⟩
   ·cases h
    obtain ⟨a,b⟩:=zfy_ (l:=l) hr hl
    show (apB x l room 0,apE x l room 0)=_;rw [a,b]
   ·cases h
    show apE x l room 0 ≠ 0
    unfold apE;rw [if_pos hr]
    exact g8_ _ _ (wv_ hr).1 h0 hl
theorem B7_ {w n y:List Int} (h:B8_ w n=some y):q7_ w n=true/\ZO_ w n=y:=by
 unfold B8_ at h;split at h
 ·cases h;exact ⟨by assumption,rfl⟩
 ·cases h
theorem ul_ {a b:Option (List Int)} {y:List Int} (h:wcat a b=some y):∃ p q,a=some p/\b=some q/\y=p++q:=by
 cases a with
 | none=>cases h
 | some p=>cases b with
   | none=>cases h
   | some q=>cases h;exact ⟨p,q,rfl,rfl,rfl⟩
theorem b4_ {a b:List Int}:wcat (some a) (some b)=some (a++b):=rfl
theorem zaM_ {a:List AC} {y:List Int} (h:actO a=some y):rgL a=true/\boA a=y:=by
 unfold actO at h;split at h
 ·cases h;exact ⟨by assumption,rfl⟩
 ·cases h
theorem zdG_ {x:List AC} {l:List Int} {room e:Int} (h:l.length<=1000000) (hr:room<=1000000):(apB x l room e).length<=1000000:=by
 unfold apB;split
 ·exact b3_ hr _ _ _ h
 ·exact h
abbrev VIt:=Int × List Int × Unit
def wI (t:Int):List Int:=if t=1 then [1,-3] else if t=2 then [-4,8,8] else if t=3\/t=4\/t=5 then [-4] else if t=6\/t=65535 then [4] else []
def kI (t:Int):Bool:=decide (t=1) || decide (t=2) || decide (t=3) || decide (t=4) || decide (t=5) || decide (t=6) || decide (t=65535)
def dI (t:Int):Bool:=decide (t=3) || decide (t=4)
def mI (t:Int):Bool:=decide (t=3) || decide (t=4) || decide (t=65535)
def qI (t a b:Int):Int:=if t=1/\254 < a then 771 else if t=2/\¬ Zo_ .andNot .u64 a b=0 then 772 else 0
def nuI (t:Int):Int:=zI_ (wI t)
def sI (t:Int):Int:=zG_ (wI t)
theorem YW_ {t:Int} (h:kI t=true):t=1\/t=2\/t=3\/t=4\/t=5\/t=6\/t=65535:=by
 unfold kI at h;simp only [Bool.or_eq_true,decide_eq_true_eq] at h;omega
theorem g9_ {t:Int} (h:kI t=true):(sI t=4\/sI t=20)/\0<=nuI t/\nuI t<=2:=by
 rcases YW_ h with rfl | rfl | rfl | rfl | rfl | rfl | rfl<;>decide
theorem zdZ_ {t:Int} (h:kI t=true):0<=t/\t<=65535:=by have:=YW_ h;omega
def xI (i:VIn):List Int:=[i.2.1,i.2.2.1].take (nuI i.1).toNat
theorem zea_ {n a b:Int} (h0:0<=n/\n<=2) (h2:2<=n\/b=0) (h1:1<=n\/a=0):([a,b].take n.toNat++[0,0]).getD 0 0=a/\([a,b].take n.toNat++[0,0]).getD 1 0=b:=by
 have:n=0\/n=1\/n=2:=by omega
 rcases this with rfl | rfl | rfl
 ·obtain rfl:a=0:=by omega
  obtain rfl:b=0:=by omega
  exact ⟨rfl,rfl⟩
 ·obtain rfl:b=0:=by omega
  exact ⟨rfl,rfl⟩
 ·exact ⟨rfl,rfl⟩
def gdI (i:VIn):Bool:=kI i.1 && decide (qI i.1 i.2.1 i.2.2.1=0) && (decide (2<=nuI i.1) || decide (i.2.2.1=0)) && (decide (1<=nuI i.1) || decide (i.2.1=0)) && (dI i.1 || decide (i.2.2.2.1.length=0)) && (decide (i.1=65535) || decide (i.2.2.2.2.1.length=0)) && decide (i.2.2.2.2.1.length % 8=0)
def byI (i:VIn):Option (List Int):=wcat (wcat (B8_ (wI i.1) (xI i)) (actO i.2.2.2.1)) (some i.2.2.2.2.1)
def bdO (i:VIn):Option (List Int):=if gdI i=true then (match byI i with | some y=>if (65524:Int) < y.length then none else some y | none=>none) else none
structure BdOk (i:VIn) (y:List Int):Prop where
 k:kI i.1=true
 q:qI i.1 i.2.1 i.2.2.1=0
 b:2<=nuI i.1\/i.2.2.1=0
 a:1<=nuI i.1\/i.2.1=0
 d:dI i.1=true\/i.2.2.2.1=[]
 e:i.1=65535\/i.2.2.2.2.1=[]
 m:i.2.2.2.2.1.length % 8=0
 p:q7_ (wI i.1) (xI i)=true
 r:rgL i.2.2.2.1=true
 s:y=ZO_ (wI i.1) (xI i)++boA i.2.2.2.1++i.2.2.2.2.1
 l:(y.length:Int)<=65524
theorem yI_ {i:VIn}:gdI i=true ↔ kI i.1=true/\qI i.1 i.2.1 i.2.2.1=0/\(2<=nuI i.1\/i.2.2.1=0)/\(1<=nuI i.1\/i.2.1=0)/\(dI i.1=true\/i.2.2.2.1=[])/\(i.1=65535\/i.2.2.2.2.1=[])/\i.2.2.2.2.1.length % 8=0:=by
 unfold gdI
 simp only [Bool.and_eq_true,Bool.or_eq_true,decide_eq_true_eq,List.length_eq_zero_iff,and_assoc]
theorem yN_ {i:VIn} {y:List Int}:bdO i=some y ↔ BdOk i y:=by
 constructor
 ·intro h
  unfold bdO at h
  split at h
  ·rename_i hg
   obtain ⟨g1,g2,g3,g4,g5,g6,g7⟩:=yI_.1 hg
   cases hy:byI i with
   | none=>rw [hy] at h;cases h
   | some z=>
     rw [hy] at h
     dsimp only at h
     split at h
     ·cases h
     ·rename_i hl
      cases h
      unfold byI at hy
      obtain ⟨p,q,w1,w2,w3⟩:=ul_ hy
      obtain ⟨p1,p2,w4,w5,w6⟩:=ul_ w1
      obtain ⟨k1,k2⟩:=B7_ w4
      obtain ⟨k3,k4⟩:=zaM_ w5
      cases w2
      exact ⟨g1,g2,g3,g4,g5,g6,g7,k1,k3,by rw [w3,w6,k2,k4],by omega⟩
  ·cases h
 ·rintro ⟨g1,g2,g3,g4,g5,g6,g7,g8,g9,rfl,g11⟩
  unfold bdO byI
  have e1:B8_ (wI i.1) (xI i)=some (ZO_ (wI i.1) (xI i)):=if_pos g8
  have e2:actO i.2.2.2.1=some (boA i.2.2.2.1):=if_pos g9
  rw [if_pos (yI_.2 ⟨g1,g2,g3,g4,g5,g6,g7⟩),e1,e2,b4_,b4_]
  dsimp only
  rw [if_neg (by omega)]
theorem zd8_:∀ {l:List AC},l.all rgA=true->(boA l).length % 8=0
 | [],_=>rfl
 | a :: r,h=>by
   rw [List.all_cons,Bool.and_eq_true] at h
   have h1:=(yU_ h.1).2.2.2
   have h2:=zd8_ h.2
   rw [KC_,List.length_append];omega
theorem zd9_ {i:VIn} (ha:0<=i.2.1/\i.2.1<=18446744073709551615) (hb:0<=i.2.2.1/\i.2.2.1<=18446744073709551615):∀ z ∈ xI i,0<=z/\z<=18446744073709551615:=fun z hz=>by
 have:=List.mem_of_mem_take hz
 simp only [List.mem_cons,List.not_mem_nil,or_false] at this
 rcases this with rfl | rfl<;>assumption
theorem YA_ {w xs:List Int} (h:q7_ w xs=true):((ZO_ w xs).length:Int)=zG_ w:=xI_ h
theorem zcq_ {i:VIn} {y:List Int} (h:bdO i=some y):y.length % 8=4/\4<=y.length/\(y.length:Int)<=65524:=by
 have g:=yN_.1 h
 have h1:=YA_ g.p
 have h2:=zd8_ (wv_ g.r).1
 have h3:=(g9_ g.k).1
 unfold sI at h3
 have hl:=g.l
 have hm:=g.m
 have hy:=congrArg List.length g.s
 rw [List.length_append,List.length_append] at hy
 omega
def enH (t:Int) (y:List Int):List Int:=zf_ t 2++zf_ (4+y.length) 2++y
theorem yJ_ (t:Int) (y:List Int):(enH t y).length=4+y.length:=by
 have l2:(zf_ t 2).length=2:=by have:=zo_ (n:=t) (w:=2) (by decide);omega
 have l3:(zf_ (4+y.length) 2).length=2:=by have:=zo_ (n:=4+(y.length:Int)) (w:=2) (by decide);omega
 unfold enH;simp only [List.length_append];omega
def bdY (i:VIn):List Int:=(bdO i).getD []
def enI (i:VIn):List Int:=enH i.1 (bdY i)
def itI (i:VIn):VIt:=(i.1,bdY i,())
def boI (l:List VIn):List Int:=l.flatMap enI
theorem h9_ (i:VIn) (r:List VIn):boI (i :: r)=enI i++boI r:=List.flatMap_cons
def snI (acc:List VIn) (t:Int):Bool:=acc.any fun i=>decide (i.1=t)
def dbI (acc:List VIn) (t:Int):Bool:=snI acc t && decide (¬ t=65535)
def gdL (acc:List VIn):List VIn->Bool
 | []=>true
 | i :: r=>(bdO i).isSome && !dbI acc i.1 && gdL (acc++[i]) r
theorem zb5_ {acc l:List VIn} {i:Nat} {d:VIn} (h:i < l.length):gdL acc (l.drop i)=((bdO (l.getD i d)).isSome && !dbI acc (l.getD i d).1 && gdL (acc++[l.getD i d]) (l.drop (i+1))):=by
 rw [zz_ h d];rfl
def rgI (l:List VIn):Bool:=gdL [] l && decide ((boI l).length<=65528)
def ieL (l:List VIn):List Int:=if rgI l=true then boI l else []
def ieE (l:List VIn):Int:=if rgI l=true then 0 else 10001
theorem zcr_ {i:VIn} {y:List Int} (h:bdO i=some y):bdY i=y:=by unfold bdY;rw [h];rfl
theorem By_:∀ {l acc:List VIn},gdL acc l=true->∀ i ∈ l,(bdO i).isSome=true
 | i :: r,acc,h,j,hj=>by
   unfold gdL at h
   simp only [Bool.and_eq_true] at h
   rcases List.mem_cons.1 hj with rfl | hj
   ·exact h.1.1
   ·exact By_ h.2 j hj
def o5N (t:Int) (x:List Int):List Int:=Q5_ (wI t) x 0 0++[0,0]
def o5A (t:Int) (x:List Int):Int:=(o5N t x).getD 0 0
def o5B (t:Int) (x:List Int):Int:=(o5N t x).getD 1 0
def o5K (t:Int) (x:List Int):Bool:=decide (zU_ (wI t) x=0) && (mI t || decide ((x.length:Int)<=sI t))
def o5R (t:Int) (x:List Int):List Int:=x.drop (sI t).toNat
def o5E (s:Bool) (t:Int) (x:List Int):Int:=if kI t=false then 769 else if s=true/\¬ t=65535 then 778 else if o5K t x=false then 776 else if t=65535 then 0 else if ¬ qI t (o5A t x) (o5B t x)=0 then qI t (o5A t x) (o5B t x) else adE (o5R t x)
def o5V (s:Bool) (t:Int) (x:List Int):VIn:=if kI t=false\/(s=true/\¬ t=65535) then (t,0,0,[],[],()) else (t,o5A t x,o5B t x,(if o5E s t x=0/\¬ t=65535 then adL (o5R t x) else []),(if o5K t x=true/\t=65535 then o5R t x else []),())
def inE (acc:List VIn) (y:List Int):Int:=if ¬ tlE y 8 8 776=0 then tlE y 8 8 776 else o5E (snI acc (tT y)) (tT y) (bd y)
def vI (acc:List VIn) (y:List Int):VIn:=o5V (snI acc (tT y)) (tT y) (bd y)
def inG (acc:List VIn) (y:List Int):List VIn × Int:=
 if y.length=0 then (acc,0) else if ¬ inE acc y=0 then ([],inE acc y) else inG (acc++[vI acc y]) (y.drop (max 1 (tN y).toNat))
termination_by y.length
decreasing_by all_goals (rw [List.length_drop];omega)
theorem yF_ {acc:List VIn} {y:List Int} (h:y.length=0):inG acc y=(acc,0):=by rw [inG,if_pos h]
theorem jd_ {acc:List VIn} {y:List Int} (h:¬ y.length=0) (h2:¬ inE acc y=0):inG acc y=([],inE acc y):=by rw [inG,if_neg h,if_pos h2]
theorem Y9_ {acc:List VIn} {y:List Int} (h:¬ y.length=0) (h2:inE acc y=0) (hn:1<=tN y):inG acc y=inG (acc++[vI acc y]) (y.drop (tN y).toNat):=by
 rw [inG,if_neg h,if_neg (not_not_intro h2),show max 1 (tN y).toNat=(tN y).toNat by omega]
def idE (b:List Int):Int:=if ¬ (inG [] b).2=0 then (inG [] b).2 else if 65528 < b.length then 776 else 0
def idL (b:List Int):List VIn:=if idE b=0 then (inG [] b).1 else []
theorem Wl_ {b:List Int} {e:Int} (h:(inG [] b).2=e) (h0:¬ e=0):idL b=[]/\idE b=e:=by
 have:idE b=e:=by unfold idE;rw [h,if_pos h0]
 exact ⟨by unfold idL;rw [this,if_neg h0],this⟩
theorem vd_ {b:List Int} {acc:List VIn} (h:inG [] b=(acc,0)):(65528 < b.length->idL b=[]/\idE b=776)/\(¬ 65528 < b.length->idL b=acc/\idE b=0):=by
 have e:idE b=if 65528 < b.length then 776 else 0:=by unfold idE;rw [h];rfl
 constructor
 ·intro hl
  rw [if_pos hl] at e
  exact ⟨by unfold idL;rw [e];rfl,e⟩
 ·intro hl
  rw [if_neg hl] at e
  exact ⟨by unfold idL;rw [e,h];rfl,e⟩
theorem yT_ {b:List Int} {bad:Int} (hT:tlE b 8 8 bad=0) (hbad:bad ≠ 0):4<=b.length/\8<=tN b/\(tN b).tmod 8=0/\tN b<=b.length:=by
 unfold tlE at hT
 by_cases h1:b.length < 4
 ·rw [if_pos h1] at hT;exact absurd hT hbad
 ·rw [if_neg h1] at hT
  by_cases h2:tN b < 8\/¬ (tN b).tmod 8=0
  ·rw [if_pos h2] at hT;exact absurd hT hbad
  ·rw [if_neg h2] at hT
   by_cases h3:(b.length:Int) < tN b
   ·rw [if_pos h3] at hT;exact absurd hT hbad
   ·omega
theorem zeH_ {acc:List VIn} {b:List Int} (h0:inE acc b=0):tlE b 8 8 776=0/\o5E (snI acc (tT b)) (tT b) (bd b)=0:=by
 unfold inE at h0
 by_cases h:tlE b 8 8 776=0
 ·rw [if_neg (not_not_intro h)] at h0;exact ⟨h,h0⟩
 ·rw [if_pos h] at h0;exact absurd h0 h
theorem gG_ {acc:List VIn} {b:List Int} (h0:inE acc b=0):8<=tN b/\tN b<=b.length/\(tN b).tmod 8=0:=by
 obtain ⟨p1,p2,p3,p4⟩:=yT_ (zeH_ h0).1 (by decide)
 exact ⟨p2,p4,p3⟩
structure OkI (s:Bool) (t:Int) (x:List Int):Prop where
 k:kI t=true
 s:s=false\/t=65535
 o:o5K t x=true
 q:qI t (o5A t x) (o5B t x)=0
 a:t=65535\/adE (o5R t x)=0
theorem qI_x {a b:Int}:qI 65535 a b=0:=by unfold qI;rw [if_neg (by omega),if_neg (by omega)]
theorem zbr_ {s:Bool} {t:Int} {x:List Int}:o5E s t x=0 ↔ OkI s t x:=by
 unfold o5E
 constructor
 ·intro h
  cases hk:kI t with
  | false=>rw [if_pos hk] at h;cases h
  | true=>
    rw [if_neg (by rw [hk];decide)] at h
    by_cases hs:s=true/\¬ t=65535
    ·rw [if_pos hs] at h;cases h
    ·rw [if_neg hs] at h
     have hs':s=false\/t=65535:=by
      cases s with
      | false=>exact .inl rfl
      | true=>exact .inr (Decidable.of_not_not fun c=>hs ⟨rfl,c⟩)
     cases ho:o5K t x with
     | false=>rw [if_pos ho] at h;cases h
     | true=>
       rw [if_neg (by rw [ho];decide)] at h
       by_cases hx:t=65535
       ·subst hx;exact ⟨hk,.inr rfl,ho,qI_x,.inl rfl⟩
       ·rw [if_neg hx] at h
        by_cases hq:qI t (o5A t x) (o5B t x)=0
        ·rw [if_neg (not_not_intro hq)] at h
         exact ⟨hk,hs',ho,hq,.inr h⟩
        ·rw [if_pos hq] at h;exact absurd h hq
 ·rintro ⟨h1,h2,h3,h4,h5⟩
  have h2':¬ (s=true/\¬ t=65535):=by
   rintro ⟨c1,c2⟩
   rcases h2 with h2 | h2
   ·rw [h2] at c1;cases c1
   ·exact c2 h2
  rw [if_neg (by rw [h1];decide),if_neg h2',if_neg (by rw [h3];decide)]
  by_cases hx:t=65535
  ·rw [if_pos hx]
  ·rw [if_neg hx,if_neg (not_not_intro h4)]
   rcases h5 with h5 | h5
   ·exact absurd h5 hx
   ·exact h5
theorem zfa_ {s:Bool} {t:Int} {x:List Int} (h:OkI s t x):o5V s t x=(t,o5A t x,o5B t x,(if t=65535 then [] else adL (o5R t x)),(if t=65535 then o5R t x else []),()):=by
 have h0:=zbr_.2 h
 unfold o5V
 have h2:¬ (kI t=false\/(s=true/\¬ t=65535)):=by
  rintro (c | c)
  ·rw [h.k] at c;cases c
  ·rcases h.s with e | e
   ·rw [e] at c;cases c.1
   ·exact c.2 e
 rw [if_neg h2]
 by_cases hx:t=65535
 ·rw [if_neg (fun c=>c.2 hx),if_pos ⟨h.o,hx⟩,if_pos hx,if_pos hx]
 ·rw [if_pos ⟨h0,hx⟩,if_neg (fun c=>hx c.2),if_neg hx,if_neg hx]
structure wfI (i:VIn):Prop where
 a:0<=i.2.1/\i.2.1<=18446744073709551615
 b:0<=i.2.2.1/\i.2.2.1<=18446744073709551615
 c:∀ a ∈ i.2.2.2.1,bysU a
theorem zfm_ {t:Int} {body rest:List Int} (ht:0<=t/\t<=65535) (h8:4<=body.length) (hm:body.length % 8=4) (hN2:(body.length:Int)<=65524):
 tT (enH t body++rest)=t/\tN (enH t body++rest)=4+body.length/\tlE (enH t body++rest) 8 8 776=0/\bd (enH t body++rest)=body:=by
 obtain ⟨e1,e2,e3,e4⟩:=hK_ (t:=t) (N:=4+body.length) (body:=body) (rest:=rest) ht rfl (by omega) (by omega) (by omega)
 refine ⟨e1,e2,?_,e4⟩
 have e5:(4<=(enH t body++rest).length/\8<=tN (enH t body++rest)/\(tN (enH t body++rest)).tmod 8=0/\tN (enH t body++rest)<=(enH t body++rest).length):=yT_ (bad:=514) e3 (by decide)
 unfold tlE
 rw [if_neg (by omega),if_neg (by omega),if_neg (by omega)]
theorem zbV_ {i:VIn} {y rest:List Int} {acc:List VIn} (h:bdO i=some y) (hw:wfI i) (hs:dbI acc i.1=false):inE acc (enI i++rest)=0/\vI acc (enI i++rest)=i/\tN (enI i++rest)=(enI i).length:=by
 have g:=yN_.1 h
 obtain ⟨b1,b2,b3⟩:=zcq_ h
 have hy:=zcr_ h
 obtain ⟨e1,e2,e3,e4⟩:=zfm_ (rest:=rest) (zdZ_ g.k) b2 b1 b3
 have eI:enI i=enH i.1 y:=by unfold enI;rw [hy]
 rw [<- eI] at e1 e2 e3 e4
 obtain ⟨w1,w2,w3⟩:=g9_ g.k
 have hpz:=YA_ g.p
 have gy:y=ZO_ (wI i.1) (xI i)++(boA i.2.2.2.1++i.2.2.2.2.1):=by rw [g.s,List.append_assoc]
 obtain ⟨f1,f2⟩:=uw_ (boA i.2.2.2.1++i.2.2.2.2.1) (zd9_ hw.a hw.b) g.p
 rw [<- gy] at f1
 have gL:Zi_ (wI i.1) y=xI i:=congrArg Prod.fst f1
 have gK:zU_ (wI i.1) y=0:=congrArg Prod.snd f1
 have hN:o5N i.1 y=xI i++[0,0]:=by
  unfold o5N Q5_;rw [if_pos rfl,show (0:Int).toNat=0 from rfl,List.drop_zero,gL]
 obtain ⟨n1,n2⟩:=zea_ ⟨w2,w3⟩ g.b g.a
 have hA:o5A i.1 y=i.2.1:=by unfold o5A;rw [hN];exact n1
 have hB:o5B i.1 y=i.2.2.1:=by unfold o5B;rw [hN];exact n2
 have hR:o5R i.1 y=boA i.2.2.2.1++i.2.2.2.2.1:=by
  unfold o5R sI;rw [gy];exact List.drop_left' (by omega)
 have hsI:snI acc i.1=false\/i.1=65535:=by
  unfold dbI at hs
  rcases Bool.and_eq_false_iff.1 hs with c | c
  ·exact .inl c
  ·exact .inr (Decidable.of_not_not (of_decide_eq_false c))
 have hO:OkI (snI acc i.1) i.1 y:=by
  refine ⟨g.k,hsI,?_,by rw [hA,hB];exact g.q,?_⟩
  ·unfold o5K
   rw [decide_eq_true gK,Bool.true_and,Bool.or_eq_true,decide_eq_true_eq]
   by_cases hx:i.1=65535
   ·left;unfold mI;rw [decide_eq_true hx];simp
   ·rcases g.d with d | d
    ·left;unfold mI;unfold dI at d;rw [d];rfl
    ·right
     rcases g.e with e | e
     ·exact absurd e hx
     ·have hyl:=congrArg List.length gy
      rw [d,e] at hyl
      simp only [List.length_append,List.length_nil] at hyl
      rw [show (boA ([]:List AC)).length=0 from rfl] at hyl
      unfold sI;omega
  ·by_cases hx:i.1=65535
   ·exact .inl hx
   ·rcases g.e with e | e
    ·exact absurd e hx
    ·right
     rw [hR,e,List.append_nil]
     exact (zcB_ g.r hw.c).2
 have hE:inE acc (enI i++rest)=0:=by
  unfold inE;rw [if_neg (not_not_intro e3),e1,e4];exact zbr_.2 hO
 refine ⟨hE,?_,?_⟩
 ·unfold vI;rw [e1,e4,zfa_ hO,hA,hB,hR]
  obtain ⟨t,a,b,ac,d,u⟩:=i
  refine Prod.ext rfl (Prod.ext rfl (Prod.ext rfl (Prod.ext ?_ (Prod.ext ?_ rfl))))
  ·show (if t=65535 then [] else adL (boA ac++d))=ac
   by_cases hx:t=65535
   ·rw [if_pos hx]
    rcases g.d with e | e
    ·exfalso;rw [show ((t,a,b,ac,d,u):VIn).1=t from rfl,hx] at e;exact absurd e (by decide)
    ·exact e.symm
   ·rw [if_neg hx]
    rcases g.e with e | e
    ·exact absurd e hx
    ·rw [show d=[] from e,List.append_nil];exact (zcB_ g.r hw.c).1
  ·show (if t=65535 then boA ac++d else [])=d
   by_cases hx:t=65535
   ·rw [if_pos hx]
    rcases g.d with e | e
    ·exfalso;rw [show ((t,a,b,ac,d,u):VIn).1=t from rfl,hx] at e;exact absurd e (by decide)
    ·rw [show ac=[] from e];rfl
   ·rw [if_neg hx]
    rcases g.e with e | e
    ·exact absurd e hx
    ·exact e.symm
 ·rw [e2,eI,yJ_];omega
theorem Bv_:∀ (r acc:List VIn),gdL acc r=true->(∀ i ∈ r,wfI i)->inG acc (boI r)=(acc++r,0)
 | [],acc,_,_=>by rw [yF_ (by rfl),List.append_nil]
 | i :: r,acc,h,hu=>by
   unfold gdL at h
   simp only [Bool.and_eq_true,Bool.not_eq_true'] at h
   obtain ⟨y,hy⟩:=Option.isSome_iff_exists.1 h.1.1
   obtain ⟨e1,e2,e3⟩:=zbV_ (rest:=boI r) hy (hu i (List.mem_cons_self ..)) h.1.2
   obtain ⟨g1,g2,_⟩:=gG_ e1
   rw [List.length_append] at g2
   rw [h9_,Y9_ (by rw [List.length_append];omega) e1 (by omega),e2,e3,Int.toNat_natCast,List.drop_left,Bv_ r (acc++[i]) h.2 (fun j hj=>hu j (List.mem_cons_of_mem _ hj)),List.append_assoc];rfl
theorem zeI_ {l:List VIn} (h:rgI l=true) (hu:∀ i ∈ l,wfI i):idL (boI l)=l/\idE (boI l)=0:=by
 unfold rgI at h
 simp only [Bool.and_eq_true,decide_eq_true_eq] at h
 have hg:=Bv_ l [] h.1 hu
 rw [List.nil_append] at hg
 exact (vd_ hg).2 (by omega)
theorem zen_ {w b:List Int} (hb:∀ x ∈ b,0<=x/\x<=255) (h:zU_ w b=0):((Zi_ w b).length:Int)=zI_ w:=by
 obtain ⟨p1,_,_⟩:=wB_ hb (show Zw_ w b=(Zi_ w b,0) from Prod.ext rfl h)
 unfold q7_ Kt_ at p1
 split at p1
 ·rename_i hc;exact hc.2.symm
 ·cases p1
theorem bf_ {k v:Int}:∀ (m:List (Int × Int)) (k':Int),zx_ (QA_ m k v) k'=if k=k' then some v else zx_ m k'
 | [],k'=>by unfold QA_;rfl
 | (a,b) :: r,k'=>by
   have ih:=bf_ (k:=k) (v:=v) r k'
   by_cases h:a=k
   ·subst h
    have e:QA_ ((a,b) :: r) a v=(a,v) :: r:=if_pos rfl
    rw [e]
    show (if a=k' then some v else zx_ r k')=if a=k' then some v else if a=k' then some b else zx_ r k'
    split<;>rfl
   ·have e:QA_ ((a,b) :: r) k v=(a,b) :: QA_ r k v:=if_neg h
    rw [e]
    show (if a=k' then some b else zx_ (QA_ r k v) k')=if k=k' then some v else if a=k' then some b else zx_ r k'
    rw [ih]
    by_cases h2:a=k'
    ·rw [if_pos h2,if_pos h2,if_neg (fun c=>h (h2.trans c.symm))]
    ·rw [if_neg h2,if_neg h2]
theorem zbC_ {k v w:Int}:∀ (m:List (Int × Int)),QA_ (QA_ m k v) k w=QA_ m k w/\ZQ_ (QA_ m k v) k=ZQ_ m k/\ZQ_ m k < (QA_ m k v).length/\(QA_ m k v).length<=m.length+1
 | []=>⟨if_pos rfl,if_pos rfl,Nat.zero_lt_one,Nat.le_refl _⟩
 | (a,b) :: r=>by
   obtain ⟨i1,i2,i3,i4⟩:=zbC_ (k:=k) (v:=v) (w:=w) r
   by_cases h:a=k
   ·subst h
    have e:∀ v,QA_ ((a,b) :: r) a v=(a,v) :: r:=fun v=>if_pos rfl
    have x:∀ b,ZQ_ ((a,b) :: r) a=0:=fun b=>if_pos rfl
    rw [e,e,x,x]
    refine ⟨if_pos rfl,rfl,Nat.zero_lt_succ _,?_⟩
    simp only [List.length_cons];omega
   ·have e:∀ v,QA_ ((a,b) :: r) k v=(a,b) :: QA_ r k v:=fun v=>if_neg h
    have x:∀ r:List (Int × Int),ZQ_ ((a,b) :: r) k=ZQ_ r k+1:=fun r=>if_neg h
    rw [e,e,x,x,i2]
    refine ⟨by rw [show QA_ ((a,b) :: QA_ r k v) k w=(a,b) :: QA_ (QA_ r k v) k w from if_neg h,i1],rfl,?_,?_⟩
    ·simp only [List.length_cons];omega
    ·simp only [List.length_cons];omega
structure mOk (m:List (Int × Int)) (acc:List VIn):Prop where
 s:∀ k,(0 < (zx_ m k).getD 0 ↔ snI acc k=true)
 r:∀ k,0<=(zx_ m k).getD 0/\(zx_ m k).getD 0<=acc.length
 l:m.length<=acc.length
theorem gg_:mOk [] []:=⟨fun k=>⟨fun h=>absurd h (by show ¬ (0:Int) < 0;decide),fun h=>by cases h⟩,fun k=>⟨by show (0:Int)<=0;decide,by show (0:Int)<=0;decide⟩,Nat.le_refl _⟩
theorem WV_ (a b:List VIn) (t:Int):snI (a++b) t=(snI a t || snI b t):=List.any_append
theorem Ba_ (i:VIn) (t:Int):snI [i] t=decide (i.1=t):=by unfold snI;simp
theorem gh_ {m:List (Int × Int)} {acc:List VIn} {i:VIn} (h:mOk m acc):mOk (QA_ m i.1 ((zx_ m i.1).getD 0+1)) (acc++[i]):=by
 have hr:=h.r i.1
 refine ⟨fun k=>?_,fun k=>?_,?_⟩
 ·rw [bf_,WV_,Ba_]
  by_cases c:i.1=k
  ·rw [if_pos c,decide_eq_true c,Bool.or_true]
   exact ⟨fun _=>rfl,fun _=>by show 0 < (zx_ m i.1).getD 0+1;omega⟩
  ·rw [if_neg c,decide_eq_false c,Bool.or_false];exact h.s k
 ·have hk:=h.r k
  rw [bf_,List.length_append,List.length_singleton]
  by_cases c:i.1=k
  ·rw [if_pos c];show 0<=(zx_ m i.1).getD 0+1/\(zx_ m i.1).getD 0+1<=_;omega
  ·rw [if_neg c];omega
 ·have:=(zbC_ (k:=i.1) (v:=(zx_ m i.1).getD 0+1) (w:=0) m).2.2.2
  have:=h.l
  rw [List.length_append,List.length_singleton];omega
theorem Br_ {m:List (Int × Int)} {acc:List VIn} (h:mOk m acc) (t:Int):decide (0 < (zx_ m t).getD 0)=snI acc t:=by
 rw [Bool.eq_iff_iff,decide_eq_true_eq];exact h.s t
theorem yH_:∀ (a b acc:List VIn),gdL acc (a++b)=(gdL acc a && gdL (acc++a) b)
 | [],b,acc=>by rw [List.append_nil];rfl
 | i :: a,b,acc=>by
   show ((bdO i).isSome && !dbI acc i.1 && gdL (acc++[i]) (a++b))=((bdO i).isSome && !dbI acc i.1 && gdL (acc++[i]) a && gdL (acc++i :: a) b)
   rw [yH_ a b (acc++[i]),List.append_assoc];simp only [Bool.and_assoc];rfl
theorem zb6_ (acc:List VIn) (i:VIn) (r:List VIn):gdL acc (i :: r)=((bdO i).isSome && !dbI acc i.1 && gdL (acc++[i]) r):=rfl
theorem hN_:∀ {l acc acc':List VIn},(∀ t,snI acc' t=true->snI acc t=true)->gdL acc l=true->gdL acc' l=true
 | [],_,_,_,_=>rfl
 | i :: l,acc,acc',h,g=>by
   unfold gdL at g ⊢
   simp only [Bool.and_eq_true,Bool.not_eq_true'] at g ⊢
   refine ⟨⟨g.1.1,?_⟩,hN_ (acc:=acc++[i]) (fun t ht=>?_) g.2⟩
   ·have:=g.1.2
    unfold dbI at this ⊢
    cases hs:snI acc' i.1 with
    | false=>rfl
    | true=>rw [h _ hs] at this;exact this
   ·rw [WV_,Bool.or_eq_true] at ht ⊢
    rcases ht with ht | ht
    ·exact .inl (h t ht)
    ·exact .inr ht
theorem gV_ (a b:List VIn):boI (a++b)=boI a++boI b:=List.flatMap_append
theorem zbM_ {a b:List VIn} {x:VIn} (h:rgI (a++x :: b)=true):rgI (a++b)=true/\rgI [x]=true/\(boI (a++x :: b)).length=(boI (a++b)).length+(boI [x]).length/\(rgI ((a++x :: b)++[x])=decide (x.1=65535)\/65528 < (boI (a++x :: b)).length+(boI [x]).length):=by
 unfold rgI at h
 simp only [Bool.and_eq_true,decide_eq_true_eq] at h
 obtain ⟨h1,h2⟩:=h
 have hsum:(boI (a++x :: b)).length=(boI (a++b)).length+(boI [x]).length:=by
  rw [gV_,gV_,h9_,show boI [x]=enI x++[] from rfl,List.append_nil]
  simp only [List.length_append];omega
 have hs:=h1
 rw [yH_,List.nil_append,zb6_] at hs
 simp only [Bool.and_eq_true,Bool.not_eq_true'] at hs
 obtain ⟨s1,⟨s2,s3⟩,s4⟩:=hs
 have g1:gdL [] (a++b)=true:=by
  rw [yH_,List.nil_append,s1,Bool.true_and]
  exact hN_ (fun t ht=>by rw [WV_,ht];rfl) s4
 have g2:gdL [] [x]=true:=by
  show ((bdO x).isSome && !dbI [] x.1 && true)=true
  rw [s2];rfl
 refine ⟨?_,?_,hsum,?_⟩
 ·unfold rgI;rw [g1,Bool.true_and,decide_eq_true_eq];omega
 ·unfold rgI;rw [g2,Bool.true_and,decide_eq_true_eq];omega
 ·by_cases hl:65528 < (boI (a++x :: b)).length+(boI [x]).length
  ·exact .inr hl
  ·left
   have hsn:snI (a++x :: b) x.1=true:=by
    rw [WV_,show x :: b=[x]++b from rfl,WV_,Ba_,decide_eq_true rfl];simp
   have g3:gdL [] ((a++x :: b)++[x])=decide (x.1=65535):=by
    rw [yH_,h1,Bool.true_and,List.nil_append]
    show ((bdO x).isSome && !dbI (a++x :: b) x.1 && true)=_
    unfold dbI
    rw [s2,hsn]
    by_cases c:x.1=65535
    ·rw [decide_eq_true c,decide_eq_false (not_not_intro c)];rfl
    ·rw [decide_eq_false c,decide_eq_true c];rfl
   unfold rgI
   rw [g3,gV_,List.length_append,decide_eq_true (show (boI (a++x :: b)).length+(boI [x]).length<=65528 by omega),Bool.and_true]
def n8 (q:P8):List Int:=[q.1,q.2.1,q.2.2.1,q.2.2.2.1,q.2.2.2.2.1,q.2.2.2.2.2.1,q.2.2.2.2.2.2.1,q.2.2.2.2.2.2.2.1]
def gm_:IR:=
(sq (kr [0,1] [oD 4 (.nilrow (.int .u64)),
oD 5 (.mov (cI 0))])
(sq (sq (.reg [oM 10 0,
oC 11 184 [10],
oD 12 (.un .not 11)])
(.cond 12
(sq (.reg [oD 4 (.nilrow (.int .u64)),
oD 5 (.mov (cI 2))])
.ret)
.skip))
(sq (kr [0,1] [oD 6 (.nilrow (.int .u64))])
(sq (sq (.reg [oM 13 0,
oE 14 13,
oD 15 (.mov (cI 0))])
(.block 0
(.loop
(sq (kr [1,6,13,14,15] [oB 16 .lss 15 14])
(sq (.cond 16
.skip
(.exit 0))
(sq (.block 1
(sq (.reg [oI 17 1 13 15,
oL 18 17,
oM 8 18])
(sq (kr [1,6,8,13,14,15] [oM 19 8,
oM 20 8,
oD 21 (.un .neg 20),
oD 22 (.minmax true 19 21),
oM 9 22])
(sq (.block 2
(sq (kr [1,6,8,9,13,14,15] [oM 24 1,
oE 25 24,
oM 26 9,
oB 27 .lss 25 26,
oM 23 27])
(.cond 23
(sq (.reg [oD 4 (.nilrow (.int .u64)),
oD 5 (.mov (cI 1))])
.ret)
(sq (.reg [oM 29 8,
oB 30 .gtr 29 (cI 0),
oM 28 30])
(.cond 28
(kr [1,6,9,13,14,15] [oM 31 6,
oM 32 1,
oM 33 9,
oD 34 (.slice 1 32 none (some 33) none),
oC 35 193 [34],
oD 36 (.sliceAll (.int .u64) 1 [(0,1,35)]),
oD 37 (.append (.int .u64) 8 31 36),
oM 6 37])
(sq (kr [1,6,9,13,14,15] [oM 39 1,
oM 40 9,
oD 41 (.slice 1 39 none (some 40) none),
oC 42 194 [41],
oD 43 (.un .not 42),
oM 38 43])
(.cond 38
(sq (kr [] [oD 4 (.nilrow (.int .u64)),
oD 5 (.mov (cI 2))])
.ret)
.skip)))))))
(kr [1,6,9,13,14,15] [oM 44 1,
oM 45 9,
oD 46 (.slice 1 44 (some 45) none none),
oM 1 46])))))
(kr [1,6,13,14,15] [oB 47 .add 15 (cI 1),
oM 15 47])))))))
(sq (kr [6] [oM 48 6,
oM 4 48,
oD 5 (.mov (cI 0))])
.ret)))))
def Us_:List RD:=[.tmp 4 false none,.tmp 5 false none]
theorem UT_:zn_ Tryz.prog Tryz.f162 gm_ Us_=true:=by kernel_rfl
def wd_:List AV->List Obj->Option (Prop × AV × List Obj)
 | [.imm (.int .i64) w,.imm (.int .u8) b],[]=>some ((True,.tup [.own 0,.int .i64 (zU_ w b)],[.row false (.int .u64) (Zi_ w b)]))
 | _,_=>none
theorem vQ_:ze_ Tryz.prog 162 (RwF wd_).sum:=by
 refine Qs_ Tryz.func162 UT_ (za_ (s:=RoF qh_) qG_ (za_ (s:=RoF kq_) Jq_ (za_ (s:=RoF jj_) WN_ (zd_ _)))) fun args objs p v o e=>?_
 unfold wd_ at e
 split at e
 ·rename_i w b
  cases e
  refine ⟨rfl,fun hw ho hp=>?_⟩
  change List Int at w
  change List Int at b
  have hb:b.length<=maxLen:=(hw (.imm (.int .u8) b) (by simp)).2
  unfold maxLen at hb
  repeat'(intro t ht;first|(cases t<;>first|(cases ht;done)|(try simp only[zh_]at ht))|((first|refine zb_ ht ?_|refine ht ?_ ?_|refine ht.1 ?_ ?_|refine ht ?_)<;>clear ht))
  all_goals first
   | exact True.intro
   | (intro r h1 h2;clear h1;refine h2 ⟨[1,6,13,14,15],Nat × List Int × List Int,(fun a=>a.1<=w.length/\a.2.1.length<=b.length/\a.2.2.length<=a.1/\Zq_ w b []=Zq_ (w.drop a.1) a.2.1 a.2.2),fun a=>[.imm (.int .u8) a.2.1,.own 0,.imm (.int .i64) w,.int .i64 w.length,.int .i64 a.1],fun a=>[.row false (.int .u64) a.2.2],fun a=>w.length - a.1,⟨(0,b,[]),⟨Nat.zero_le _,Nat.le_refl _,Nat.zero_le _,rfl⟩,rfl,rfl⟩,?_⟩;clear h2)
   | (have hr:zY_ w=false:=by assumption
      have hf:Zw_ w b=([],2):=by unfold Zw_;rw [hr];rfl
      unfold Zi_ zU_;rw [hf];exact ⟨rfl,rfl⟩)
  rintro ⟨i,c,o⟩ ⟨hi,hc,ho,he⟩
  dsimp only at hi hc ho he
  have hr:zY_ w=true:=by assumption
  have hl:=(Zg_.1 hr).1
  repeat'(intro t ht;first|(cases t<;>first|(cases ht;done)|(try simp only[zh_]at ht))|((first|refine zb_ ht ?_|refine ht ?_ ?_|refine ht.1 ?_ ?_|refine ht ?_)<;>clear ht))
  all_goals first
   | ((try simp only [zk_,zl_,zi_] at*);omega)
   | (have hge:w.length<=i:=by omega
      rw [List.drop_of_length_le hge] at he
      have hf:Zw_ w b=(o,0):=by unfold Zw_;rw [if_pos hr,he];rfl
      unfold Zi_ zU_;rw [hf];exact ⟨rfl,rfl⟩)
   | skip
  all_goals have hlt:i < w.length:=by omega
  all_goals have hkk:=(Zg_.1 hr).2 _ (zS_ (α:=Int) hlt 0)
  all_goals have ha:=kp_ (n:=w.getD i 0)
  all_goals have hA:(if 0 - w.getD i 0 > w.getD i 0 then 0 - w.getD i 0 else w.getD i 0)=zp_ (w.getD i 0):=rfl
  all_goals first
   | exact True.intro
   | ((try simp only [zk_,zl_,zi_] at*);omega)
   | (have h1:(c.length:Int) < zp_ (w.getD i 0):=by assumption
      have hf:Zw_ w b=([],1):=by unfold Zw_;rw [if_pos hr,he];exact Wm_ hlt h1
      unfold Zi_ zU_;rw [hf];exact ⟨rfl,rfl⟩)
   | (have h1:¬ (c.length:Int) < zp_ (w.getD i 0):=by assumption
      first
       | (have h2:¬ 0 < w.getD i 0:=by assumption
          first
           | (have h3:zW_ (c.take (zp_ (w.getD i 0)).toNat)=true:=by assumption
              refine ⟨(i+1,c.drop (zp_ (w.getD i 0)).toNat,o),⟨hlt,?_,by dsimp only;omega,?_⟩,by dsimp only;omega,rfl,rfl⟩
              ·dsimp only;rw [List.length_drop];omega
              ·rw [he];exact x0_ hlt h1 h2 h3)
           | (have h3:zW_ (c.take (zp_ (w.getD i 0)).toNat)=false:=by assumption
              have hf:Zw_ w b=([],2):=by unfold Zw_;rw [if_pos hr,he];exact vh_ hlt h1 h2 h3
              unfold Zi_ zU_;rw [hf];exact ⟨rfl,rfl⟩))
       | (have h2:0 < w.getD i 0:=by assumption
          first
           | (show (c.take (zp_ (w.getD i 0)).toNat).length<=8;rw [List.length_take];omega)
           | (simp only [zN_,List.length_append,List.length_cons,List.length_nil];omega)
           | (refine ⟨(i+1,c.drop (zp_ (w.getD i 0)).toNat,o++[Zb_ (c.take (zp_ (w.getD i 0)).toNat)]),⟨hlt,?_,?_,?_⟩,by dsimp only;omega,rfl,rfl⟩
              ·dsimp only;rw [List.length_drop];omega
              ·simp only [List.length_append,List.length_cons,List.length_nil];omega
              ·rw [he];exact vi_ hlt h1 h2)))
 ·cases e
def K9_:IR:=
(sq (kr [0,1] [oD 4 (.nilrow (.int .u64))])
(sq (sq (.reg [oM 7 0,
oC 8 23 [7],
oB 9 .neq 8 (cI 0)])
(.cond 9
(sq (.reg [oD 4 (.nilrow (.int .u64))])
.ret)
.skip))
(sq (kd [0,1] [(oM 11 1,[]),
(oM 12 0,[0]),
(oD 13 (.nilck 12),[1]),
(oA 14 0 13,[2]),
(oL 15 14,[3]),
(oM 16 0,[0,0,0,0,0]),
(oD 17 (.nilck 16),[1,0,0,0,0]),
(oA 18 1 17,[2,0,0,0,0]),
(oL 19 18,[3,0,0,0,0]),
(oD 20 (.slice 1 15 (some 19) none none),[8]),
(oC 21 162 [11,20],[]),
(oM 10 21,[]),
(oX 22 10 0,[]),
(oX 23 10 1,[0]),
(oM 5 22,[0]),
(oM 6 23,[])])
(sq (sq (kr [0,1,5,6] [oM 24 6])
(.block 0
(sq (.reg [oB 35 .eql 24 (cI 1),
oM 34 35])
(.cond 34
(kr [0,5] [oM 36 0,
oM 37 0,
oD 38 (.nilck 37),
oA 39 2 38,
oL 40 39,
oC 41 63 [36,40]])
(sq (.reg [oB 43 .eql 24 (cI 2),
oM 42 43])
(.cond 42
(kr [0,5] [oM 44 0,
oM 45 0,
oD 46 (.nilck 45),
oA 47 3 46,
oL 48 47,
oC 49 63 [44,48]])
(kd [0,1,5] [(oM 25 0,[]),
(oD 26 (.nilck 25),[]),
(oA 27 1 26,[]),
(oL 28 27,[]),
(oM 29 1,[0,0,0,0]),
(oC 30 163 [29],[1,0,0,0]),
(oB 31 .add 28 30,[]),
(oD 32 (.nilck 25),[]),
(oA 33 1 32,[]),
(oS 1 33 31,[])])))))))
(sq (kr [5] [oM 50 5,
oM 4 50])
.ret)))))
def KV_:List RD:=[.tmp 4 false none]
theorem K1_:zn_ Tryz.prog Tryz.f107 K9_ KV_=true:=by kernel_rfl
def Z6_:List AV->List Obj->Option (Prop × AV × List Obj)
 | [.ptr 0 0,.imm (.int .i64) w],[.box [.imm (.int .u8) b,.int .i64 p,.int .i64 sh,.int .i64 od,.int .i64 e,.bool true]]=>some ((0<=p/\p<=b.length/\b.length<=140737488355328,.own 1,[.box [.imm (.int .u8) b,.int .i64 (Kv_ w b p e),.int .i64 sh,.int .i64 od,.int .i64 (J5_ w b p sh od e),.bool true],.row false (.int .u64) (Q5_ w b p e)]))
 | _,_=>none
theorem Kn_:ze_ Tryz.prog 107 (RwF Z6_).sum:=by
 refine Qs_ Tryz.func107 K1_ (za_ (s:=RoF zr_) zt_ (za_ (s:=RwF wd_) vQ_ (za_ (s:=RwF zw_) zA_ (za_ (s:=RoF qY_) Qb_ (zd_ _))))) fun args objs p v o e=>?_
 unfold Z6_ at e
 split at e
 ·rename_i w b p sh od e
  cases e
  refine ⟨rfl,fun hw ho hp=>?_⟩
  change List Int at w
  change List Int at b
  have hz:=Kr_ w
  repeat'(intro t ht;first|(cases t<;>first|(cases ht;done)|(try simp only[zh_]at ht))|((first|refine zb_ ht ?_|refine ht ?_ ?_|refine ht.1 ?_ ?_|refine ht ?_)<;>clear ht))
  all_goals first
   | exact True.intro
   | ((try simp only [zk_,zl_,zi_] at*);omega)
   | (refine ⟨rfl,?_⟩;unfold Q5_ Kv_ J5_;simp_all [z5_];done)
 ·cases e
theorem vf_:∀ (w b o:List Int),(Zq_ w b o).1.length<=o.length+w.length
 | [],b,o=>by simp [Zq_]
 | n :: r,b,o=>by
   simp only [Zq_]
   split
   ·simp
   ·split
    ·have ih:=vf_ r (b.drop (zp_ n).toNat) (o++[Zb_ (b.take (zp_ n).toNat)])
     simp only [List.length_append,List.length_cons,List.length_nil] at ih ⊢;omega
    ·split
     ·have ih:=vf_ r (b.drop (zp_ n).toNat) o
      simp only [List.length_cons];omega
     ·simp
theorem zdz_ (w b:List Int) (p e:Int):(Q5_ w b p e).length<=w.length:=by
 unfold Q5_ Zi_ Zw_
 split
 ·split
  ·have:=vf_ w (b.drop p.toNat) [];simpa using this
  ·simp
 ·simp
theorem vj_:∀ (w b o:List Int),((Zq_ w b o).2=0\/(Zq_ w b o).2=1\/(Zq_ w b o).2=2)/\((Zq_ w b o).2=0->(w.map zp_).sum<=b.length)
 | [],b,o=>⟨.inl rfl,fun _=>by simp⟩
 | n :: r,b,o=>by
   have ha:=kp_ (n:=n)
   have hd:(b.drop (zp_ n).toNat).length=b.length - (zp_ n).toNat:=List.length_drop
   simp only [Zq_]
   rw [List.map_cons,List.sum_cons]
   split
   ·exact ⟨.inr (.inl rfl),fun h=>by cases h⟩
   ·split
    ·have ih:=vj_ r (b.drop (zp_ n).toNat) (o++[Zb_ (b.take (zp_ n).toNat)])
     exact ⟨ih.1,fun h=>by have:=ih.2 h;omega⟩
    ·split
     ·have ih:=vj_ r (b.drop (zp_ n).toNat) o
      exact ⟨ih.1,fun h=>by have:=ih.2 h;omega⟩
     ·exact ⟨.inr (.inr rfl),fun h=>by cases h⟩
theorem zb3_ (w b:List Int):(zU_ w b=0\/zU_ w b=1\/zU_ w b=2)/\(zU_ w b=0->zG_ w<=b.length):=by
 unfold zU_ Zw_ zG_
 split
 ·exact vj_ w b []
 ·exact ⟨.inr (.inr rfl),fun h=>by cases h⟩
theorem zdy_ {w b:List Int} {p e:Int} (h0:0<=p) (h1:p<=b.length):0<=Kv_ w b p e/\Kv_ w b p e<=b.length:=by
 have hk:=zb3_ w (b.drop p.toNat)
 have hz:=Kr_ w
 have hd:(b.drop p.toNat).length=b.length - p.toNat:=List.length_drop
 unfold Kv_
 by_cases he:e=0
 ·rw [if_pos he]
  by_cases h2:zU_ w (b.drop p.toNat)=1
  ·rw [if_pos h2];exact ⟨h0,h1⟩
  ·rw [if_neg h2]
   by_cases h3:zU_ w (b.drop p.toNat)=2
   ·rw [if_pos h3];exact ⟨h0,h1⟩
   ·rw [if_neg h3]
    have:=hk.2 (by omega)
    omega
 ·rw [if_neg he];exact ⟨h0,h1⟩
theorem zdY_ {t:Int} (h:¬ (t=1\/t=2\/t=3\/t=4\/t=5\/t=6\/t=65535)):wI t=[]/\mI t=false/\kI t=false:=by
 refine ⟨?_,?_,?_⟩
 ·unfold wI;rw [if_neg (by omega),if_neg (by omega),if_neg (by omega),if_neg (by omega)]
 ·unfold mI;rw [decide_eq_false (by omega),decide_eq_false (by omega),decide_eq_false (by omega)];rfl
 ·cases h2:kI t with
  | false=>rfl
  | true=>exact absurd (YW_ h2) h
def VY_:IR:=
(sq (kr [0] [oD 2 (.mov (.c (.imm (.int .i64) []))),
oD 3 (.mov cF),
oD 4 (.mov cF)])
(sq (sq (.reg [oM 5 0])
(.block 0
(sq (.block 6
(sq (.block 5
(sq (.block 4
(sq (.block 3
(sq (.block 2
(sq (.block 1
(sq (sq (sq (.reg [oB 7 .eql 5 (cI 1),
oM 6 7])
(.cond 6
(.exit 1)
.skip))
(sq (sq (kr [3,5] [oB 9 .eql 5 (cI 2),
oM 8 9])
(.cond 8
(.exit 2)
.skip))
(sq (sq (sq (.reg [oB 11 .eql 5 (cI 3),
oM 10 11])
(.cond 10
.skip
(.reg [oB 12 .eql 5 (cI 4),
oM 10 12])))
(.cond 10
(.exit 3)
.skip))
(sq (sq (kr [3,5] [oB 14 .eql 5 (cI 5),
oM 13 14])
(.cond 13
(.exit 4)
.skip))
(sq (sq (.reg [oB 16 .eql 5 (cI 65535),
oM 15 16])
(.cond 15
(.exit 5)
.skip))
(sq (.reg [oB 18 .eql 5 (cI 6),
oM 17 18])
(.cond 17
(.exit 6)
.skip)))))))
(.exit 0)))
(sq (sq (kr [] [oD 19 (.sliceAll (.int .i64) 2 [(0,1,(cI 1)),(1,1,(cI (-3)))]),
oM 2 19,
oD 3 (.mov cF),
oD 4 (.mov cT)])
.ret)
(.exit 0))))
(sq (sq (kr [] [oD 20 (.sliceAll (.int .i64) 3 [(0,1,(cI (-4))),(1,1,(cI 8)),(2,1,(cI 8))]),
oM 2 20,
oD 3 (.mov cF),
oD 4 (.mov cT)])
.ret)
(.exit 0))))
(kr [] [oD 3 (.mov cT)])))
(sq (sq (kr [3] [oD 21 (.sliceAll (.int .i64) 1 [(0,1,(cI (-4)))]),
oM 22 3,
oM 2 21,
oM 3 22,
oD 4 (.mov cT)])
.ret)
(.exit 0))))
(kr [] [oD 3 (.mov cT)])))
(sq (sq (kr [3] [oD 23 (.sliceAll (.int .i64) 1 [(0,1,(cI 4))]),
oM 24 3,
oM 2 23,
oM 3 24,
oD 4 (.mov cT)])
.ret)
(.exit 0)))))
(sq (kr [] [oD 2 (.mov (.c (.imm (.int .i64) []))),
oD 3 (.mov cF),
oD 4 (.mov cF)])
.ret)))
def Vc_:List RD:=[.tmp 2 true (some (.int .i64)),.tmp 3 true none,.tmp 4 true none]
theorem Vz_:zn_ Tryz.prog Tryz.f119 VY_ Vc_=true:=by kernel_rfl
def kr_:List AV->List Obj->Option (Prop × AV)
 | [.int .i64 tt],[]=>some ((True,.tup [.imm (.int .i64) (wI tt),.bool (mI tt),.bool (kI tt)]))
 | _,_=>none
theorem Js_:ze_ Tryz.prog 119 (RoF kr_).sum:=by
 refine zj_ Tryz.func119 Vz_ (zd_ _) fun args objs p v e=>?_
 unfold kr_ at e
 split at e
 ·rename_i tt
  cases e
  refine ⟨rfl,fun hw ho hp=>?_⟩
  clear hw ho
  repeat'(intro t ht;first|(cases t<;>first|(cases ht;done)|(try simp only[zh_]at ht;try(exfalso;first|contradiction|omega)))|((first|refine zb_ ht ?_|refine ht ?_ ?_|refine ht.1 ?_ ?_|refine ht ?_)<;>clear ht))
  all_goals first
   | exact True.intro
   | (have h:=zdY_ (t:=tt) (by omega)
      rw [h.1,h.2.1,h.2.2];exact ⟨rfl,rfl⟩)
   | (subst_vars;exact ⟨rfl,rfl⟩)
 ·cases e
def bo_:IR:=
(sq (kr [0] [oD 2 (.mov (.c (.imm (.int .i64) []))),
oD 3 (.mov cF)])
(sq (sq (.reg [oM 4 0])
(.block 0
(sq (.reg [oB 6 .eql 4 (cI 1),
oM 5 6])
(.cond 5
(sq (.reg [oD 7 (.sliceAll (.int .i64) 2 [(0,1,(cI 1)),(1,1,(cI (-3)))]),
oM 2 7,
oD 3 (.mov cT)])
.ret)
(sq (.reg [oB 9 .eql 4 (cI 2),
oM 8 9])
(.cond 8
(sq (kr [] [oD 10 (.sliceAll (.int .i64) 3 [(0,1,(cI (-4))),(1,1,(cI 8)),(2,1,(cI 8))]),
oM 2 10,
oD 3 (.mov cT)])
.ret)
(sq (sq (kr [4] [oB 12 .eql 4 (cI 3),
oM 11 12])
(.cond 11
.skip
(sq (.reg [oB 13 .eql 4 (cI 4),
oM 11 13])
(.cond 11
.skip
(.reg [oB 14 .eql 4 (cI 5),
oM 11 14])))))
(.cond 11
(sq (kr [] [oD 15 (.sliceAll (.int .i64) 1 [(0,1,(cI (-4)))]),
oM 2 15,
oD 3 (.mov cT)])
.ret)
(sq (sq (kr [4] [oB 17 .eql 4 (cI 6),
oM 16 17])
(.cond 16
.skip
(.reg [oB 18 .eql 4 (cI 65535),
oM 16 18])))
(.cond 16
(sq (.reg [oD 19 (.sliceAll (.int .i64) 1 [(0,1,(cI 4))]),
oM 2 19,
oD 3 (.mov cT)])
.ret)
.skip))))))))))
(sq (kr [] [oD 2 (.mov (.c (.imm (.int .i64) []))),
oD 3 (.mov cF)])
.ret)))
def HG_:List RD:=[.tmp 2 true (some (.int .i64)),.tmp 3 true none]
theorem HZ_:zn_ Tryz.prog Tryz.f53 bo_ HG_=true:=by kernel_rfl
def Xj_:List AV->List Obj->Option (Prop × AV)
 | [.int .i64 tt],[]=>some ((True,.tup [.imm (.int .i64) (wI tt),.bool (kI tt)]))
 | _,_=>none
theorem Gf_:ze_ Tryz.prog 53 (RoF Xj_).sum:=by
 refine zj_ Tryz.func53 HZ_ (zd_ _) fun args objs p v e=>?_
 unfold Xj_ at e
 split at e
 ·rename_i tt
  cases e
  refine ⟨rfl,fun hw ho hp=>?_⟩
  clear hw ho
  repeat'(intro t ht;first|(cases t<;>first|(cases ht;done)|(try simp only[zh_]at ht;try(exfalso;first|contradiction|omega)))|((first|refine zb_ ht ?_|refine ht ?_ ?_|refine ht.1 ?_ ?_|refine ht ?_)<;>clear ht))
  all_goals first
   | exact True.intro
   | (have h:=zdY_ (t:=tt) (by omega)
      rw [h.1,h.2.2];exact ⟨rfl,rfl⟩)
   | (subst_vars;exact ⟨rfl,rfl⟩)
   | (have h:tt=1\/tt=2\/tt=3\/tt=4\/tt=5\/tt=6\/tt=65535:=by omega
      rcases h with rfl | rfl | rfl | rfl | rfl | rfl | rfl<;>first | (exfalso;omega) | exact ⟨rfl,rfl⟩)
 ·cases e
def Y1_:IR:=
(sq (kr [0] [oD 1 (.boxv 0),
oD 2 (.mov (cI 0))])
(sq (.block 0
(sq (kr [1] [oA 4 0 1,
oL 5 4,
oB 6 .eql 5 (cI 1),
oM 7 6,
oT 7 8 (.fieldAddr 1 1),
oT 7 9 (.load none 8),
oT 7 10 (.bin .gtr 9 (.c (.int .u64 254))),
oP 11 7 10 cF,
oM 3 11])
(.cond 3
(sq (kr [] [oD 2 (.mov (cI 771))])
.ret)
(sq (kr [1] [oA 13 0 1,
oL 14 13,
oB 15 .eql 14 (cI 2),
oM 16 15,
oT 16 17 (.fieldAddr 1 1),
oT 16 18 (.load none 17),
oT 16 19 (.fieldAddr 2 1),
oT 16 20 (.load none 19),
oT 16 21 (.bin .andNot 18 20),
oT 16 22 (.bin .neq 21 (.c (.int .u64 0))),
oP 23 16 22 cF,
oM 12 23])
(.cond 12
(sq (kr [] [oD 2 (.mov (cI 772))])
.ret)
.skip)))))
(sq (kr [] [oD 2 (.mov (cI 0))])
.ret)))
def Yn_:List RD:=[.tmp 2 true none]
theorem YJ_:zn_ Tryz.prog Tryz.f120 Y1_ Yn_=true:=by kernel_rfl
def QO_:List AV->List Obj->Option (Prop × AV)
 | [.agg [.int .i64 tt,.int .u64 a,.int .u64 b,.imm ty0 c,.imm (.int .u8) d]],[]=>Z1_ ty0 Y2 c fun c=>some ((True,.int .i64 (qI tt a b)))
 | _,_=>none
theorem jE_:ze_ Tryz.prog 120 (RoF QO_).sum:=by
 refine zj_ Tryz.func120 YJ_ (zd_ _) fun args objs p v e=>?_
 unfold QO_ at e
 split at e
 ·rename_i tt a b ty0 c d
  obtain rfl:=z6_ e
  replace e:=z7_ e
  cases e
  refine ⟨rfl,fun hw ho hp=>?_⟩
  change List Int at d
  clear hw ho
  repeat'(intro t ht;first|(cases t<;>first|(cases ht;done)|(try simp only[zh_]at ht;try(exfalso;first|contradiction|omega)))|((first|refine zb_ ht ?_|refine ht ?_ ?_|refine ht.1 ?_ ?_|refine ht ?_)<;>clear ht))
  all_goals first
   | exact True.intro
   | (refine ⟨congrArg (AV.int .i64) ?_,rfl⟩;unfold qI;repeat' split
      all_goals first | rfl | omega)
 ·cases e
def gp_:IR:=
(sq (kr [0] [oD 1 (.boxv 0),
oD 2 (.mov (cI 0))])
(sq (sq (kr [1] [oA 3 0 1,
oL 4 3,
oB 5 .eql 4 (cI 1),
oM 6 5,
oT 6 7 (.fieldAddr 1 1),
oT 6 8 (.load none 7),
oT 6 9 (.bin .gtr 8 (.c (.int .u64 254))),
oP 10 6 9 cF])
(.cond 10
(sq (kr [] [oD 2 (.mov (cI 771))])
.ret)
.skip))
(sq (sq (kr [1] [oA 11 0 1,
oL 12 11,
oB 13 .eql 12 (cI 2),
oM 14 13,
oT 14 15 (.fieldAddr 1 1),
oT 14 16 (.load none 15),
oT 14 17 (.fieldAddr 2 1),
oT 14 18 (.load none 17),
oT 14 19 (.bin .and 16 18),
oT 14 20 (.fieldAddr 1 1),
oT 14 21 (.load none 20),
oT 14 22 (.bin .neq 19 21),
oP 23 14 22 cF])
(.cond 23
(sq (kr [] [oD 2 (.mov (cI 772))])
.ret)
.skip))
(sq (kr [] [oD 2 (.mov (cI 0))])
.ret))))
def Uv_:List RD:=[.tmp 2 true none]
theorem UW_:zn_ Tryz.prog Tryz.f57 gp_ Uv_=true:=by kernel_rfl
def wf_:List AV->List Obj->Option (Prop × AV)
 | [.agg [.int .i64 tt,.int .u64 a,.int .u64 b,.imm ty0 c,.imm (.int .u8) d]],[]=>Z1_ ty0 Y2 c fun c=>some ((True,.int .i64 (qI tt a b)))
 | _,_=>none
theorem vS_:ze_ Tryz.prog 57 (RoF wf_).sum:=by
 refine zj_ Tryz.func57 UW_ (zd_ _) fun args objs p v e=>?_
 unfold wf_ at e
 split at e
 ·rename_i tt a b ty0 c d
  obtain rfl:=z6_ e
  replace e:=z7_ e
  cases e
  refine ⟨rfl,fun hw ho hp=>?_⟩
  change List Int at d
  have ha:0<=a/\a<=18446744073709551615:=(hw _ (List.mem_cons_self ..)) (.int .u64 a) (by simp)
  clear hw ho
  have hbs:=BL_ (k:=.u64) rfl b (a:=a) ha
  repeat'(intro t ht;first|(cases t<;>first|(cases ht;done)|(try simp only[zh_]at ht;try(exfalso;first|contradiction|omega)))|((first|refine zb_ ht ?_|refine ht ?_ ?_|refine ht.1 ?_ ?_|refine ht ?_)<;>clear ht))
  all_goals first
   | exact True.intro
   | (refine ⟨congrArg (AV.int .i64) ?_,rfl⟩;unfold qI;by_cases hz:Zo_ .andNot .u64 a b=0
      ·have hy:=hbs.1 hz
       repeat' split
       all_goals first | rfl | omega
      ·have hy:¬ Zo_ .and .u64 a b=a:=fun c=>hz (hbs.2 c)
       repeat' split
       all_goals first | rfl | omega)
 ·cases e
def bdF (i:VIn) (l:List Int) (e:Int):List Int × Int:=(kK_ i.2.2.2.2.1 (apB i.2.2.2.1 (QU_ (wI i.1) (xI i) l 65524 e) 65524 (kF_ (wI i.1) (xI i) l 65524 e)) 65524 (apE i.2.2.2.1 (QU_ (wI i.1) (xI i) l 65524 e) 65524 (kF_ (wI i.1) (xI i) l 65524 e)),ko_ i.2.2.2.2.1 (apB i.2.2.2.1 (QU_ (wI i.1) (xI i) l 65524 e) 65524 (kF_ (wI i.1) (xI i) l 65524 e)) 65524 (apE i.2.2.2.1 (QU_ (wI i.1) (xI i) l 65524 e) 65524 (kF_ (wI i.1) (xI i) l 65524 e)))
theorem wr_I (i:VIn):WrOk 65524 (bdF i) (byI i):=((zeb_ 65524 (wI i.1) (xI i)).seq (zcP_ 65524 i.2.2.2.1)).seq (g6_ 65524 i.2.2.2.2.1)
theorem BM_ {i:VIn} (hg:gdI i=true):((bdF i [] 0).2=0->bdO i=some (bdF i [] 0).1)/\((bdF i [] 0).2 ≠ 0->bdO i=none):=by
 obtain ⟨f1,f2⟩:=(wr_I i).fin (by decide)
 unfold bdO
 rw [if_pos hg]
 cases hv:byI i with
 | none=>exact ⟨fun h=>absurd h (f2 fun y e=>by rw [hv] at e;cases e),fun _=>rfl⟩
 | some y=>
   dsimp only
   by_cases hl:(65524:Int) < y.length
   ·rw [if_pos hl]
    exact ⟨fun h=>absurd h (f2 fun z e=>by rw [hv] at e;cases e;exact hl),fun _=>rfl⟩
   ·rw [if_neg hl,f1 y hv (by omega)]
    exact ⟨fun _=>rfl,fun h=>absurd rfl h⟩
theorem zeR_ {i:VIn} (h:gdI i=false):bdO i=none:=by unfold bdO;rw [h];rfl
theorem zeQ_ {i:VIn} (h:rgL i.2.2.2.1=false):bdO i=none:=by
 cases hb:bdO i with
 | none=>rfl
 | some y=>have:=(yN_.1 hb).r;rw [h] at this;cases this
theorem zcf_ (e:Int):J4_ [] e=e:=by unfold J4_;split<;>simp_all
theorem zdD_ {i:VIn} (hg:gdI i=true):J3_ (bdF i [] 0).1 [] (bdF i [] 0).2=bdY i/\decide (J4_ [] (bdF i [] 0).2=0)=(bdO i).isSome:=by
 obtain ⟨c1,c2⟩:=BM_ hg
 rw [zcf_]
 by_cases h:(bdF i [] 0).2=0
 ·have e:=c1 h
  unfold bdY;rw [e,h];exact ⟨rfl,rfl⟩
 ·have e:=c2 h
  unfold bdY J3_ jH_;rw [e,decide_eq_false h];exact ⟨rfl,rfl⟩
theorem zce_ {l:List Int}:J3_ l [] 0=l:=rfl
def V0_:IR:=
(sq (kr [0] [oD 1 (.boxv 0),
oD 2 (.mov (.c (.imm (.int .u8) []))),
oD 3 (.mov cF)])
(sq (kr [1] [oA 14 0 1,
oL 15 14,
oC 16 119 [15],
oM 13 16,
oX 17 13 0,
oX 18 13 1,
oX 19 13 2,
oM 4 17,
oM 5 18,
oM 6 19])
(sq (sq (kr [1,4,6] [oM 20 6,
oD 21 (.un .not 20),
oM 22 21,
oF 22 23 (.load (some 5) 1),
oF 22 24 (.call false (.f 120) [23]),
oF 22 25 (.bin .neq 24 (cI 0)),
oP 26 22 cT 25,
oM 27 26,
oF 27 28 (.fieldAddr 3 1),
oF 27 29 (.load none 28),
oF 27 30 (.call false (.f 169) [29]),
oF 27 31 (.un .not 30),
oP 32 27 cT 31])
(.cond 32
(sq (kr [] [oD 2 (.mov (.c (.imm (.int .u8) []))),
oD 3 (.mov cF)])
.ret)
.skip))
(sq (kr [1,4] [oM 33 4,
oC 34 170 [33],
oM 7 34])
(sq (kd [1,4,7] [(oA 35 0 1,[]),
(oL 36 35,[]),
(oB 37 .eql 36 (cI 3),[]),
(oM 38 37,[]),
(oF 38 39 (.fieldAddr 0 1),[]),
(oF 38 40 (.load none 39),[]),
(oF 38 41 (.bin .eql 40 (cI 4)),[]),
(oP 42 38 cT 41,[]),
(oA 43 0 1,[0,0,0,0,0,0,0,0]),
(oL 44 43,[1,0,0,0,0,0,0,0]),
(oB 45 .eql 44 (cI 65535),[2,0,0,0,0,0,0,0]),
(oM 8 42,[0,0,0]),
(oM 9 45,[])])
(sq (sq (kr [1,4,7,8,9] [oM 46 7,
oB 47 .lss 46 (cI 2),
oM 48 47,
oT 48 49 (.fieldAddr 2 1),
oT 48 50 (.load none 49),
oT 48 51 (.bin .neq 50 (.c (.int .u64 0))),
oP 52 48 51 cF,
oM 53 52,
oF 53 54 (.mov 7),
oF 53 55 (.bin .lss 54 (cI 1)),
oF 53 56 (.mov 55),
oT 56 57 (.fieldAddr 1 1),
oT 56 58 (.load none 57),
oT 56 59 (.bin .neq 58 (.c (.int .u64 0))),
oF 53 60 (.pick 56 59 cF),
oP 61 53 cT 60,
oM 62 61,
oF 62 63 (.mov 8),
oF 62 64 (.un .not 63),
oF 62 65 (.mov 64),
oT 65 66 (.fieldAddr 3 1),
oT 65 67 (.load none 66),
oT 65 68 (.len 67),
oT 65 69 (.bin .gtr 68 (cI 0)),
oF 62 70 (.pick 65 69 cF),
oP 71 62 cT 70,
oM 72 71,
oF 72 73 (.mov 9),
oF 72 74 (.un .not 73),
oF 72 75 (.mov 74),
oT 75 76 (.fieldAddr 4 1),
oT 75 77 (.load none 76),
oT 75 78 (.len 77),
oT 75 79 (.bin .gtr 78 (cI 0)),
oF 72 80 (.pick 75 79 cF),
oP 81 72 cT 80,
oM 82 81,
oF 82 83 (.fieldAddr 4 1),
oF 82 84 (.load none 83),
oF 82 85 (.len 84),
oF 82 86 (.bin .rem 85 (cI 8)),
oF 82 87 (.bin .neq 86 (cI 0)),
oP 88 82 cT 87])
(.cond 88
(sq (kr [] [oD 2 (.mov (.c (.imm (.int .u8) []))),
oD 3 (.mov cF)])
.ret)
.skip))
(sq (kr [1,4,7] [oC 89 77 [(cI 65524)],
oM 10 89])
(sq (kr [1,4,7,10] [oM 90 10,
oM 91 4,
oA 92 1 1,
oL 93 92,
oA 94 2 1,
oL 95 94,
oD 96 (.sliceAll (.int .u64) 2 [(0,1,93),(1,1,95)]),
oM 97 7,
oD 98 (.slice 1 96 none (some 97) none),
oC 99 99 [90,91,98]])
(sq (kr [1,10] [oM 100 10,
oA 101 3 1,
oL 102 101,
oC 103 134 [100,102]])
(sq (.reg [oM 104 10,
oA 105 4 1,
oL 106 105,
oC 107 117 [104,106]])
(sq (kr [10] [oM 109 10,
oC 110 79 [109],
oM 108 110,
oX 111 108 0,
oX 112 108 1,
oM 11 111,
oM 12 112])
(sq (kr [11,12] [oM 113 11,
oM 114 12,
oB 115 .eql 114 (cI 0),
oM 2 113,
oM 3 115])
.ret))))))))))))
def Ve_:List RD:=[.tmp 2 true (some (.int .u8)),.tmp 3 true none]
theorem VB_:zn_ Tryz.prog Tryz.f113 V0_ Ve_=true:=by kernel_rfl
def jw_:List AV->List Obj->Option (Prop × AV)
 | [.agg [.int .i64 tt,.int .u64 a,.int .u64 b,.imm ty0 c,.imm (.int .u8) d]],[]=>Z1_ ty0 Y2 c fun c=>some ((okL c/\d.length<=1000000,.tup [.imm (.int .u8) (bdY ((tt,a,b,c,d,()):VIn)),.bool (bdO ((tt,a,b,c,d,()):VIn)).isSome]))
 | _,_=>none
theorem y7_:ze_ Tryz.prog 113 (RoF jw_).sum:=by
 refine zj_ Tryz.func113 VB_ (za_ (s:=RoF kr_) Js_ (za_ (s:=RoF QO_) jE_ (za_ (s:=RoF ku_) Jv_ (za_ (s:=RoF q2_) QJ_ (za_ (s:=RwF qv_) Qc_ (za_ (s:=RwF zV_) Zk_ (za_ (s:=RwF WF_) Uk_ (za_ (s:=RwF zy_) zD_ (za_ (s:=RwF z9_) ZA_ (zd_ _)))))))))) fun args objs p v e=>?_
 unfold jw_ at e
 split at e
 ·rename_i tt a b ty0 c d
  obtain rfl:=z6_ e
  replace e:=z7_ e
  cases e
  refine ⟨rfl,fun hw ho hp=>?_⟩
  change List Int at d
  clear hw ho
  change List AC at c
  obtain ⟨hc,hd⟩:=hp
  have hroom:w1_ 65524=65524:=by decide
  have hwi:kI tt=true->0<=zI_ (wI tt)/\zI_ (wI tt)<=2:=fun h=>(g9_ h).2
  have hlim:(QU_ (wI tt) ([a,b].take (zI_ (wI tt)).toNat) [] 65524 0).length<=1000000:=Gp_ (by decide) (by decide)
  have hlim2:=zdG_ (x:=c) (e:=kF_ (wI tt) ([a,b].take (zI_ (wI tt)).toNat) [] 65524 0) hlim (by decide:(65524:Int)<=1000000)
  have hlim3:=J7_ (x:=d) (e:=apE c (QU_ (wI tt) ([a,b].take (zI_ (wI tt)).toNat) [] 65524 0) 65524 (kF_ (wI tt) ([a,b].take (zI_ (wI tt)).toNat) [] 65524 0)) hlim2 (by decide:(65524:Int)<=1000000)
  by_cases hG:gdI ((tt,a,b,c,d,()):VIn)=true/\rgL c=true
  ·obtain ⟨hG,hr⟩:=hG
   obtain ⟨b1,b2⟩:=BM_ hG
   obtain ⟨g1,g2,g3,g4,g5,g6,g7⟩:=yI_.1 hG
   replace g1:kI tt=true:=g1
   replace g2:qI tt a b=0:=g2
   replace g3:2<=zI_ (wI tt)\/b=0:=g3
   replace g4:1<=zI_ (wI tt)\/a=0:=g4
   replace g5:(tt=3\/tt=4)\/c.length=0:=by
    rcases g5 with g | g
    ·left;unfold dI at g;simpa using g
    ·right;rw [show c=[] from g];rfl
   replace g6:tt=65535\/d.length=0:=by
    rcases g6 with g | g
    ·exact .inl g
    ·right;rw [show d=[] from g];rfl
   replace g7:(d.length:Int).tmod 8=0:=by
    have g:d.length % 8=0:=g7
    rw [Int.tmod_eq_emod_of_nonneg (by omega)];omega
   obtain ⟨w1,w2⟩:=hwi g1
   clear hwi
   repeat'(intro t ht;first|(cases t<;>first|(cases ht;done)|(try simp only[zh_]at ht;try(exfalso;first|contradiction|omega)))|((first|refine zb_ ht ?_|refine ht ?_ ?_|refine ht.1 ?_ ?_|refine ht ?_)<;>clear ht))
   all_goals first
    | exact True.intro
    | exact hc
    | exact (by decide:(8:Int) ≠ 0)
    | exact ⟨w1,w2⟩
    | (exfalso;simp_all;done)
    | (obtain ⟨q1,q2⟩:=zdD_ hG;rw [<- q1,<- q2];exact ⟨rfl,rfl⟩)
    | exact ⟨by decide,by decide,by decide⟩
    | exact ⟨hc,by decide,by decide,hlim⟩
    | exact ⟨by decide,by decide,hlim2,hd⟩
    | exact ⟨Nat.le_trans hlim3 (by decide),by decide⟩
  ·have hno:bdY ((tt,a,b,c,d,()):VIn)=[]/\(bdO ((tt,a,b,c,d,()):VIn)).isSome=false:=by
    have:bdO ((tt,a,b,c,d,()):VIn)=none:=by
     cases hg:gdI ((tt,a,b,c,d,()):VIn) with
     | false=>exact zeR_ hg
     | true=>
       cases hr:rgL c with
       | false=>exact zeQ_ (i:=((tt,a,b,c,d,()):VIn)) hr
       | true=>exact absurd ⟨hg,hr⟩ hG
    unfold bdY;rw [this];exact ⟨rfl,rfl⟩
   have hbad:¬ (kI tt=true/\qI tt a b=0/\(2<=zI_ (wI tt)\/b=0)/\(1<=zI_ (wI tt)\/a=0)/\((tt=3\/tt=4)\/c.length=0)/\(tt=65535\/d.length=0)/\(d.length:Int).tmod 8=0/\rgL c=true):=fun ⟨g1,g2,g3,g4,g5,g6,g7,g8⟩=>hG ⟨yI_.2 ⟨g1,g2,g3,g4,(by
    rcases g5 with g | g
    ·left;show dI tt=true;unfold dI;simpa using g
    ·right;exact List.eq_nil_of_length_eq_zero g),(by
    rcases g6 with g | g
    ·exact .inl g
    ·right;exact List.eq_nil_of_length_eq_zero g),(by
    rw [Int.tmod_eq_emod_of_nonneg (by omega)] at g7;show d.length % 8=0;omega)⟩,g8⟩
   clear hG hwi hlim3
   repeat'(intro t ht;first|(cases t<;>first|(cases ht;done)|(try simp only[zh_]at ht;try(exfalso;first|contradiction|omega)))|((first|refine zb_ ht ?_|refine ht ?_ ?_|refine ht.1 ?_ ?_|refine ht ?_)<;>clear ht))
   all_goals first
    | exact True.intro
    | exact hc
    | (rw [hno.1,hno.2];exact ⟨rfl,rfl⟩)
    | exact (by decide:(8:Int) ≠ 0)
    | (exfalso;refine hbad ⟨by assumption,by assumption,by omega,by omega,by omega,by omega,by assumption,by assumption⟩)
 ·cases e
end Go.Eng
