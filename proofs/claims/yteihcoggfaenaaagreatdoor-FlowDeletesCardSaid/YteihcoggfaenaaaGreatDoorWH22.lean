/- Parts of the proof: Y9, YB, YD, YF. No condition. -/
import Derived.Test.YteihcoggfaenaaaGreatDoorProg
import Derived.Test.YteihcoggfaenaaaGreatDoorWH10
import Derived.KernelRfl
import Derived.Test.YteihcoggfaenaaaGreatDoorWH21
namespace Go.Eng
open Go.Proofs
set_option linter.unusedVariables false
set_option linter.unusedSimpArgs false
set_option maxRecDepth 100000
set_option maxHeartbeats 1000000
theorem zhD_ {P:Program} {id:FuncId} {f g:List AV->List Obj->Option (Prop × AV × List Obj)} (hs:zd_ P id (RwF f).sum)
 (h:∀ args objs p v' o',g args objs=some (p,v',o')->∃ v o,f args objs=some (p,v,o)/\o'.length=o.length/\(∀ (i:Nat) (x:Obj),o'[i]?=some x->x=.dead\/o[i]?=some x)/\∀ (I:Nat->Prop) (w:World) (m:M) cv,HRel I w m (ofL o)->RV I w m v cv->RV I w m v' cv):zd_ P id (RwF g).sum:=by
 refine ⟨hs.1,uK_ g,fun {I w m args cargs objs K} hH hA hu hS=>?_⟩
 simp only [RwF,SumK.sum] at hS
 split at hS
 ·rename_i p v o e0
  obtain ⟨hp,hk⟩:=zo_ hS
  obtain ⟨v0,l,hf,hlen,hob,hrv⟩:=h args objs p v o e0
  clear e0
  have hS':(RwF f).sum args objs fun v' o'=>v'=v0/\o'=l:=by
   unfold RwF SumK.sum;simp only;rw [hf];exact kP_ hp fun _=>⟨rfl,rfl⟩
  refine (hs.2.2 hH hA hu hS').mono ?_
  rintro e w' ⟨v',cv,objs',I',m',rfl,⟨rfl,rfl⟩,hL⟩
  have hold:∀ q x,ofL o q=some x->x.live=true->ofL objs' q=some x:=fun q x e hl=>by
   rcases hob q x e with rfl | h1
   ·cases hl
   ·exact h1
  have ml:∀ {x:Obj},x.mut=true->x.live=true:=fun {x} h=>by cases x<;>first | rfl | cases h
  refine ⟨v,cv,o,I',m',rfl,hk,⟨hrv _ _ _ _ hL.H hL.rv,⟨fun q hq=>?_,fun q x e=>?_,fun q q' x x' b e e' hl hl' hb hb'=>hL.H.inj q q' x x' b (hold _ _ e hl) (hold _ _ e' hl') hl hl' hb hb',fun q x b e hm hb=>hL.H.notI q x b (hold _ _ e (ml hm)) hm hb,fun q t x b e hb=>hL.H.isI q t x b (hold _ _ e rfl) hb,hL.H.Ilt⟩,hL.E,fun q hq=>by rw [hlen];exact hL.used q hq,by rw [hlen];exact hL.len,hL.fr,hL.new,fun q x b e hl hb=>hL.own q x b (hold q x e hl) hl hb⟩⟩
  ·refine hL.H.lt q fun h0=>hq ?_
   unfold ofL at h0 ⊢
   rw [List.getElem?_eq_none_iff] at h0 ⊢
   omega
  ·rcases hob q x e with rfl | h1
   ·trivial
   ·exact hL.H.obj q x h1
 ·exact hS.elim
def wkP (I:Nat->Prop) (w:World) (m:M):List AV->List AV->Prop
 | [],[]=>True
 | a :: l,b :: r=>(∀ c,RV0 I w m a c->RV0 I w m b c)/\wkP I w m l r
 | _,_=>False
theorem wkL {I:Nat->Prop} {w:World} {m:M}:∀ {l l':List AV} {r:List Value},wkP I w m l l'->Zf_ I w m l r->Zf_ I w m l' r
 | [],[],_,_,h=>h
 | _ :: _,_ :: _,_ :: _,k,h=>⟨k.1 _ h.1,wkL k.2 h.2⟩
 | _ :: _,_ :: _,[],_,h=>h.elim
 | [],_ :: _,_,k,_=>k.elim
 | _ :: _,[],_,k,_=>k.elim
theorem bZ_ {I:Nat->Prop} {w:World} {m:M} {a:AV}:∀ c,RV0 I w m a c->RV0 I w m a c:=fun _ h=>h
theorem Ju_ {I:Nat->Prop} {w:World} {m:M} {t:Ty} {x:List t.den}:∀ c,RV0 I w m (.imm t x) c->RV0 I w m .undef c:=fun c h=>by
 obtain ⟨ao,len,cap,rfl,_⟩:=h;rfl
theorem zi9_ {I:Nat->Prop} {w:World} {m:M} {k:Nat} {t:Ty} {x:List t.den} (hH:z7_ I w m k (.row false t x)):∀ c,RV0 I w m (.own k) c->RV0 I w m (.view k 0 x.length) c:=fun c h=>by
 obtain ⟨ao,len,cap,e,u,r2,r3,r4,r5,r6⟩:=h
 have hx:=hH.2.1
 refine ⟨ao,len,cap,e,u,by rw [r2,hx],r4,by omega,by rw [<- r3];exact r5,?_⟩
 rcases r6 with ⟨a,b,c⟩ | ⟨b,h1,h2⟩
 ·exact .inl ⟨a,b,c⟩
 ·exact .inr ⟨b,0,h1,h2,fun _=>by simp⟩
def RbF (f:List AV->List Obj->Option (Prop × Bool × (AV × List Obj) × (AV × List Obj))):SumK:=.rw fun args objs K=>match f args objs with
 | some (p,b,(v,o),(v',o'))=>need p (cnd b (K v o) (K v' o'))
 | none=>False
def rbR (f:List AV->List Obj->Option (Prop × Bool × (AV × List Obj) × (AV × List Obj))):List AV->List Obj->Option (Prop × Res):=fun args objs=>match f args objs with
 | some (p,b,(v,o),(v',o'))=>some (p,.br b (.one v o) (.one v' o'))
 | none=>none
theorem zjr_ {f:List AV->List Obj->Option (Prop × Bool × (AV × List Obj) × (AV × List Obj))}:(RcF (rbR f)).sum=(RbF f).sum:=by
 funext args objs K
 simp only [RcF,RbF,SumK.sum,rbR]
 cases f args objs with
 | none=>rfl
 | some q=>obtain ⟨p,b,⟨v,o⟩,v',o'⟩:=q;rfl
def UP_:IR:=
(sq (kr [0,1] [oD 4 (.box [.int .i64 0,.int .u32 0,.imm (.int .u64) [],.imm (.int .u8) [],.imm YB [],.imm Y1 [],.imm Y2 [],.imm Y3 [],.imm Y4 [],.imm Y5 [],.imm Y7 [],.imm Y8 [],.int .i64 0,.int .i64 0,.imm YC []]),
oD 5 (.mov (cI 0))])
(sq (kr [0,1,4] [oM 13 0,
oC 14 26 [13],
oM 12 14,
oX 15 12 0,
oX 16 12 1,
oM 6 15,
oM 7 16])
(sq (sq (kr [0,1,4,6,7] [oM 17 7,
oD 18 (.un .not 17)])
(.cond 18
(sq (.reg [oD 19 (.build [.int .i64 0,.int .u32 0,.imm (.int .u64) [],.imm (.int .u8) [],.imm YB [],.imm Y1 [],.imm Y2 [],.imm Y3 [],.imm Y4 [],.imm Y5 [],.imm Y7 [],.imm Y8 [],.int .i64 0,.int .i64 0,.imm YC []] []),
oS 15 4 19,
oD 5 (.mov (cI 10001))])
.ret)
.skip))
(sq (.reg [oM 20 1,
oC 21 41 [20,(cI 263),(cI 269)],
oM 8 21])
(sq (kr [0,1,4,6,8] [oM 22 0,
oM 23 8,
oM 24 6,
oC 25 42 [23,24],
oD 26 (.build [.int .i64 0,.int .u32 0,.imm (.int .u64) [],.imm (.int .u8) [],.imm YB [],.imm Y1 [],.imm Y2 [],.imm Y3 [],.imm Y4 [],.imm Y5 [],.imm Y7 [],.imm Y8 [],.int .i64 0,.int .i64 0,.imm YC []] [(0,1,22),(2,1,25)]),
oD 9 (.box [.int .i64 0,.int .u32 0,.imm (.int .u64) [],.imm (.int .u8) [],.imm YB [],.imm Y1 [],.imm Y2 [],.imm Y3 [],.imm Y4 [],.imm Y5 [],.imm Y7 [],.imm Y8 [],.int .i64 0,.int .i64 0,.imm YC []]),
oS 15 9 26])
(sq (sq (.reg [oM 27 8,
oC 28 43 [27],
oM 10 28])
(sq (kr [0,1,4,8,9,10] [oM 29 10,
oB 30 .neq 29 (cI 0)])
(.cond 30
(sq (.reg [oD 31 (.build [.int .i64 0,.int .u32 0,.imm (.int .u64) [],.imm (.int .u8) [],.imm YB [],.imm Y1 [],.imm Y2 [],.imm Y3 [],.imm Y4 [],.imm Y5 [],.imm Y7 [],.imm Y8 [],.int .i64 0,.int .i64 0,.imm YC []] []),
oM 32 10,
oS 15 4 31,
oM 5 32])
.ret)
.skip)))
(sq (kr [0,1,4,8,9] [oM 33 8,
oM 34 0,
oA 35 2 9,
oL 36 35,
oC 37 30 [34,36],
oC 38 44 [33,37]])
(sq (.reg [oM 39 8,
oC 40 45 [39],
oA 41 5 9,
oS 1 41 40])
(sq (sq (kr [0,1,4,8,9] [oM 42 0,
oB 43 .eql 42 (cI 14)])
(.cond 43
(.reg [oM 44 8,
oC 45 46 [44],
oA 46 7 9,
oS 1 46 45])
.skip))
(sq (sq (kr [1,4,8,9] [oM 47 8,
oC 48 47 [47],
oB 49 .gtr 48 (cI 0),
oM 50 49,
oF 50 51 (.mov 1),
oF 50 52 (.len 51),
oF 50 53 (.bin .gtr 52 (cI 65527)),
oP 54 50 cT 53])
(.cond 54
(kr [4,8,9] [oM 55 8,
oC 56 44 [55,(cI 263)]])
.skip))
(sq (sq (kr [4,8,9] [oM 57 8,
oC 58 43 [57],
oM 11 58])
(sq (.reg [oM 59 11,
oB 60 .neq 59 (cI 0)])
(.cond 60
(sq (.reg [oD 61 (.build [.int .i64 0,.int .u32 0,.imm (.int .u64) [],.imm (.int .u8) [],.imm YB [],.imm Y1 [],.imm Y2 [],.imm Y3 [],.imm Y4 [],.imm Y5 [],.imm Y7 [],.imm Y8 [],.int .i64 0,.int .i64 0,.imm YC []] []),
oM 62 11,
oS 15 4 61,
oM 5 62])
.ret)
.skip)))
(sq (kr [4,9] [oK 63 15 9,
oS 15 4 63,
oD 5 (.mov (cI 0))])
.ret))))))))))))
def uX_:List RD:=[.cell 4 (some 15) false [],.tmp 5 false none]
theorem Up_:zj_ Tryz.prog Tryz.f14 UP_ uX_=true:=by kernel_rfl
def kQ_:List AV->List Obj->Option (Prop × Res)
 | [.int .i64 tt,.imm (.int .u8) b],[]=>some (tt=14/\b.length<=65527,.br (decide (Zs_ 14 b=0)) (.one (.tup [.agg [.int .i64 14,.int .u32 0,.own 0,.imm (.int .u8) [],.imm YB [],.imm Y1 (gX 14 b),.imm Y2 [],.own 1,.imm Y4 [],.imm Y5 [],.imm Y7 [],.imm Y8 [],.int .i64 0,.int .i64 0,.imm YC []],.int .i64 0]) [.row false (.int .u64) (zP_ (wF 14) b),.row false Y3 (gI b)]) (.one (.tup [.agg [.int .i64 0,.int .u32 0,.imm (.int .u64) [],.imm (.int .u8) [],.imm YB [],.imm Y1 [],.imm Y2 [],.imm Y3 [],.imm Y4 [],.imm Y5 [],.imm Y7 [],.imm Y8 [],.int .i64 0,.int .i64 0,.imm YC []],.int .i64 (Zs_ 14 b)]) []))
 | _,_=>none
def kW_:List AV->List Obj->Option (Prop × Res)
 | [.int .i64 tt,.imm (.int .u8) b],[]=>some (tt=14/\b.length<=65527,.br (decide (Zs_ 14 b=0)) (.one (.tup [.agg [.int .i64 14,.int .u32 0,.own 0,.undef,.undef,.undef,.undef,.view 1 0 (gI b).length,.undef,.undef,.undef,.undef,.int .i64 0,.int .i64 0,.undef],.int .i64 0]) [.row false (.int .u64) (zP_ (wF 14) b),.dead]) (.one (.tup [.agg [.int .i64 0,.int .u32 0,.imm (.int .u64) [],.imm (.int .u8) [],.imm YB [],.imm Y1 [],.imm Y2 [],.imm Y3 [],.imm Y4 [],.imm Y5 [],.imm Y7 [],.imm Y8 [],.int .i64 0,.int .i64 0,.imm YC []],.int .i64 (Zs_ 14 b)]) []))
 | _,_=>none
def kT_:List AV->List Obj->Option (Prop × Bool × (AV × List Obj) × (AV × List Obj))
 | [.int .i64 tt,.imm (.int .u8) b],[]=>some (tt=14/\b.length<=65527,decide (Zs_ 14 b=0),(.tup [.agg [.int .i64 14,.int .u32 0,.own 0,.undef,.undef,.undef,.undef,.view 1 0 (gI b).length,.undef,.undef,.undef,.undef,.int .i64 0,.int .i64 0,.undef],.int .i64 0],[.row false (.int .u64) (zP_ (wF 14) b),.dead]),(.tup [.agg [.int .i64 0,.int .u32 0,.imm (.int .u64) [],.imm (.int .u8) [],.imm YB [],.imm Y1 [],.imm Y2 [],.imm Y3 [],.imm Y4 [],.imm Y5 [],.imm Y7 [],.imm Y8 [],.int .i64 0,.int .i64 0,.imm YC []],.int .i64 (Zs_ 14 b)],[]))
 | _,_=>none
theorem Vc_:zd_ Tryz.prog 14 (RcF kQ_).sum:=by
 refine u5_ Tryz.func14 Up_ (za_ (s:=RoF qX_) Qn_ (za_ (s:=RwF ZJ_) ZN_ (za_ (s:=RwF ZS_) QF_ (za_ (s:=RoF zp_) zq_ (za_ (s:=RoF q9_) QV_ (za_ (s:=RwF zr_) zs_ (za_ (s:=RwF KF_) WQ_ (za_ (s:=RwF ja_) Yz_ (za_ (s:=RoF zS_) z3_ (zc_ _)))))))))) fun args objs p v e=>?_
 unfold kQ_ at e
 split at e
 ·rename_i tt b
  cases e
  refine ⟨rfl,fun hw ho hp=>?_⟩
  have hb:∀ x ∈ (b:List Int),(0:Int)<=x/\x<=255:=fun x hx=>(hw (.imm (.int .u8) b) (by simp)).1 x hx
  clear hw ho
  change List Int at b
  obtain ⟨h14,hp⟩:=hp
  subst h14
  obtain ⟨e1,e2,e0⟩:=zcb_ (t:=14) (b:=b) rfl
  obtain ⟨c0,c1,c2⟩:=cuF (w:=wF 14) (b:=b) (by decide)
  rcases wk_ (wF 14) b with hk | hk | hk
  ·obtain ⟨c3,c4,c5⟩:=c0 hk
   obtain ⟨n1,n2⟩:=rowN hb hk
   rw [show zG_ (wF 14)=40 by decide] at n2
   obtain ⟨q1,q2⟩:=zfS_ hb (by omega)
   have e:=e0 hk
   have p1:0<=gP 14 b/\gP 14 b<=b.length:=H2_ (e:=g1 14 b) hb (by decide) n2
   have f1:mtP b 40 (zt_ 0 (qF 14 (zP_ (wF 14) b)))=gP 14 b:=rfl
   have f2:mtE b 40 (zt_ 0 (qF 14 (zP_ (wF 14) b)))=gE 14 b:=rfl
   have f3:mtL b 40 (zt_ 0 (qF 14 (zP_ (wF 14) b)))=gX 14 b:=rfl
   have f4:GD_ b (gP 14 b) (gE 14 b)=hE b:=rfl
   have f5:itL5 b (gP 14 b) (gE 14 b)=gI b:=rfl
   have f6:(if gE 14 b=0 then (b.length:Int) else gP 14 b)=hP b:=rfl
   have p2:0<=hP b/\hP b<=b.length:=by unfold hP;split<;>omega
   have E2:0 < (b.length:Int) - hP b->Zs_ 14 b=zt_ (hE b) 263:=fun h=>by
    have h0:¬ x23 14 b=0:=fun c=>by have:=(q2 c).1;omega
    rw [e,q1,if_pos h0,Yc_ h0]
   have E3:Zs_ 14 b=zt_ (hE b) 263\/Zs_ 14 b=hE b:=by
    rw [e,q1,if_neg (show ¬ (65527:Int) < b.length by omega)]
    by_cases h0:x23 14 b=0
    ·right;rw [if_neg (not_not_intro h0),h0]
    ·right;rw [if_pos h0]
   have E4:Zs_ 14 b=hE b:=by
    rw [e,q1,if_neg (show ¬ (65527:Int) < b.length by omega)]
    by_cases h0:x23 14 b=0
    ·rw [if_neg (not_not_intro h0),h0]
    ·rw [if_pos h0]
   clear e q1 E3
   repeat'(intro t ht;first|(cases t<;>first|(cases ht;done)|(try simp only[zg_]at ht;try(exfalso;first|contradiction|omega)))|((first|refine zb_ ht ?_|refine ht ?_ ?_|refine ht.1 ?_ ?_|refine ht ?_)<;>clear ht))
   all_goals (try simp only [c3,c4,c5,f1,f2,f3,f4,f5,f6] at*)
   all_goals first
    | exact True.intro
    | omega
    | (refine ⟨?_,?_,?_⟩<;>omega)
    | (refine ⟨?_,?_,?_,?_⟩<;>omega)
    | exact ⟨rfl,n1⟩
    | exact p1
    | exact absurd ht (jv_ _)
    | (have E:=E2 (by assumption)
       rw [QZ_ (decide_eq_false (by rw [E];exact jv_ _)),E];(first | exact ⟨rfl,rfl⟩ | exact ⟨rfl,True.intro⟩))
    | (have h0:hE b=0:=by assumption
       rw [KY_ (decide_eq_true (E4.trans h0))];(first | exact ⟨rfl,rfl⟩ | exact ⟨rfl,True.intro⟩))
    | (have h0:¬ hE b=0:=by assumption
       rw [QZ_ (decide_eq_false (by rw [E4];exact h0)),E4];(first | exact ⟨rfl,rfl⟩ | exact ⟨rfl,True.intro⟩))
  ·have c3:=c1 hk
   have e:=e1 hk
   have hM:decide (Zs_ 14 b=0)=false:=by rw [e];decide
   repeat'(intro t ht;first|(cases t<;>first|(cases ht;done)|(try simp only[zg_]at ht;try(exfalso;first|contradiction|omega)))|((first|refine zb_ ht ?_|refine ht ?_ ?_|refine ht.1 ?_ ?_|refine ht ?_)<;>clear ht))
   all_goals (try simp only [c3] at*)
   all_goals first
    | exact True.intro
    | omega
    | (refine ⟨?_,?_,?_⟩<;>omega)
    | (rw [QZ_ hM,e];(first | exact ⟨rfl,rfl⟩ | exact ⟨rfl,True.intro⟩))
  ·have c3:=c2 hk
   have e:=e2 hk
   have hM:decide (Zs_ 14 b=0)=false:=by rw [e];decide
   repeat'(intro t ht;first|(cases t<;>first|(cases ht;done)|(try simp only[zg_]at ht;try(exfalso;first|contradiction|omega)))|((first|refine zb_ ht ?_|refine ht ?_ ?_|refine ht.1 ?_ ?_|refine ht ?_)<;>clear ht))
   all_goals (try simp only [c3] at*)
   all_goals first
    | exact True.intro
    | omega
    | (refine ⟨?_,?_,?_⟩<;>omega)
    | (rw [QZ_ hM,e];(first | exact ⟨rfl,rfl⟩ | exact ⟨rfl,True.intro⟩))
 ·cases e
theorem VZ_:zd_ Tryz.prog 14 (RcF kW_).sum:=by
 rw [zca_]
 refine zhD_ (zfT_ Vc_) fun args objs p v o e=>?_
 obtain ⟨r,e2,rfl,rfl⟩:=zdL_ e
 unfold kW_ at e2
 split at e2
 ·rename_i tt b
  cases e2
  cases hb:decide (Zs_ 14 b=0) with
  | true=>
    refine ⟨.tup [.agg [.int .i64 14,.int .u32 0,.own 0,.imm (.int .u8) [],.imm YB [],.imm Y1 (gX 14 b),.imm Y2 [],.own 1,.imm Y4 [],.imm Y5 [],.imm Y7 [],.imm Y8 [],.int .i64 0,.int .i64 0,.imm YC []],.int .i64 0],[.row false (.int .u64) (zP_ (wF 14) b),.row false Y3 (gI b)],?_,rfl,fun i x h=>?_,fun I w m cv hH h=>?_⟩
    ·unfold pkF kQ_;dsimp only;rw [hb];rfl
    ·rcases i with _ | _ | i
     ·exact .inr h
     ·cases h;exact .inl rfl
     ·cases h
    ·obtain ⟨cs,rfl,h⟩:=h
     refine ⟨cs,rfl,?_⟩
     revert h
     generalize cs.toList=r
     intro h
     match r,h with
     | a :: c :: r',h=>
       obtain ⟨⟨ds,rfl,ha⟩,hb',hc⟩:=h
       refine ⟨⟨ds,rfl,wkL ?_ ha⟩,hb',hc⟩
       have hO:z7_ I w m 1 (.row false Y3 (gI b)):=hH.obj 1 _ rfl
       exact ⟨bZ_,bZ_,bZ_,Ju_,Ju_,Ju_,Ju_,zi9_ hO,Ju_,Ju_,Ju_,Ju_,bZ_,bZ_,Ju_,True.intro⟩
  | false=>
    refine ⟨.tup [.agg [.int .i64 0,.int .u32 0,.imm (.int .u64) [],.imm (.int .u8) [],.imm YB [],.imm Y1 [],.imm Y2 [],.imm Y3 [],.imm Y4 [],.imm Y5 [],.imm Y7 [],.imm Y8 [],.int .i64 0,.int .i64 0,.imm YC []],.int .i64 (Zs_ 14 b)],[],?_,rfl,fun i x h=>.inr h,fun I w m cv hH h=>h⟩
    unfold pkF kQ_;dsimp only;rw [hb];rfl
 ·cases e2
theorem rbC:rbR kT_=kW_:=by
 funext args objs
 unfold rbR kT_ kW_
 split
 ·rename_i h
  split at h
  ·cases h;rfl
  ·cases h
 ·rename_i h
  split at h
  ·cases h
  ·rename_i hn
   first
    | rfl
    | (split
       ·exact absurd rfl (hn _ _ rfl)
       ·rfl)
theorem Vi_:zd_ Tryz.prog 14 (RbF kT_).sum:=by
 rw [<- zjr_,rbC];exact VZ_
theorem s23a:wrF (14,0,[1,0,2,0,0,0,9,4294967295,4294967295,4294967295,1],[],[],[],[],[(5,0,0,[],[],())],[],[],[],[],0,0,[],())=([0,0,0,0,0,0,0,1,0,0,0,0,0,0,0,0,2,0,0,0,0,0,0,9,255,255,255,255,255,255,255,255,255,255,255,255,0,1,0,0,0,1,0,4,0,0,0,0,0,5,0,8,0,0,0,0],0):=by decide+kernel
theorem s23w:wfM23 (14,0,[1,0,2,0,0,0,9,4294967295,4294967295,4294967295,1],[],[],[],[],[(5,0,0,[],[],())],[],[],[],[],0,0,[],()):=⟨by decide,fun o ho=>(by cases ho),fun i hi=>by
 rcases List.mem_singleton.1 hi with rfl
 exact ⟨by decide,by decide,fun a ha=>by cases ha⟩⟩
theorem s23b:Zs_ 14 [0,0,0,0,0,0,0,1,0,0,0,0,0,0,0,0,2,0,0,0,0,0,0,9,255,255,255,255,255,255,255,255,255,255,255,255,0,1,0,0,0,1,0,4,0,0,0,0,0,5,0,8,0,0,0,0]=0/\zP_ (wF 14) [0,0,0,0,0,0,0,1,0,0,0,0,0,0,0,0,2,0,0,0,0,0,0,9,255,255,255,255,255,255,255,255,255,255,255,255,0,1,0,0,0,1,0,4,0,0,0,0,0,5,0,8,0,0,0,0]=[1,0,2,0,0,0,9,4294967295,4294967295,4294967295,1]/\gI [0,0,0,0,0,0,0,1,0,0,0,0,0,0,0,0,2,0,0,0,0,0,0,9,255,255,255,255,255,255,255,255,255,255,255,255,0,1,0,0,0,1,0,4,0,0,0,0,0,5,0,8,0,0,0,0]=[(5,0,0,[],[],())]:=by
 obtain ⟨h1,_,h2⟩:=hP_ s23w (by rw [s23a])
 rw [s23a] at h1 h2
 have h1:Zs_ 14 [0,0,0,0,0,0,0,1,0,0,0,0,0,0,0,0,2,0,0,0,0,0,0,9,255,255,255,255,255,255,255,255,255,255,255,255,0,1,0,0,0,1,0,4,0,0,0,0,0,5,0,8,0,0,0,0]=0:=h1
 replace h2:(((ql_ 14 [0,0,0,0,0,0,0,1,0,0,0,0,0,0,0,0,2,0,0,0,0,0,0,9,255,255,255,255,255,255,255,255,255,255,255,255,0,1,0,0,0,1,0,4,0,0,0,0,0,5,0,8,0,0,0,0]).1,0,(ql_ 14 [0,0,0,0,0,0,0,1,0,0,0,0,0,0,0,0,2,0,0,0,0,0,0,9,255,255,255,255,255,255,255,255,255,255,255,255,0,1,0,0,0,1,0,4,0,0,0,0,0,5,0,8,0,0,0,0]).2.2):VMs)=(14,0,[1,0,2,0,0,0,9,4294967295,4294967295,4294967295,1],[],[],[],[],[(5,0,0,[],[],())],[],[],[],[],0,0,[],()):=h2
 rw [x2_ h1] at h2
 have e1:zP_ (wF 14) [0,0,0,0,0,0,0,1,0,0,0,0,0,0,0,0,2,0,0,0,0,0,0,9,255,255,255,255,255,255,255,255,255,255,255,255,0,1,0,0,0,1,0,4,0,0,0,0,0,5,0,8,0,0,0,0]=[1,0,2,0,0,0,9,4294967295,4294967295,4294967295,1]:=congrArg (fun q:VMs=>q.2.2.1) h2
 have e2:idL (rF [0,0,0,0,0,0,0,1,0,0,0,0,0,0,0,0,2,0,0,0,0,0,0,9,255,255,255,255,255,255,255,255,255,255,255,255,0,1,0,0,0,1,0,4,0,0,0,0,0,5,0,8,0,0,0,0])=[(5,0,0,[],[],())]:=congrArg (fun q:VMs=>q.2.2.2.2.2.2.2.1) h2
 obtain ⟨_,q2⟩:=zfS_ (b:=[0,0,0,0,0,0,0,1,0,0,0,0,0,0,0,0,2,0,0,0,0,0,0,9,255,255,255,255,255,255,255,255,255,255,255,255,0,1,0,0,0,1,0,4,0,0,0,0,0,5,0,8,0,0,0,0]) (by decide) (by decide)
 exact ⟨h1,e1,((q2 (zfU_ h1).2.2.1).2.2).trans e2⟩
theorem s23c:wrF (14,0,[1,0,2,5,0,0,9,4294967295,4294967295,4294967295,1],[],[],[],[],[(5,0,0,[],[],())],[],[],[],[],0,0,[],())=([],10001):=zbK_ fun c=>absurd c.2.1 (by decide)
theorem s23d:Zs_ 14 [0,0,0,0,0,0,0,1,0,0,0,0,0,0,0,0,2,5,0,0,0,0,0,9,255,255,255,255,255,255,255,255,255,255,255,255,0,1,0,0,0,1,0,4,0,0,0,0,0,5,0,8,0,0,0,0]=1287:=by
 have hk:zZ_ (wF 14) [0,0,0,0,0,0,0,1,0,0,0,0,0,0,0,0,2,5,0,0,0,0,0,9,255,255,255,255,255,255,255,255,255,255,255,255,0,1,0,0,0,1,0,4,0,0,0,0,0,5,0,8,0,0,0,0]=0:=by decide+kernel
 have hq:qF 14 (zP_ (wF 14) [0,0,0,0,0,0,0,1,0,0,0,0,0,0,0,0,2,5,0,0,0,0,0,9,255,255,255,255,255,255,255,255,255,255,255,255,0,1,0,0,0,1,0,4,0,0,0,0,0,5,0,8,0,0,0,0])=1287:=by decide+kernel
 have hx:x23 14 [0,0,0,0,0,0,0,1,0,0,0,0,0,0,0,0,2,5,0,0,0,0,0,9,255,255,255,255,255,255,255,255,255,255,255,255,0,1,0,0,0,1,0,4,0,0,0,0,0,5,0,8,0,0,0,0]=1287:=by unfold x23;rw [if_pos (by rw [hq];decide),hq]
 unfold Zs_;rw [if_neg (by decide),hk,if_neg (by decide),if_neg (by decide),hx];rfl
def zaS_:IR:=
(sq (kr [] [oD 0 (.mov cF)])
(sq (kr [] [oD 10 (.sliceAll (.int .u64) 11 [(0,1,(.c (.int .u64 1))),(1,1,(.c (.int .u64 0))),(2,1,(.c (.int .u64 2))),(3,1,(.c (.int .u64 0))),(4,1,(.c (.int .u64 0))),(5,1,(.c (.int .u64 0))),(6,1,(.c (.int .u64 9))),(7,1,(.c (.int .u64 4294967295))),(8,1,(.c (.int .u64 4294967295))),(9,1,(.c (.int .u64 4294967295))),(10,1,(.c (.int .u64 1)))]),
oD 11 (.build [.int .i64 0,.int .u64 0,.int .u64 0,.imm Y2 [],.imm (.int .u8) []] [(0,1,(cI 5))]),
oD 12 (.sliceAll Y3 1 [(0,5,11)]),
oD 13 (.build [.int .i64 0,.int .u32 0,.imm (.int .u64) [],.imm (.int .u8) [],.imm YB [],.imm Y1 [],.imm Y2 [],.imm Y3 [],.imm Y4 [],.imm Y5 [],.imm Y7 [],.imm Y8 [],.int .i64 0,.int .i64 0,.imm YC []] [(0,1,(cI 14)),(2,1,10),(7,1,12)]),
oD 1 (.box [.int .i64 0,.int .u32 0,.imm (.int .u64) [],.imm (.int .u8) [],.imm YB [],.imm Y1 [],.imm Y2 [],.imm Y3 [],.imm Y4 [],.imm Y5 [],.imm Y7 [],.imm Y8 [],.int .i64 0,.int .i64 0,.imm YC []]),
oS 15 1 13])
(sq (kr [1] [oK 15 15 1,
oC 16 9 [15],
oM 14 16,
oX 17 14 0,
oX 18 14 1,
oM 2 17,
oM 3 18])
(sq (kr [1,2,3] [oM 20 2,
oC 21 14 [(cI 14),20],
oM 19 21,
oX 22 19 0,
oX 23 19 1,
oD 4 (.box [.int .i64 0,.int .u32 0,.imm (.int .u64) [],.imm (.int .u8) [],.imm YB [],.imm Y1 [],.imm Y2 [],.imm Y3 [],.imm Y4 [],.imm Y5 [],.imm Y7 [],.imm Y8 [],.int .i64 0,.int .i64 0,.imm YC []]),
oS 15 4 22,
oM 5 23])
(sq (kr [1,2,3,4,5] [oD 24 (.slice0 (.int .u64)),
oA 25 2 1,
oL 26 25,
oD 27 (.append (.int .u64) 8 24 26),
oA 28 2 1,
oS 1 28 27])
(sq (.reg [oA 29 2 1,
oL 30 29,
oD 31 (.indexSl 1 30 (cI 3)),
oN (.store 1 31 (.c (.int .u64 5)))])
(sq (kr [1,2,3,4,5] [oK 33 15 1,
oC 34 9 [33],
oM 32 34,
oX 35 32 0,
oX 36 32 1,
oM 6 35,
oM 7 36])
(sq (sq (kr [2,3,4,5,7] [oM 37 2,
oE 38 37,
oB 39 .neq 38 (cI 56)])
(.cond 39
(sq (.reg [oD 0 (.mov cF)])
.ret)
.skip))
(sq (.reg [oM 40 2,
oD 41 (.indexSl 1 40 (cI 17)),
oN (.store 1 41 (.c (.int .u8 5)))])
(sq (kr [2,3,4,5,7] [oM 43 2,
oC 44 14 [(cI 14),43],
oM 42 44,
oX 45 42 0,
oX 46 42 1,
oD 8 (.box [.int .i64 0,.int .u32 0,.imm (.int .u64) [],.imm (.int .u8) [],.imm YB [],.imm Y1 [],.imm Y2 [],.imm Y3 [],.imm Y4 [],.imm Y5 [],.imm Y7 [],.imm Y8 [],.int .i64 0,.int .i64 0,.imm YC []]),
oS 15 8 45,
oM 9 46])
(sq (kr [3,4,5,7,9] [oM 47 3,
oB 48 .eql 47 (cI 0),
oM 49 48,
oT 49 50 (.mov 5),
oT 49 51 (.bin .eql 50 (cI 0)),
oP 52 49 51 cF,
oM 53 52,
oT 53 54 (.fieldAddr 7 4),
oT 53 55 (.load none 54),
oT 53 56 (.len 55),
oT 53 57 (.bin .eql 56 (cI 1)),
oP 58 53 57 cF,
oM 59 58,
oT 59 60 (.fieldAddr 2 4),
oT 59 61 (.load none 60),
oT 59 62 (.len 61),
oT 59 63 (.bin .eql 62 (cI 11)),
oP 64 59 63 cF,
oM 65 64,
oT 65 66 (.fieldAddr 2 4),
oT 65 67 (.load none 66),
oT 65 68 (.slice 1 67 none (some (cI 3)) none),
oT 65 69 (.sliceAll (.int .u64) 3 [(0,1,(.c (.int .u64 1))),(1,1,(.c (.int .u64 0))),(2,1,(.c (.int .u64 2)))]),
oT 65 70 (.call false (.f 25) [68,69]),
oP 71 65 70 cF,
oM 72 71,
oT 72 73 (.mov 7),
oT 72 74 (.bin .eql 73 (cI 10001)),
oP 75 72 74 cF,
oM 76 75,
oT 76 77 (.mov 9),
oT 76 78 (.bin .eql 77 (cI 1287)),
oP 79 76 78 cF,
oM 80 79,
oT 80 81 (.call false (.f 11) [(cI 11)]),
oP 82 80 81 cF,
oM 0 82])
.ret)))))))))))
def BC_:List RD:=[.tmp 0 true none]
theorem B9_:zj_ Tryz.prog Tryz.f8 zaS_ BC_=true:=by kernel_rfl
def wC_:List AV->List Obj->Option (Prop × AV)
 | [],[]=>some ((True,.bool true))
 | _,_=>none
theorem yE_:zd_ Tryz.prog 8 (RoF wC_).sum:=by
 refine zi_ Tryz.func8 B9_ (za_ (s:=RwF Qw_) wM_ (za_ (s:=RbF kT_) Vi_ (za_ (s:=RoF kD_) Kt_ (za_ (s:=RoF wF_) yF_ (zc_ _))))) fun args objs p v e=>?_
 unfold wC_ at e
 split at e
 ·cases e
  refine ⟨rfl,fun hw ho hp=>?_⟩
  clear hw ho
  obtain ⟨b1,b2,b3⟩:=s23b
  have hM0:okM []:=ziQ_ (by decide)
  have hS:Qw_=jM_ wrF:=rfl
  rw [hS]
  have hWl:=hQ_
  have z1:=s23a
  have z2:=s23c
  have z3:wrF (14,0,(([]:List Int)++[1,0,2,0,0,0,9,4294967295,4294967295,4294967295,1]).set (Int.toNat 3) 5,[],[],[],[],[(5,0,0,[],[],())],[],[],[],[],0,0,[],())=([],10001):=z2
  have hB:Zs_ 14 (wrF (14,0,[1,0,2,0,0,0,9,4294967295,4294967295,4294967295,1],[],[],[],[],[(5,0,0,[],[],())],[],[],[],[],0,0,[],())).1=0:=by rw [s23a];exact b1
  have hC:¬ Zs_ 14 ((wrF (14,0,[1,0,2,0,0,0,9,4294967295,4294967295,4294967295,1],[],[],[],[],[(5,0,0,[],[],())],[],[],[],[],0,0,[],())).1.set (Int.toNat 17) 5)=0:=by rw [s23a];exact (fun c=>absurd (s23d.symm.trans c) (by decide))
  have hG:(gI (wrF (14,0,[1,0,2,0,0,0,9,4294967295,4294967295,4294967295,1],[],[],[],[],[(5,0,0,[],[],())],[],[],[],[],0,0,[],())).1).length=1:=by rw [s23a];exact congrArg List.length b3
  have hS56:(wrF (14,0,[1,0,2,0,0,0,9,4294967295,4294967295,4294967295,1],[],[],[],[],[(5,0,0,[],[],())],[],[],[],[],0,0,[],())).1.length=56:=by rw [s23a];rfl
  generalize wrF=W at*
  have hI1:okI [((5:Int),(0:Int),(0:Int),([]:List AC),([]:List Int),())]:=zfN_ (by decide+kernel) (by decide)
  repeat'(intro t ht;first|(cases t<;>first|(cases ht;done)|(try simp only[zg_]at ht;try(exfalso;first|contradiction|omega)))|((first|refine zb_ ht ?_|refine ht ?_ ?_|refine ht.1 ?_ ?_|refine ht ?_)<;>clear ht))
  all_goals first
   | exact True.intro
   | exact ⟨hM0,hI1,by decide⟩
   | exact (by decide:(([]:List Int).length+([1,0,2,0,0,0,9,4294967295,4294967295,4294967295,1]:List Int).length)*8<=140737488355328/\([]:List Int).length+([1,0,2,0,0,0,9,4294967295,4294967295,4294967295,1]:List Int).length<=140737488355328)
   | exact (by decide:(0:Int)<=3/\(3:Int) < ((([]:List Int)++[1,0,2,0,0,0,9,4294967295,4294967295,4294967295,1]).length:Int))
   | exact (by decide:(3:Int).toNat < (([]:List Int)++[1,0,2,0,0,0,9,4294967295,4294967295,4294967295,1]).length)
   | (simp only [qd_,z1,b2];decide)
   | exact ⟨rfl,Nat.le_trans (hWl _) (by decide)⟩
   | exact ⟨congrArg AV.bool (show kF 11=true from rfl),rfl⟩
   | (exfalso;simp only [z1,b1,b2,b3,z3,s23d] at*;first | contradiction | (simp at*;done) | omega)
 ·cases e
theorem zgz_ {l:List VIn} (h:Ty.wf (.sl Y3) l):∀ i ∈ l,wfI i:=fun i hi=>by
 obtain ⟨h1,h2,h3,h4,h5,_⟩:=h.1 i hi
 have u64:∀ {n:Int},Ty.wf (.int .u64) n->0<=n/\n<=18446744073709551615:=fun {n} hn=>by
  unfold Ty.wf inK at hn;rw [V7_,H5_] at hn;exact hn
 have ha:=zkn_ (l:=i.2.2.2.1) h4
 exact ⟨u64 h2,u64 h3,fun o ho=>⟨(ha o ho).1,(ha o ho).2.2.2.2.1,(ha o ho).2.2.2.2.2⟩⟩
theorem fewI {l:List VIn} (h:xx_ l=true):okI l:=by
 unfold xx_ at h
 simp only [Bool.and_eq_true,decide_eq_true_eq] at h
 refine ⟨fun i hi=>?_,Nat.le_trans h.2 (by decide)⟩
 have hf:=List.all_eq_true.1 h.1 i hi
 unfold fwIn at hf
 simp only [Bool.and_eq_true,decide_eq_true_eq] at hf
 exact ⟨(zif_ hf.1).1,by omega⟩
theorem za6_ {m:VMs} (h:fwMs m=true):okM (mX m)/\okI (mI3 m)/\(mN m).length<=1000000:=by
 unfold fwMs at h
 simp only [Bool.and_eq_true,decide_eq_true_eq] at h
 obtain ⟨_,_,⟨⟨⟨⟨⟨⟨⟨⟨⟨⟨q1,q2⟩,q3⟩,q4⟩,q5⟩,q6⟩,q7⟩,_⟩,_⟩,_⟩,_⟩⟩:=h
 exact ⟨(zj2_ q5).1,fewI q7,Nat.le_trans q1 (by decide)⟩
theorem zjs_ (t:Int) (b:List Int):(mN (ql_ t b)).length<=1000000:=by
 unfold ql_
 split
 ·refine Nat.le_trans (zid_ (wF t) b) ?_
  unfold wF;repeat' split
  all_goals decide
 ·exact Nat.zero_le _
def VP_:IR:=
(sq (kr [0,1,2] [oD 3 (.boxv 0),
oD 6 (.mov cF)])
(sq (sq (kr [1,2,3] [oK 15 15 3,
oC 16 7 [15],
oD 17 (.un .not 16),
oM 18 17,
oF 18 19 (.mov 2),
oF 18 20 (.len 19),
oF 18 21 (.bin .gtr 20 (cI 2500)),
oP 22 18 cT 21])
(.cond 22
(sq (kr [] [oC 23 8 [],
oM 6 23])
.ret)
.skip))
(sq (sq (kr [1,2,3] [oK 25 15 3,
oC 26 9 [25],
oM 24 26,
oX 27 24 0,
oX 28 24 1,
oM 7 27,
oM 8 28])
(sq (kr [1,2,3,7,8] [oM 29 8,
oB 30 .eql 29 (cI 0)])
(.cond 30
(sq (kr [1,2,3,7] [oA 32 0 3,
oL 33 32,
oM 34 7,
oC 35 14 [33,34],
oM 31 35,
oX 36 31 0,
oX 37 31 1,
oD 9 (.box [.int .i64 0,.int .u32 0,.imm (.int .u64) [],.imm (.int .u8) [],.imm YB [],.imm Y1 [],.imm Y2 [],.imm Y3 [],.imm Y4 [],.imm Y5 [],.imm Y7 [],.imm Y8 [],.int .i64 0,.int .i64 0,.imm YC []]),
oS 15 9 36,
oM 10 37])
(sq (kr [1,2,3,9,10] [oA 38 1 3,
oL 39 38,
oA 40 1 9,
oS 1 40 39])
(sq (kr [1,2,3,9,10] [oM 41 10,
oB 42 .neq 41 (cI 0),
oM 43 42,
oF 43 44 (.fieldAddr 0 3),
oF 43 45 (.load none 44),
oF 43 46 (.call false (.f 11) [45]),
oF 43 47 (.un .not 46),
oP 48 43 cT 47,
oM 49 48,
oF 49 50 (.load (some 15) 9),
oF 49 51 (.load (some 15) 3),
oF 49 52 (.call false (.f 16) [50,51]),
oF 49 53 (.un .not 52),
oP 54 49 cT 53])
(.cond 54
(sq (kr [] [oD 6 (.mov cF)])
.ret)
.skip))))
.skip)))
(sq (kr [1,2] [oM 56 1,
oM 57 2,
oC 58 14 [56,57],
oM 55 58,
oX 59 55 0,
oX 60 55 1,
oD 11 (.box [.int .i64 0,.int .u32 0,.imm (.int .u64) [],.imm (.int .u8) [],.imm YB [],.imm Y1 [],.imm Y2 [],.imm Y3 [],.imm Y4 [],.imm Y5 [],.imm Y7 [],.imm Y8 [],.int .i64 0,.int .i64 0,.imm YC []]),
oS 15 11 59,
oM 12 60])
(sq (sq (kr [1,2,11,12] [oM 61 12,
oB 62 .neq 61 (cI 0)])
(.cond 62
(sq (kr [11] [oK 63 15 11,
oD 64 (.build [.int .i64 0,.int .u32 0,.imm (.int .u64) [],.imm (.int .u8) [],.imm YB [],.imm Y1 [],.imm Y2 [],.imm Y3 [],.imm Y4 [],.imm Y5 [],.imm Y7 [],.imm Y8 [],.int .i64 0,.int .i64 0,.imm YC []] []),
oC 65 16 [63,64],
oM 66 65,
oT 66 67 (.call false (.f 8) []),
oP 68 66 67 cF,
oM 6 68])
.ret)
.skip))
(sq (kr [1,2,11] [oK 70 15 11,
oC 71 9 [70],
oM 69 71,
oX 72 69 0,
oX 73 69 1,
oM 13 72,
oM 14 73])
(sq (kr [1,2,11,13,14] [oM 74 14,
oB 75 .eql 74 (cI 0),
oM 76 75,
oT 76 77 (.fieldAddr 0 11),
oT 76 78 (.load none 77),
oT 76 79 (.mov 1),
oT 76 80 (.bin .eql 78 79),
oP 81 76 80 cF,
oM 82 81,
oT 82 83 (.fieldAddr 1 11),
oT 82 84 (.load none 83),
oT 82 85 (.bin .eql 84 (.c (.int .u32 0))),
oP 86 82 85 cF,
oM 87 86,
oT 87 88 (.mov 13),
oT 87 89 (.mov 2),
oT 87 90 (.call false (.f 13) [88,89]),
oP 91 87 90 cF,
oM 92 91,
oT 92 93 (.call false (.f 8) []),
oP 94 92 93 cF,
oM 6 94])
.ret)))))))
def Vq_:List RD:=[.tmp 6 true none]
theorem VC_:zj_ Tryz.prog Tryz.f5 VP_ Vq_=true:=by kernel_rfl
def K9_:List AV->List Obj->Option (Prop × AV)
 | [.agg zz0,.int .i64 k,.imm (.int .u8) b],[]=>Jn_ YD zz0 fun ⟨tt,xi,n,d,el,x,a,ins,bu,ba,qu,po,ki,fl,pa,_⟩=>some ((True,.bool true))
 | _,_=>none
theorem Yy_:zd_ Tryz.prog 5 (RoF K9_).sum:=by
 refine zi_ Tryz.func5 VC_ (za_ (s:=RoF Xh_) vE_ (za_ (s:=RoF wC_) yE_ (za_ (s:=RoF xP_) gG_ (za_ (s:=RoF jC_) XF_ (za_ (s:=RoF wF_) yF_ (za_ (s:=RoF ye_) hX_ (za_ (s:=RoF Zc_) z6_ (zc_ _)))))))) fun args objs p v e=>?_
 unfold K9_ at e
 split at e
 ·rename_i zz0 k b
  replace e:=qR_ e
  obtain ⟨⟨tt,xi,n,d,el,x,a,ins,bu,ba,qu,po,ki,fl,pa,_⟩,hz,e⟩:=e
  replace hz:zz0=[.int .i64 tt,.int .u32 xi,.imm (.int .u64) n,.imm (.int .u8) d,.imm YB el,.imm Y1 x,.imm Y2 a,.imm Y3 ins,.imm Y4 bu,.imm Y5 ba,.imm Y7 qu,.imm Y8 po,.int .i64 ki,.int .i64 fl,.imm YC pa]:=hz
  subst hz
  change Int at tt
  change Int at xi
  change Int at ki
  change Int at fl
  cases e
  refine ⟨rfl,fun hw ho hp=>?_⟩
  change List Int at n
  change List Int at d
  change List Int at b
  have hb:∀ z ∈ (b:List Int),(0:Int)<=z/\z<=255:=fun z hz=>(hw (.imm (.int .u8) b) (by simp)).1 z hz
  have hv:=hw (.agg [.int .i64 tt,.int .u32 xi,.imm (.int .u64) n,.imm (.int .u8) d,.imm YB el,.imm Y1 x,.imm Y2 a,.imm Y3 ins,.imm Y4 bu,.imm Y5 ba,.imm Y7 qu,.imm Y8 po,.int .i64 ki,.int .i64 fl,.imm YC pa]) (by simp)
  have hn:∀ q ∈ (n:List Int),(0:Int)<=q/\q<=18446744073709551615:=fun q hq=>(hv (.imm (.int .u64) n) (by simp)).1 q hq
  have hx:=zf1_ (l:=x) (hv (.imm Y1 x) (by simp))
  have hi:=zgz_ (l:=ins) (hv (.imm Y3 ins) (by simp))
  clear hw ho hv
  cases hf:fwMs ((tt,xi,n,d,el,x,a,ins,bu,ba,qu,po,ki,fl,pa,()):VMs) with
  | false=>
    repeat'(intro t ht;first|(cases t<;>first|(cases ht;done)|(try simp only[zg_]at ht;try(exfalso;first|contradiction|omega)))|((first|refine zb_ ht ?_|refine ht ?_ ?_|refine ht.1 ?_ ?_|refine ht ?_)<;>clear ht))
    all_goals first
     | exact True.intro
     | exact ⟨rfl,rfl⟩
     | (exfalso;simp_all;done)
  | true=>
    have hok:=za6_ hf
    have hwf:wfM23 ((tt,xi,n,d,el,x,a,ins,bu,ba,qu,po,ki,fl,pa,()):VMs):=⟨hn,fun o ho=>(hx o ho).1,hi⟩
    have L1:=hP_ hwf
    have L0:=hQ_ ((tt,xi,n,d,el,x,a,ins,bu,ba,qu,po,ki,fl,pa,()):VMs)
    have L2:=zhP_ (t:=k) hb
    have L3:=QA_ (t:=k) (b:=b)
    have L4:=zjs_ k b
    clear hn hx hi hwf hb
    repeat'(intro t ht;first|(cases t<;>first|(cases ht;done)|(try simp only[zg_]at ht;try(exfalso;first|contradiction|omega)))|((first|refine zb_ ht ?_|refine ht ?_ ?_|refine ht.1 ?_ ?_|refine ht ?_)<;>clear ht))
    all_goals first
     | exact True.intro
     | exact hok
     | exact ⟨rfl,rfl⟩
     | exact Nat.le_trans L0 (by decide)
     | omega
     | (have h0:Zs_ k b=0:=by assumption
        obtain ⟨w1,w2,w3,w4,w5,w6⟩:=L2 h0
        have hI:okI (mI3 (ql_ k b)):=zfN_ w5 (by have:=zkG_ w5;omega)
        first
         | exact ⟨ziQ_ w4,hI,L4⟩
         | exact absurd (show (wrF (ql_ k b)).2=0 by rw [w1]) ht
         | exact absurd (show (wrF (ql_ k b)).1=b by rw [w1]) ht
         | exact absurd w2 ht
         | exact absurd w3 ht
         | fail)
     | (have e:=L3 (by assumption)
        exact absurd e ht)
     | (obtain ⟨a1,a2,a3⟩:=L1 (by assumption)
        first
         | exact absurd a1 ht
         | exact absurd a3 ht
         | (have c:kF tt=true:=a2
            rw [c] at ht;cases ht)
         | fail)
 ·cases e
theorem BH_:∀ (w xs b:List Int),qb_ w xs b=(qb_ w xs []).map fun y=>b++y
 | [],_,b=>by simp [qb_]
 | n :: r,xs,b=>by
   have ih:=BH_ r
   unfold qb_
   split
   ·rw [ih xs (b++_),ih xs ([]++_)];cases qb_ r xs []<;>simp
   ·cases xs with
    | nil=>rfl
    | cons x ys=>
      dsimp only
      split
      ·rfl
      ·rw [ih ys (b++_),ih ys ([]++_)];cases qb_ r ys []<;>simp
theorem zg4_ {x:Int} (h:0<=x/\x<=255):ze_ x 1=[x]:=by
 have e:Kf_ x 1 ((0:Nat):Int)=x:=by
  unfold Kf_
  rw [Int.fdiv_eq_ediv_of_nonneg _ (by decide)]
  show x / 1 % 256=x
  omega
 show [Kf_ x 1 ((0:Nat):Int)]=[x]
 rw [e]
def T14 (r:List Int):Option (List Int):=qb_ [2,2,2,4,4,4,2,-2] r []
theorem zdJ_ {a0 a1 a2 a3:Int} {r:List Int} (hr:r.length=7):k2_ w14 (a0 :: a1 :: a2 :: a3 :: r)=(if (8:Int) < 8/\a0.fdiv (2 ^ 64) ≠ 0 then none else if (8:Int) < 8/\a1.fdiv (2 ^ 64) ≠ 0 then none else if (1:Int) < 8/\a2.fdiv (2 ^ 8) ≠ 0 then none else if (1:Int) < 8/\a3.fdiv (2 ^ 8) ≠ 0 then none else qb_ [2,2,2,4,4,4,2,-2] r ([]++ze_ a0 8++ze_ a1 8++ze_ a2 1++ze_ a3 1)):=by
 unfold k2_
 rw [if_pos ⟨by decide,by rw [show zB_ w14=11 by decide];simp only [List.length_cons,hr];rfl⟩]
 rfl
theorem ziR_ {a0 a1 a2 a3:Int} {r:List Int} (hr:r.length=7) (h2:0<=a2/\a2<=255) (h3:0<=a3/\a3<=255):k2_ w14 (a0 :: a1 :: a2 :: a3 :: r)=(T14 r).map fun y=>ze_ a0 8++(ze_ a1 8++(a2 :: a3 :: y)):=by
 have e2:a2.fdiv (2 ^ 8)=0:=by rw [Int.fdiv_eq_ediv_of_nonneg _ (by decide)];omega
 have e3:a3.fdiv (2 ^ 8)=0:=by rw [Int.fdiv_eq_ediv_of_nonneg _ (by decide)];omega
 rw [zdJ_ hr,if_neg (fun h=>absurd h.1 (by decide)),if_neg (fun h=>absurd h.1 (by decide)),if_neg (fun h=>h.2 e2),if_neg (fun h=>h.2 e3),BH_,zg4_ h2,zg4_ h3]
 show (T14 r).map _=_
 cases T14 r<;>simp
theorem zhR_ {a0 a1 a2 a3:Int} {r:List Int} (hr:r.length=7) (h2:0<=a2) (h3:0<=a3) (h:ZX_ w14 (a0 :: a1 :: a2 :: a3 :: r)=true):a2<=255/\a3<=255:=by
 unfold ZX_ at h
 rw [zdJ_ hr,if_neg (fun h=>absurd h.1 (by decide)),if_neg (fun h=>absurd h.1 (by decide))] at h
 split at h
 ·cases h
 ·rename_i c2
  split at h
  ·cases h
  ·rename_i c3
   have e2:a2.fdiv (2 ^ 8)=0:=Classical.byContradiction fun c=>c2 ⟨by decide,c⟩
   have e3:a3.fdiv (2 ^ 8)=0:=Classical.byContradiction fun c=>c3 ⟨by decide,c⟩
   rw [Int.fdiv_eq_ediv_of_nonneg _ (by decide)] at e2 e3
   omega
theorem zhC_ {p q s:List Int} {x y c v:Int} (hp:p.length=8) (hq:q.length=8):((p++(q++x :: y :: s)).set 17 c).set 16 v=p++(q++v :: c :: s):=by
 rw [List.set_append_right _ _ (by omega),hp,List.set_append_right _ _ (by omega),hp,List.set_append_right _ _ (by omega),hq,List.set_append_right _ _ (by omega),hq];rfl
def delM (m:VMs) (c v:Int):VMs:=(m.1,m.2.1,((mN m).set 3 c).set 2 v,m.2.2.2)
theorem zgM_ {m:VMs} (hw:wfM23 m) (ht:mT m=14) (h:(wrF m).2=0) {c v:Int} (hc:0<=c/\c<=4) (hv:0<=v/\v<=255):40<=(wrF m).1.length/\(mN m).length=11/\(v=255/\c < 3->wrF (delM m c v)=([],10001)/\Zs_ 14 (((wrF m).1.set 17 c).set 16 v)=266)/\(¬ (v=255/\c < 3)->wrF (delM m c v)=(((wrF m).1.set 17 c).set 16 v,0)/\Zs_ 14 (((wrF m).1.set 17 c).set 16 v)=0/\mN (ql_ 14 (((wrF m).1.set 17 c).set 16 v))=((mN m).set 3 c).set 2 v):=by
 obtain ⟨y,hy,h3,hk,hq,hb,hl⟩:=zbJ_ h
 rw [h3]
 clear h
 obtain ⟨t,xi,n,d,el,x,a,ins,m8⟩:=m
 have hwn:∀ q ∈ n,0<=q/\q<=18446744073709551615:=hw.n
 have hwx:∀ o ∈ x,0<=o.2.2.2.1:=hw.x
 have hwi:∀ i ∈ ins,wfI i:=hw.i
 replace ht:t=14:=ht
 subst ht
 replace hy:vF 14 n x ins=some y:=hy
 replace hq:qF 14 n=0:=hq
 show 40<=y.length/\n.length=11/\(v=255/\c < 3->wrF ((14,xi,(n.set 3 c).set 2 v,d,el,x,a,ins,m8):VMs)=([],10001)/\Zs_ 14 ((y.set 17 c).set 16 v)=266)/\(¬ (v=255/\c < 3)->wrF ((14,xi,(n.set 3 c).set 2 v,d,el,x,a,ins,m8):VMs)=((y.set 17 c).set 16 v,0)/\Zs_ 14 ((y.set 17 c).set 16 v)=0/\mN (ql_ 14 ((y.set 17 c).set 16 v))=(n.set 3 c).set 2 v)
 have hY:((y.set 17 c).set 16 v).length=y.length:=by rw [List.length_set,List.length_set]
 generalize hYe:(y.set 17 c).set 16 v=Y at hY ⊢
 unfold vF at hy;rw [if_pos rfl] at hy
 obtain ⟨p,q,g1,g2,g3⟩:=kp_ hy
 obtain ⟨p1,p2,g4,g5,g6⟩:=kp_ g1
 obtain ⟨k1,k2⟩:=x0_ g4
 obtain ⟨r1,r2⟩:=YZ_ g5
 obtain ⟨i1,i2⟩:=hq_ g2
 have e:y=Zn_ w14 n++(meB x++boI ins):=by rw [g3,g6,k2,r2,i2,List.append_assoc]
 have hs:=KO_ k1
 rw [show zG_ w14=40 by decide] at hs
 have h40:40<=y.length:=by rw [e,List.length_append];omega
 have h11:n.length=11:=by have:=W5_ k1;rw [show zB_ w14=11 by decide] at this;omega
 refine ⟨h40,h11,?_⟩
 clear hy g1 g2 g3 g4 g5 g6 r2 i2 k2 hs p q p1 p2
 match n,h11,k1,hq,hwn,e with
 | a0 :: a1 :: a2 :: a3 :: r,h11,k1,hq,hwn,e=>
   have hr:r.length=7:=by simpa using h11
   have n2:=hwn a2 (by simp)
   have n3:=hwn a3 (by simp)
   obtain ⟨b2,b3⟩:=zhR_ hr n2.1 n3.1 k1
   have f1:=ziR_ (a0:=a0) (a1:=a1) hr ⟨n2.1,b2⟩ ⟨n3.1,b3⟩
   have f2:=ziR_ (a0:=a0) (a1:=a1) hr hv (show 0<=c/\c<=255 by omega)
   obtain ⟨z,hz⟩:∃ z,T14 r=some z:=by
    unfold ZX_ at k1;rw [f1] at k1
    cases hT:T14 r with
    | none=>rw [hT] at k1;cases k1
    | some z=>exact ⟨z,rfl⟩
   rw [hz] at f1 f2
   have B1:Zn_ w14 (a0 :: a1 :: a2 :: a3 :: r)=ze_ a0 8++(ze_ a1 8++(a2 :: a3 :: z)):=by unfold Zn_;rw [f1];rfl
   have B2:Zn_ w14 (a0 :: a1 :: v :: c :: r)=ze_ a0 8++(ze_ a1 8++(v :: c :: z)):=by unfold Zn_;rw [f2];rfl
   have K2:ZX_ w14 (a0 :: a1 :: v :: c :: r)=true:=by unfold ZX_;rw [f2];rfl
   have l0:(ze_ a0 8).length=8:=by have:=zk_ (n:=a0) (w:=8) (by decide);omega
   have l1:(ze_ a1 8).length=8:=by have:=zk_ (n:=a1) (w:=8) (by decide);omega
   have eY:Y=Zn_ w14 (a0 :: a1 :: v :: c :: r)++(meB x++boI ins):=by
    rw [<- hYe,e,B1,B2]
    simp only [List.append_assoc,List.cons_append]
    exact zhC_ l0 l1
   have hn':((a0 :: a1 :: a2 :: a3 :: r).set 3 c).set 2 v=a0 :: a1 :: v :: c :: r:=rfl
   rw [hn']
   have hwn':∀ q ∈ a0 :: a1 :: v :: c :: r,0<=q/\q<=18446744073709551615:=fun q hq=>by
    simp only [List.mem_cons] at hq
    rcases hq with rfl | rfl | rfl | rfl | hq
    ·exact hwn _ (by simp)
    ·exact hwn _ (by simp)
    ·omega
    ·omega
    ·exact hwn _ (by simp [hq])
   have q10:¬ 31 < (a0 :: a1 :: a2 :: a3 :: r).getD 10 0:=fun hc=>by
    unfold qF at hq
    rw [if_neg (by decide)] at hq
    split at hq
    ·cases hq
    ·first
      | (cases hq;done)
      | (rw [if_pos hc] at hq;cases hq)
   have q10':¬ 31 < (a0 :: a1 :: v :: c :: r).getD 10 0:=q10
   have q3:¬ 4 < (a0 :: a1 :: v :: c :: r).getD 3 0:=by show ¬ 4 < c;omega
   obtain ⟨a1',a2',a3',a4',a5'⟩:=uW_ (by decide) hwn' K2 r1 hwx eY
   refine ⟨fun hd=>?_,fun hd=>?_⟩
   ·have hq':qF 14 (a0 :: a1 :: v :: c :: r)=266:=qF_6 q3 q10' hd.1 (show ¬ c=3 by omega) (show ¬ c=4 by omega)
    refine ⟨zbK_ fun k=>?_,?_⟩
    ·have k2:qF 14 (a0 :: a1 :: v :: c :: r)=0:=k.2.1
     rw [hq'] at k2;cases k2
    ·have hw14:wF 14=w14:=rfl
     have hx:x23 14 Y=266:=by unfold x23;rw [hw14,a1',hq',if_pos (by decide)]
     unfold Zs_;rw [if_neg (by decide),hw14,a2',if_neg (by decide),if_neg (by decide),hx];rfl
   ·have hq':qF 14 (a0 :: a1 :: v :: c :: r)=0:=qF_0 q3 q10' (by
     show ¬ v=255\/c=3\/c=4
     omega)
    have hv':vF 14 (a0 :: a1 :: v :: c :: r) x ins=some Y:=by
     unfold vF uL_ H6_ insO
     rw [if_pos rfl,if_pos K2,if_pos r1,if_pos i1,Jv_,Jv_,eY,List.append_assoc]
    have hW:wrF ((14,xi,a0 :: a1 :: v :: c :: r,d,el,x,a,ins,m8):VMs)=(Y,0):=by
     unfold wrF
     rw [if_pos ⟨show kF 14=true from rfl,show qF 14 (a0 :: a1 :: v :: c :: r)=0 from hq',hb⟩]
     show fnF (vF 14 (a0 :: a1 :: v :: c :: r) x ins)=_
     rw [hv'];unfold fnF;dsimp only;rw [if_neg (by omega)]
    have hwf:wfM23 ((14,xi,a0 :: a1 :: v :: c :: r,d,el,x,a,ins,m8):VMs):=⟨hwn',hwx,hwi⟩
    obtain ⟨o1,_,o3⟩:=hP_ hwf (by rw [hW])
    rw [hW] at o1 o3
    exact ⟨hW,o1,congrArg (fun q:VMs=>q.2.2.1) o3⟩
def X2_:IR:=
(sq (kr [0,1,2] [oD 3 (.boxv 0),
oD 6 (.mov cF)])
(sq (sq (kr [1,2,3] [oK 16 15 3,
oC 17 7 [16],
oD 18 (.un .not 17),
oM 19 18,
oF 19 20 (.fieldAddr 0 3),
oF 19 21 (.load none 20),
oF 19 22 (.bin .neq 21 (cI 14)),
oP 23 19 cT 22])
(.cond 23
(sq (kr [] [oC 24 8 [],
oM 6 24])
.ret)
.skip))
(sq (kr [1,2,3] [oD 25 (.slice0 (.int .u64)),
oA 26 2 3,
oL 27 26,
oD 28 (.append (.int .u64) 8 25 27),
oA 29 2 3,
oS 1 29 28])
(sq (sq (kr [1,2,3] [oK 31 15 3,
oC 32 9 [31],
oM 30 32,
oX 33 30 0,
oX 34 30 1,
oM 7 33,
oM 8 34])
(sq (kr [1,2,3,8] [oM 35 8,
oB 36 .neq 35 (cI 0)])
(.cond 36
(sq (.reg [oC 37 8 [],
oM 6 37])
.ret)
.skip)))
(sq (kd [1,2,3] [(oA 38 2 3,[]),
(oL 39 38,[]),
(oA 40 2 3,[0,0]),
(oL 41 40,[1,0]),
(oM 42 1,[0,0,0,0]),
(oD 43 (.conv .u64 42),[1,0,0,0]),
(oB 44 .rem 43 (.c (.int .u64 5)),[2,0,0,0]),
(oM 45 2,[0,0,0,0,0,0,0]),
(oD 46 (.conv .u64 45),[1,0,0,0,0,0,0]),
(oD 47 (.indexSl 1 39 (cI 3)),[0,0,3,0]),
(oS 1 47 44,[1,0,3,0]),
(oD 48 (.indexSl 1 41 (cI 2)),[]),
(oS 1 48 46,[])])
(sq (kr [1,2,3] [oK 50 15 3,
oC 51 9 [50],
oM 49 51,
oX 52 49 0,
oX 53 49 1,
oM 9 52,
oM 10 53])
(sq (kr [1,2,3,9,10] [oM 54 2,
oB 55 .lss 54 (.c (.int .u8 255)),
oM 56 55,
oF 56 57 (.mov 1),
oF 56 58 (.bin .rem 57 (.c (.int .u8 5))),
oF 56 59 (.bin .geq 58 (.c (.int .u8 3))),
oP 60 56 cT 59,
oM 11 60])
(sq (sq (kr [2,3,9,10,11] [oM 61 10,
oB 62 .eql 61 (cI 0),
oM 63 11,
oD 64 (.eqb true 62 63)])
(.cond 64
(sq (.reg [oD 6 (.mov cF)])
.ret)
.skip))
(sq (.reg [oA 65 2 3,
oL 66 65,
oD 67 (.indexSl 1 66 (cI 2)),
oN (.store 1 67 (.c (.int .u64 254)))])
(sq (kr [2,3,9,11] [oK 69 15 3,
oC 70 9 [69],
oM 68 70,
oX 71 68 0,
oX 72 68 1,
oM 12 71,
oM 13 72])
(sq (sq (kr [2,9,11,12,13] [oM 73 13,
oB 74 .neq 73 (cI 0),
oM 75 74,
oF 75 76 (.mov 12),
oF 75 77 (.len 76),
oF 75 78 (.bin .lss 77 (cI 17)),
oP 79 75 cT 78])
(.cond 79
(sq (kr [] [oD 6 (.mov cF)])
.ret)
.skip))
(sq (kr [2,9,11,12] [oM 80 12,
oM 81 2,
oD 82 (.indexSl 1 80 (cI 16)),
oS 1 82 81])
(sq (kr [2,9,11,12] [oM 84 12,
oC 85 14 [(cI 14),84],
oM 83 85,
oX 86 83 0,
oX 87 83 1,
oD 14 (.box [.int .i64 0,.int .u32 0,.imm (.int .u64) [],.imm (.int .u8) [],.imm YB [],.imm Y1 [],.imm Y2 [],.imm Y3 [],.imm Y4 [],.imm Y5 [],.imm Y7 [],.imm Y8 [],.int .i64 0,.int .i64 0,.imm YC []]),
oS 15 14 86,
oM 15 87])
(sq (sq (kr [2,9,11,12,14,15] [oM 88 11,
oD 89 (.un .not 88)])
(.cond 89
(sq (kr [15] [oM 90 15,
oB 91 .eql 90 (cI 266),
oM 92 91,
oT 92 93 (.call false (.f 8) []),
oP 94 92 93 cF,
oM 6 94])
.ret)
.skip))
(sq (kr [2,9,12,14,15] [oM 95 15,
oB 96 .eql 95 (cI 0),
oM 97 96,
oT 97 98 (.fieldAddr 2 14),
oT 97 99 (.load none 98),
oT 97 100 (.indexSl 1 99 (cI 2)),
oT 97 101 (.load none 100),
oT 97 102 (.mov 2),
oT 97 103 (.conv .u64 102),
oT 97 104 (.bin .eql 101 103),
oP 105 97 104 cF,
oM 106 105,
oT 106 107 (.mov 9),
oT 106 108 (.mov 12),
oT 106 109 (.call false (.f 13) [107,108]),
oP 110 106 109 cF,
oM 111 110,
oT 111 112 (.call false (.f 8) []),
oP 113 111 112 cF,
oM 6 113])
.ret)))))))))))))))
def XQ_:List RD:=[.tmp 6 true none]
theorem XV_:zj_ Tryz.prog Tryz.f6 X2_ XQ_=true:=by kernel_rfl
def kb_:List AV->List Obj->Option (Prop × AV)
 | [.agg zz0,.int .u8 c,.int .u8 v],[]=>Jn_ YD zz0 fun ⟨tt,xi,n,d,el,x,a,ins,bu,ba,qu,po,ki,fl,pa,_⟩=>some ((True,.bool true))
 | _,_=>none
theorem Xs_:zd_ Tryz.prog 6 (RoF kb_).sum:=by
 refine zi_ Tryz.func6 XV_ (za_ (s:=RoF Xh_) vE_ (za_ (s:=RoF wC_) yE_ (za_ (s:=RwF Qw_) wM_ (za_ (s:=RoF jC_) XF_ (za_ (s:=RoF Zc_) z6_ (zc_ _)))))) fun args objs p v e=>?_
 unfold kb_ at e
 split at e
 ·rename_i zz0 c v
  replace e:=qR_ e
  obtain ⟨⟨tt,xi,n,d,el,x,a,ins,bu,ba,qu,po,ki,fl,pa,_⟩,hz,e⟩:=e
  replace hz:zz0=[.int .i64 tt,.int .u32 xi,.imm (.int .u64) n,.imm (.int .u8) d,.imm YB el,.imm Y1 x,.imm Y2 a,.imm Y3 ins,.imm Y4 bu,.imm Y5 ba,.imm Y7 qu,.imm Y8 po,.int .i64 ki,.int .i64 fl,.imm YC pa]:=hz
  subst hz
  change Int at tt
  change Int at xi
  change Int at ki
  change Int at fl
  cases e
  refine ⟨rfl,fun hw ho hp=>?_⟩
  change List Int at n
  change List Int at d
  have hv:=hw (.agg [.int .i64 tt,.int .u32 xi,.imm (.int .u64) n,.imm (.int .u8) d,.imm YB el,.imm Y1 x,.imm Y2 a,.imm Y3 ins,.imm Y4 bu,.imm Y5 ba,.imm Y7 qu,.imm Y8 po,.int .i64 ki,.int .i64 fl,.imm YC pa]) (by simp)
  have hn:∀ q ∈ (n:List Int),(0:Int)<=q/\q<=18446744073709551615:=fun q hq=>(hv (.imm (.int .u64) n) (by simp)).1 q hq
  have hx:=zf1_ (l:=x) (hv (.imm Y1 x) (by simp))
  have hi:=zgz_ (l:=ins) (hv (.imm Y3 ins) (by simp))
  have hwf:wfM23 ((tt,xi,n,d,el,x,a,ins,bu,ba,qu,po,ki,fl,pa,()):VMs):=⟨hn,fun o ho=>(hx o ho).1,hi⟩
  have hc:(0:Int)<=c/\c<=255:=hw (.int .u8 c) (by simp)
  have hvv:(0:Int)<=v/\v<=255:=hw (.int .u8 v) (by simp)
  clear hw ho hv
  cases hf:fwMs ((tt,xi,n,d,el,x,a,ins,bu,ba,qu,po,ki,fl,pa,()):VMs) with
  | false=>
    repeat'(intro t ht;first|(cases t<;>first|(cases ht;done)|(try simp only[zg_]at ht;try(exfalso;first|contradiction|omega)))|((first|refine zb_ ht ?_|refine ht ?_ ?_|refine ht.1 ?_ ?_|refine ht ?_)<;>clear ht))
    all_goals first
     | exact True.intro
     | exact ⟨rfl,rfl⟩
     | (exfalso;simp_all;done)
  | true=>
    have hok:=za6_ hf
    have hn6:n.length<=1000000:=hok.2.2
    by_cases h14:tt=14
    ·subst h14
     by_cases hW:(wrF (14,xi,([]:List Int)++n,d,el,x,a,ins,bu,ba,qu,po,ki,fl,pa,())).2=0
     ·have hr:(0:Int)<=c.tmod 5/\c.tmod 5<=4:=by rw [Int.tmod_eq_emod_of_nonneg hc.1];omega
      have hL:=hQ_
      obtain ⟨d40,d11,dA,dB⟩:=zgM_ hwf rfl hW hr hvv
      obtain ⟨_,_,_,dC⟩:=zgM_ hwf rfl hW hr (v:=254) (by decide)
      obtain ⟨q1,q2,q3⟩:=dC (by omega)
      clear dC
      replace d11:n.length=11:=d11
      have e2:((((([]:List Int)++n).set (Int.toNat 3) (c.tmod 5)).set (Int.toNat 2) v).set (Int.toNat 2) 254:List Int)=(n.set 3 (c.tmod 5)).set 2 254:=List.set_set ..
      have z2:wrF (14,xi,(((([]:List Int)++n).set (Int.toNat 3) (c.tmod 5)).set (Int.toNat 2) v).set (Int.toNat 2) 254,d,el,x,a,ins,bu,ba,qu,po,ki,fl,pa,())=(((wrF (14,xi,([]:List Int)++n,d,el,x,a,ins,bu,ba,qu,po,ki,fl,pa,())).1.set 17 (c.tmod 5)).set 16 254,0):=by rw [e2];exact q1
      have z2e:(wrF (14,xi,(((([]:List Int)++n).set (Int.toNat 3) (c.tmod 5)).set (Int.toNat 2) v).set (Int.toNat 2) 254,d,el,x,a,ins,bu,ba,qu,po,ki,fl,pa,())).2=0:=by rw [z2]
      have z2l:(wrF (14,xi,(((([]:List Int)++n).set (Int.toNat 3) (c.tmod 5)).set (Int.toNat 2) v).set (Int.toNat 2) 254,d,el,x,a,ins,bu,ba,qu,po,ki,fl,pa,())).1.length=(wrF (14,xi,([]:List Int)++n,d,el,x,a,ins,bu,ba,qu,po,ki,fl,pa,())).1.length:=by rw [z2];show (List.set _ _ _).length=_;rw [List.length_set,List.length_set]
      have z3:(wrF (14,xi,(((([]:List Int)++n).set (Int.toNat 3) (c.tmod 5)).set (Int.toNat 2) v).set (Int.toNat 2) 254,d,el,x,a,ins,bu,ba,qu,po,ki,fl,pa,())).1.set (Int.toNat 16) v=((wrF (14,xi,([]:List Int)++n,d,el,x,a,ins,bu,ba,qu,po,ki,fl,pa,())).1.set 17 (c.tmod 5)).set 16 v:=by rw [z2];exact List.set_set ..
      have g40:40<=(wrF (14,xi,([]:List Int)++n,d,el,x,a,ins,bu,ba,qu,po,ki,fl,pa,())).1.length:=d40
      have l1:(((([]:List Int)++n).set (Int.toNat 3) (c.tmod 5)).set (Int.toNat 2) v).length<=1000000:=by simp only [List.length_set];exact hn6
      have l2:((((([]:List Int)++n).set (Int.toNat 3) (c.tmod 5)).set (Int.toNat 2) v).set (Int.toNat 2) 254).length<=1000000:=by simp only [List.length_set];exact hn6
      have l3:((wrF (14,xi,(((([]:List Int)++n).set (Int.toNat 3) (c.tmod 5)).set (Int.toNat 2) v).set (Int.toNat 2) 254,d,el,x,a,ins,bu,ba,qu,po,ki,fl,pa,())).1.set (Int.toNat 16) v).length<=100000000:=by rw [List.length_set];exact Nat.le_trans (hL _) (by decide)
      by_cases hd:v=255/\c.tmod 5 < 3
      ·obtain ⟨p1,p2⟩:=dA hd
       have z1:¬ (wrF (14,xi,((([]:List Int)++n).set (Int.toNat 3) (c.tmod 5)).set (Int.toNat 2) v,d,el,x,a,ins,bu,ba,qu,po,ki,fl,pa,())).2=0:=by rw [show wrF (14,xi,((([]:List Int)++n).set (Int.toNat 3) (c.tmod 5)).set (Int.toNat 2) v,d,el,x,a,ins,bu,ba,qu,po,ki,fl,pa,())=([],10001) from p1];decide
       have r1:Zs_ 14 ((wrF (14,xi,(((([]:List Int)++n).set (Int.toNat 3) (c.tmod 5)).set (Int.toNat 2) v).set (Int.toNat 2) 254,d,el,x,a,ins,bu,ba,qu,po,ki,fl,pa,())).1.set (Int.toNat 16) v)=266:=by rw [z3];exact p2
       have h3:¬ 3<=c.tmod 5:=by omega
       clear dA dB p1 p2 q1 q2 q3
       repeat'(intro t ht;first|(cases t<;>first|(cases ht;done)|(try simp only[zg_]at ht;try(exfalso;first|contradiction|omega)))|((first|refine zb_ ht ?_|refine ht ?_ ?_|refine ht.1 ?_ ?_|refine ht ?_)<;>clear ht))
       all_goals first
        | exact True.intro
        | exact hok
        | exact ⟨hok.1,hok.2.1,l1⟩
        | exact ⟨hok.1,hok.2.1,l2⟩
        | exact l3
        | exact ⟨rfl,rfl⟩
        | (simp only [List.length_nil];omega)
        | (simp only [List.length_set,List.length_append,List.length_nil];omega)
        | ((try simp only [zm_,zn_,zl_] at*);omega)
        | decide
        | (exfalso;rw [decide_eq_false z1,decide_eq_false h3] at ht;cases ht)
      ·obtain ⟨p1,p2,p3⟩:=dB hd
       have z1:(wrF (14,xi,((([]:List Int)++n).set (Int.toNat 3) (c.tmod 5)).set (Int.toNat 2) v,d,el,x,a,ins,bu,ba,qu,po,ki,fl,pa,())).2=0:=by rw [show wrF (14,xi,((([]:List Int)++n).set (Int.toNat 3) (c.tmod 5)).set (Int.toNat 2) v,d,el,x,a,ins,bu,ba,qu,po,ki,fl,pa,())=_ from p1]
       have z4:(wrF (14,xi,((([]:List Int)++n).set (Int.toNat 3) (c.tmod 5)).set (Int.toNat 2) v,d,el,x,a,ins,bu,ba,qu,po,ki,fl,pa,())).1=(wrF (14,xi,(((([]:List Int)++n).set (Int.toNat 3) (c.tmod 5)).set (Int.toNat 2) v).set (Int.toNat 2) 254,d,el,x,a,ins,bu,ba,qu,po,ki,fl,pa,())).1.set (Int.toNat 16) v:=by rw [z3,show wrF (14,xi,((([]:List Int)++n).set (Int.toNat 3) (c.tmod 5)).set (Int.toNat 2) v,d,el,x,a,ins,bu,ba,qu,po,ki,fl,pa,())=_ from p1];rfl
       have r1:Zs_ 14 ((wrF (14,xi,(((([]:List Int)++n).set (Int.toNat 3) (c.tmod 5)).set (Int.toNat 2) v).set (Int.toNat 2) 254,d,el,x,a,ins,bu,ba,qu,po,ki,fl,pa,())).1.set (Int.toNat 16) v)=0:=by rw [z3];exact p2
       have r2:mN (ql_ 14 ((wrF (14,xi,(((([]:List Int)++n).set (Int.toNat 3) (c.tmod 5)).set (Int.toNat 2) v).set (Int.toNat 2) 254,d,el,x,a,ins,bu,ba,qu,po,ki,fl,pa,())).1.set (Int.toNat 16) v))=(n.set 3 (c.tmod 5)).set 2 v:=by rw [z3];exact p3
       have r4:(0:Int)<=2/\(2:Int) < ((mN (ql_ 14 ((wrF (14,xi,(((([]:List Int)++n).set (Int.toNat 3) (c.tmod 5)).set (Int.toNat 2) v).set (Int.toNat 2) 254,d,el,x,a,ins,bu,ba,qu,po,ki,fl,pa,())).1.set (Int.toNat 16) v))).length:Int):=by rw [r2];simp only [List.length_set];omega
       have r5:(mN (ql_ 14 ((wrF (14,xi,(((([]:List Int)++n).set (Int.toNat 3) (c.tmod 5)).set (Int.toNat 2) v).set (Int.toNat 2) 254,d,el,x,a,ins,bu,ba,qu,po,ki,fl,pa,())).1.set (Int.toNat 16) v))).getD (Int.toNat 2) 0=v:=by
        rw [r2,show Int.toNat 2=2 from rfl,List.getD_eq_getElem?_getD,List.getElem?_set_self (by rw [List.length_set,d11];decide)];rfl
       clear dA dB p1 p2 p3 q1 q2 q3
       repeat'(intro t ht;first|(cases t<;>first|(cases ht;done)|(try simp only[zg_]at ht;try(exfalso;first|contradiction|omega)))|((first|refine zb_ ht ?_|refine ht ?_ ?_|refine ht.1 ?_ ?_|refine ht ?_)<;>clear ht))
       all_goals first
        | exact True.intro
        | exact hok
        | exact ⟨hok.1,hok.2.1,l1⟩
        | exact ⟨hok.1,hok.2.1,l2⟩
        | exact l3
        | exact ⟨rfl,rfl⟩
        | (simp only [List.length_nil];omega)
        | (simp only [List.length_set,List.length_append,List.length_nil];omega)
        | ((try simp only [zm_,zn_,zl_] at*);omega)
        | decide
        | exact r4
        | exact absurd r5 ht
        | exact absurd z4 ht
        | (exfalso;rw [decide_eq_true z1] at ht;cases ht)
        | (exfalso;rw [decide_eq_true z1,decide_eq_true (show 3<=c.tmod 5 by omega)] at ht;cases ht)
     ·repeat'(intro t ht;first|(cases t<;>first|(cases ht;done)|(try simp only[zg_]at ht;try(exfalso;first|contradiction|omega)))|((first|refine zb_ ht ?_|refine ht ?_ ?_|refine ht.1 ?_ ?_|refine ht ?_)<;>clear ht))
      all_goals first
       | exact True.intro
       | exact hok
       | exact ⟨rfl,rfl⟩
       | (simp only [List.length_nil];omega)
       | ((try simp only [zm_,zn_,zl_] at*);omega)
    ·repeat'(intro t ht;first|(cases t<;>first|(cases ht;done)|(try simp only[zg_]at ht;try(exfalso;first|contradiction|omega)))|((first|refine zb_ ht ?_|refine ht ?_ ?_|refine ht.1 ?_ ?_|refine ht ?_)<;>clear ht))
     all_goals first
      | exact True.intro
      | exact ⟨rfl,rfl⟩
 ·cases e
end Go.Eng
