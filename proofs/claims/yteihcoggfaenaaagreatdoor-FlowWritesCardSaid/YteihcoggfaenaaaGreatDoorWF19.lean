/- Parts of the proof: H5, H6, K1, H7, K3, K4, K5, K6, K7, P1, V1, V3, V6, M4. No condition. -/
import Derived.Test.YteihcoggfaenaaaGreatDoorProg
import Derived.Test.YteihcoggfaenaaaGreatDoorWF10
import Derived.KernelRfl
import Derived.Test.YteihcoggfaenaaaGreatDoorWF18
import Derived.Test.YteihcoggfaenaaaGreatDoorWF15
import Derived.Test.YteihcoggfaenaaaGreatDoorWF17
namespace Go.Eng
open Go.Proofs
set_option linter.unusedVariables false
set_option linter.unusedSimpArgs false
set_option maxRecDepth 100000
set_option maxHeartbeats 1000000
def rrA (a:AC):Bool:=z4_ (KH_ a.2.2.2.1.1 a.2.2.2.1.2.1 a.2.2.2.1.2.2.1 a.2.2.2.1.2.2.2.1 a.2.2.2.1.2.2.2.2.1 a.2.2.2.1.2.2.2.2.2.1) a.1 a.2.1 a.2.2.1 a.2.2.2.1.1 a.2.2.2.1.2.1 a.2.2.2.1.2.2.1 a.2.2.2.1.2.2.2.1 a.2.2.2.1.2.2.2.2.1 a.2.2.2.1.2.2.2.2.2.1 a.2.2.2.2.1
def erA (a:AC):List Int:=yr_ a.1 a.2.1 a.2.2.1 (Zx_ a.2.2.2.1.1 a.2.2.2.1.2.1 a.2.2.2.1.2.2.1 a.2.2.2.1.2.2.2.1 a.2.2.2.1.2.2.2.2.1 a.2.2.2.1.2.2.2.2.2.1) a.2.2.2.2.1
def bysA (a:AC):Prop:=0<=a.2.2.2.1.2.2.2.1/\(∀ x ∈ a.2.2.2.1.2.2.2.2.1,0<=x/\x<=255)/\(∀ x ∈ a.2.2.2.1.2.2.2.2.2.1,0<=x/\x<=255)/\(∀ x ∈ a.2.2.2.2.1,0<=x/\x<=255)/\(0<=a.2.1/\a.2.1<=18446744073709551615)/\(0<=a.2.2.1/\a.2.2.1<=18446744073709551615)
theorem zmB_ {l:List AC} (h:Ty.wf (.sl Y2) l):∀ o ∈ l,bysA o:=fun o ho=>by
 obtain ⟨h1,h2,h3,⟨g1,g2,g3,g4,g5,g6,_⟩,h5,_⟩:=h.1 o ho
 have u8:∀ {v:List Int},Ty.wf (.sl (.int .u8)) v->∀ x ∈ v,0<=x/\x<=255:=fun {v} hv x hx=>by
  have:=hv.1 x hx;unfold Ty.wf inK at this;rw [zey_,zeB_] at this;exact this
 have u64:∀ {n:Int},Ty.wf (.int .u64) n->0<=n/\n<=18446744073709551615:=fun {n} hn=>by
  unfold Ty.wf inK at hn;rw [Yp_,uy_] at hn;exact hn
 exact ⟨(u64 g4).1,u8 g5,u8 g6,u8 h5,u64 h2,u64 h3⟩
theorem zlP_ {a:AC} (h:bysA a):rrA a=rgA a:=(Ua_ h.1 h.2.1 h.2.2.1).symm
theorem zmq_ {a:AC} (h:rgA a=true):erA a=ebA a:=by
 have:=Hw_ h
 unfold erA ebA yr_;rw [this]
theorem zjB_ {l:List AC} {i:Nat} {d:AC} (h:i < l.length):boA (l.take (i+1))=boA (l.take i)++ebA (l.getD i d):=by
 unfold boA
 rw [<- ks_ (d:=d) h,List.flatMap_append];simp
theorem zmu_ {l:List AC} (h:l.all rgA=true):(boA l).length<=65528*l.length:=by
 obtain ⟨b1,_⟩:=YH_ l h
 have:=zh5_ (l:=l) l.length (Nat.le_refl _)
 rw [zfJ_ (Nat.le_refl _)] at this;omega
def hj_:IR:=
(sq (kr [0] [oD 2 (.nilrow (.int .u8)),
oD 3 (.mov (cI 0))])
(sq (.reg [oD 4 (.nilrow (.int .u8))])
(sq (sq (.reg [oD 5 (.mov (cI 0))])
(.block 0
(.loop
(sq (sq (kr [0,4,5] [oM 8 5,
oM 9 0,
oE 10 9,
oB 11 .lss 8 10])
(.cond 11
.skip
(.exit 0)))
(sq (.block 1
(sq (kr [0,4,5] [oM 15 0,
oM 16 5,
oI 17 10 15 16,
oK 18 10 17,
oC 19 157 [18],
oM 14 19,
oX 20 14 0,
oX 21 14 1,
oM 6 20,
oM 7 21])
(sq (sq (kr [0,4,5,6,7] [oM 22 7,
oB 23 .neq 22 (cI 0)])
(.cond 23
(sq (.reg [oM 24 7,
oD 2 (.nilrow (.int .u8)),
oM 3 24])
.ret)
.skip))
(.reg [oM 25 4,
oM 26 6,
oD 27 (.append (.int .u8) 1 25 26),
oM 4 27]))))
(kr [0,4,5] [oM 12 5,
oB 13 .add 12 (cI 1),
oM 5 13]))))))
(sq (sq (kr [0,4] [oM 28 0,
oE 29 28,
oB 30 .gtr 29 (cI 64),
oM 31 30,
oF 31 32 (.mov 4),
oF 31 33 (.len 32),
oF 31 34 (.bin .gtr 33 (cI 65528)),
oP 35 31 cT 34])
(.cond 35
(sq (kr [] [oD 2 (.nilrow (.int .u8)),
oD 3 (.mov (cI 10001))])
.ret)
.skip))
(sq (kr [4] [oM 36 4,
oM 2 36,
oD 3 (.mov (cI 0))])
.ret)))))
def Gj_:List RD:=[.tmp 2 true (some (.int .u8)),.tmp 3 true none]
theorem GN_:zk_ Tryz.prog Tryz.f128 hj_ Gj_=true:=by kernel_rfl
def wI_:List AV->List Obj->Option (Prop × AV)
 | [.imm ty0 l],[]=>qb_ ty0 Y2 l fun l=>some ((okL l,.tup [.imm (.int .u8) (alL l),.int .i64 (alE l)]))
 | _,_=>none
theorem uQ_:zd_ Tryz.prog 128 (RoF wI_).sum:=by
 refine zi_ Tryz.func128 GN_ (za_ (s:=RoF wJ_) uR_ (zc_ _)) fun args objs p v e=>?_
 unfold wI_ at e
 split at e
 ·rename_i ty0 l
  obtain rfl:=zX_ e
  replace e:=zY_ e
  cases e
  refine ⟨rfl,fun hw ho hp=>?_⟩
  change List AC at l
  have hby:=zmB_ (l:=l) (hw (.imm Y2 l) (by simp))
  clear hw ho
  have hok:=hp
  have hn:=hok.n
  repeat'(intro t ht;first|(cases t<;>first|(cases ht;done)|(try simp only[zg_]at ht))|((first|refine zb_ ht ?_|refine ht ?_ ?_|refine ht.1 ?_ ?_|refine ht ?_)<;>clear ht))
  all_goals first
   | exact True.intro
   | (intro r h1 h2;clear h1;refine h2 ⟨[0,4,5],Nat,(fun i=>i<=l.length/\(l.take i).all rgA=true),fun i=>[.imm Y2 l,.own 0,.int .i64 i],fun i=>[.row false (.int .u8) (boA (l.take i))],fun i=>l.length - i,⟨0,⟨Nat.zero_le _,rfl⟩,rfl,rfl⟩,?_⟩;clear h2)
  rintro i ⟨hi,he⟩
  have hbo:=zmu_ he
  rw [WU_ hi] at hbo
  repeat'(intro t ht;first|(cases t<;>first|(cases ht;done)|(try simp only[zg_]at ht;try(exfalso;first|contradiction|omega)))|((first|refine zb_ ht ?_|refine ht ?_ ?_|refine ht.1 ?_ ?_|refine ht ?_)<;>clear ht))
  all_goals (try generalize (Ty.dflt Y2)=od at*)
  all_goals first
   | exact True.intro
   | ((try simp only [zm_,zn_,zl_] at*);omega)
   | (have hlt:i < l.length:=by omega
      have hq:=zlP_ (hby _ (zu_ hlt od))
      have hlen:=hok.a _ (zu_ hlt od)
      first
       | exact hlen
       | (have hk:rrA (l.getD i od)=false:=by
           cases hk:rrA (l.getD i od) with
           | false=>rfl
           | true=>
             have:(if rrA (l.getD i od)=true then (0:Int) else 10001)=0:=if_pos hk
             first | contradiction | (exfalso;simp_all;done)
          have hno:rgL l=false:=by
           cases h:rgL l with
           | false=>rfl
           | true=>
             have:=List.all_eq_true.1 (q9_ h).1 _ (zu_ hlt od)
             rw [<- hq,hk] at this;cases this
          have e1:(if rrA (l.getD i od)=true then (0:Int) else 10001)=10001:=by rw [hk];rfl
          unfold alL alE;rw [hno]
          refine ⟨congrArg (fun z=>AV.tup [_,AV.int .i64 z]) e1,by first | rfl | exact True.intro⟩)
       | (have hk:rrA (l.getD i od)=true:=by
           cases hk:rrA (l.getD i od) with
           | true=>rfl
           | false=>
             have:(if rrA (l.getD i od)=true then (0:Int) else 10001)=10001:=by rw [hk];rfl
             exfalso;unfold rrA at this hk;simp_all;done
          have hr:rgA (l.getD i od)=true:=hq.symm.trans hk
          have h8:=v6_ hr
          have e1:(if rrA (l.getD i od)=true then erA (l.getD i od) else [])=ebA (l.getD i od):=(if_pos hk).trans (zmq_ hr)
          have e2:(if z4_ (KH_ ((l.getD i od)).2.2.2.1.1 ((l.getD i od)).2.2.2.1.2.1 ((l.getD i od)).2.2.2.1.2.2.1 ((l.getD i od)).2.2.2.1.2.2.2.1 ((l.getD i od)).2.2.2.1.2.2.2.2.1 ((l.getD i od)).2.2.2.1.2.2.2.2.2.1) ((l.getD i od)).1 ((l.getD i od)).2.1 ((l.getD i od)).2.2.1 ((l.getD i od)).2.2.2.1.1 ((l.getD i od)).2.2.2.1.2.1 ((l.getD i od)).2.2.2.1.2.2.1 ((l.getD i od)).2.2.2.1.2.2.2.1 ((l.getD i od)).2.2.2.1.2.2.2.2.1 ((l.getD i od)).2.2.2.1.2.2.2.2.2.1 ((l.getD i od)).2.2.2.2.1=true then yr_ (l.getD i od).1 (l.getD i od).2.1 (l.getD i od).2.2.1 (Zx_ ((l.getD i od)).2.2.2.1.1 ((l.getD i od)).2.2.2.1.2.1 ((l.getD i od)).2.2.2.1.2.2.1 ((l.getD i od)).2.2.2.1.2.2.2.1 ((l.getD i od)).2.2.2.1.2.2.2.2.1 ((l.getD i od)).2.2.2.1.2.2.2.2.2.1) (l.getD i od).2.2.2.2.1 else [])=ebA (l.getD i od):=e1
          first
           | (simp only [zN_,Int.toNat_natCast,e2];constructor<;>omega)
           | (refine ⟨i+1,⟨by omega,Zn_ hlt he hr⟩,by dsimp only;omega,rfl,?_⟩
              dsimp only
              rw [zjB_ (d:=od) hlt]
              simp only [zN_,Int.toNat_natCast,e2];done)))
   | (have hge:l.length<=i:=by omega
      have ha:=ZK_ hge he
      rw [List.take_of_length_le hge] at*
      cases hr:rgL l with
      | true=>
        obtain ⟨_,h2,h3,_⟩:=q9_ hr
        unfold alL alE;rw [hr]
        first
         | (exfalso;omega)
         | exact ⟨rfl,by first | rfl | exact True.intro⟩
      | false=>
        unfold alL alE;rw [hr]
        first
         | exact ⟨rfl,by first | rfl | exact True.intro⟩
         | (exfalso;have:=zlT_ ha (by omega) (by omega);rw [hr] at this;cases this))
 ·cases e
def atL (n:Int) (b:List Int) (p sh e:Int):List AC:=if ZZ_ n b p sh e=0 then adL (Qp_ n b p sh e) else []
def atE (n:Int) (b:List Int) (p sh e:Int):Int:=if ZZ_ n b p sh e=0 then adE (Qp_ n b p sh e) else ZZ_ n b p sh e
theorem zgO_ {n:Int} {b:List Int} {p sh e:Int}:(Qp_ n b p sh e).length<=b.length:=by
 unfold Qp_;split
 ·rw [List.length_drop,List.length_take];omega
 ·simp
def B9_:IR:=
(sq (kr [0,1] [oD 4 (.mov (.c (.imm Y2 [])))])
(sq (.reg [oM 8 0,
oM 9 1,
oC 10 98 [8,9],
oM 5 10])
(sq (sq (.reg [oM 11 0,
oC 12 43 [11],
oB 13 .neq 12 (cI 0)])
(.cond 13
(sq (kr [] [oD 4 (.mov (.c (.imm Y2 [])))])
.ret)
.skip))
(sq (kr [0,5] [oM 15 5,
oC 16 182 [15],
oM 14 16,
oX 17 14 0,
oX 18 14 1,
oM 6 17,
oM 7 18])
(sq (kr [0,6,7] [oM 19 0,
oM 20 7,
oC 21 44 [19,20]])
(sq (.reg [oM 22 6,
oM 4 22])
.ret))))))
def bJ_:List RD:=[.tmp 4 true (some Y2)]
theorem Bm_:zk_ Tryz.prog Tryz.f161 B9_ bJ_=true:=by kernel_rfl
def x6_:List AV->List Obj->Option (Prop × AV × List Obj)
 | [.ptr 0 0,.int .i64 n],[.box [.imm (.int .u8) b,.int .i64 p,.int .i64 sh,.int .i64 od,.int .i64 e,.bool true]]=>some ((0<=p/\p<=b.length/\b.length<=100000000/\sh ≠ 0,.imm Y2 (atL n b p sh e),[.box [.imm (.int .u8) b,.int .i64 (jD_ n b p sh e),.int .i64 sh,.int .i64 od,.int .i64 (atE n b p sh e),.bool true]]))
 | _,_=>none
theorem Gd_:zd_ Tryz.prog 161 (RwF x6_).sum:=by
 refine qa_ Tryz.func161 Bm_ (za_ (s:=RwF zL_) zV_ (za_ (s:=RoF zq_) zr_ (za_ (s:=RoF Jg_) VQ_ (za_ (s:=RwF zs_) zx_ (zc_ _))))) fun args objs p v o e=>?_
 unfold x6_ at e
 split at e
 ·rename_i n b p sh od e
  cases e
  refine ⟨rfl,fun hw ho hp=>?_⟩
  change List Int at b
  clear hw ho
  obtain ⟨h1,h2,h3,h4⟩:=hp
  have hl:=zgO_ (n:=n) (b:=b) (p:=p) (sh:=sh) (e:=e)
  by_cases he:ZZ_ n b p sh e=0
  ·have f0:∀ x,zy_ 0 x=x:=fun x=>if_pos rfl
   have k1:atL n b p sh e=adL (Qp_ n b p sh e):=if_pos he
   have k2:atE n b p sh e=adE (Qp_ n b p sh e):=if_pos he
   rw [k1,k2]
   clear k1 k2
   repeat'(intro t ht;first|(cases t<;>first|(cases ht;done)|(try simp only[zg_]at ht))|((first|refine zb_ ht ?_|refine ht ?_ ?_|refine ht.1 ?_ ?_|refine ht ?_)<;>clear ht))
   all_goals (try simp only [he,f0] at*)
   all_goals first
    | exact True.intro
    | contradiction
    | exact ⟨h1,h2,by omega,h4⟩
    | omega
    | exact ⟨rfl,by first | rfl | exact True.intro⟩
    | exact ⟨True.intro,True.intro⟩
    | (exfalso;simp_all;done)
  ·repeat'(intro t ht;first|(cases t<;>first|(cases ht;done)|(try simp only[zg_]at ht;try(exfalso;first|contradiction|omega)))|((first|refine zb_ ht ?_|refine ht ?_ ?_|refine ht.1 ?_ ?_|refine ht ?_)<;>clear ht))
   all_goals first
    | exact True.intro
    | exact ⟨h1,h2,by omega,h4⟩
    | (unfold atL atE;rw [if_neg he,if_neg he];exact ⟨rfl,by first | rfl | exact True.intro⟩)
    | (exfalso;simp_all;done)
 ·cases e
abbrev BK:=Int × Int × Int × List AC × Unit
instance:DecidableEq (List AC × Unit):=inferInstance
instance:DecidableEq BK:=inferInstance
def w5:List Int:=[2,2,4,4,-4]
structure okB (l:List BK):Prop where
 a:∀ o ∈ l,okL o.2.2.2.1
 n:l.length<=1000000
theorem zfB_ {α:Type} {x:α->List Int} {f:α->Int} {room:Int} (hr:room<=1000000):∀ (r:List α) (l:List Int) (e:Int),l.length<=1000000->(wrS x f room r l e).1.length<=1000000
 | [],l,e,h=>h
 | o :: r,l,e,h=>zfB_ hr r _ _ (Q9_ h hr)
theorem QK_ {e x:Int} (h:e ≠ 0):zy_ e x ≠ 0:=by unfold zy_;rw [if_neg h];exact h
theorem KM_ {x l:List Int} {room e:Int} (h:e ≠ 0):QT_ x l room e ≠ 0:=by unfold QT_;rw [if_neg h];exact h
theorem zkf_ {w xs l:List Int} {room e:Int} (h:e ≠ 0):qK_ w xs l room e ≠ 0:=by
 unfold qK_;split
 ·exact KM_ h
 ·exact QK_ h
theorem zdo_ {α:Type} {x:α->List Int} {f:α->Int} {room:Int}:∀ (r:List α) (l:List Int) (e:Int),e ≠ 0->(wrS x f room r l e).2 ≠ 0
 | [],l,e,h=>h
 | o :: r,l,e,h=>zdo_ r _ _ (KM_ (QK_ h))
theorem zmz_ {x:List AC} {l:List Int} {room e:Int} (h:e ≠ 0):apE x l room e ≠ 0:=by
 unfold apE;split
 ·exact zdo_ _ _ _ h
 ·exact QK_ h
theorem xN_ {x l:List Int} {room:Int} (h:¬ (x.length:Int)<=room - l.length):QT_ x l room 0 ≠ 0:=by
 unfold QT_;rw [if_pos rfl,if_neg h];decide
theorem zaG_ {room:Int}:∀ (r:List AC) (l:List Int),r.all rgA=true->(l.length:Int)<=room->¬ ((l.length:Int)+(boA r).length<=room)->(wrS exA eeA room r l 0).2 ≠ 0
 | [],l,_,h0,h1=>by exfalso;apply h1;show (l.length:Int)+0<=room;omega
 | o :: r,l,h,h0,h1=>by
   rw [List.all_cons,Bool.and_eq_true] at h
   obtain ⟨h2,h3⟩:=zlu_ h.1
   rw [JK_,List.length_append] at h1
   have f0:zy_ 0 0=0:=rfl
   unfold wrS
   rw [h2,h3,f0]
   by_cases hf:((ebA o).length:Int)<=room - l.length
   ·obtain ⟨b1,b2⟩:=xM_ hf
    rw [b1,b2]
    exact zaG_ r _ h.2 (by rw [List.length_append];omega) (by rw [List.length_append];omega)
   ·exact zdo_ _ _ _ (xN_ hf)
def bysU (a:AC):Prop:=0<=a.2.2.2.1.2.2.2.1/\(0<=a.2.1/\a.2.1<=18446744073709551615)/\(0<=a.2.2.1/\a.2.2.1<=18446744073709551615)
theorem zlF_ {a:AC} {rest:List Int} (hr:rgA a=true) (hu:bysU a):acE (ebA a++rest)=0/\vA (ebA a++rest)=a/\tN (ebA a++rest)=(ebA a).length:=by
 obtain ⟨E1,E2,E3,E4,E5,E6,E7,E8,E9,E10,E11,E12⟩:=zmE_ (rest:=rest) (show z4_ (zG_ a.2.2.2.1.1 a.2.2.2.1.2.1 a.2.2.2.1.2.2.1 a.2.2.2.1.2.2.2.1 a.2.2.2.1.2.2.2.2.1 a.2.2.2.1.2.2.2.2.2.1) a.1 a.2.1 a.2.2.1 a.2.2.2.1.1 a.2.2.2.1.2.1 a.2.2.2.1.2.2.1 a.2.2.2.1.2.2.2.1 a.2.2.2.1.2.2.2.2.1 a.2.2.2.1.2.2.2.2.2.1 a.2.2.2.2.1=true from hr) hu.2.1 hu.2.2 hu.1
 have hs:=v6_ hr
 have e:szA a=4+((ZQ_ a.1 a.2.1 a.2.2.1 (Zv_ a.2.2.2.1.1 a.2.2.2.1.2.1 a.2.2.2.1.2.2.1 a.2.2.2.1.2.2.2.1 a.2.2.2.1.2.2.2.2.1 a.2.2.2.1.2.2.2.2.2.1) a.2.2.2.2.1).length:Int):=(Jt_ hr).1
 refine ⟨E1,?_,?_⟩
 ·show (tT _,acA _ 0,acA _ 1,(acS _ _,acS _ _,acH _,acS _ _,acV _ _,acV _ _,()),acD _,())=a
  unfold ebA
  rw [E2,E4,E5,E6,E7,E8,E9,E10,E11,E12]
 ·unfold ebA at hs ⊢
  rw [E3];omega
theorem zgF_:∀ (r acc:List AC),r.all rgA=true->(∀ a ∈ r,bysU a)->acc.length+r.length<=64->alG acc (boA r)=(acc++r,0)
 | [],acc,_,_,_=>by rw [zaw_ (by rfl),List.append_nil]
 | a :: r,acc,h,hu,hl=>by
   rw [List.all_cons,Bool.and_eq_true] at h
   obtain ⟨e1,e2,e3⟩:=zlF_ (rest:=boA r) h.1 (hu a (List.mem_cons_self ..))
   have hs:=v6_ h.1
   rw [List.length_cons] at hl
   have ha:acc++a :: r=(acc++[a])++r:=by rw [List.append_assoc];rfl
   rw [JK_,zft_ (by rw [List.length_append];omega) (by omega) e1 (by rw [e3];omega),e2,e3,Int.toNat_natCast,List.drop_left]
   rw [zgF_ r (acc++[a]) h.2 (fun o ho=>hu o (List.mem_cons_of_mem _ ho)) (by rw [List.length_append,List.length_singleton];omega),<- ha]
theorem zjL_ {l:List AC} (h:rgL l=true) (hu:∀ a ∈ l,bysU a):adL (boA l)=l/\adE (boA l)=0:=by
 obtain ⟨h1,h2,h3,_⟩:=q9_ h
 have hg:=zgF_ l [] h1 hu (by simpa using h2)
 rw [List.nil_append] at hg
 exact (gP_ hg).2 (by omega)
def fwB (x:BK):Bool:=fewL x.2.2.2.1
def fewB (l:List BK):Bool:=l.all fwB && decide (l.length<=20)
def zeS_:IR:=
(sq (kr [0] [oD 2 (.mov cF)])
(sq (sq (.reg [oD 3 (.mov (cI 0))])
(.block 0
(.loop
(sq (sq (kr [0,3] [oM 4 3,
oM 5 0,
oE 6 5,
oB 7 .lss 4 6])
(.cond 7
.skip
(.exit 0)))
(sq (.block 1
(sq (kr [0,3] [oM 10 0,
oM 11 3,
oI 12 4 10 11,
oA 13 3 12,
oL 14 13,
oC 15 19 [14],
oD 16 (.un .not 15)])
(.cond 16
(sq (kr [] [oD 2 (.mov cF)])
.ret)
.skip)))
(kr [0,3] [oM 8 3,
oB 9 .add 8 (cI 1),
oM 3 9]))))))
(sq (kr [0] [oM 17 0,
oE 18 17,
oB 19 .leq 18 (cI 20),
oM 2 19])
.ret)))
def zdO_:List RD:=[.tmp 2 true none]
theorem zeh_:zk_ Tryz.prog Tryz.f21 zeS_ zdO_=true:=by kernel_rfl
def Xu_:List AV->List Obj->Option (Prop × AV)
 | [.imm ty0 l],[]=>qb_ ty0 Y4 l fun l=>some ((True,.bool (fewB l)))
 | _,_=>none
theorem Vd_:zd_ Tryz.prog 21 (RoF Xu_).sum:=by
 refine zi_ Tryz.func21 zeh_ (za_ (s:=RoF JN_) WX_ (zc_ _)) fun args objs p v e=>?_
 unfold Xu_ at e
 split at e
 ·rename_i ty0 l
  obtain rfl:=zX_ e
  replace e:=zY_ e
  cases e
  refine ⟨rfl,fun hw ho hp=>?_⟩
  change List BK at l
  have hl:l.length<=maxLen:=(hw (.imm Y4 l) (by simp)).2
  unfold maxLen at hl
  clear hw ho
  repeat'(intro t ht;first|(cases t<;>first|(cases ht;done)|(try simp only[zg_]at ht))|((first|refine zb_ ht ?_|refine ht ?_ ?_|refine ht.1 ?_ ?_|refine ht ?_)<;>clear ht))
  all_goals first
   | (intro r h1 h2;clear h1;refine h2 ⟨[0,3],Nat,(fun i=>i<=l.length/\(l.take i).all fwB=true),fun i=>[.imm Y4 l,.int .i64 i],fun _=>[],fun i=>l.length - i,⟨0,⟨Nat.zero_le _,rfl⟩,rfl,rfl⟩,?_⟩;clear h2)
  rintro i ⟨hi,he⟩
  repeat'(intro t ht;first|(cases t<;>first|(cases ht;done)|(try simp only[zg_]at ht;try(exfalso;first|contradiction|omega)))|((first|refine zb_ ht ?_|refine ht ?_ ?_|refine ht.1 ?_ ?_|refine ht ?_)<;>clear ht))
  all_goals (try generalize (Ty.dflt Y4)=od at*)
  all_goals first
   | exact True.intro
   | ((try simp only [zm_,zn_,zl_] at*);omega)
   | (have h:=ZK_ (by omega) he
      refine ⟨?_,rfl⟩;unfold fewB;rw [h,Bool.true_and];congr 1;exact decide_eq_decide.2 (by omega))
   | (have hf:fwB (l.getD i od)=true:=by assumption
      exact ⟨i+1,⟨by omega,Zn_ (d:=od) (by omega) he hf⟩,by dsimp only;omega,rfl,rfl⟩)
   | (have hf:fwB (l.getD i od)=false:=by assumption
      have h:fewB l=false:=by unfold fewB;rw [ZA_ (d:=od) (show i < l.length by omega) hf,Bool.false_and]
      refine ⟨?_,rfl⟩;rw [h];done)
   | skip
 ·cases e
abbrev P8:=Int × Int × Int × Int × Int × Int × Int × Int × Unit
abbrev PV:=Int × Int × List Int × P8 × Unit
instance:DecidableEq (Int × Int × Int × Int × Unit):=inferInstance
instance:DecidableEq P8:=inferInstance
instance:DecidableEq PV:=inferInstance
theorem zjH_ {α:Type} {f:α->Bool} {l:List α} {i:Nat} {d:α} (h:i < l.length) (ht:(l.take i).all f=true) (hd:f (l.getD i d)=true):(l.take (i+1)).all f=true:=by
 rw [List.take_succ_eq_append_getElem h,List.all_append,ht,Bool.true_and,List.all_cons,List.all_nil,Bool.and_true]
 rwa [List.getD_eq_getElem?_getD,List.getElem?_eq_getElem h] at hd
theorem zk4_ {α:Type} {f:α->Bool} {l:List α} {i:Nat} (h:l.length<=i) (ht:(l.take i).all f=true):l.all f=true:=by
 rwa [List.take_of_length_le h] at ht
theorem zmA_ {α:Type} {f:α->Bool} {l:List α} {i:Nat} {d:α} (h:i < l.length) (hd:f (l.getD i d)=false):l.all f=false:=by
 rw [List.all_eq_false]
 refine ⟨l.getD i d,zu_ h d,?_⟩
 rw [hd];decide
def fewP (l:List PV):Bool:=decide (l.length<=40) && l.all fun p=>decide (p.2.2.1.length<=100)
def zeP_:IR:=
(sq (kr [0] [oD 2 (.mov cF)])
(sq (sq (.reg [oD 3 (.mov (cI 0))])
(.block 0
(.loop
(sq (sq (kr [0,3] [oM 4 3,
oM 5 0,
oE 6 5,
oB 7 .lss 4 6])
(.cond 7
.skip
(.exit 0)))
(sq (.block 1
(sq (kr [0,3] [oM 10 0,
oM 11 3,
oI 12 11 10 11,
oA 13 2 12,
oL 14 13,
oD 15 (.slen 14),
oB 16 .gtr 15 (cI 100)])
(.cond 16
(sq (kr [] [oD 2 (.mov cF)])
.ret)
.skip)))
(kr [0,3] [oM 8 3,
oB 9 .add 8 (cI 1),
oM 3 9]))))))
(sq (kr [0] [oM 17 0,
oE 18 17,
oB 19 .leq 18 (cI 40),
oM 2 19])
.ret)))
def zdL_:List RD:=[.tmp 2 true none]
theorem zee_:zk_ Tryz.prog Tryz.f24 zeP_ zdL_=true:=by kernel_rfl
def Xs_:List AV->List Obj->Option (Prop × AV)
 | [.imm ty0 l],[]=>qb_ ty0 Y8 l fun l=>some ((True,.bool (fewP l)))
 | _,_=>none
theorem Vb_:zd_ Tryz.prog 24 (RoF Xs_).sum:=by
 refine zi_ Tryz.func24 zee_ (zc_ _) fun args objs p v e=>?_
 unfold Xs_ at e
 split at e
 ·rename_i ty0 l
  obtain rfl:=zX_ e
  replace e:=zY_ e
  cases e
  refine ⟨rfl,fun hw ho hp=>?_⟩
  change List PV at l
  have hl:l.length<=maxLen:=(hw (.imm Y8 l) (by simp)).2
  unfold maxLen at hl
  clear hw ho
  repeat'(intro t ht;first|(cases t<;>first|(cases ht;done)|(try simp only[zg_]at ht))|((first|refine zb_ ht ?_|refine ht ?_ ?_|refine ht.1 ?_ ?_|refine ht ?_)<;>clear ht))
  all_goals first
   | (intro r h1 h2;clear h1;refine h2 ⟨[0,3],Nat,(fun i=>i<=l.length/\((l.take i).all fun p=>decide (p.2.2.1.length<=100))=true),fun i=>[.imm Y8 l,.int .i64 i],fun _=>[],fun i=>l.length - i,⟨0,⟨Nat.zero_le _,rfl⟩,rfl,rfl⟩,?_⟩;clear h2)
  rintro i ⟨hi,he⟩
  repeat'(intro t ht;first|(cases t<;>first|(cases ht;done)|(try simp only[zg_]at ht;try(exfalso;first|contradiction|omega)))|((first|refine zb_ ht ?_|refine ht ?_ ?_|refine ht.1 ?_ ?_|refine ht ?_)<;>clear ht))
  all_goals (try generalize (Ty.dflt Y8)=pd at*)
  all_goals first
   | ((try simp only [zm_,zn_,zl_] at*);omega)
   | (have h:=zk4_ (by omega) he
      refine ⟨?_,rfl⟩;unfold fewP;rw [h,Bool.and_true];congr 1;exact decide_eq_decide.2 (by omega))
   | (have h:fewP l=false:=by
       unfold fewP;rw [zmA_ (d:=pd) (i:=i) (by omega) (decide_eq_false (by omega)),Bool.and_false]
      refine ⟨?_,rfl⟩;rw [h];done)
   | exact ⟨i+1,⟨by omega,zjH_ (d:=pd) (by omega) he (decide_eq_true (by omega))⟩,by dsimp only;omega,rfl,rfl⟩
 ·cases e
abbrev VIn:=Int × Int × Int × List AC × List Int × Unit
instance:DecidableEq (List Int × Unit):=inferInstance
instance:DecidableEq (List AC × List Int × Unit):=inferInstance
instance:DecidableEq (Int × List AC × List Int × Unit):=inferInstance
instance:DecidableEq (Int × Int × List AC × List Int × Unit):=inferInstance
instance:DecidableEq VIn:=inferInstance
abbrev VBd:=Int × Int × Int × Int × List Int × Unit
instance:DecidableEq (List Int × Unit):=inferInstance
instance:DecidableEq (Int × List Int × Unit):=inferInstance
instance:DecidableEq (Int × Int × List Int × Unit):=inferInstance
instance:DecidableEq (Int × Int × Int × List Int × Unit):=inferInstance
instance:DecidableEq VBd:=inferInstance
abbrev VPr:=Int × Int × List Int × Unit
instance:DecidableEq (List Int × Unit):=inferInstance
instance:DecidableEq (Int × List Int × Unit):=inferInstance
instance:DecidableEq VPr:=inferInstance
abbrev VQu:=Int × Int × List VPr × Unit
instance:DecidableEq (List VPr × Unit):=inferInstance
instance:DecidableEq (Int × List VPr × Unit):=inferInstance
instance:DecidableEq VQu:=inferInstance
abbrev VFe:=Int × List Int × List Int × Unit
instance:DecidableEq (List Int × Unit):=inferInstance
instance:DecidableEq (List Int × List Int × Unit):=inferInstance
instance:DecidableEq VFe:=inferInstance
abbrev VTb:=Int × List Int × Int × Int × Int × Int × List VFe × Unit
instance:DecidableEq (List VFe × Unit):=inferInstance
instance:DecidableEq (Int × List VFe × Unit):=inferInstance
instance:DecidableEq (Int × Int × List VFe × Unit):=inferInstance
instance:DecidableEq (Int × Int × Int × List VFe × Unit):=inferInstance
instance:DecidableEq (Int × Int × Int × Int × List VFe × Unit):=inferInstance
instance:DecidableEq (List Int × Int × Int × Int × Int × List VFe × Unit):=inferInstance
instance:DecidableEq VTb:=inferInstance
abbrev VEl:=Int × List Int × Unit
instance:DecidableEq (List Int × Unit):=inferInstance
instance:DecidableEq VEl:=inferInstance
abbrev VPa:=List Int × List (List Int) × List OV × List VIn × List BK × List VBd × List (List Int) × List PV × List VTb × List Int × Unit
instance:DecidableEq (List Int × Unit):=inferInstance
instance:DecidableEq (List VTb × List Int × Unit):=inferInstance
instance:DecidableEq (List PV × List VTb × List Int × Unit):=inferInstance
instance:DecidableEq (List (List Int) × List PV × List VTb × List Int × Unit):=inferInstance
instance:DecidableEq (List VBd × List (List Int) × List PV × List VTb × List Int × Unit):=inferInstance
instance:DecidableEq (List BK × List VBd × List (List Int) × List PV × List VTb × List Int × Unit):=inferInstance
instance:DecidableEq (List VIn × List BK × List VBd × List (List Int) × List PV × List VTb × List Int × Unit):=inferInstance
instance:DecidableEq (List OV × List VIn × List BK × List VBd × List (List Int) × List PV × List VTb × List Int × Unit):=inferInstance
instance:DecidableEq (List (List Int) × List OV × List VIn × List BK × List VBd × List (List Int) × List PV × List VTb × List Int × Unit):=inferInstance
instance:DecidableEq VPa:=inferInstance
abbrev VMs:=Int × Int × List Int × List Int × List VEl × List OV × List AC × List VIn × List BK × List VBd × List VQu × List PV × Int × Int × List VPa × Unit
instance:DecidableEq (List VPa × Unit):=inferInstance
instance:DecidableEq (Int × List VPa × Unit):=inferInstance
instance:DecidableEq (Int × Int × List VPa × Unit):=inferInstance
instance:DecidableEq (List PV × Int × Int × List VPa × Unit):=inferInstance
instance:DecidableEq (List VQu × List PV × Int × Int × List VPa × Unit):=inferInstance
instance:DecidableEq (List VBd × List VQu × List PV × Int × Int × List VPa × Unit):=inferInstance
instance:DecidableEq (List BK × List VBd × List VQu × List PV × Int × Int × List VPa × Unit):=inferInstance
instance:DecidableEq (List VIn × List BK × List VBd × List VQu × List PV × Int × Int × List VPa × Unit):=inferInstance
instance:DecidableEq (List AC × List VIn × List BK × List VBd × List VQu × List PV × Int × Int × List VPa × Unit):=inferInstance
instance:DecidableEq (List OV × List AC × List VIn × List BK × List VBd × List VQu × List PV × Int × Int × List VPa × Unit):=inferInstance
instance:DecidableEq (List VEl × List OV × List AC × List VIn × List BK × List VBd × List VQu × List PV × Int × Int × List VPa × Unit):=inferInstance
instance:DecidableEq (List Int × List VEl × List OV × List AC × List VIn × List BK × List VBd × List VQu × List PV × Int × Int × List VPa × Unit):=inferInstance
instance:DecidableEq (List Int × List Int × List VEl × List OV × List AC × List VIn × List BK × List VBd × List VQu × List PV × Int × Int × List VPa × Unit):=inferInstance
instance:DecidableEq (Int × List Int × List Int × List VEl × List OV × List AC × List VIn × List BK × List VBd × List VQu × List PV × Int × Int × List VPa × Unit):=inferInstance
instance:DecidableEq VMs:=inferInstance
def zco_:IR:=
(sq (kr [0,1] [oD 4 (.mov cF)])
(sq (sq (kr [0,1] [oM 6 0,
oE 7 6,
oM 8 1,
oE 9 8,
oB 10 .neq 7 9])
(.cond 10
(sq (.reg [oD 4 (.mov cF)])
.ret)
.skip))
(sq (sq (kr [0,1] [oD 5 (.mov (cI 0))])
(.block 0
(.loop
(sq (sq (kr [0,1,5] [oM 11 5,
oM 12 0,
oE 13 12,
oB 14 .lss 11 13])
(.cond 14
.skip
(.exit 0)))
(sq (.block 1
(sq (kd [0,1,5] [(oM 17 0,[]),
(oM 18 5,[0]),
(oI 19 1 17 18,[]),
(oL 20 19,[]),
(oM 21 1,[0,0,0,0]),
(oM 22 5,[0,0,0,0,0]),
(oI 23 1 21 22,[2,0,0,0]),
(oL 24 23,[3,0,0,0]),
(oB 25 .neq 20 24,[])])
(.cond 25
(sq (kr [] [oD 4 (.mov cF)])
.ret)
.skip)))
(kr [0,1,5] [oM 15 5,
oB 16 .add 15 (cI 1),
oM 5 16]))))))
(sq (kr [] [oD 4 (.mov cT)])
.ret))))
def zbe_:List RD:=[.tmp 4 true none]
theorem zbI_:zk_ Tryz.prog Tryz.f25 zco_ zbe_=true:=by kernel_rfl
def yC_:List AV->List Obj->Option (Prop × AV)
 | [.imm (.int .u64) a,.imm (.int .u64) b],[]=>some ((True,.bool (decide ((a:List Int)=b))))
 | _,_=>none
theorem HX_:zd_ Tryz.prog 25 (RoF yC_).sum:=by
 refine zi_ Tryz.func25 zbI_ (zc_ _) fun args objs p v e=>?_
 unfold yC_ at e
 split at e
 ·rename_i a b
  cases e
  refine ⟨rfl,fun hw ho hp=>?_⟩
  change List Int at a
  change List Int at b
  change List Int at a
  change List Int at b
  have hl:a.length<=maxLen:=(hw (.imm (.int .u64) a) (by simp)).2
  unfold maxLen at hl
  clear hw ho
  repeat'(intro t ht;first|(cases t<;>first|(cases ht;done)|(try simp only[zg_]at ht))|((first|refine zb_ ht ?_|refine ht ?_ ?_|refine ht.1 ?_ ?_|refine ht ?_)<;>clear ht))
  all_goals first
   | (have hne:a ≠ b:=fun h=>(by assumption:¬ (a.length:Int)=b.length) (by rw [h])
      refine ⟨?_,rfl⟩;rw [decide_eq_false hne];done)
   | (intro r h1 h2;clear h1;refine h2 ⟨[0,1,5],Nat,(fun i=>i<=a.length/\a.take i=b.take i),fun i=>[.imm (.int .u64) a,.imm (.int .u64) b,.int .i64 i],fun _=>[],fun i=>a.length - i,⟨0,⟨Nat.zero_le _,rfl⟩,rfl,rfl⟩,?_⟩;clear h2)
  rintro i ⟨hi,he⟩
  have hl2:a.length=b.length:=by omega
  repeat'(intro t ht;first|(cases t<;>first|(cases ht;done)|(try simp only[zg_]at ht;try(exfalso;first|contradiction|omega)))|((first|refine zb_ ht ?_|refine ht ?_ ?_|refine ht.1 ?_ ?_|refine ht ?_)<;>clear ht))
  all_goals first
   | exact True.intro
   | ((try simp only [zm_,zn_,zl_] at*);omega)
   | (have e:=zlh_ he (by omega) hl2
      refine ⟨?_,rfl⟩;rw [decide_eq_true e];done)
   | (have hne:a ≠ b:=tkNe (d:=0) (i:=i) (by assumption)
      refine ⟨?_,rfl⟩;rw [decide_eq_false hne];done)
   | exact ⟨i+1,⟨by omega,zh1_ he (by omega) hl2 (d:=0) (by assumption)⟩,by (try simp only [zm_,zn_,zl_] at*);omega,rfl,rfl⟩
   | skip
 ·cases e
def fwBd (x:VBd):Bool:=decide (x.2.2.2.2.1.length<=500)
def vB_ (l:List VBd):Bool:=l.all fwBd && decide (l.length<=20)
def zeR_:IR:=
(sq (kr [0] [oD 2 (.mov cF)])
(sq (sq (.reg [oD 3 (.mov (cI 0))])
(.block 0
(.loop
(sq (sq (kr [0,3] [oM 4 3,
oM 5 0,
oE 6 5,
oB 7 .lss 4 6])
(.cond 7
.skip
(.exit 0)))
(sq (.block 1
(sq (kr [0,3] [oM 10 0,
oM 11 3,
oI 12 5 10 11,
oA 13 4 12,
oL 14 13,
oE 15 14,
oB 16 .gtr 15 (cI 500)])
(.cond 16
(sq (kr [] [oD 2 (.mov cF)])
.ret)
.skip)))
(kr [0,3] [oM 8 3,
oB 9 .add 8 (cI 1),
oM 3 9]))))))
(sq (kr [0] [oM 17 0,
oE 18 17,
oB 19 .leq 18 (cI 20),
oM 2 19])
.ret)))
def zdN_:List RD:=[.tmp 2 true none]
theorem zeg_:zk_ Tryz.prog Tryz.f22 zeR_ zdN_=true:=by kernel_rfl
def Xt_:List AV->List Obj->Option (Prop × AV)
 | [.imm (.cons (.int .i64) (.cons (.int .u64) (.cons (.int .u64) (.cons (.int .u64) (.cons (.sl (.int .u8)) .nil))))) l],[]=>some ((True,.bool (vB_ l)))
 | _,_=>none
theorem Vc_:zd_ Tryz.prog 22 (RoF Xt_).sum:=by
 refine zi_ Tryz.func22 zeg_ (zc_ _) fun args objs p v e=>?_
 unfold Xt_ at e
 split at e
 ·rename_i l
  cases e
  refine ⟨rfl,fun hw ho hp=>?_⟩
  change List VBd at l
  have hl:l.length<=maxLen:=(hw (.imm Y5 l) (by simp)).2
  unfold maxLen at hl
  clear hw ho
  repeat'(intro t ht;first|(cases t<;>first|(cases ht;done)|(try simp only[zg_]at ht))|((first|refine zb_ ht ?_|refine ht ?_ ?_|refine ht.1 ?_ ?_|refine ht ?_)<;>clear ht))
  all_goals first
   | (intro r h1 h2;clear h1;refine h2 ⟨[0,3],Nat,(fun i=>i<=l.length/\(l.take i).all fwBd=true),fun i=>[.imm Y5 l,.int .i64 i],fun _=>[],fun i=>l.length - i,⟨0,⟨Nat.zero_le _,rfl⟩,rfl,rfl⟩,?_⟩;clear h2)
  rintro i ⟨hi,he⟩
  repeat'(intro t ht;first|(cases t<;>first|(cases ht;done)|(try simp only[zg_]at ht;try(exfalso;first|contradiction|omega)))|((first|refine zb_ ht ?_|refine ht ?_ ?_|refine ht.1 ?_ ?_|refine ht ?_)<;>clear ht))
  all_goals (try generalize (Ty.dflt Y5)=od at*)
  all_goals first
   | exact True.intro
   | ((try simp only [zm_,zn_,zl_] at*);omega)
   | (have h:=ZK_ (by omega) he
      refine ⟨?_,rfl⟩;unfold vB_;rw [h,Bool.true_and];congr 1;exact decide_eq_decide.2 (by omega))
   | (have hf:fwBd (l.getD i od)=true:=by unfold fwBd;simp only [Bool.and_eq_true,decide_eq_true_eq];omega
      exact ⟨i+1,⟨by omega,Zn_ (d:=od) (by omega) he hf⟩,by dsimp only;omega,rfl,rfl⟩)
   | (have hf:fwBd (l.getD i od)=false:=by unfold fwBd;simp only [Bool.and_eq_false_iff,decide_eq_false_iff_not];first | omega | (left;assumption) | (right;omega) | (left;left;assumption) | (left;right;omega) | (left;omega)
      have h:vB_ l=false:=by unfold vB_;rw [ZA_ (d:=od) (show i < l.length by omega) hf,Bool.false_and]
      refine ⟨?_,rfl⟩;rw [h];done)
   | skip
 ·cases e
def fwIn (x:VIn):Bool:=fewL x.2.2.2.1 && decide (x.2.2.2.2.1.length<=500)
def xH_ (l:List VIn):Bool:=l.all fwIn && decide (l.length<=20)
def zeV_:IR:=
(sq (kr [0] [oD 2 (.mov cF)])
(sq (sq (.reg [oD 3 (.mov (cI 0))])
(.block 0
(.loop
(sq (sq (kr [0,3] [oM 4 3,
oM 5 0,
oE 6 5,
oB 7 .lss 4 6])
(.cond 7
.skip
(.exit 0)))
(sq (.block 1
(sq (kr [0,3] [oM 10 0,
oM 11 3,
oI 12 5 10 11,
oA 13 3 12,
oL 14 13,
oC 15 19 [14],
oD 16 (.un .not 15),
oM 17 16,
oF 17 18 (.mov 0),
oF 17 19 (.mov 3),
oF 17 20 (.indexSl 5 18 19),
oF 17 21 (.fieldAddr 4 20),
oF 17 22 (.load none 21),
oF 17 23 (.len 22),
oF 17 24 (.bin .gtr 23 (cI 500)),
oP 25 17 cT 24])
(.cond 25
(sq (kr [] [oD 2 (.mov cF)])
.ret)
.skip)))
(kr [0,3] [oM 8 3,
oB 9 .add 8 (cI 1),
oM 3 9]))))))
(sq (kr [0] [oM 26 0,
oE 27 26,
oB 28 .leq 27 (cI 20),
oM 2 28])
.ret)))
def zdR_:List RD:=[.tmp 2 true none]
theorem zek_:zk_ Tryz.prog Tryz.f20 zeV_ zdR_=true:=by kernel_rfl
def Xv_:List AV->List Obj->Option (Prop × AV)
 | [.imm ty0 l],[]=>qb_ ty0 Y3 l fun l=>some ((True,.bool (xH_ l)))
 | _,_=>none
theorem Ve_:zd_ Tryz.prog 20 (RoF Xv_).sum:=by
 refine zi_ Tryz.func20 zek_ (za_ (s:=RoF JN_) WX_ (zc_ _)) fun args objs p v e=>?_
 unfold Xv_ at e
 split at e
 ·rename_i ty0 l
  obtain rfl:=zX_ e
  replace e:=zY_ e
  cases e
  refine ⟨rfl,fun hw ho hp=>?_⟩
  change List VIn at l
  have hl:l.length<=maxLen:=(hw (.imm Y3 l) (by simp)).2
  unfold maxLen at hl
  clear hw ho
  repeat'(intro t ht;first|(cases t<;>first|(cases ht;done)|(try simp only[zg_]at ht))|((first|refine zb_ ht ?_|refine ht ?_ ?_|refine ht.1 ?_ ?_|refine ht ?_)<;>clear ht))
  all_goals first
   | (intro r h1 h2;clear h1;refine h2 ⟨[0,3],Nat,(fun i=>i<=l.length/\(l.take i).all fwIn=true),fun i=>[.imm Y3 l,.int .i64 i],fun _=>[],fun i=>l.length - i,⟨0,⟨Nat.zero_le _,rfl⟩,rfl,rfl⟩,?_⟩;clear h2)
  rintro i ⟨hi,he⟩
  repeat'(intro t ht;first|(cases t<;>first|(cases ht;done)|(try simp only[zg_]at ht;try(exfalso;first|contradiction|omega)))|((first|refine zb_ ht ?_|refine ht ?_ ?_|refine ht.1 ?_ ?_|refine ht ?_)<;>clear ht))
  all_goals (try generalize (Ty.dflt Y3)=od at*)
  all_goals first
   | exact True.intro
   | ((try simp only [zm_,zn_,zl_] at*);omega)
   | (have h:=ZK_ (by omega) he
      refine ⟨?_,rfl⟩;unfold xH_;rw [h,Bool.true_and];congr 1;exact decide_eq_decide.2 (by omega))
   | (have hf:fwIn (l.getD i od)=true:=by unfold fwIn;simp only [Bool.and_eq_true,decide_eq_true_eq];exact ⟨by assumption,by omega⟩
      exact ⟨i+1,⟨by omega,Zn_ (d:=od) (by omega) he hf⟩,by dsimp only;omega,rfl,rfl⟩)
   | (have hf:fwIn (l.getD i od)=false:=by unfold fwIn;simp only [Bool.and_eq_false_iff,decide_eq_false_iff_not];first | omega | (left;assumption) | (right;omega) | (left;left;assumption) | (left;right;omega) | (left;omega)
      have h:xH_ l=false:=by unfold xH_;rw [ZA_ (d:=od) (show i < l.length by omega) hf,Bool.false_and]
      refine ⟨?_,rfl⟩;rw [h];done)
   | skip
 ·cases e
def fwPr (x:VPr):Bool:=decide (x.2.2.1.length<=300)
def fwQu (x:VQu):Bool:=x.2.2.1.all fwPr && (decide (x.2.2.1.length<=20))
def yo_ (l:List VQu):Bool:=l.all fwQu && decide (l.length<=20)
def zeQ_:IR:=
(sq (kr [0] [oD 2 (.mov cF)])
(sq (sq (.reg [oD 3 (.mov (cI 0))])
(.block 0
(.loop
(sq (sq (kr [0,3] [oM 5 3,
oM 6 0,
oE 7 6,
oB 8 .lss 5 7])
(.cond 8
.skip
(.exit 0)))
(sq (.block 1
(sq (sq (.reg [oD 4 (.mov (cI 0))])
(.block 2
(.loop
(sq (sq (kr [0,3,4] [oM 11 4,
oM 12 0,
oM 13 3,
oI 14 3 12 13,
oA 15 2 14,
oL 16 15,
oE 17 16,
oB 18 .lss 11 17])
(.cond 18
.skip
(.exit 2)))
(sq (.block 3
(sq (kr [0,3,4] [oM 21 0,
oM 22 3,
oI 23 3 21 22,
oA 24 2 23,
oL 25 24,
oM 26 4,
oI 27 3 25 26,
oA 28 2 27,
oL 29 28,
oE 30 29,
oB 31 .gtr 30 (cI 300)])
(.cond 31
(sq (kr [] [oD 2 (.mov cF)])
.ret)
.skip)))
(kr [0,3,4] [oM 19 4,
oB 20 .add 19 (cI 1),
oM 4 20]))))))
(sq (kr [0,3] [oM 32 0,
oM 33 3,
oI 34 3 32 33,
oA 35 2 34,
oL 36 35,
oE 37 36,
oB 38 .gtr 37 (cI 20)])
(.cond 38
(sq (kr [] [oD 2 (.mov cF)])
.ret)
.skip))))
(kr [0,3] [oM 9 3,
oB 10 .add 9 (cI 1),
oM 3 10]))))))
(sq (kr [0] [oM 39 0,
oE 40 39,
oB 41 .leq 40 (cI 20),
oM 2 41])
.ret)))
def zdM_:List RD:=[.tmp 2 true none]
theorem zef_:zk_ Tryz.prog Tryz.f23 zeQ_ zdM_=true:=by kernel_rfl
def vR_:List AV->List Obj->Option (Prop × AV)
 | [.imm (.cons (.int .u64) (.cons (.int .u64) (.cons (.sl (.cons (.int .i64) (.cons (.int .u64) (.cons (.sl (.int .u8)) .nil)))) .nil))) l],[]=>some ((True,.bool (yo_ l)))
 | _,_=>none
theorem zaP_:zd_ Tryz.prog 23 (RoF vR_).sum:=by
 refine zi_ Tryz.func23 zef_ (zc_ _) fun args objs p v e=>?_
 unfold vR_ at e
 split at e
 ·rename_i l
  cases e
  refine ⟨rfl,fun hw ho hp=>?_⟩
  change List VQu at l
  have hl:l.length<=maxLen:=(hw (.imm Y7 l) (by simp)).2
  have hi2:∀ i,i < l.length->(l.getD i (Ty.dflt Y7)).2.2.1.length<=maxLen:=fun i h=>by have h2:=(hw (.imm Y7 l) (by simp)).1 _ (zu_ h (Ty.dflt Y7));simp only [Ty.wf] at h2;simp_all
  unfold maxLen at hl hi2
  clear hw ho
  repeat'(intro t ht;first|(cases t<;>first|(cases ht;done)|(try simp only[zg_]at ht))|((first|refine zb_ ht ?_|refine ht ?_ ?_|refine ht.1 ?_ ?_|refine ht ?_)<;>clear ht))
  all_goals first
   | (intro r h1 h2;clear h1;refine h2 ⟨[0,3],Nat,(fun i=>i<=l.length/\(l.take i).all fwQu=true),fun i=>[.imm Y7 l,.int .i64 i],fun _=>[],fun i=>l.length - i,⟨0,⟨Nat.zero_le _,rfl⟩,rfl,rfl⟩,?_⟩;clear h2)
  rintro i ⟨hi,he⟩
  repeat'(intro t ht;first|(cases t<;>first|(cases ht;done)|(try simp only[zg_]at ht;try(exfalso;first|contradiction|omega)))|((first|refine zb_ ht ?_|refine ht ?_ ?_|refine ht.1 ?_ ?_|refine ht ?_)<;>clear ht))
  all_goals first
   | exact True.intro
   | ((try simp only [zm_,zn_,zl_] at*);omega)
   | (have h:=ZK_ (by omega) he
      refine ⟨?_,rfl⟩;unfold yo_;rw [h,Bool.true_and];congr 1;exact decide_eq_decide.2 (by omega))
   | (intro r h1 h2;clear h1;refine h2 ⟨[0,3,4],Nat,(fun k=>k<=(l.getD i (Ty.dflt Y7)).2.2.1.length/\((l.getD i (Ty.dflt Y7)).2.2.1.take k).all fwPr=true),fun k=>[.imm Y7 l,.int .i64 i,.int .i64 k],fun _=>[],fun k=>(l.getD i (Ty.dflt Y7)).2.2.1.length - k,⟨0,⟨Nat.zero_le _,rfl⟩,rfl,rfl⟩,?_⟩;clear h2)
   | skip
  have hi3:i < l.length:=by omega
  have hi4:=hi2 i hi3
  rintro k ⟨hk,hke⟩
  repeat'(intro t ht;first|(cases t<;>first|(cases ht;done)|(try simp only[zg_]at ht;try(exfalso;first|contradiction|omega)))|((first|refine zb_ ht ?_|refine ht ?_ ?_|refine ht.1 ?_ ?_|refine ht ?_)<;>clear ht))
  all_goals (try generalize (Ty.dflt Y7)=od at*)
  all_goals (try generalize (Ty.dflt Y6)=pd at*)
  all_goals first
   | exact True.intro
   | ((try simp only [zm_,zn_,zl_] at*);omega)
   | (have hf:fwPr ((l.getD i od).2.2.1.getD k pd)=true:=by unfold fwPr;simp only [Bool.and_eq_true,decide_eq_true_eq];omega
      exact ⟨k+1,⟨by omega,Zn_ (d:=pd) (by omega) hke hf⟩,by dsimp only;omega,rfl,rfl⟩)
   | (have hf:fwPr ((l.getD i od).2.2.1.getD k pd)=false:=by unfold fwPr;simp only [Bool.and_eq_false_iff,decide_eq_false_iff_not];omega
      have hg:fwQu (l.getD i od)=false:=by unfold fwQu;rw [ZA_ (d:=pd) (by omega) hf,Bool.false_and]
      have h:yo_ l=false:=by unfold yo_;rw [ZA_ (d:=od) hi3 hg,Bool.false_and]
      refine ⟨?_,rfl⟩;rw [h];done)
   | (have ha:=ZK_ (by omega) hke
      have hg:fwQu (l.getD i od)=true:=by unfold fwQu;rw [ha,Bool.true_and];simp only [Bool.and_eq_true,decide_eq_true_eq];omega
      exact ⟨i+1,⟨by omega,Zn_ (d:=od) hi3 he hg⟩,by dsimp only;omega,rfl,rfl⟩)
   | (have hg:fwQu (l.getD i od)=false:=by unfold fwQu;rw [Bool.and_eq_false_iff];right;simp only [Bool.and_eq_false_iff,decide_eq_false_iff_not];omega
      have h:yo_ l=false:=by unfold yo_;rw [ZA_ (d:=od) hi3 hg,Bool.false_and]
      refine ⟨?_,rfl⟩;rw [h];done)
   | skip
 ·cases e
def fwFe (x:VFe):Bool:=decide (x.2.1.length<=100) && decide (x.2.2.1.length<=300)
def fwTb (x:VTb):Bool:=x.2.2.2.2.2.2.1.all fwFe && (decide (x.2.2.2.2.2.2.1.length<=20) && decide (x.2.1.length<=100))
def yn_ (l:List VTb):Bool:=l.all fwTb && decide (l.length<=12)
def zeO_:IR:=
(sq (kr [0] [oD 2 (.mov cF)])
(sq (sq (.reg [oD 3 (.mov (cI 0))])
(.block 0
(.loop
(sq (sq (kr [0,3] [oM 5 3,
oM 6 0,
oE 7 6,
oB 8 .lss 5 7])
(.cond 8
.skip
(.exit 0)))
(sq (.block 1
(sq (sq (.reg [oD 4 (.mov (cI 0))])
(.block 2
(.loop
(sq (sq (kr [0,3,4] [oM 11 4,
oM 12 0,
oM 13 3,
oI 14 7 12 13,
oA 15 6 14,
oL 16 15,
oE 17 16,
oB 18 .lss 11 17])
(.cond 18
.skip
(.exit 2)))
(sq (.block 3
(sq (kr [0,3,4] [oM 21 0,
oM 22 3,
oI 23 7 21 22,
oA 24 6 23,
oL 25 24,
oM 26 4,
oI 27 3 25 26,
oA 28 1 27,
oL 29 28,
oE 30 29,
oB 31 .gtr 30 (cI 100),
oM 32 31,
oF 32 33 (.mov 0),
oF 32 34 (.mov 3),
oF 32 35 (.indexSl 7 33 34),
oF 32 36 (.fieldAddr 6 35),
oF 32 37 (.load none 36),
oF 32 38 (.mov 4),
oF 32 39 (.indexSl 3 37 38),
oF 32 40 (.fieldAddr 2 39),
oF 32 41 (.load none 40),
oF 32 42 (.len 41),
oF 32 43 (.bin .gtr 42 (cI 300)),
oP 44 32 cT 43])
(.cond 44
(sq (kr [] [oD 2 (.mov cF)])
.ret)
.skip)))
(kr [0,3,4] [oM 19 4,
oB 20 .add 19 (cI 1),
oM 4 20]))))))
(sq (kr [0,3] [oM 45 0,
oM 46 3,
oI 47 7 45 46,
oA 48 6 47,
oL 49 48,
oE 50 49,
oB 51 .gtr 50 (cI 20),
oM 52 51,
oF 52 53 (.mov 0),
oF 52 54 (.mov 3),
oF 52 55 (.indexSl 7 53 54),
oF 52 56 (.fieldAddr 1 55),
oF 52 57 (.load none 56),
oF 52 58 (.slen 57),
oF 52 59 (.bin .gtr 58 (cI 100)),
oP 60 52 cT 59])
(.cond 60
(sq (kr [] [oD 2 (.mov cF)])
.ret)
.skip))))
(kr [0,3] [oM 9 3,
oB 10 .add 9 (cI 1),
oM 3 10]))))))
(sq (kr [0] [oM 61 0,
oE 62 61,
oB 63 .leq 62 (cI 12),
oM 2 63])
.ret)))
def zdK_:List RD:=[.tmp 2 true none]
theorem zed_:zk_ Tryz.prog Tryz.f61 zeO_ zdK_=true:=by kernel_rfl
def vQ_:List AV->List Obj->Option (Prop × AV)
 | [.imm ty0 l],[]=>qb_ ty0 YA l fun l=>some ((True,.bool (yn_ l)))
 | _,_=>none
theorem zaO_:zd_ Tryz.prog 61 (RoF vQ_).sum:=by
 refine zi_ Tryz.func61 zed_ (zc_ _) fun args objs p v e=>?_
 unfold vQ_ at e
 split at e
 ·rename_i ty0 l
  obtain rfl:=zX_ e
  replace e:=zY_ e
  cases e
  refine ⟨rfl,fun hw ho hp=>?_⟩
  change List VTb at l
  have hl:l.length<=maxLen:=(hw (.imm YA l) (by simp)).2
  have hi2:∀ i,i < l.length->(l.getD i (Ty.dflt YA)).2.2.2.2.2.2.1.length<=maxLen:=fun i h=>by have h2:=(hw (.imm YA l) (by simp)).1 _ (zu_ h (Ty.dflt YA));simp only [Ty.wf] at h2;simp_all
  unfold maxLen at hl hi2
  clear hw ho
  repeat'(intro t ht;first|(cases t<;>first|(cases ht;done)|(try simp only[zg_]at ht))|((first|refine zb_ ht ?_|refine ht ?_ ?_|refine ht.1 ?_ ?_|refine ht ?_)<;>clear ht))
  all_goals first
   | (intro r h1 h2;clear h1;refine h2 ⟨[0,3],Nat,(fun i=>i<=l.length/\(l.take i).all fwTb=true),fun i=>[.imm YA l,.int .i64 i],fun _=>[],fun i=>l.length - i,⟨0,⟨Nat.zero_le _,rfl⟩,rfl,rfl⟩,?_⟩;clear h2)
  rintro i ⟨hi,he⟩
  repeat'(intro t ht;first|(cases t<;>first|(cases ht;done)|(try simp only[zg_]at ht;try(exfalso;first|contradiction|omega)))|((first|refine zb_ ht ?_|refine ht ?_ ?_|refine ht.1 ?_ ?_|refine ht ?_)<;>clear ht))
  all_goals first
   | exact True.intro
   | ((try simp only [zm_,zn_,zl_] at*);omega)
   | (have h:=ZK_ (by omega) he
      refine ⟨?_,rfl⟩;unfold yn_;rw [h,Bool.true_and];congr 1;exact decide_eq_decide.2 (by omega))
   | (intro r h1 h2;clear h1;refine h2 ⟨[0,3,4],Nat,(fun k=>k<=(l.getD i (Ty.dflt YA)).2.2.2.2.2.2.1.length/\((l.getD i (Ty.dflt YA)).2.2.2.2.2.2.1.take k).all fwFe=true),fun k=>[.imm YA l,.int .i64 i,.int .i64 k],fun _=>[],fun k=>(l.getD i (Ty.dflt YA)).2.2.2.2.2.2.1.length - k,⟨0,⟨Nat.zero_le _,rfl⟩,rfl,rfl⟩,?_⟩;clear h2)
   | skip
  have hi3:i < l.length:=by omega
  have hi4:=hi2 i hi3
  rintro k ⟨hk,hke⟩
  repeat'(intro t ht;first|(cases t<;>first|(cases ht;done)|(try simp only[zg_]at ht;try(exfalso;first|contradiction|omega)))|((first|refine zb_ ht ?_|refine ht ?_ ?_|refine ht.1 ?_ ?_|refine ht ?_)<;>clear ht))
  all_goals (try generalize (Ty.dflt YA)=od at*)
  all_goals (try generalize (Ty.dflt Y9)=pd at*)
  all_goals first
   | exact True.intro
   | ((try simp only [zm_,zn_,zl_] at*);omega)
   | (have hf:fwFe ((l.getD i od).2.2.2.2.2.2.1.getD k pd)=true:=by unfold fwFe;simp only [Bool.and_eq_true,decide_eq_true_eq];omega
      exact ⟨k+1,⟨by omega,Zn_ (d:=pd) (by omega) hke hf⟩,by dsimp only;omega,rfl,rfl⟩)
   | (have hf:fwFe ((l.getD i od).2.2.2.2.2.2.1.getD k pd)=false:=by unfold fwFe;simp only [Bool.and_eq_false_iff,decide_eq_false_iff_not];omega
      have hg:fwTb (l.getD i od)=false:=by unfold fwTb;rw [ZA_ (d:=pd) (by omega) hf,Bool.false_and]
      have h:yn_ l=false:=by unfold yn_;rw [ZA_ (d:=od) hi3 hg,Bool.false_and]
      refine ⟨?_,rfl⟩;rw [h];done)
   | (have ha:=ZK_ (by omega) hke
      have hg:fwTb (l.getD i od)=true:=by unfold fwTb;rw [ha,Bool.true_and];simp only [Bool.and_eq_true,decide_eq_true_eq];omega
      exact ⟨i+1,⟨by omega,Zn_ (d:=od) hi3 he hg⟩,by dsimp only;omega,rfl,rfl⟩)
   | (have hg:fwTb (l.getD i od)=false:=by unfold fwTb;rw [Bool.and_eq_false_iff];right;simp only [Bool.and_eq_false_iff,decide_eq_false_iff_not];omega
      have h:yn_ l=false:=by unfold yn_;rw [ZA_ (d:=od) hi3 hg,Bool.false_and]
      refine ⟨?_,rfl⟩;rw [h];done)
   | skip
 ·cases e
def BC_ (x:List Int):Bool:=decide (x.length<=400)
def zga_ (x:List Int):Bool:=decide (x.length<=30)
def fwPa (p:VPa):Bool:=p.2.1.all BC_ && (p.2.2.2.2.2.2.1.all zga_ && (decide (p.1.length<=60) && decide (p.2.1.length<=20) && decide (p.2.2.2.2.2.2.1.length<=40) && decide (p.2.2.2.2.2.2.2.2.2.1.length<=2000) && fewO p.2.2.1 && xH_ p.2.2.2.1 && fewB p.2.2.2.2.1 && vB_ p.2.2.2.2.2.1 && fewP p.2.2.2.2.2.2.2.1 && yn_ p.2.2.2.2.2.2.2.2.1))
def U6_:IR:=
(sq (kr [0] [oD 1 (.boxv 0),
oD 2 (.mov cF)])
(sq (sq (.reg [oD 3 (.mov (cI 0))])
(.block 0
(.loop
(sq (sq (kr [1,3] [oM 5 3,
oA 6 1 1,
oL 7 6,
oE 8 7,
oB 9 .lss 5 8])
(.cond 9
.skip
(.exit 0)))
(sq (.block 1
(sq (kr [1,3] [oA 12 1 1,
oL 13 12,
oM 14 3,
oI 15 1 13 14,
oL 16 15,
oD 17 (.slen 16),
oB 18 .gtr 17 (cI 400)])
(.cond 18
(sq (kr [] [oD 2 (.mov cF)])
.ret)
.skip)))
(kr [1,3] [oM 10 3,
oB 11 .add 10 (cI 1),
oM 3 11]))))))
(sq (sq (kr [1] [oD 4 (.mov (cI 0))])
(.block 2
(.loop
(sq (sq (kr [1,4] [oM 19 4,
oA 20 6 1,
oL 21 20,
oE 22 21,
oB 23 .lss 19 22])
(.cond 23
.skip
(.exit 2)))
(sq (.block 3
(sq (kr [1,4] [oA 26 6 1,
oL 27 26,
oM 28 4,
oI 29 1 27 28,
oL 30 29,
oE 31 30,
oB 32 .gtr 31 (cI 30)])
(.cond 32
(sq (kr [] [oD 2 (.mov cF)])
.ret)
.skip)))
(kr [1,4] [oM 24 4,
oB 25 .add 24 (cI 1),
oM 4 25]))))))
(sq (kr [1] [oA 33 0 1,
oL 34 33,
oE 35 34,
oB 36 .leq 35 (cI 60),
oM 37 36,
oT 37 38 (.fieldAddr 1 1),
oT 37 39 (.load none 38),
oT 37 40 (.len 39),
oT 37 41 (.bin .leq 40 (cI 20)),
oP 42 37 41 cF,
oM 43 42,
oT 43 44 (.fieldAddr 6 1),
oT 43 45 (.load none 44),
oT 43 46 (.len 45),
oT 43 47 (.bin .leq 46 (cI 40)),
oP 48 43 47 cF,
oM 49 48,
oT 49 50 (.fieldAddr 9 1),
oT 49 51 (.load none 50),
oT 49 52 (.len 51),
oT 49 53 (.bin .leq 52 (cI 2000)),
oP 54 49 53 cF,
oM 55 54,
oT 55 56 (.fieldAddr 2 1),
oT 55 57 (.load none 56),
oT 55 58 (.call false (.f 18) [57]),
oP 59 55 58 cF,
oM 60 59,
oT 60 61 (.fieldAddr 3 1),
oT 60 62 (.load none 61),
oT 60 63 (.call false (.f 20) [62]),
oP 64 60 63 cF,
oM 65 64,
oT 65 66 (.fieldAddr 4 1),
oT 65 67 (.load none 66),
oT 65 68 (.call false (.f 21) [67]),
oP 69 65 68 cF,
oM 70 69,
oT 70 71 (.fieldAddr 5 1),
oT 70 72 (.load none 71),
oT 70 73 (.call false (.f 22) [72]),
oP 74 70 73 cF,
oM 75 74,
oT 75 76 (.fieldAddr 7 1),
oT 75 77 (.load none 76),
oT 75 78 (.call false (.f 24) [77]),
oP 79 75 78 cF,
oM 80 79,
oT 80 81 (.fieldAddr 8 1),
oT 80 82 (.load none 81),
oT 80 83 (.call false (.f 61) [82]),
oP 84 80 83 cF,
oM 2 84])
.ret))))
def Ue_:List RD:=[.tmp 2 true none]
theorem UH_:zk_ Tryz.prog Tryz.f17 U6_ Ue_=true:=by kernel_rfl
def j9_:List AV->List Obj->Option (Prop × AV)
 | [.agg zz0],[]=>XU_ YC zz0 fun ⟨a0,a1,a2,a3,a4,a5,a6,a7,a8,a9,_⟩=>some ((True,.bool (fwPa (a0,a1,a2,a3,a4,a5,a6,a7,a8,a9,()))))
 | _,_=>none
theorem VH_:zd_ Tryz.prog 17 (RoF j9_).sum:=by
 refine zi_ Tryz.func17 UH_ (za_ (s:=RoF Xw_) Vf_ (za_ (s:=RoF Xv_) Ve_ (za_ (s:=RoF Xu_) Vd_ (za_ (s:=RoF Xt_) Vc_ (za_ (s:=RoF Xs_) Vb_ (za_ (s:=RoF vQ_) zaO_ (zc_ _))))))) fun args objs p v e=>?_
 unfold j9_ at e
 split at e
 ·rename_i zz0
  replace e:=Kj_ e
  obtain ⟨⟨a0,a1,a2,a3,a4,a5,a6,a7,a8,a9,_⟩,hz,e⟩:=e
  replace hz:zz0=[.imm (.int .u64) a0,.imm .str a1,.imm Y1 a2,.imm Y3 a3,.imm Y4 a4,.imm Y5 a5,.imm (.sl (.int .u64)) a6,.imm Y8 a7,.imm YA a8,.imm (.int .u8) a9]:=hz
  subst hz
  cases e
  refine ⟨rfl,fun hw ho hp=>?_⟩
  change List Int at a0
  change List Int at a9
  change List (List Int) at a1
  change List (List Int) at a6
  have hl1:a1.length<=maxLen:=(hw _ (List.mem_cons_self ..) (.imm .str a1) (by simp)).2
  have hl6:a6.length<=maxLen:=(hw _ (List.mem_cons_self ..) (.imm (.sl (.int .u64)) a6) (by simp)).2
  unfold maxLen at hl1 hl6
  clear hw ho
  repeat'(intro t ht;first|(cases t<;>first|(cases ht;done)|(try simp only[zg_]at ht))|((first|refine zb_ ht ?_|refine ht ?_ ?_|refine ht.1 ?_ ?_|refine ht ?_)<;>clear ht))
  all_goals first
   | (intro r h1 h2;clear h1;refine h2 ⟨[1,3],Nat,(fun i=>i<=a1.length/\(a1.take i).all BC_=true),fun i=>[.ptr 0 0,.int .i64 i],fun _=>[.box [.imm (.int .u64) a0,.imm .str a1,.imm Y1 a2,.imm Y3 a3,.imm Y4 a4,.imm Y5 a5,.imm (.sl (.int .u64)) a6,.imm Y8 a7,.imm YA a8,.imm (.int .u8) a9]],fun i=>a1.length - i,⟨0,⟨Nat.zero_le _,rfl⟩,rfl,rfl⟩,?_⟩;clear h2)
   | skip
  rintro i ⟨hi,he⟩
  repeat'(intro t ht;first|(cases t<;>first|(cases ht;done)|(try simp only[zg_]at ht;try(exfalso;first|contradiction|omega)))|((first|refine zb_ ht ?_|refine ht ?_ ?_|refine ht.1 ?_ ?_|refine ht ?_)<;>clear ht))
  all_goals (try generalize (Ty.dflt .str)=od at*)
  all_goals first
   | exact True.intro
   | ((try simp only [zm_,zn_,zl_] at*);omega)
   | (have hf:BC_ (a1.getD i od)=true:=decide_eq_true (by omega)
      exact ⟨i+1,⟨by omega,Zn_ (d:=od) (by omega) he hf⟩,by dsimp only;omega,rfl,rfl⟩)
   | (have hf:BC_ (a1.getD i od)=false:=decide_eq_false (by omega)
      refine ⟨?_,rfl⟩;unfold fwPa;rw [ZA_ (d:=od) (show i < a1.length by omega) hf,Bool.false_and];done)
   | (intro r h1 h2;clear h1;refine h2 ⟨[1,4],Nat,(fun i=>i<=a6.length/\(a6.take i).all zga_=true),fun i=>[.ptr 0 0,.int .i64 i],fun _=>[.box [.imm (.int .u64) a0,.imm .str a1,.imm Y1 a2,.imm Y3 a3,.imm Y4 a4,.imm Y5 a5,.imm (.sl (.int .u64)) a6,.imm Y8 a7,.imm YA a8,.imm (.int .u8) a9]],fun i=>a6.length - i,⟨0,⟨Nat.zero_le _,rfl⟩,rfl,rfl⟩,?_⟩;clear h2)
   | skip
  have h1:=ZK_ (by omega) he
  rintro j ⟨hj,hje⟩
  repeat'(intro t ht;first|(cases t<;>first|(cases ht;done)|(try simp only[zg_]at ht;try(exfalso;first|contradiction|omega)))|((first|refine zb_ ht ?_|refine ht ?_ ?_|refine ht.1 ?_ ?_|refine ht ?_)<;>clear ht))
  all_goals (try generalize (Ty.dflt (.sl (.int .u64)))=od at*)
  all_goals first
   | exact True.intro
   | ((try simp only [zm_,zn_,zl_] at*);omega)
   | (have hf:zga_ (a6.getD j od)=true:=decide_eq_true (by omega)
      exact ⟨j+1,⟨by omega,Zn_ (d:=od) (by omega) hje hf⟩,by dsimp only;omega,rfl,rfl⟩)
   | (have hf:zga_ (a6.getD j od)=false:=decide_eq_false (by omega)
      refine ⟨?_,rfl⟩;unfold fwPa;rw [h1,ZA_ (d:=od) (show j < a6.length by omega) hf,Bool.false_and,Bool.and_false];done)
   | (have h6:=ZK_ (by omega) hje
      refine ⟨congrArg AV.bool ?_,rfl⟩;unfold fwPa;rw [h1,h6,Bool.true_and,Bool.true_and];dsimp only;first | (rw [decide_eq_false (show ¬ a0.length<=60 by omega)];simp;done) | (rw [decide_eq_false (show ¬ a1.length<=20 by omega)];simp;done) | (rw [decide_eq_false (show ¬ a6.length<=40 by omega)];simp;done) | (rw [decide_eq_false (show ¬ a9.length<=2000 by omega)];simp;done) | (simp_all;done) | (rw [decide_eq_true (show a0.length<=60 by omega),decide_eq_true (show a1.length<=20 by omega),decide_eq_true (show a6.length<=40 by omega),decide_eq_true (show a9.length<=2000 by omega)];simp [zN_, *];done))
   | skip
 ·cases e
def uz_ (x:VEl):Bool:=decide (x.2.1.length<=500)
def fwMs (p:VMs):Bool:=p.2.2.2.2.1.all uz_ && (p.2.2.2.2.2.2.2.2.2.2.2.2.2.2.1.all fwPa && (decide (p.2.2.1.length<=60) && decide (p.2.2.2.1.length<=3000) && decide (p.2.2.2.2.1.length<=20) && decide (p.2.2.2.2.2.2.2.2.2.2.2.2.2.2.1.length<=12) && fewO p.2.2.2.2.2.1 && fewL p.2.2.2.2.2.2.1 && xH_ p.2.2.2.2.2.2.2.1 && fewB p.2.2.2.2.2.2.2.2.1 && vB_ p.2.2.2.2.2.2.2.2.2.1 && yo_ p.2.2.2.2.2.2.2.2.2.2.1 && fewP p.2.2.2.2.2.2.2.2.2.2.2.1))
def zeN_:IR:=
(sq (kr [0] [oD 1 (.boxv 0),
oD 2 (.mov cF)])
(sq (sq (.reg [oD 3 (.mov (cI 0))])
(.block 0
(.loop
(sq (sq (kr [1,3] [oM 5 3,
oA 6 4 1,
oL 7 6,
oE 8 7,
oB 9 .lss 5 8])
(.cond 9
.skip
(.exit 0)))
(sq (.block 1
(sq (kr [1,3] [oA 12 4 1,
oL 13 12,
oM 14 3,
oI 15 2 13 14,
oA 16 1 15,
oL 17 16,
oE 18 17,
oB 19 .gtr 18 (cI 500)])
(.cond 19
(sq (kr [] [oD 2 (.mov cF)])
.ret)
.skip)))
(kr [1,3] [oM 10 3,
oB 11 .add 10 (cI 1),
oM 3 11]))))))
(sq (sq (kr [1] [oD 4 (.mov (cI 0))])
(.block 2
(.loop
(sq (sq (kr [1,4] [oM 20 4,
oA 21 14 1,
oL 22 21,
oE 23 22,
oB 24 .lss 20 23])
(.cond 24
.skip
(.exit 2)))
(sq (.block 3
(sq (kr [1,4] [oA 27 14 1,
oL 28 27,
oM 29 4,
oI 30 10 28 29,
oK 31 10 30,
oC 32 17 [31],
oD 33 (.un .not 32)])
(.cond 33
(sq (kr [] [oD 2 (.mov cF)])
.ret)
.skip)))
(kr [1,4] [oM 25 4,
oB 26 .add 25 (cI 1),
oM 4 26]))))))
(sq (kr [1] [oA 34 2 1,
oL 35 34,
oE 36 35,
oB 37 .leq 36 (cI 60),
oM 38 37,
oT 38 39 (.fieldAddr 3 1),
oT 38 40 (.load none 39),
oT 38 41 (.len 40),
oT 38 42 (.bin .leq 41 (cI 3000)),
oP 43 38 42 cF,
oM 44 43,
oT 44 45 (.fieldAddr 4 1),
oT 44 46 (.load none 45),
oT 44 47 (.len 46),
oT 44 48 (.bin .leq 47 (cI 20)),
oP 49 44 48 cF,
oM 50 49,
oT 50 51 (.fieldAddr 14 1),
oT 50 52 (.load none 51),
oT 50 53 (.len 52),
oT 50 54 (.bin .leq 53 (cI 12)),
oP 55 50 54 cF,
oM 56 55,
oT 56 57 (.fieldAddr 5 1),
oT 56 58 (.load none 57),
oT 56 59 (.call false (.f 18) [58]),
oP 60 56 59 cF,
oM 61 60,
oT 61 62 (.fieldAddr 6 1),
oT 61 63 (.load none 62),
oT 61 64 (.call false (.f 19) [63]),
oP 65 61 64 cF,
oM 66 65,
oT 66 67 (.fieldAddr 7 1),
oT 66 68 (.load none 67),
oT 66 69 (.call false (.f 20) [68]),
oP 70 66 69 cF,
oM 71 70,
oT 71 72 (.fieldAddr 8 1),
oT 71 73 (.load none 72),
oT 71 74 (.call false (.f 21) [73]),
oP 75 71 74 cF,
oM 76 75,
oT 76 77 (.fieldAddr 9 1),
oT 76 78 (.load none 77),
oT 76 79 (.call false (.f 22) [78]),
oP 80 76 79 cF,
oM 81 80,
oT 81 82 (.fieldAddr 10 1),
oT 81 83 (.load none 82),
oT 81 84 (.call false (.f 23) [83]),
oP 85 81 84 cF,
oM 86 85,
oT 86 87 (.fieldAddr 11 1),
oT 86 88 (.load none 87),
oT 86 89 (.call false (.f 24) [88]),
oP 90 86 89 cF,
oM 2 90])
.ret))))
def zdJ_:List RD:=[.tmp 2 true none]
theorem zec_:zk_ Tryz.prog Tryz.f7 zeN_ zdJ_=true:=by kernel_rfl
def vP_:List AV->List Obj->Option (Prop × AV)
 | [.agg zz0],[]=>XU_ YD zz0 fun ⟨a0,a1,a2,a3,a4,a5,a6,a7,a8,a9,a10,a11,a12,a13,a14,_⟩=>some ((True,.bool (fwMs (a0,a1,a2,a3,a4,a5,a6,a7,a8,a9,a10,a11,a12,a13,a14,()))))
 | _,_=>none
theorem zaN_:zd_ Tryz.prog 7 (RoF vP_).sum:=by
 refine zi_ Tryz.func7 zec_ (za_ (s:=RoF j9_) VH_ (za_ (s:=RoF Xw_) Vf_ (za_ (s:=RoF JN_) WX_ (za_ (s:=RoF Xv_) Ve_ (za_ (s:=RoF Xu_) Vd_ (za_ (s:=RoF Xt_) Vc_ (za_ (s:=RoF vR_) zaP_ (za_ (s:=RoF Xs_) Vb_ (zc_ _))))))))) fun args objs p v e=>?_
 unfold vP_ at e
 split at e
 ·rename_i zz0
  replace e:=Kj_ e
  obtain ⟨⟨a0,a1,a2,a3,a4,a5,a6,a7,a8,a9,a10,a11,a12,a13,a14,_⟩,hz,e⟩:=e
  replace hz:zz0=[.int .i64 a0,.int .u32 a1,.imm (.int .u64) a2,.imm (.int .u8) a3,.imm YB a4,.imm Y1 a5,.imm Y2 a6,.imm Y3 a7,.imm Y4 a8,.imm Y5 a9,.imm Y7 a10,.imm Y8 a11,.int .i64 a12,.int .i64 a13,.imm YC a14]:=hz
  subst hz
  change Int at a0
  change Int at a1
  change Int at a12
  change Int at a13
  cases e
  refine ⟨rfl,fun hw ho hp=>?_⟩
  change List Int at a2
  change List Int at a3
  change List VEl at a4
  change List VPa at a14
  have hl1:a4.length<=maxLen:=(hw _ (List.mem_cons_self ..) (.imm YB a4) (by simp)).2
  have hl6:a14.length<=maxLen:=(hw _ (List.mem_cons_self ..) (.imm YC a14) (by simp)).2
  unfold maxLen at hl1 hl6
  clear hw ho
  repeat'(intro t ht;first|(cases t<;>first|(cases ht;done)|(try simp only[zg_]at ht))|((first|refine zb_ ht ?_|refine ht ?_ ?_|refine ht.1 ?_ ?_|refine ht ?_)<;>clear ht))
  all_goals first
   | (intro r h1 h2;clear h1;refine h2 ⟨[1,3],Nat,(fun i=>i<=a4.length/\(a4.take i).all uz_=true),fun i=>[.ptr 0 0,.int .i64 i],fun _=>[.box [.int .i64 a0,.int .u32 a1,.imm (.int .u64) a2,.imm (.int .u8) a3,.imm YB a4,.imm Y1 a5,.imm Y2 a6,.imm Y3 a7,.imm Y4 a8,.imm Y5 a9,.imm Y7 a10,.imm Y8 a11,.int .i64 a12,.int .i64 a13,.imm YC a14]],fun i=>a4.length - i,⟨0,⟨Nat.zero_le _,rfl⟩,rfl,rfl⟩,?_⟩;clear h2)
   | skip
  rintro i ⟨hi,he⟩
  repeat'(intro t ht;first|(cases t<;>first|(cases ht;done)|(try simp only[zg_]at ht;try(exfalso;first|contradiction|omega)))|((first|refine zb_ ht ?_|refine ht ?_ ?_|refine ht.1 ?_ ?_|refine ht ?_)<;>clear ht))
  all_goals (try generalize (Ty.dflt YB)=od at*)
  all_goals first
   | exact True.intro
   | ((try simp only [zm_,zn_,zl_] at*);omega)
   | (have hf:uz_ (a4.getD i od)=true:=decide_eq_true (by omega)
      exact ⟨i+1,⟨by omega,Zn_ (d:=od) (by omega) he hf⟩,by dsimp only;omega,rfl,rfl⟩)
   | (have hf:uz_ (a4.getD i od)=false:=decide_eq_false (by omega)
      refine ⟨?_,rfl⟩;unfold fwMs;rw [ZA_ (d:=od) (show i < a4.length by omega) hf,Bool.false_and];done)
   | (intro r h1 h2;clear h1;refine h2 ⟨[1,4],Nat,(fun i=>i<=a14.length/\(a14.take i).all fwPa=true),fun i=>[.ptr 0 0,.int .i64 i],fun _=>[.box [.int .i64 a0,.int .u32 a1,.imm (.int .u64) a2,.imm (.int .u8) a3,.imm YB a4,.imm Y1 a5,.imm Y2 a6,.imm Y3 a7,.imm Y4 a8,.imm Y5 a9,.imm Y7 a10,.imm Y8 a11,.int .i64 a12,.int .i64 a13,.imm YC a14]],fun i=>a14.length - i,⟨0,⟨Nat.zero_le _,rfl⟩,rfl,rfl⟩,?_⟩;clear h2)
   | skip
  have h1:=ZK_ (by omega) he
  rintro j ⟨hj,hje⟩
  repeat'(intro t ht;first|(cases t<;>first|(cases ht;done)|(try simp only[zg_]at ht;try(exfalso;first|contradiction|omega)))|((first|refine zb_ ht ?_|refine ht ?_ ?_|refine ht.1 ?_ ?_|refine ht ?_)<;>clear ht))
  all_goals (try generalize (Ty.dflt YC)=od at*)
  all_goals first
   | exact True.intro
   | ((try simp only [zm_,zn_,zl_] at*);omega)
   | (have hf:fwPa (a14.getD j od)=true:=by assumption
      exact ⟨j+1,⟨by omega,Zn_ (d:=od) (by omega) hje hf⟩,by dsimp only;omega,rfl,rfl⟩)
   | (have hf:fwPa (a14.getD j od)=false:=by assumption
      refine ⟨?_,rfl⟩;unfold fwMs;rw [h1,ZA_ (d:=od) (show j < a14.length by omega) hf,Bool.false_and,Bool.and_false];done)
   | (have h6:=ZK_ (by omega) hje
      refine ⟨congrArg AV.bool ?_,rfl⟩;unfold fwMs;rw [h1,h6,Bool.true_and,Bool.true_and];dsimp only;first | (rw [decide_eq_false (show ¬ a2.length<=60 by omega)];simp;done) | (rw [decide_eq_false (show ¬ a3.length<=3000 by omega)];simp;done) | (rw [decide_eq_false (show ¬ a4.length<=20 by omega)];simp;done) | (rw [decide_eq_false (show ¬ a14.length<=12 by omega)];simp;done) | (simp_all;done) | (rw [decide_eq_true (show a2.length<=60 by omega),decide_eq_true (show a3.length<=3000 by omega),decide_eq_true (show a4.length<=20 by omega),decide_eq_true (show a14.length<=12 by omega)];simp [zN_, *];done))
   | skip
 ·cases e
def exO (o:OV):List Int:=if rgO o=true then Zv_ o.1 o.2.1 o.2.2.1 o.2.2.2.1 o.2.2.2.2.1 o.2.2.2.2.2.1 else []
def eeO (o:OV):Int:=if rgO o=true then 0 else 10001
def puS (room:Int):List OV->List Int->Int->List Int × Int
 | [],l,e=>(l,e)
 | o :: r,l,e=>puS room r (kH_ (exO o) l room (zy_ e (eeO o))) (QT_ (exO o) l room (zy_ e (eeO o)))
theorem zii_ {room:Int} {l:List OV} {i:Nat} {d:OV} {b:List Int} {e:Int} (h:i < l.length):puS room (l.drop i) b e=puS room (l.drop (i+1)) (kH_ (exO (l.getD i d)) b room (zy_ e (eeO (l.getD i d)))) (QT_ (exO (l.getD i d)) b room (zy_ e (eeO (l.getD i d)))):=by
 rw [zz_ h d];rfl
def mpS (x:List OV) (l:List Int) (room e:Int):List Int × Int:=puS room x (qr_ [2,2] [1,qk_ x] l room e) (qK_ [2,2] [1,qk_ x] l room e)
def mpZ (x:List OV):List Int:=List.replicate (pz (qk_ x)).toNat 0
def mpB (x:List OV) (l:List Int) (room e:Int):List Int:=if rgM x=true then kH_ (mpZ x) (mpS x l room e).1 room (mpS x l room e).2 else l
def mpE (x:List OV) (l:List Int) (room e:Int):Int:=if rgM x=true then QT_ (mpZ x) (mpS x l room e).1 room (mpS x l room e).2 else zy_ e 10001
theorem zmo_ {o:OV}:(exO o).length<=300:=by
 unfold exO;split
 ·exact (k5_ (by assumption)).2
 ·simp
def B3_:IR:=
(sq (sq (kr [0,1] [oM 9 1,
oC 10 69 [9],
oD 11 (.un .not 10)])
(.cond 11
(sq (.reg [oM 12 0,
oC 13 34 [12,(cI 10001)]])
.ret)
.skip))
(sq (.reg [oM 14 1,
oC 15 70 [14],
oM 4 15])
(sq (kr [0,1,4] [oM 16 0,
oD 17 (.sliceAll (.int .i64) 2 [(0,1,(cI 2)),(1,1,(cI 2))]),
oM 18 4,
oD 19 (.conv .u64 18),
oD 20 (.sliceAll (.int .u64) 2 [(0,1,(.c (.int .u64 1))),(1,1,19)]),
oC 21 28 [16,17,20]])
(sq (sq (.reg [oM 22 1,
oE 23 22,
oD 24 (.mov (cI 0))])
(.block 0
(.loop
(sq (kr [0,4,22,23,24] [oB 25 .lss 24 23])
(sq (.cond 25
.skip
(.exit 0))
(sq (.block 1
(sq (.reg [oI 26 6 22 24,
oK 27 6 26,
oD 6 (.box [.int .i64 0,.int .i64 0,.kb false,.int .u64 0,.imm (.int .u8) [],.imm (.int .u8) []]),
oS 6 6 27])
(sq (kr [0,4,6,22,23,24] [oK 29 6 6,
oC 30 71 [29],
oM 28 30,
oX 31 28 0,
oX 32 28 1,
oM 7 31,
oM 8 32])
(sq (kr [0,4,7,8,22,23,24] [oM 33 0,
oM 34 8,
oC 35 34 [33,34]])
(.reg [oM 36 0,
oM 37 7,
oC 38 65 [36,37]])))))
(kr [0,4,22,23,24] [oB 39 .add 24 (cI 1),
oM 24 39])))))))
(kr [0,4] [oM 40 0,
oM 41 4,
oC 42 72 [41],
oD 43 (.mkrow (.int .u8) 1 (0:Int) 42 42),
oC 44 65 [40,43]])))))
def bD_:List RD:=[]
theorem Bg_:zk_ Tryz.prog Tryz.f31 B3_ bD_=true:=by kernel_rfl
def VD_:List AV->List Obj->Option (Prop × Res)
 | [.ptr 0 0,.imm (.cons (.int .i64) (.cons (.int .i64) (.cons .bool (.cons (.int .u64) (.cons (.sl (.int .u8)) (.cons (.sl (.int .u8)) .nil)))))) x],[.box [.own 1,.int .i64 room,.mapv 2,.int .i64 e],.row false (.int .u8) l,.map sq (.int .i64) (.int .i64) h]=>some (okM x/\0<=room/\room<=1000000/\l.length<=1000000,.br (rgM x) (.one (.tup []) [.box [.own 3,.int .i64 room,.mapv 2,.int .i64 (mpE x l room e)],.dead,.map sq (.int .i64) (.int .i64) h,.row false (.int .u8) (mpB x l room e)]) (.one (.tup []) [.box [.own 1,.int .i64 room,.mapv 2,.int .i64 (zy_ e 10001)],.row false (.int .u8) l,.map sq (.int .i64) (.int .i64) h]))
 | _,_=>none
def jU_:List AV->List Obj->Option (Prop × AV × List Obj)
 | [.ptr 0 0,.imm (.cons (.int .i64) (.cons (.int .i64) (.cons .bool (.cons (.int .u64) (.cons (.sl (.int .u8)) (.cons (.sl (.int .u8)) .nil)))))) x],[.box [.own 1,.int .i64 room,.mapv 2,.int .i64 e],.row false (.int .u8) l,.map sq (.int .i64) (.int .i64) h]=>some (okM x/\0<=room/\room<=1000000/\l.length<=1000000,.tup [],[.box [.own 3,.int .i64 room,.mapv 2,.int .i64 (mpE x l room e)],.dead,.map sq (.int .i64) (.int .i64) h,.row false (.int .u8) (mpB x l room e)])
 | _,_=>none
theorem gY_:zd_ Tryz.prog 31 (RcF VD_).sum:=by
 refine Uv_ Tryz.func31 Bg_ (za_ (s:=RoF Jd_) VL_ (za_ (s:=RwF zA_) zD_ (za_ (s:=RoF KS_) W2_ (za_ (s:=RwF zH_) zK_ (za_ (s:=RoF KO_) WY_ (za_ (s:=RwF zv_) zB_ (za_ (s:=RoF kY_) wY_ (zc_ _)))))))) fun args objs p v e=>?_
 unfold VD_ at e
 split at e
 ·rename_i x room e l sq h
  cases e
  change List Int at l
  change List OV at x
  refine ⟨rfl,fun hw' ho hp=>?_⟩
  clear hw' ho
  obtain ⟨hok,hp1,hp2,hp3⟩:=hp
  have hok':=hok
  have hn:=hok.n
  cases hr:rgM x with
  | false=>
    repeat'(intro t ht;first|(cases t<;>first|(cases ht;done)|(try simp only[zg_]at ht;try(exfalso;first|contradiction|omega)))|((first|refine zb_ ht ?_|refine ht ?_ ?_|refine ht.1 ?_ ?_|refine ht ?_)<;>clear ht))
    all_goals first
     | exact True.intro
     | exact hok
     | (exfalso;simp_all;done)
     | exact ⟨rfl,rfl⟩
  | true=>
    have hL:=ziJ_ hok
    have hL2:qk_ x<=65528:=by unfold rgM at hr;simp only [Bool.and_eq_true,decide_eq_true_eq] at hr;exact hr.2
    have hz:=y8_ (n:=qk_ x) (by omega)
    have hr1:(qr_ [2,2] [1,qk_ x] l room e).length<=1000000:=Ju_ hp3 hp2
    repeat'(intro t ht;first|(cases t<;>first|(cases ht;done)|(try simp only[zg_]at ht;try(exfalso;first|contradiction|omega)))|((first|refine zb_ ht ?_|refine ht ?_ ?_|refine ht.1 ?_ ?_|refine ht ?_)<;>clear ht))
    all_goals first
     | exact True.intro
     | exact hok
     | (exfalso;simp_all;done)
     | ((try simp only [zm_,zn_,zl_] at*);omega)
     | exact ⟨hp1,hp2,hp3⟩
     | (intro r h1 h2;clear h1;refine h2 ⟨[0,4,22,23,24],Nat × List Int × Int,(fun a=>a.1<=x.length/\a.2.1.length<=1000000/\mpS x l room e=puS room (x.drop a.1) a.2.1 a.2.2),fun a=>[.ptr 0 0,.int .i64 (qk_ x),.imm Y1 x,.int .i64 x.length,.int .i64 a.1],fun a=>[.box [.own 3,.int .i64 room,.mapv 2,.int .i64 a.2.2],.dead,.map sq (.int .i64) (.int .i64) h,.row false (.int .u8) a.2.1],fun a=>x.length - a.1,⟨(0,qr_ [2,2] [1,qk_ x] l room e,qK_ [2,2] [1,qk_ x] l room e),⟨Nat.zero_le _,hr1,rfl⟩,rfl,rfl⟩,?_⟩;clear h2)
    rintro ⟨i,b,f⟩ ⟨hi,hb,he⟩
    dsimp only at hi hb he
    repeat'(intro t ht;first|(cases t<;>first|(cases ht;done)|(try simp only[zg_]at ht;try(exfalso;first|contradiction|omega)))|((first|refine zb_ ht ?_|refine ht ?_ ?_|refine ht.1 ?_ ?_|refine ht ?_)<;>clear ht))
    all_goals (try generalize (Ty.dflt Y1)=od at*)
    all_goals first
     | exact True.intro
     | ((try simp only [zm_,zn_,zl_] at*);omega)
     | (simp only [List.length_replicate];constructor<;>omega)
     | exact ⟨hp1,hp2,hb,Nat.le_trans (zmo_ (o:=x.getD i od)) (by decide)⟩
     | exact lenM (hok'.a.h _ (zu_ (show i < x.length by omega) od))
     | (rw [List.drop_of_length_le (show x.length<=i by omega)] at he
        have h1:mpS x l room e=(b,f):=he
        unfold mpE mpB
        rw [if_pos hr,if_pos hr,h1];exact ⟨rfl,rfl⟩)
     | (refine ⟨(i+1,_,_),⟨?_,?_,he.trans (zii_ (d:=od) (show i < x.length by omega))⟩,?_,rfl,rfl⟩
        ·dsimp only;omega
        ·exact Q9_ hb hp2
        ·dsimp only;omega)
 ·cases e
theorem XP_:zd_ Tryz.prog 31 (RwF jU_).sum:=by
 refine y6_ gY_ fun args objs p v o e=>?_
 unfold jU_ at e
 split at e
 ·rename_i x room e l sq h
  cases e
  cases hb:rgM x with
  | true=>exact ⟨_,_,rfl,je_ hb,.inl rfl⟩
  | false=>
    refine ⟨_,_,rfl,Q1_ hb,.inr ⟨0,1,[],[.int .i64 room,.mapv 2,.int .i64 (zy_ e 10001)],.int .u8,l,rfl,rfl,?_⟩⟩
    unfold mpE mpB;rw [hb];rfl
 ·cases e
end Go.Eng
