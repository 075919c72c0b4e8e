/- Parts of the proof: Y5, YA, Y8, Y9, YB, I8. No condition. -/
import Derived.Test.YteihcoggfaenaaaGreatDoorProg
import Derived.Test.YteihcoggfaenaaaGreatDoorWG10
import Derived.KernelRfl
import Derived.Test.YteihcoggfaenaaaGreatDoorWG23
namespace Go.Eng
open Go.Proofs
set_option linter.unusedVariables false
set_option linter.unusedSimpArgs false
set_option maxRecDepth 100000
set_option maxHeartbeats 1000000
def rF (b:List Int):List Int:=b.drop (40+(mdN (b.drop 40)).toNat)
def x23 (t:Int) (b:List Int):Int:=if ¬ qF t (zG_ (wF t) b)=0 then qF t (zG_ (wF t) b) else if ¬ mdE (b.drop 40)=0 then mdE (b.drop 40) else if t=14 then idE (rF b) else if 0 < (rF b).length then 263 else 0
def ZN_ (t:Int) (b:List Int):Int:=if kF t=false then 10001 else if zQ_ (wF t) b=1 then 263 else if zQ_ (wF t) b=2 then 269 else if ¬ x23 t b=0 then x23 t b else if (65527:Int) < b.length then 263 else 0
def v23 (t:Int) (b:List Int):VMs:=(t,0,zG_ (wF t) b,[],[],mdL (b.drop 40),[],(if t=14 then idL (rF b) else []),[],[],[],[],0,0,[],())
def qp_ (t:Int) (b:List Int):VMs:=if ZN_ t b=0 then v23 t b else zMs
theorem ZB_ {t:Int} {b:List Int} (h:¬ ZN_ t b=0):qp_ t b=zMs:=if_neg h
theorem wl_ {t:Int} {b:List Int} (h:ZN_ t b=0):qp_ t b=v23 t b:=if_pos h
theorem cuF {w b:List Int} (hs:zD_ w=40):(zQ_ w b=0->Kg_ w b 0 263 269 0=0/\kC_ w b 0 0=40/\QR_ w b 0 0=zG_ w b)/\(zQ_ w b=1->Kg_ w b 0 263 269 0=263)/\(zQ_ w b=2->Kg_ w b 0 263 269 0=269):=by
 unfold Kg_ kC_ QR_
 rw [if_pos rfl,if_pos rfl,if_pos rfl,show (0:Int).toNat=0 from rfl,List.drop_zero]
 refine ⟨fun h=>?_,fun h=>if_pos h,fun h=>?_⟩
 ·rw [if_neg (by omega),if_neg (by omega),if_neg (by omega),if_neg (by omega),hs];exact ⟨rfl,rfl,rfl⟩
 ·rw [if_neg (by omega),if_pos h]
def g1 (t:Int) (b:List Int):Int:=zv_ 0 (qF t (zG_ (wF t) b))
def gP (t:Int) (b:List Int):Int:=mtP b 40 (g1 t b)
def gE (t:Int) (b:List Int):Int:=mtE b 40 (g1 t b)
def gX (t:Int) (b:List Int):List OV:=mtL b 40 (g1 t b)
def gI (b:List Int):List VIn:=itL5 b (gP 14 b) (gE 14 b)
def hE (b:List Int):Int:=hr_ b (gP 14 b) (gE 14 b)
def hP (b:List Int):Int:=if gE 14 b=0 then (b.length:Int) else gP 14 b
theorem g1_e (t:Int) (b:List Int):g1 t b=qF t (zG_ (wF t) b):=by unfold g1 zv_;rw [if_pos rfl]
theorem g_no {t:Int} {b:List Int} (h:¬ qF t (zG_ (wF t) b)=0):gE t b=qF t (zG_ (wF t) b):=by
 unfold gE mtE;rw [g1_e,if_neg h]
theorem g_ok {t:Int} {b:List Int} (h:qF t (zG_ (wF t) b)=0):gE t b=mdE (b.drop 40)/\gP t b=40+mdN (b.drop 40)/\gX t b=mdL (b.drop 40):=by
 unfold gE gP gX mtE mtP mtL;rw [g1_e,h,if_pos rfl,if_pos rfl,if_pos rfl];exact ⟨rfl,rfl,rfl⟩
theorem rF_p {b:List Int} (hb:∀ x ∈ b,0<=x/\x<=255):b.drop (40+mdN (b.drop 40)).toNat=rF b/\((rF b).length:Int)=((b.length - 40:Nat):Int) - mdN (b.drop 40):=by
 have hN:=U0_ (b.drop 40) fun x hx=>hb x (List.mem_of_mem_drop hx)
 have hl:(b.drop 40).length=b.length - 40:=List.length_drop
 have e:(40+mdN (b.drop 40)).toNat=40+(mdN (b.drop 40)).toNat:=by omega
 unfold rF
 rw [e,List.length_drop];exact ⟨rfl,by omega⟩
theorem zhF_ {b:List Int} (hb:∀ x ∈ b,0<=x/\x<=255) (h40:40<=b.length):hE b=x23 14 b/\(x23 14 b=0->hP b=b.length/\gX 14 b=mdL (b.drop 40)/\gI b=idL (rF b)):=by
 obtain ⟨r1,r2⟩:=rF_p hb
 unfold x23
 by_cases hq:qF 14 (zG_ (wF 14) b)=0
 ·obtain ⟨a1,a2,a3⟩:=g_ok hq
  rw [if_neg (not_not_intro hq)]
  by_cases hm:mdE (b.drop 40)=0
  ·rw [if_neg (not_not_intro hm),if_pos rfl]
   unfold hE hP gI hr_ itL5
   rw [a1,hm,if_pos rfl,if_pos rfl,if_pos rfl,a2,r1]
   exact ⟨rfl,fun _=>⟨rfl,a3,rfl⟩⟩
  ·rw [if_pos hm]
   refine ⟨?_,fun h=>absurd h hm⟩
   unfold hE hr_;rw [a1,if_neg hm]
 ·have a1:=g_no hq
  rw [if_pos hq]
  refine ⟨?_,fun h=>absurd h hq⟩
  unfold hE hr_;rw [a1,if_neg hq]
theorem zmy_ {b:List Int} (hb:∀ x ∈ b,0<=x/\x<=255) (h40:40<=b.length):(¬ gE 11 b=0->x23 11 b=gE 11 b)/\(gE 11 b=0->gX 11 b=mdL (b.drop 40)/\x23 11 b=if 0 < (b.length:Int) - gP 11 b then 263 else 0):=by
 obtain ⟨r1,r2⟩:=rF_p hb
 unfold x23
 by_cases hq:qF 11 (zG_ (wF 11) b)=0
 ·obtain ⟨a1,a2,a3⟩:=g_ok hq
  rw [if_neg (not_not_intro hq),a1,a2]
  constructor
  ·intro hm;rw [if_pos hm]
  ·intro hm
   rw [if_neg (not_not_intro hm),if_neg (by decide)]
   refine ⟨a3,?_⟩
   by_cases hl:0 < (rF b).length
   ·rw [if_pos hl,if_pos (by omega)]
   ·rw [if_neg hl,if_neg (by omega)]
 ·have a1:=g_no hq
  rw [if_pos hq,a1]
  exact ⟨fun _=>rfl,fun h=>absurd h hq⟩
theorem Uy_ {t:Int} {b:List Int} (hk:kF t=true):(zQ_ (wF t) b=1->ZN_ t b=263)/\(zQ_ (wF t) b=2->ZN_ t b=269)/\(zQ_ (wF t) b=0->ZN_ t b=if ¬ x23 t b=0 then x23 t b else if (65527:Int) < b.length then 263 else 0):=by
 unfold ZN_
 rw [if_neg (by rw [hk];decide)]
 refine ⟨fun h=>if_pos h,fun h=>?_,fun h=>?_⟩
 ·rw [if_neg (by omega),if_pos h]
 ·rw [if_neg (by omega),if_neg (by omega)]
def BY_:IR:=
(sq (kr [0,1] [oD 4 (.box [.int .i64 0,.int .u32 0,.imm (.int .u64) [],.imm (.int .u8) [],.imm YB [],.imm Y1 [],.imm Y2 [],.imm Y3 [],.imm Y4 [],.imm Y5 [],.imm Y7 [],.imm Y8 [],.int .i64 0,.int .i64 0,.imm YC []]),
oD 5 (.mov (cI 0))])
(sq (kr [0,1,4] [oM 13 0,
oC 14 26 [13],
oM 12 14,
oX 15 12 0,
oX 16 12 1,
oM 6 15,
oM 7 16])
(sq (sq (kr [0,1,4,6,7] [oM 17 7,
oD 18 (.un .not 17)])
(.cond 18
(sq (.reg [oD 19 (.build [.int .i64 0,.int .u32 0,.imm (.int .u64) [],.imm (.int .u8) [],.imm YB [],.imm Y1 [],.imm Y2 [],.imm Y3 [],.imm Y4 [],.imm Y5 [],.imm Y7 [],.imm Y8 [],.int .i64 0,.int .i64 0,.imm YC []] []),
oS 15 4 19,
oD 5 (.mov (cI 10001))])
.ret)
.skip))
(sq (.reg [oM 20 1,
oC 21 41 [20,(cI 263),(cI 269)],
oM 8 21])
(sq (kr [0,1,4,6,8] [oM 22 0,
oM 23 8,
oM 24 6,
oC 25 42 [23,24],
oD 26 (.build [.int .i64 0,.int .u32 0,.imm (.int .u64) [],.imm (.int .u8) [],.imm YB [],.imm Y1 [],.imm Y2 [],.imm Y3 [],.imm Y4 [],.imm Y5 [],.imm Y7 [],.imm Y8 [],.int .i64 0,.int .i64 0,.imm YC []] [(0,1,22),(2,1,25)]),
oD 9 (.box [.int .i64 0,.int .u32 0,.imm (.int .u64) [],.imm (.int .u8) [],.imm YB [],.imm Y1 [],.imm Y2 [],.imm Y3 [],.imm Y4 [],.imm Y5 [],.imm Y7 [],.imm Y8 [],.int .i64 0,.int .i64 0,.imm YC []]),
oS 15 9 26])
(sq (sq (.reg [oM 27 8,
oC 28 43 [27],
oM 10 28])
(sq (kr [0,1,4,8,9,10] [oM 29 10,
oB 30 .neq 29 (cI 0)])
(.cond 30
(sq (.reg [oD 31 (.build [.int .i64 0,.int .u32 0,.imm (.int .u64) [],.imm (.int .u8) [],.imm YB [],.imm Y1 [],.imm Y2 [],.imm Y3 [],.imm Y4 [],.imm Y5 [],.imm Y7 [],.imm Y8 [],.int .i64 0,.int .i64 0,.imm YC []] []),
oM 32 10,
oS 15 4 31,
oM 5 32])
.ret)
.skip)))
(sq (kr [0,1,4,8,9] [oM 33 8,
oM 34 0,
oA 35 2 9,
oL 36 35,
oC 37 30 [34,36],
oC 38 44 [33,37]])
(sq (.reg [oM 39 8,
oC 40 45 [39],
oA 41 5 9,
oS 1 41 40])
(sq (sq (kr [0,1,4,8,9] [oM 42 0,
oB 43 .eql 42 (cI 14)])
(.cond 43
(.reg [oM 44 8,
oC 45 46 [44],
oA 46 7 9,
oS 1 46 45])
.skip))
(sq (sq (kr [1,4,8,9] [oM 47 8,
oC 48 47 [47],
oB 49 .gtr 48 (cI 0),
oM 50 49,
oF 50 51 (.mov 1),
oF 50 52 (.len 51),
oF 50 53 (.bin .gtr 52 (cI 65527)),
oP 54 50 cT 53])
(.cond 54
(kr [4,8,9] [oM 55 8,
oC 56 44 [55,(cI 263)]])
.skip))
(sq (sq (kr [4,8,9] [oM 57 8,
oC 58 43 [57],
oM 11 58])
(sq (.reg [oM 59 11,
oB 60 .neq 59 (cI 0)])
(.cond 60
(sq (.reg [oD 61 (.build [.int .i64 0,.int .u32 0,.imm (.int .u64) [],.imm (.int .u8) [],.imm YB [],.imm Y1 [],.imm Y2 [],.imm Y3 [],.imm Y4 [],.imm Y5 [],.imm Y7 [],.imm Y8 [],.int .i64 0,.int .i64 0,.imm YC []] []),
oM 62 11,
oS 15 4 61,
oM 5 62])
.ret)
.skip)))
(sq (kr [4,9] [oK 63 15 9,
oS 15 4 63,
oD 5 (.mov (cI 0))])
.ret))))))))))))
def bG_:List RD:=[.cell 4 (some 15) true [],.tmp 5 true none]
theorem Bh_:zm_ Tryz.prog Tryz.f14 BY_ bG_=true:=by kernel_rfl
def Xm_:List AV->List Obj->Option (Prop × AV)
 | [.int .i64 tt,.imm (.int .u8) b],[]=>some ((b.length<=100000000,.tup [.agg [.int .i64 ((qp_ tt b)).1,.int .u32 ((qp_ tt b)).2.1,.imm (.int .u64) ((qp_ tt b)).2.2.1,.imm (.int .u8) ((qp_ tt b)).2.2.2.1,.imm YB ((qp_ tt b)).2.2.2.2.1,.imm Y1 ((qp_ tt b)).2.2.2.2.2.1,.imm Y2 ((qp_ tt b)).2.2.2.2.2.2.1,.imm Y3 ((qp_ tt b)).2.2.2.2.2.2.2.1,.imm Y4 ((qp_ tt b)).2.2.2.2.2.2.2.2.1,.imm Y5 ((qp_ tt b)).2.2.2.2.2.2.2.2.2.1,.imm Y7 ((qp_ tt b)).2.2.2.2.2.2.2.2.2.2.1,.imm Y8 ((qp_ tt b)).2.2.2.2.2.2.2.2.2.2.2.1,.int .i64 ((qp_ tt b)).2.2.2.2.2.2.2.2.2.2.2.2.1,.int .i64 ((qp_ tt b)).2.2.2.2.2.2.2.2.2.2.2.2.2.1,.imm YC ((qp_ tt b)).2.2.2.2.2.2.2.2.2.2.2.2.2.2.1],.int .i64 (ZN_ tt b)]))
 | _,_=>none
theorem Gh_:zd_ Tryz.prog 14 (RoF Xm_).sum:=by
 refine zi_ Tryz.func14 Bh_ (za_ (s:=RoF QL_) kS_ (za_ (s:=RwF ZP_) ZQ_ (za_ (s:=RwF z1_) Zf_ (za_ (s:=RoF zp_) zq_ (za_ (s:=RoF kd_) K5_ (za_ (s:=RwF zs_) zt_ (za_ (s:=RwF KQ_) xe_ (za_ (s:=RwF w5_) u2_ (za_ (s:=RoF zW_) Za_ (zc_ _)))))))))) fun args objs p v e=>?_
 unfold Xm_ at e
 split at e
 ·rename_i tt b
  cases e
  refine ⟨rfl,fun hw ho hp=>?_⟩
  change List Int at b
  have hb:∀ x ∈ (b:List Int),(0:Int)<=x/\x<=255:=fun x hx=>(hw (.imm (.int .u8) b) (by simp)).1 x hx
  clear hw ho
  by_cases h14:tt=14
  ·subst h14
   obtain ⟨e1,e2,e0⟩:=Uy_ (t:=14) (b:=b) rfl
   obtain ⟨c0,c1,c2⟩:=cuF (w:=wF 14) (b:=b) (by decide)
   rcases KF_ (wF 14) b with hk | hk | hk
   ·obtain ⟨c3,c4,c5⟩:=c0 hk
    obtain ⟨n1,n2⟩:=rowN hb hk
    rw [show zD_ (wF 14)=40 by decide] at n2
    obtain ⟨q1,q2⟩:=zhF_ hb (by omega)
    have e:=e0 hk
    have p1:0<=gP 14 b/\gP 14 b<=b.length:=Bq_ (e:=g1 14 b) hb (by decide) n2
    have f1:mtP b 40 (zv_ 0 (qF 14 (zG_ (wF 14) b)))=gP 14 b:=rfl
    have f2:mtE b 40 (zv_ 0 (qF 14 (zG_ (wF 14) b)))=gE 14 b:=rfl
    have f3:mtL b 40 (zv_ 0 (qF 14 (zG_ (wF 14) b)))=gX 14 b:=rfl
    have f4:hr_ b (gP 14 b) (gE 14 b)=hE b:=rfl
    have f5:itL5 b (gP 14 b) (gE 14 b)=gI b:=rfl
    have f6:(if gE 14 b=0 then (b.length:Int) else gP 14 b)=hP b:=rfl
    have p2:0<=hP b/\hP b<=b.length:=by unfold hP;split<;>omega
    have E1:(65527:Int) < b.length->ZN_ 14 b=zv_ (hE b) 263:=fun h=>by
     rw [e,q1,if_pos h];unfold zv_
     by_cases h0:x23 14 b=0
     ·rw [if_neg (not_not_intro h0),if_pos h0]
     ·rw [if_pos h0,if_neg h0]
    have E2:0 < (b.length:Int) - hP b->ZN_ 14 b=zv_ (hE b) 263:=fun h=>by
     have h0:¬ x23 14 b=0:=fun c=>by have:=(q2 c).1;omega
     rw [e,q1,if_pos h0,YB_ h0]
    have E3:¬ (65527:Int) < b.length->ZN_ 14 b=hE b:=fun h=>by
     rw [e,q1,if_neg h]
     by_cases h0:x23 14 b=0
     ·rw [if_neg (not_not_intro h0),h0]
     ·rw [if_pos h0]
    have q3:hE b=x23 14 b:=q1
    clear e q1
    repeat'(intro t ht;first|(cases t<;>first|(cases ht;done)|(try simp only[zg_]at ht;try(exfalso;first|contradiction|omega)))|((first|refine zb_ ht ?_|refine ht ?_ ?_|refine ht.1 ?_ ?_|refine ht ?_)<;>clear ht))
    all_goals (try simp only [c3,c4,c5,f1,f2,f3,f4,f5,f6] at*)
    all_goals first
     | exact True.intro
     | omega
     | (refine ⟨?_,?_,?_⟩<;>omega)
     | (refine ⟨?_,?_,?_,?_⟩<;>omega)
     | exact ⟨rfl,n1⟩
     | exact p1
     | exact absurd ht (jN_ _)
     | (have E:=E1 (by assumption)
        rw [ZB_ (by rw [E];exact jN_ _),E];(first | exact ⟨rfl,rfl⟩ | exact ⟨rfl,True.intro⟩))
     | (have E:=E2 (by assumption)
        rw [ZB_ (by rw [E];exact jN_ _),E];(first | exact ⟨rfl,rfl⟩ | exact ⟨rfl,True.intro⟩))
     | (have E:=E3 (by assumption)
        first
         | (have h0:hE b=0:=ht
            obtain ⟨_,j2,j3⟩:=q2 (q3 ▸ h0)
            rw [wl_ (E.trans h0),E,h0];unfold v23;rw [<- j2,<- j3];(first | exact ⟨rfl,rfl⟩ | exact ⟨rfl,True.intro⟩))
         | (rw [ZB_ (by rw [E];exact ht),E];(first | exact ⟨rfl,rfl⟩ | exact ⟨rfl,True.intro⟩))
         | fail)
   ·have c3:=c1 hk
    have e:=e1 hk
    have hM:=ZB_ (t:=14) (b:=b) (by rw [e];decide)
    repeat'(intro t ht;first|(cases t<;>first|(cases ht;done)|(try simp only[zg_]at ht;try(exfalso;first|contradiction|omega)))|((first|refine zb_ ht ?_|refine ht ?_ ?_|refine ht.1 ?_ ?_|refine ht ?_)<;>clear ht))
    all_goals (try simp only [c3] at*)
    all_goals first
     | exact True.intro
     | omega
     | (refine ⟨?_,?_,?_⟩<;>omega)
     | (rw [hM,e];(first | exact ⟨rfl,rfl⟩ | exact ⟨rfl,True.intro⟩))
   ·have c3:=c2 hk
    have e:=e2 hk
    have hM:=ZB_ (t:=14) (b:=b) (by rw [e];decide)
    repeat'(intro t ht;first|(cases t<;>first|(cases ht;done)|(try simp only[zg_]at ht;try(exfalso;first|contradiction|omega)))|((first|refine zb_ ht ?_|refine ht ?_ ?_|refine ht.1 ?_ ?_|refine ht ?_)<;>clear ht))
    all_goals (try simp only [c3] at*)
    all_goals first
     | exact True.intro
     | omega
     | (refine ⟨?_,?_,?_⟩<;>omega)
     | (rw [hM,e];(first | exact ⟨rfl,rfl⟩ | exact ⟨rfl,True.intro⟩))
  ·by_cases h11:tt=11
   ·subst h11
    obtain ⟨e1,e2,e0⟩:=Uy_ (t:=11) (b:=b) rfl
    obtain ⟨c0,c1,c2⟩:=cuF (w:=wF 11) (b:=b) (by decide)
    rcases KF_ (wF 11) b with hk | hk | hk
    ·obtain ⟨c3,c4,c5⟩:=c0 hk
     obtain ⟨n1,n2⟩:=rowN hb hk
     rw [show zD_ (wF 11)=40 by decide] at n2
     obtain ⟨q1,q2⟩:=zmy_ hb (by omega)
     have e:=e0 hk
     have p1:0<=gP 11 b/\gP 11 b<=b.length:=Bq_ (e:=g1 11 b) hb (by decide) n2
     have f1:mtP b 40 (zv_ 0 (qF 11 (zG_ (wF 11) b)))=gP 11 b:=rfl
     have f2:mtE b 40 (zv_ 0 (qF 11 (zG_ (wF 11) b)))=gE 11 b:=rfl
     have f3:mtL b 40 (zv_ 0 (qF 11 (zG_ (wF 11) b)))=gX 11 b:=rfl
     have E1:(65527:Int) < b.length->ZN_ 11 b=zv_ (gE 11 b) 263:=fun h=>by
      rw [e,if_pos h]
      by_cases h0:gE 11 b=0
      ·rw [(q2 h0).2,h0];split<;>split<;>first | rfl | (exfalso;omega)
      ·rw [q1 h0,if_pos h0,YB_ h0]
     have E2:0 < (b.length:Int) - gP 11 b->ZN_ 11 b=zv_ (gE 11 b) 263:=fun h=>by
      rw [e]
      by_cases h0:gE 11 b=0
      ·rw [(q2 h0).2,if_pos h,h0];rfl
      ·rw [q1 h0,if_pos h0,YB_ h0]
     have E3:¬ 0 < (b.length:Int) - gP 11 b->¬ (65527:Int) < b.length->ZN_ 11 b=gE 11 b:=fun h3 h=>by
      rw [e,if_neg h]
      by_cases h0:gE 11 b=0
      ·rw [(q2 h0).2,if_neg h3,h0];rfl
      ·rw [q1 h0,if_pos h0]
     clear e q1
     repeat'(intro t ht;first|(cases t<;>first|(cases ht;done)|(try simp only[zg_]at ht;try(exfalso;first|contradiction|omega)))|((first|refine zb_ ht ?_|refine ht ?_ ?_|refine ht.1 ?_ ?_|refine ht ?_)<;>clear ht))
     all_goals (try simp only [c3,c4,c5,f1,f2,f3] at*)
     all_goals first
      | exact True.intro
      | omega
      | (refine ⟨?_,?_,?_⟩<;>omega)
      | (refine ⟨?_,?_,?_,?_⟩<;>omega)
      | exact ⟨rfl,n1⟩
      | exact p1
      | exact absurd ht (jN_ _)
      | (have E:=E1 (by assumption)
         rw [ZB_ (by rw [E];exact jN_ _),E];(first | exact ⟨rfl,rfl⟩ | exact ⟨rfl,True.intro⟩))
      | (have E:=E2 (by assumption)
         rw [ZB_ (by rw [E];exact jN_ _),E];(first | exact ⟨rfl,rfl⟩ | exact ⟨rfl,True.intro⟩))
      | (have E:=E3 (by assumption) (by assumption)
         first
          | (have h0:gE 11 b=0:=ht
             have j2:=(q2 h0).1
             rw [wl_ (E.trans h0),E,h0];unfold v23;rw [<- j2];(first | exact ⟨rfl,rfl⟩ | exact ⟨rfl,True.intro⟩))
          | (rw [ZB_ (by rw [E];exact ht),E];(first | exact ⟨rfl,rfl⟩ | exact ⟨rfl,True.intro⟩))
          | fail)
    ·have c3:=c1 hk
     have e:=e1 hk
     have hM:=ZB_ (t:=11) (b:=b) (by rw [e];decide)
     repeat'(intro t ht;first|(cases t<;>first|(cases ht;done)|(try simp only[zg_]at ht;try(exfalso;first|contradiction|omega)))|((first|refine zb_ ht ?_|refine ht ?_ ?_|refine ht.1 ?_ ?_|refine ht ?_)<;>clear ht))
     all_goals (try simp only [c3] at*)
     all_goals first
      | exact True.intro
      | omega
      | (refine ⟨?_,?_,?_⟩<;>omega)
      | (rw [hM,e];(first | exact ⟨rfl,rfl⟩ | exact ⟨rfl,True.intro⟩))
    ·have c3:=c2 hk
     have e:=e2 hk
     have hM:=ZB_ (t:=11) (b:=b) (by rw [e];decide)
     repeat'(intro t ht;first|(cases t<;>first|(cases ht;done)|(try simp only[zg_]at ht;try(exfalso;first|contradiction|omega)))|((first|refine zb_ ht ?_|refine ht ?_ ?_|refine ht.1 ?_ ?_|refine ht ?_)<;>clear ht))
     all_goals (try simp only [c3] at*)
     all_goals first
      | exact True.intro
      | omega
      | (refine ⟨?_,?_,?_⟩<;>omega)
      | (rw [hM,e];(first | exact ⟨rfl,rfl⟩ | exact ⟨rfl,True.intro⟩))
   ·obtain ⟨k1,k2⟩:=zch_ h14 h11
    have k3:¬ kF tt=true:=by rw [k1];decide
    have e:ZN_ tt b=10001:=by unfold ZN_;rw [if_pos k1]
    have hM:=ZB_ (t:=tt) (b:=b) (by rw [e];decide)
    repeat'(intro t ht;first|(cases t<;>first|(cases ht;done)|(try simp only[zg_]at ht;try(exfalso;first|contradiction|omega)))|((first|refine zb_ ht ?_|refine ht ?_ ?_|refine ht.1 ?_ ?_|refine ht ?_)<;>clear ht))
    all_goals first
     | exact True.intro
     | omega
     | (refine ⟨?_,?_,?_⟩<;>omega)
     | (rw [hM,e];exact ⟨rfl,rfl⟩)
 ·cases e
structure wfM23 (m:VMs):Prop where
 n:∀ q ∈ mN m,0<=q/\q<=18446744073709551615
 x:∀ o ∈ mX m,0<=o.2.2.2.1
 i:∀ i ∈ mI3 m,wfI i
theorem zhe_ {m:VMs} (h:(wrF m).2=0):∃ y,vF (mT m) (mN m) (mX m) (mI3 m)=some y/\wrF m=(y,0)/\kF (mT m)=true/\qF (mT m) (mN m)=0/\JM_ (zbw_ m)=true/\(y.length:Int)<=65527:=by
 unfold wrF at h ⊢
 split at h
 ·rename_i c
  rw [if_pos c]
  cases hv:vF (mT m) (mN m) (mX m) (mI3 m) with
  | none=>rw [hv] at h;cases h
  | some y=>
    rw [hv] at h
    unfold fnF at h ⊢
    dsimp only at h ⊢
    split at h
    ·cases h
    ·rename_i hl
     exact ⟨y,rfl,if_neg hl,c.1,c.2.1,c.2.2,by omega⟩
 ·cases h
theorem zjs_ (m:VMs):(wrF m).1.length<=65527:=by
 by_cases h:(wrF m).2=0
 ·obtain ⟨y,_,h3,_,_,_,h5⟩:=zhe_ h
  rw [h3];show y.length<=65527;omega
 ·unfold wrF fnF at h ⊢
  split
  ·split
   ·split
    ·exact Nat.zero_le _
    ·rename_i hl;show (_:List Int).length<=65527;dsimp only;omega
   ·exact Nat.zero_le _
  ·exact Nat.zero_le _
theorem zbn_ {w n r y:List Int} {x:List OV} (hs:zD_ w=40) (hwn:∀ q ∈ n,0<=q/\q<=18446744073709551615) (hk:qq_ w n=true) (hr:rgM x=true) (hwx:∀ o ∈ x,0<=o.2.2.2.1) (e:y=ZR_ w n++(meB x++r)):zG_ w y=n/\zQ_ w y=0/\mdE (y.drop 40)=0/\mdL (y.drop 40)=x/\rF y=r:=by
 obtain ⟨f1,f2⟩:=vc_ (meB x++r) hwn hk
 rw [<- e] at f1
 rw [hs,show (40:Int).toNat=40 from rfl] at f2
 have hd:y.drop 40=meB x++r:=by rw [e,<- f2,List.drop_left]
 obtain ⟨m1,m2,m3⟩:=zlL_ (b:=r) hr hwx
 refine ⟨congrArg Prod.fst f1,congrArg Prod.snd f1,by rw [hd];exact m1,by rw [hd];exact m2,?_⟩
 unfold rF;rw [hd,m3,Int.toNat_natCast,<- List.drop_drop,hd,List.drop_left]
theorem Hm_ {x:List OV} {y:List Int} (h:matO x=some y):rgM x=true/\y=meB x:=by
 unfold matO at h;split at h
 ·cases h;exact ⟨by assumption,rfl⟩
 ·cases h
theorem zgO_ {x:List VIn} {y:List Int} (h:insO x=some y):rgI x=true/\y=boI x:=by
 unfold insO at h;split at h
 ·cases h;exact ⟨by assumption,rfl⟩
 ·cases h
theorem zjp_ {m:VMs} (hw:wfM23 m) (h:(wrF m).2=0):ZN_ (mT m) (wrF m).1=0/\kF (mT m)=true/\(((qp_ (mT m) (wrF m).1).1,m.2.1,(qp_ (mT m) (wrF m).1).2.2):VMs)=m:=by
 obtain ⟨y,hv,h3,hk,hq,hb,hl⟩:=zhe_ h
 rw [h3]
 have hbm:=zkt_.1 hb
 obtain ⟨t,xi,n,d,el,x,a,ins,m8⟩:=m
 have hwn:∀ q ∈ n,0<=q/\q<=18446744073709551615:=hw.n
 have hwx:∀ o ∈ x,0<=o.2.2.2.1:=hw.x
 have hwi:∀ i ∈ ins,wfI i:=hw.i
 replace hv:vF t n x ins=some y:=hv
 replace hk:kF t=true:=hk
 replace hq:qF t n=0:=hq
 have hd:d=[]:=congrArg (fun q:VMs=>q.2.2.2.1) hbm
 have hel:el=[]:=congrArg (fun q:VMs=>q.2.2.2.2.1) hbm
 have ha:a=[]:=congrArg (fun q:VMs=>q.2.2.2.2.2.2.1) hbm
 have hm8:m8=([],[],[],[],0,0,[],()):=congrArg (fun q:VMs=>q.2.2.2.2.2.2.2.2) hbm
 have hin:(if t=14 then [] else ins)=[]:=congrArg (fun q:VMs=>q.2.2.2.2.2.2.2.1) hbm
 show ZN_ t y=0/\kF t=true/\(((qp_ t y).1,xi,(qp_ t y).2.2):VMs)=(t,xi,n,d,el,x,a,ins,m8)
 subst hd hel ha hm8
 rcases kF_t.1 hk with rfl | rfl
 ·unfold vF at hv;rw [if_pos rfl] at hv
  obtain ⟨p,q,g1,g2,g3⟩:=Jh_ hv
  obtain ⟨p1,p2,g4,g5,g6⟩:=Jh_ g1
  obtain ⟨k1,k2⟩:=Y4_ g4
  obtain ⟨r1,r2⟩:=Hm_ g5
  obtain ⟨i1,i2⟩:=zgO_ g2
  have e:y=ZR_ w14 n++(meB x++boI ins):=by rw [g3,g6,k2,r2,i2,List.append_assoc]
  obtain ⟨a1,a2,a3,a4,a5⟩:=zbn_ (by decide) hwn k1 r1 hwx e
  obtain ⟨j1,j2⟩:=zlX_ i1 hwi
  have hw14:wF 14=w14:=rfl
  have hx:x23 14 y=0:=by unfold x23;rw [hw14,a1,if_neg (not_not_intro hq),if_neg (not_not_intro a3),if_pos rfl,a5,j2]
  have hE:ZN_ 14 y=0:=by unfold ZN_;rw [if_neg (by decide),hw14,if_neg (by omega),if_neg (by omega),if_neg (not_not_intro hx),if_neg (by omega)]
  refine ⟨hE,rfl,?_⟩
  rw [wl_ hE];unfold v23;rw [hw14,a1,a4,a5,j1,if_pos rfl]
 ·unfold vF at hv;rw [if_neg (by decide)] at hv
  obtain ⟨p1,p2,g4,g5,g6⟩:=Jh_ hv
  obtain ⟨k1,k2⟩:=Y4_ g4
  obtain ⟨r1,r2⟩:=Hm_ g5
  rw [if_neg (by decide)] at hin
  subst hin
  have e:y=ZR_ w11 n++(meB x++[]):=by rw [g6,k2,r2,List.append_nil]
  obtain ⟨a1,a2,a3,a4,a5⟩:=zbn_ (by decide) hwn k1 r1 hwx e
  have hw11:wF 11=w11:=rfl
  have hx:x23 11 y=0:=by unfold x23;rw [hw11,a1,if_neg (not_not_intro hq),if_neg (not_not_intro a3),if_neg (by decide),a5,if_neg (by decide)]
  have hE:ZN_ 11 y=0:=by unfold ZN_;rw [if_neg (by decide),hw11,if_neg (by omega),if_neg (by omega),if_neg (not_not_intro hx),if_neg (by omega)]
  refine ⟨hE,rfl,?_⟩
  rw [wl_ hE];unfold v23;rw [hw11,a1,a4,if_neg (by decide)]
theorem zlu_ {t:Int} {b:List Int} (h:ZN_ t b=0):kF t=true/\zQ_ (wF t) b=0/\x23 t b=0/\(b.length:Int)<=65527:=by
 unfold ZN_ at h
 split at h
 ·cases h
 ·rename_i hk
  split at h
  ·cases h
  ·split at h
   ·cases h
   ·split at h
    ·rename_i hx;exact absurd h hx
    ·rename_i hx
     split at h
     ·cases h
     ·have:=KF_ (wF t) b
      exact ⟨by cases hq:kF t<;>simp_all,by omega,Classical.byContradiction hx,by omega⟩
theorem zls_ {l:List VIn} (h:rgI l=true) (hn:l.length<=1000):okI l:=by
 unfold rgI at h
 simp only [Bool.and_eq_true,decide_eq_true_eq] at h
 refine ⟨fun i hi=>?_,hn⟩
 obtain ⟨y,hy⟩:=Option.isSome_iff_exists.1 (B5_ h.1 i hi)
 obtain ⟨_,_,_,_,_,_,_,_,r,s,l⟩:=YE_.1 hy
 refine ⟨zlr_ r,?_⟩
 have:=congrArg List.length s
 simp only [List.length_append] at this
 omega
def Yu_:IR:=
(sq (kr [0] [oD 2 (.nilrow Y3),
oD 3 (.mov (cI 0))])
(sq (sq (.reg [oM 10 0,
oE 11 10,
oB 12 .gtr 11 (cI 65528)])
(.cond 12
(sq (kr [0] [oM 13 0,
oC 14 135 [13],
oX 15 14 0,
oX 16 14 1,
oM 2 15,
oM 3 16])
.ret)
.skip))
(sq (.reg [oD 4 (.nilrow Y3)])
(sq (kr [0,4] [oD 17 (.mkmap (.int .i64) (.int .i64)),
oM 5 17])
(sq (.block 0
(.loop
(sq (sq (kr [0,4,5] [oM 18 0,
oE 19 18,
oB 20 .gtr 19 (cI 0)])
(.cond 20
.skip
(.exit 0)))
(.block 1
(sq (kr [0,4,5] [oC 22 125 [],
oM 23 0,
oC 24 136 [22,23],
oM 21 24,
oX 25 21 0,
oX 26 21 1,
oX 27 21 2,
oD 6 (.box [.int .i64 0,.imm (.int .u8) []]),
oS 2 6 25,
oM 7 26,
oM 8 27])
(sq (sq (kr [0,4,5,6,7,8] [oM 28 8,
oB 29 .neq 28 (cI 0)])
(.cond 29
(sq (.reg [oM 30 8,
oD 2 (.nilrow Y3),
oM 3 30])
.ret)
.skip))
(sq (kr [0,4,5,6,7] [oK 32 2 6,
oM 33 5,
oC 34 137 [32,33],
oM 31 34,
oX 35 31 0,
oX 36 31 1,
oD 9 (.box [.int .i64 0,.int .u64 0,.int .u64 0,.imm Y2 [],.imm (.int .u8) []]),
oS 5 9 35,
oM 8 36])
(sq (sq (kr [0,4,5,7,8,9] [oM 37 8,
oB 38 .neq 37 (cI 0)])
(.cond 38
(sq (.reg [oM 39 8,
oD 2 (.nilrow Y3),
oM 3 39])
.ret)
.skip))
(sq (kr [0,4,5,7,9] [oM 40 5,
oA 41 0 9,
oL 42 41,
oD 43 (.mget (.int .i64) (.int .i64) (0:Int) false 40 42),
oB 44 .add 43 (cI 1),
oN (.mput (.int .i64) (.int .i64) 40 42 44)])
(sq (kr [0,4,5,7,9] [oM 45 4,
oK 46 5 9,
oD 47 (.sliceAll Y3 1 [(0,5,46)]),
oD 48 (.append Y3 72 45 47),
oM 4 48])
(.reg [oM 49 0,
oM 50 7,
oD 51 (.slice 1 49 (some 50) none none),
oM 0 51])))))))))))
(sq (kr [4] [oM 52 4,
oM 2 52,
oD 3 (.mov (cI 0))])
.ret))))))
def Yb_:List RD:=[.tmp 2 false none,.tmp 3 false none]
theorem Yk_:zm_ Tryz.prog Tryz.f100 Yu_ Yb_=true:=by kernel_rfl
def kL_:List AV->List Obj->Option (Prop × AV × List Obj)
 | [.imm (.int .u8) b],[]=>some ((b.length<=65528,.tup [.own 0,.int .i64 (idE b)],[.row false Y3 (idL b)]))
 | _,_=>none
theorem X6_:zd_ Tryz.prog 100 (RwF kL_).sum:=by
 refine qa_ Tryz.func100 Yk_ (za_ (s:=RoF KS_) xg_ (za_ (s:=RoF qw_) Qw_ (za_ (s:=RoF KZ_) jD_ (za_ (s:=RoF Kk_) jX_ (zc_ _))))) fun args objs p v o e=>?_
 unfold kL_ at e
 split at e
 ·rename_i b
  cases e
  refine ⟨rfl,fun hw ho hp=>?_⟩
  change List Int at b
  have hb:∀ z ∈ (b:List Int),(0:Int)<=z/\z<=255:=fun z hz=>(hw (.imm (.int .u8) b) (by simp)).1 z hz
  clear hw ho
  have hlong:¬ 65528 < b.length:=by omega
  ·repeat'(intro t ht;first|(cases t<;>first|(cases ht;done)|(try simp only[zg_]at ht;try(exfalso;first|contradiction|omega)))|((first|refine zb_ ht ?_|refine ht ?_ ?_|refine ht.1 ?_ ?_|refine ht ?_)<;>clear ht))
   all_goals first
    | exact True.intro
    | (exfalso;omega)
    | (intro r h1 h2;clear h1;refine h2 ⟨[0,4,5],List VIn × List Int × List (Int × Int),(fun a=>a.1.length+a.2.1.length<=b.length/\mOk a.2.2 a.1/\(∀ z ∈ a.2.1,(0:Int)<=z/\z<=255)/\inG [] b=inG a.1 a.2.1),fun a=>[.imm (.int .u8) a.2.1,.own 0,.mapv 1],fun a=>[.row false Y3 a.1,.map true (.int .i64) (.int .i64) a.2.2],fun a=>a.2.1.length,⟨([],b,[]),⟨by simp,uw_,hb,rfl⟩,rfl,rfl⟩,?_⟩;clear h2)
   rintro ⟨acc,y,m⟩ ⟨jl,jm,jb,je⟩
   dsimp only at jl jm jb je
   repeat'(intro t ht;first|(cases t<;>first|(cases ht;done)|(try simp only[zg_]at ht;try(exfalso;first|contradiction|omega)))|((first|refine zb_ ht ?_|refine ht ?_ ?_|refine ht.1 ?_ ?_|refine ht ?_)<;>clear ht))
   all_goals first
    | exact True.intro
    | ((try simp only [zk_,zl_,zj_] at*);omega)
    | exact ⟨rfl,by decide,by dsimp only;omega⟩
    | (simp only [List.length_cons,List.length_nil];constructor<;>omega)
    | (have h0:y.length=0:=by omega
       rw [Yw_ h0] at je
       obtain ⟨d1,d2⟩:=(vy_ je).2 (by omega)
       rw [d1,d2];exact ⟨rfl,rfl⟩)
    | (have hT:¬ tlE y 8 8 776=0:=by assumption
       have hi:=uy_ (acc:=acc) hT
       have hg:=jK_ (acc:=acc) (y:=y) (by omega) (by rw [hi];exact hT)
       rw [hi,<- je] at hg
       obtain ⟨d1,d2⟩:=xT_ (b:=b) (e:=tlE y 8 8 776) (by rw [hg]) hT
       rw [d1,d2];exact ⟨rfl,rfl⟩)
    | (have hT:tlE y 8 8 776=0:=by assumption
       obtain ⟨t1,t2,t3⟩:=yT_ hT
       obtain ⟨i1,i2⟩:=B3_ jm hT
       have i3:(o5V (decide (0 < (zy_ m (tlI y 8 8 776 (tT y))).getD 0)) (tlI y 8 8 776 (tT y)) (tlR y 8 8 776)).1=tT y:=by rw [i2];exact vI_t
       first
        | (show (tlR y 8 8 776).length<=100000;rw [t3];have:=gN_ jb;omega)
        | (have hr:=jm.r (o5V (decide (0 < (zy_ m (tlI y 8 8 776 (tT y))).getD 0)) (tlI y 8 8 776 (tT y)) (tlR y 8 8 776)).1
           exact (show IntKind.i64.min<=(zy_ m (o5V (decide (0 < (zy_ m (tlI y 8 8 776 (tT y))).getD 0)) (tlI y 8 8 776 (tT y)) (tlR y 8 8 776)).1).getD 0+1/\(zy_ m (o5V (decide (0 < (zy_ m (tlI y 8 8 776 (tT y))).getD 0)) (tlI y 8 8 776 (tT y)) (tlR y 8 8 776)).1).getD 0+1<=IntKind.i64.max from by simp only [zj_];omega))
        | (have h0:¬ o5E (decide (0 < (zy_ m (tlI y 8 8 776 (tT y))).getD 0)) (tlI y 8 8 776 (tT y)) (tlR y 8 8 776)=0:=ht
           have hg:=jK_ (acc:=acc) (y:=y) (by omega) (by rw [<- i1];exact h0)
           rw [<- i1,<- je] at hg
           obtain ⟨d1,d2⟩:=xT_ (b:=b) (e:=o5E (decide (0 < (zy_ m (tlI y 8 8 776 (tT y))).getD 0)) (tlI y 8 8 776 (tT y)) (tlR y 8 8 776)) (by rw [hg]) h0
           rw [d1,d2];exact ⟨rfl,rfl⟩)
        | (have h0:o5E (decide (0 < (zy_ m (tlI y 8 8 776 (tT y))).getD 0)) (tlI y 8 8 776 (tT y)) (tlR y 8 8 776)=0:=by assumption
           obtain ⟨n1,n2,n3⟩:=gm_ (i1.symm.trans h0)
           first
            | (show 0<=tlI y 8 8 776 (tN y)/\tlI y 8 8 776 (tN y)<=(y.length:Int);rw [t2];omega)
            | (have hg:=gn_ (acc:=acc) (y:=y) (by omega) (i1.symm.trans h0) (by omega)
               have hma:=ux_ (i:=vI acc y) jm
               refine ⟨(acc++[vI acc y],y.drop (tN y).toNat,kk_ m (vI acc y).1 ((zy_ m (vI acc y).1).getD 0+1)),⟨?_,hma,fun z hz=>jb z (List.mem_of_mem_drop hz),je.trans hg⟩,?_,?_,?_⟩
               ·dsimp only;rw [List.length_append,List.length_singleton,List.length_drop];omega
               ·dsimp only;rw [List.length_drop];omega
               ·dsimp only;rw [t2];try rfl
               ·dsimp only;rw [<- i2];try rfl)
            | fail)
        | fail)
 ·cases e
def ug_:IR:=
(sq (kr [0] [oD 2 (.nilrow Y3)])
(sq (.reg [oM 6 0,
oC 7 99 [6],
oM 3 7])
(sq (sq (.reg [oM 8 0,
oC 9 43 [8],
oB 10 .neq 9 (cI 0)])
(.cond 10
(sq (kr [] [oD 2 (.nilrow Y3)])
.ret)
.skip))
(sq (kr [0,3] [oM 12 3,
oC 13 100 [12],
oM 11 13,
oX 14 11 0,
oX 15 11 1,
oM 4 14,
oM 5 15])
(sq (kr [0,4,5] [oM 16 0,
oM 17 5,
oC 18 44 [16,17]])
(sq (.reg [oM 19 4,
oM 2 19])
.ret))))))
def VQ_:List RD:=[.tmp 2 false none]
theorem V2_:zm_ Tryz.prog Tryz.f46 ug_ VQ_=true:=by kernel_rfl
def jo_:List AV->List Obj->Option (Prop × AV × List Obj)
 | [.ptr 0 0],[.box [.imm (.int .u8) b,.int .i64 p,.int .i64 sh,.int .i64 od,.int .i64 e,.bool true]]=>some ((0<=p/\p<=b.length/\b.length<=65528/\sh ≠ 0,.own 1,[.box [.imm (.int .u8) b,.int .i64 ((if e=0 then (b.length:Int) else p)),.int .i64 sh,.int .i64 od,.int .i64 (hr_ b p e),.bool true],.row false Y3 (itL5 b p e)]))
 | _,_=>none
theorem YX_:zd_ Tryz.prog 46 (RwF jo_).sum:=by
 refine qa_ Tryz.func46 V2_ (za_ (s:=RwF Zl_) ZL_ (za_ (s:=RoF zp_) zq_ (za_ (s:=RwF kL_) X6_ (za_ (s:=RwF zs_) zt_ (zc_ _))))) fun args objs p v o e=>?_
 unfold jo_ at e
 split at e
 ·rename_i b p sh od e
  cases e
  refine ⟨rfl,fun hw ho hp=>?_⟩
  change List Int at b
  clear hw ho
  obtain ⟨h1,h2,h3,h4⟩:=hp
  have hl:(b.drop p.toNat).length<=65528:=by rw [List.length_drop];omega
  by_cases he:e=0
  ·subst he
   have f0:∀ x,zv_ 0 x=x:=fun x=>if_pos rfl
   repeat'(intro t ht;first|(cases t<;>first|(cases ht;done)|(try simp only[zg_]at ht;try(exfalso;first|contradiction|omega)))|((first|refine zb_ ht ?_|refine ht ?_ ?_|refine ht.1 ?_ ?_|refine ht ?_)<;>clear ht))
   all_goals first
    | exact True.intro
    | exact ⟨h1,h2,by omega,h4⟩
    | exact hl
    | exact ⟨rfl,rfl⟩
    | (exfalso;omega)
  ·repeat'(intro t ht;first|(cases t<;>first|(cases ht;done)|(try simp only[zg_]at ht;try(exfalso;first|contradiction|omega)))|((first|refine zb_ ht ?_|refine ht ?_ ?_|refine ht.1 ?_ ?_|refine ht ?_)<;>clear ht))
   all_goals first
    | exact True.intro
    | exact ⟨h1,h2,by omega,h4⟩
    | (unfold itL5 hr_;rw [if_neg he,if_neg he,if_neg he];exact ⟨rfl,rfl⟩)
    | (exfalso;omega)
 ·cases e
theorem zjC_ {P:Program} {id:FuncId} {f g:List AV->List Obj->Option (Prop × AV × List Obj)} (hs:zd_ P id (RwF f).sum)
 (h:∀ args objs p v' o',g args objs=some (p,v',o')->∃ v o,f args objs=some (p,v,o)/\o'.length=o.length/\(∀ (i:Nat) (x:Obj),o'[i]?=some x->x=.dead\/o[i]?=some x)/\∀ (I:Nat->Prop) (w:World) (m:M) cv,HRel I w m (ofL o)->RV I w m v cv->RV I w m v' cv):zd_ P id (RwF g).sum:=by
 refine ⟨hs.1,Uc_ g,fun {I w m args cargs objs K} hH hA hu hS=>?_⟩
 simp only [RwF,SumK.sum] at hS
 split at hS
 ·rename_i p v o e0
  obtain ⟨hp,hk⟩:=zo_ hS
  obtain ⟨v0,l,hf,hlen,hob,hrv⟩:=h args objs p v o e0
  clear e0
  have hS':(RwF f).sum args objs fun v' o'=>v'=v0/\o'=l:=by
   unfold RwF SumK.sum;simp only;rw [hf];exact kW_ hp fun _=>⟨rfl,rfl⟩
  refine (hs.2.2 hH hA hu hS').mono ?_
  rintro e w' ⟨v',cv,objs',I',m',rfl,⟨rfl,rfl⟩,hL⟩
  have hold:∀ q x,ofL o q=some x->x.live=true->ofL objs' q=some x:=fun q x e hl=>by
   rcases hob q x e with rfl | h1
   ·cases hl
   ·exact h1
  have ml:∀ {x:Obj},x.mut=true->x.live=true:=fun {x} h=>by cases x<;>first | rfl | cases h
  refine ⟨v,cv,o,I',m',rfl,hk,⟨hrv _ _ _ _ hL.H hL.rv,⟨fun q hq=>?_,fun q x e=>?_,fun q q' x x' b e e' hl hl' hb hb'=>hL.H.inj q q' x x' b (hold _ _ e hl) (hold _ _ e' hl') hl hl' hb hb',fun q x b e hm hb=>hL.H.notI q x b (hold _ _ e (ml hm)) hm hb,fun q t x b e hb=>hL.H.isI q t x b (hold _ _ e rfl) hb,hL.H.Ilt⟩,hL.E,fun q hq=>by rw [hlen];exact hL.used q hq,by rw [hlen];exact hL.len,hL.fr,hL.new,fun q x b e hl hb=>hL.own q x b (hold q x e hl) hl hb⟩⟩
  ·refine hL.H.lt q fun h0=>hq ?_
   unfold ofL at h0 ⊢
   rw [List.getElem?_eq_none_iff] at h0 ⊢
   omega
  ·rcases hob q x e with rfl | h1
   ·trivial
   ·exact hL.H.obj q x h1
 ·exact hS.elim
def wkP (I:Nat->Prop) (w:World) (m:M):List AV->List AV->Prop
 | [],[]=>True
 | a :: l,b :: r=>(∀ c,RV0 I w m a c->RV0 I w m b c)/\wkP I w m l r
 | _,_=>False
theorem wkL {I:Nat->Prop} {w:World} {m:M}:∀ {l l':List AV} {r:List Value},wkP I w m l l'->Zn_ I w m l r->Zn_ I w m l' r
 | [],[],_,_,h=>h
 | _ :: _,_ :: _,_ :: _,k,h=>⟨k.1 _ h.1,wkL k.2 h.2⟩
 | _ :: _,_ :: _,[],_,h=>h.elim
 | [],_ :: _,_,k,_=>k.elim
 | _ :: _,[],_,k,_=>k.elim
theorem zaw_ {I:Nat->Prop} {w:World} {m:M} {a:AV}:∀ c,RV0 I w m a c->RV0 I w m a c:=fun _ h=>h
theorem JS_ {I:Nat->Prop} {w:World} {m:M} {t:Ty} {x:List t.den}:∀ c,RV0 I w m (.imm t x) c->RV0 I w m .undef c:=fun c h=>by
 obtain ⟨ao,len,cap,rfl,_⟩:=h;rfl
theorem zlc_ {I:Nat->Prop} {w:World} {m:M} {k:Nat} {t:Ty} {x:List t.den} (hH:Zg_ I w m k (.row false t x)):∀ c,RV0 I w m (.own k) c->RV0 I w m (.view k 0 x.length) c:=fun c h=>by
 obtain ⟨ao,len,cap,e,u,r2,r3,r4,r5,r6⟩:=h
 have hx:=hH.2.1
 refine ⟨ao,len,cap,e,u,by rw [r2,hx],r4,by omega,by rw [<- r3];exact r5,?_⟩
 rcases r6 with ⟨a,b,c⟩ | ⟨b,h1,h2⟩
 ·exact .inl ⟨a,b,c⟩
 ·exact .inr ⟨b,0,h1,h2,fun _=>by simp⟩
def RbF (f:List AV->List Obj->Option (Prop × Bool × (AV × List Obj) × (AV × List Obj))):SumK:=.rw fun args objs K=>match f args objs with
 | some (p,b,(v,o),(v',o'))=>need p (cnd b (K v o) (K v' o'))
 | none=>False
def rbR (f:List AV->List Obj->Option (Prop × Bool × (AV × List Obj) × (AV × List Obj))):List AV->List Obj->Option (Prop × Res):=fun args objs=>match f args objs with
 | some (p,b,(v,o),(v',o'))=>some (p,.br b (.one v o) (.one v' o'))
 | none=>none
theorem zlt_ {f:List AV->List Obj->Option (Prop × Bool × (AV × List Obj) × (AV × List Obj))}:(RcF (rbR f)).sum=(RbF f).sum:=by
 funext args objs K
 simp only [RcF,RbF,SumK.sum,rbR]
 cases f args objs with
 | none=>rfl
 | some q=>obtain ⟨p,b,⟨v,o⟩,v',o'⟩:=q;rfl
def ge_:IR:=
(sq (kr [0,1] [oD 4 (.box [.int .i64 0,.int .u32 0,.imm (.int .u64) [],.imm (.int .u8) [],.imm YB [],.imm Y1 [],.imm Y2 [],.imm Y3 [],.imm Y4 [],.imm Y5 [],.imm Y7 [],.imm Y8 [],.int .i64 0,.int .i64 0,.imm YC []]),
oD 5 (.mov (cI 0))])
(sq (kr [0,1,4] [oM 13 0,
oC 14 26 [13],
oM 12 14,
oX 15 12 0,
oX 16 12 1,
oM 6 15,
oM 7 16])
(sq (sq (kr [0,1,4,6,7] [oM 17 7,
oD 18 (.un .not 17)])
(.cond 18
(sq (.reg [oD 19 (.build [.int .i64 0,.int .u32 0,.imm (.int .u64) [],.imm (.int .u8) [],.imm YB [],.imm Y1 [],.imm Y2 [],.imm Y3 [],.imm Y4 [],.imm Y5 [],.imm Y7 [],.imm Y8 [],.int .i64 0,.int .i64 0,.imm YC []] []),
oS 15 4 19,
oD 5 (.mov (cI 10001))])
.ret)
.skip))
(sq (.reg [oM 20 1,
oC 21 41 [20,(cI 263),(cI 269)],
oM 8 21])
(sq (kr [0,1,4,6,8] [oM 22 0,
oM 23 8,
oM 24 6,
oC 25 42 [23,24],
oD 26 (.build [.int .i64 0,.int .u32 0,.imm (.int .u64) [],.imm (.int .u8) [],.imm YB [],.imm Y1 [],.imm Y2 [],.imm Y3 [],.imm Y4 [],.imm Y5 [],.imm Y7 [],.imm Y8 [],.int .i64 0,.int .i64 0,.imm YC []] [(0,1,22),(2,1,25)]),
oD 9 (.box [.int .i64 0,.int .u32 0,.imm (.int .u64) [],.imm (.int .u8) [],.imm YB [],.imm Y1 [],.imm Y2 [],.imm Y3 [],.imm Y4 [],.imm Y5 [],.imm Y7 [],.imm Y8 [],.int .i64 0,.int .i64 0,.imm YC []]),
oS 15 9 26])
(sq (sq (.reg [oM 27 8,
oC 28 43 [27],
oM 10 28])
(sq (kr [0,1,4,8,9,10] [oM 29 10,
oB 30 .neq 29 (cI 0)])
(.cond 30
(sq (.reg [oD 31 (.build [.int .i64 0,.int .u32 0,.imm (.int .u64) [],.imm (.int .u8) [],.imm YB [],.imm Y1 [],.imm Y2 [],.imm Y3 [],.imm Y4 [],.imm Y5 [],.imm Y7 [],.imm Y8 [],.int .i64 0,.int .i64 0,.imm YC []] []),
oM 32 10,
oS 15 4 31,
oM 5 32])
.ret)
.skip)))
(sq (kr [0,1,4,8,9] [oM 33 8,
oM 34 0,
oA 35 2 9,
oL 36 35,
oC 37 30 [34,36],
oC 38 44 [33,37]])
(sq (.reg [oM 39 8,
oC 40 45 [39],
oA 41 5 9,
oS 1 41 40])
(sq (sq (kr [0,1,4,8,9] [oM 42 0,
oB 43 .eql 42 (cI 14)])
(.cond 43
(.reg [oM 44 8,
oC 45 46 [44],
oA 46 7 9,
oS 1 46 45])
.skip))
(sq (sq (kr [1,4,8,9] [oM 47 8,
oC 48 47 [47],
oB 49 .gtr 48 (cI 0),
oM 50 49,
oF 50 51 (.mov 1),
oF 50 52 (.len 51),
oF 50 53 (.bin .gtr 52 (cI 65527)),
oP 54 50 cT 53])
(.cond 54
(kr [4,8,9] [oM 55 8,
oC 56 44 [55,(cI 263)]])
.skip))
(sq (sq (kr [4,8,9] [oM 57 8,
oC 58 43 [57],
oM 11 58])
(sq (.reg [oM 59 11,
oB 60 .neq 59 (cI 0)])
(.cond 60
(sq (.reg [oD 61 (.build [.int .i64 0,.int .u32 0,.imm (.int .u64) [],.imm (.int .u8) [],.imm YB [],.imm Y1 [],.imm Y2 [],.imm Y3 [],.imm Y4 [],.imm Y5 [],.imm Y7 [],.imm Y8 [],.int .i64 0,.int .i64 0,.imm YC []] []),
oM 62 11,
oS 15 4 61,
oM 5 62])
.ret)
.skip)))
(sq (kr [4,9] [oK 63 15 9,
oS 15 4 63,
oD 5 (.mov (cI 0))])
.ret))))))))))))
def Um_:List RD:=[.cell 4 (some 15) false [],.tmp 5 false none]
theorem UO_:zm_ Tryz.prog Tryz.f14 ge_ Um_=true:=by kernel_rfl
def kX_:List AV->List Obj->Option (Prop × Res)
 | [.int .i64 tt,.imm (.int .u8) b],[]=>some (tt=14/\b.length<=65527,.br (decide (ZN_ 14 b=0)) (.one (.tup [.agg [.int .i64 14,.int .u32 0,.own 0,.imm (.int .u8) [],.imm YB [],.imm Y1 (gX 14 b),.imm Y2 [],.own 1,.imm Y4 [],.imm Y5 [],.imm Y7 [],.imm Y8 [],.int .i64 0,.int .i64 0,.imm YC []],.int .i64 0]) [.row false (.int .u64) (zG_ (wF 14) b),.row false Y3 (gI b)]) (.one (.tup [.agg [.int .i64 0,.int .u32 0,.imm (.int .u64) [],.imm (.int .u8) [],.imm YB [],.imm Y1 [],.imm Y2 [],.imm Y3 [],.imm Y4 [],.imm Y5 [],.imm Y7 [],.imm Y8 [],.int .i64 0,.int .i64 0,.imm YC []],.int .i64 (ZN_ 14 b)]) []))
 | _,_=>none
def k4_:List AV->List Obj->Option (Prop × Res)
 | [.int .i64 tt,.imm (.int .u8) b],[]=>some (tt=14/\b.length<=65527,.br (decide (ZN_ 14 b=0)) (.one (.tup [.agg [.int .i64 14,.int .u32 0,.own 0,.undef,.undef,.undef,.undef,.view 1 0 (gI b).length,.undef,.undef,.undef,.undef,.int .i64 0,.int .i64 0,.undef],.int .i64 0]) [.row false (.int .u64) (zG_ (wF 14) b),.dead]) (.one (.tup [.agg [.int .i64 0,.int .u32 0,.imm (.int .u64) [],.imm (.int .u8) [],.imm YB [],.imm Y1 [],.imm Y2 [],.imm Y3 [],.imm Y4 [],.imm Y5 [],.imm Y7 [],.imm Y8 [],.int .i64 0,.int .i64 0,.imm YC []],.int .i64 (ZN_ 14 b)]) []))
 | _,_=>none
def k0_:List AV->List Obj->Option (Prop × Bool × (AV × List Obj) × (AV × List Obj))
 | [.int .i64 tt,.imm (.int .u8) b],[]=>some (tt=14/\b.length<=65527,decide (ZN_ 14 b=0),(.tup [.agg [.int .i64 14,.int .u32 0,.own 0,.undef,.undef,.undef,.undef,.view 1 0 (gI b).length,.undef,.undef,.undef,.undef,.int .i64 0,.int .i64 0,.undef],.int .i64 0],[.row false (.int .u64) (zG_ (wF 14) b),.dead]),(.tup [.agg [.int .i64 0,.int .u32 0,.imm (.int .u64) [],.imm (.int .u8) [],.imm YB [],.imm Y1 [],.imm Y2 [],.imm Y3 [],.imm Y4 [],.imm Y5 [],.imm Y7 [],.imm Y8 [],.int .i64 0,.int .i64 0,.imm YC []],.int .i64 (ZN_ 14 b)],[]))
 | _,_=>none
theorem VC_:zd_ Tryz.prog 14 (RcF kX_).sum:=by
 refine Uv_ Tryz.func14 UO_ (za_ (s:=RoF QL_) kS_ (za_ (s:=RwF ZP_) ZQ_ (za_ (s:=RwF ZX_) QD_ (za_ (s:=RoF zp_) zq_ (za_ (s:=RoF kd_) K5_ (za_ (s:=RwF zs_) zt_ (za_ (s:=RwF KQ_) xe_ (za_ (s:=RwF jo_) YX_ (za_ (s:=RoF zW_) Za_ (zc_ _)))))))))) fun args objs p v e=>?_
 unfold kX_ at e
 split at e
 ·rename_i tt b
  cases e
  refine ⟨rfl,fun hw ho hp=>?_⟩
  have hb:∀ x ∈ (b:List Int),(0:Int)<=x/\x<=255:=fun x hx=>(hw (.imm (.int .u8) b) (by simp)).1 x hx
  clear hw ho
  change List Int at b
  obtain ⟨h14,hp⟩:=hp
  subst h14
  obtain ⟨e1,e2,e0⟩:=Uy_ (t:=14) (b:=b) rfl
  obtain ⟨c0,c1,c2⟩:=cuF (w:=wF 14) (b:=b) (by decide)
  rcases KF_ (wF 14) b with hk | hk | hk
  ·obtain ⟨c3,c4,c5⟩:=c0 hk
   obtain ⟨n1,n2⟩:=rowN hb hk
   rw [show zD_ (wF 14)=40 by decide] at n2
   obtain ⟨q1,q2⟩:=zhF_ hb (by omega)
   have e:=e0 hk
   have p1:0<=gP 14 b/\gP 14 b<=b.length:=Bq_ (e:=g1 14 b) hb (by decide) n2
   have f1:mtP b 40 (zv_ 0 (qF 14 (zG_ (wF 14) b)))=gP 14 b:=rfl
   have f2:mtE b 40 (zv_ 0 (qF 14 (zG_ (wF 14) b)))=gE 14 b:=rfl
   have f3:mtL b 40 (zv_ 0 (qF 14 (zG_ (wF 14) b)))=gX 14 b:=rfl
   have f4:hr_ b (gP 14 b) (gE 14 b)=hE b:=rfl
   have f5:itL5 b (gP 14 b) (gE 14 b)=gI b:=rfl
   have f6:(if gE 14 b=0 then (b.length:Int) else gP 14 b)=hP b:=rfl
   have p2:0<=hP b/\hP b<=b.length:=by unfold hP;split<;>omega
   have E2:0 < (b.length:Int) - hP b->ZN_ 14 b=zv_ (hE b) 263:=fun h=>by
    have h0:¬ x23 14 b=0:=fun c=>by have:=(q2 c).1;omega
    rw [e,q1,if_pos h0,YB_ h0]
   have E3:ZN_ 14 b=zv_ (hE b) 263\/ZN_ 14 b=hE b:=by
    rw [e,q1,if_neg (show ¬ (65527:Int) < b.length by omega)]
    by_cases h0:x23 14 b=0
    ·right;rw [if_neg (not_not_intro h0),h0]
    ·right;rw [if_pos h0]
   have E4:ZN_ 14 b=hE b:=by
    rw [e,q1,if_neg (show ¬ (65527:Int) < b.length by omega)]
    by_cases h0:x23 14 b=0
    ·rw [if_neg (not_not_intro h0),h0]
    ·rw [if_pos h0]
   clear e q1 E3
   repeat'(intro t ht;first|(cases t<;>first|(cases ht;done)|(try simp only[zg_]at ht;try(exfalso;first|contradiction|omega)))|((first|refine zb_ ht ?_|refine ht ?_ ?_|refine ht.1 ?_ ?_|refine ht ?_)<;>clear ht))
   all_goals (try simp only [c3,c4,c5,f1,f2,f3,f4,f5,f6] at*)
   all_goals first
    | exact True.intro
    | omega
    | (refine ⟨?_,?_,?_⟩<;>omega)
    | (refine ⟨?_,?_,?_,?_⟩<;>omega)
    | exact ⟨rfl,n1⟩
    | exact p1
    | exact absurd ht (jN_ _)
    | (have E:=E2 (by assumption)
       rw [Q1_ (decide_eq_false (by rw [E];exact jN_ _)),E];(first | exact ⟨rfl,rfl⟩ | exact ⟨rfl,True.intro⟩))
    | (have h0:hE b=0:=by assumption
       rw [ja_ (decide_eq_true (E4.trans h0))];(first | exact ⟨rfl,rfl⟩ | exact ⟨rfl,True.intro⟩))
    | (have h0:¬ hE b=0:=by assumption
       rw [Q1_ (decide_eq_false (by rw [E4];exact h0)),E4];(first | exact ⟨rfl,rfl⟩ | exact ⟨rfl,True.intro⟩))
  ·have c3:=c1 hk
   have e:=e1 hk
   have hM:decide (ZN_ 14 b=0)=false:=by rw [e];decide
   repeat'(intro t ht;first|(cases t<;>first|(cases ht;done)|(try simp only[zg_]at ht;try(exfalso;first|contradiction|omega)))|((first|refine zb_ ht ?_|refine ht ?_ ?_|refine ht.1 ?_ ?_|refine ht ?_)<;>clear ht))
   all_goals (try simp only [c3] at*)
   all_goals first
    | exact True.intro
    | omega
    | (refine ⟨?_,?_,?_⟩<;>omega)
    | (rw [Q1_ hM,e];(first | exact ⟨rfl,rfl⟩ | exact ⟨rfl,True.intro⟩))
  ·have c3:=c2 hk
   have e:=e2 hk
   have hM:decide (ZN_ 14 b=0)=false:=by rw [e];decide
   repeat'(intro t ht;first|(cases t<;>first|(cases ht;done)|(try simp only[zg_]at ht;try(exfalso;first|contradiction|omega)))|((first|refine zb_ ht ?_|refine ht ?_ ?_|refine ht.1 ?_ ?_|refine ht ?_)<;>clear ht))
   all_goals (try simp only [c3] at*)
   all_goals first
    | exact True.intro
    | omega
    | (refine ⟨?_,?_,?_⟩<;>omega)
    | (rw [Q1_ hM,e];(first | exact ⟨rfl,rfl⟩ | exact ⟨rfl,True.intro⟩))
 ·cases e
theorem up_:zd_ Tryz.prog 14 (RcF k4_).sum:=by
 rw [zd3_]
 refine zjC_ (zhG_ VC_) fun args objs p v o e=>?_
 obtain ⟨r,e2,rfl,rfl⟩:=zft_ e
 unfold k4_ at e2
 split at e2
 ·rename_i tt b
  cases e2
  cases hb:decide (ZN_ 14 b=0) with
  | true=>
    refine ⟨.tup [.agg [.int .i64 14,.int .u32 0,.own 0,.imm (.int .u8) [],.imm YB [],.imm Y1 (gX 14 b),.imm Y2 [],.own 1,.imm Y4 [],.imm Y5 [],.imm Y7 [],.imm Y8 [],.int .i64 0,.int .i64 0,.imm YC []],.int .i64 0],[.row false (.int .u64) (zG_ (wF 14) b),.row false Y3 (gI b)],?_,rfl,fun i x h=>?_,fun I w m cv hH h=>?_⟩
    ·unfold pkF kX_;dsimp only;rw [hb];rfl
    ·rcases i with _ | _ | i
     ·exact .inr h
     ·cases h;exact .inl rfl
     ·cases h
    ·obtain ⟨cs,rfl,h⟩:=h
     refine ⟨cs,rfl,?_⟩
     revert h
     generalize cs.toList=r
     intro h
     match r,h with
     | a :: c :: r',h=>
       obtain ⟨⟨ds,rfl,ha⟩,hb',hc⟩:=h
       refine ⟨⟨ds,rfl,wkL ?_ ha⟩,hb',hc⟩
       have hO:Zg_ I w m 1 (.row false Y3 (gI b)):=hH.obj 1 _ rfl
       exact ⟨zaw_,zaw_,zaw_,JS_,JS_,JS_,JS_,zlc_ hO,JS_,JS_,JS_,JS_,zaw_,zaw_,JS_,True.intro⟩
  | false=>
    refine ⟨.tup [.agg [.int .i64 0,.int .u32 0,.imm (.int .u64) [],.imm (.int .u8) [],.imm YB [],.imm Y1 [],.imm Y2 [],.imm Y3 [],.imm Y4 [],.imm Y5 [],.imm Y7 [],.imm Y8 [],.int .i64 0,.int .i64 0,.imm YC []],.int .i64 (ZN_ 14 b)],[],?_,rfl,fun i x h=>.inr h,fun I w m cv hH h=>h⟩
    unfold pkF kX_;dsimp only;rw [hb];rfl
 ·cases e2
theorem rbC:rbR k0_=k4_:=by
 funext args objs
 unfold rbR k0_ k4_
 split
 ·rename_i h
  split at h
  ·cases h;rfl
  ·cases h
 ·rename_i h
  split at h
  ·cases h
  ·rename_i hn
   first
    | rfl
    | (split
       ·exact absurd rfl (hn _ _ rfl)
       ·rfl)
theorem VH_:zd_ Tryz.prog 14 (RbF k0_).sum:=by
 rw [<- zlt_,rbC];exact up_
theorem s23a:wrF (14,0,[1,0,2,0,0,0,9,4294967295,4294967295,4294967295,1],[],[],[],[],[(5,0,0,[],[],())],[],[],[],[],0,0,[],())=([0,0,0,0,0,0,0,1,0,0,0,0,0,0,0,0,2,0,0,0,0,0,0,9,255,255,255,255,255,255,255,255,255,255,255,255,0,1,0,0,0,1,0,4,0,0,0,0,0,5,0,8,0,0,0,0],0):=by decide+kernel
theorem s23w:wfM23 (14,0,[1,0,2,0,0,0,9,4294967295,4294967295,4294967295,1],[],[],[],[],[(5,0,0,[],[],())],[],[],[],[],0,0,[],()):=⟨by decide,fun o ho=>(by cases ho),fun i hi=>by
 rcases List.mem_singleton.1 hi with rfl
 exact ⟨by decide,by decide,fun a ha=>by cases ha⟩⟩
theorem s23b:ZN_ 14 [0,0,0,0,0,0,0,1,0,0,0,0,0,0,0,0,2,0,0,0,0,0,0,9,255,255,255,255,255,255,255,255,255,255,255,255,0,1,0,0,0,1,0,4,0,0,0,0,0,5,0,8,0,0,0,0]=0/\zG_ (wF 14) [0,0,0,0,0,0,0,1,0,0,0,0,0,0,0,0,2,0,0,0,0,0,0,9,255,255,255,255,255,255,255,255,255,255,255,255,0,1,0,0,0,1,0,4,0,0,0,0,0,5,0,8,0,0,0,0]=[1,0,2,0,0,0,9,4294967295,4294967295,4294967295,1]/\gI [0,0,0,0,0,0,0,1,0,0,0,0,0,0,0,0,2,0,0,0,0,0,0,9,255,255,255,255,255,255,255,255,255,255,255,255,0,1,0,0,0,1,0,4,0,0,0,0,0,5,0,8,0,0,0,0]=[(5,0,0,[],[],())]:=by
 obtain ⟨h1,_,h2⟩:=zjp_ s23w (by rw [s23a])
 rw [s23a] at h1 h2
 have h1:ZN_ 14 [0,0,0,0,0,0,0,1,0,0,0,0,0,0,0,0,2,0,0,0,0,0,0,9,255,255,255,255,255,255,255,255,255,255,255,255,0,1,0,0,0,1,0,4,0,0,0,0,0,5,0,8,0,0,0,0]=0:=h1
 replace h2:(((qp_ 14 [0,0,0,0,0,0,0,1,0,0,0,0,0,0,0,0,2,0,0,0,0,0,0,9,255,255,255,255,255,255,255,255,255,255,255,255,0,1,0,0,0,1,0,4,0,0,0,0,0,5,0,8,0,0,0,0]).1,0,(qp_ 14 [0,0,0,0,0,0,0,1,0,0,0,0,0,0,0,0,2,0,0,0,0,0,0,9,255,255,255,255,255,255,255,255,255,255,255,255,0,1,0,0,0,1,0,4,0,0,0,0,0,5,0,8,0,0,0,0]).2.2):VMs)=(14,0,[1,0,2,0,0,0,9,4294967295,4294967295,4294967295,1],[],[],[],[],[(5,0,0,[],[],())],[],[],[],[],0,0,[],()):=h2
 rw [wl_ h1] at h2
 have e1:zG_ (wF 14) [0,0,0,0,0,0,0,1,0,0,0,0,0,0,0,0,2,0,0,0,0,0,0,9,255,255,255,255,255,255,255,255,255,255,255,255,0,1,0,0,0,1,0,4,0,0,0,0,0,5,0,8,0,0,0,0]=[1,0,2,0,0,0,9,4294967295,4294967295,4294967295,1]:=congrArg (fun q:VMs=>q.2.2.1) h2
 have e2:idL (rF [0,0,0,0,0,0,0,1,0,0,0,0,0,0,0,0,2,0,0,0,0,0,0,9,255,255,255,255,255,255,255,255,255,255,255,255,0,1,0,0,0,1,0,4,0,0,0,0,0,5,0,8,0,0,0,0])=[(5,0,0,[],[],())]:=congrArg (fun q:VMs=>q.2.2.2.2.2.2.2.1) h2
 obtain ⟨_,q2⟩:=zhF_ (b:=[0,0,0,0,0,0,0,1,0,0,0,0,0,0,0,0,2,0,0,0,0,0,0,9,255,255,255,255,255,255,255,255,255,255,255,255,0,1,0,0,0,1,0,4,0,0,0,0,0,5,0,8,0,0,0,0]) (by decide) (by decide)
 exact ⟨h1,e1,((q2 (zlu_ h1).2.2.1).2.2).trans e2⟩
theorem s23c:wrF (14,0,[1,0,2,5,0,0,9,4294967295,4294967295,4294967295,1],[],[],[],[],[(5,0,0,[],[],())],[],[],[],[],0,0,[],())=([],10001):=zhf_ fun c=>absurd c.2.1 (by decide)
theorem s23d:ZN_ 14 [0,0,0,0,0,0,0,1,0,0,0,0,0,0,0,0,2,5,0,0,0,0,0,9,255,255,255,255,255,255,255,255,255,255,255,255,0,1,0,0,0,1,0,4,0,0,0,0,0,5,0,8,0,0,0,0]=1287:=by
 have hk:zQ_ (wF 14) [0,0,0,0,0,0,0,1,0,0,0,0,0,0,0,0,2,5,0,0,0,0,0,9,255,255,255,255,255,255,255,255,255,255,255,255,0,1,0,0,0,1,0,4,0,0,0,0,0,5,0,8,0,0,0,0]=0:=by decide+kernel
 have hq:qF 14 (zG_ (wF 14) [0,0,0,0,0,0,0,1,0,0,0,0,0,0,0,0,2,5,0,0,0,0,0,9,255,255,255,255,255,255,255,255,255,255,255,255,0,1,0,0,0,1,0,4,0,0,0,0,0,5,0,8,0,0,0,0])=1287:=by decide+kernel
 have hx:x23 14 [0,0,0,0,0,0,0,1,0,0,0,0,0,0,0,0,2,5,0,0,0,0,0,9,255,255,255,255,255,255,255,255,255,255,255,255,0,1,0,0,0,1,0,4,0,0,0,0,0,5,0,8,0,0,0,0]=1287:=by unfold x23;rw [if_pos (by rw [hq];decide),hq]
 unfold ZN_;rw [if_neg (by decide),hk,if_neg (by decide),if_neg (by decide),hx];rfl
def zcN_:IR:=
(sq (kr [] [oD 0 (.mov cF)])
(sq (kr [] [oD 10 (.sliceAll (.int .u64) 11 [(0,1,(.c (.int .u64 1))),(1,1,(.c (.int .u64 0))),(2,1,(.c (.int .u64 2))),(3,1,(.c (.int .u64 0))),(4,1,(.c (.int .u64 0))),(5,1,(.c (.int .u64 0))),(6,1,(.c (.int .u64 9))),(7,1,(.c (.int .u64 4294967295))),(8,1,(.c (.int .u64 4294967295))),(9,1,(.c (.int .u64 4294967295))),(10,1,(.c (.int .u64 1)))]),
oD 11 (.build [.int .i64 0,.int .u64 0,.int .u64 0,.imm Y2 [],.imm (.int .u8) []] [(0,1,(cI 5))]),
oD 12 (.sliceAll Y3 1 [(0,5,11)]),
oD 13 (.build [.int .i64 0,.int .u32 0,.imm (.int .u64) [],.imm (.int .u8) [],.imm YB [],.imm Y1 [],.imm Y2 [],.imm Y3 [],.imm Y4 [],.imm Y5 [],.imm Y7 [],.imm Y8 [],.int .i64 0,.int .i64 0,.imm YC []] [(0,1,(cI 14)),(2,1,10),(7,1,12)]),
oD 1 (.box [.int .i64 0,.int .u32 0,.imm (.int .u64) [],.imm (.int .u8) [],.imm YB [],.imm Y1 [],.imm Y2 [],.imm Y3 [],.imm Y4 [],.imm Y5 [],.imm Y7 [],.imm Y8 [],.int .i64 0,.int .i64 0,.imm YC []]),
oS 15 1 13])
(sq (kr [1] [oK 15 15 1,
oC 16 9 [15],
oM 14 16,
oX 17 14 0,
oX 18 14 1,
oM 2 17,
oM 3 18])
(sq (kr [1,2,3] [oM 20 2,
oC 21 14 [(cI 14),20],
oM 19 21,
oX 22 19 0,
oX 23 19 1,
oD 4 (.box [.int .i64 0,.int .u32 0,.imm (.int .u64) [],.imm (.int .u8) [],.imm YB [],.imm Y1 [],.imm Y2 [],.imm Y3 [],.imm Y4 [],.imm Y5 [],.imm Y7 [],.imm Y8 [],.int .i64 0,.int .i64 0,.imm YC []]),
oS 15 4 22,
oM 5 23])
(sq (kr [1,2,3,4,5] [oD 24 (.slice0 (.int .u64)),
oA 25 2 1,
oL 26 25,
oD 27 (.append (.int .u64) 8 24 26),
oA 28 2 1,
oS 1 28 27])
(sq (.reg [oA 29 2 1,
oL 30 29,
oD 31 (.indexSl 1 30 (cI 3)),
oN (.store 1 31 (.c (.int .u64 5)))])
(sq (kr [1,2,3,4,5] [oK 33 15 1,
oC 34 9 [33],
oM 32 34,
oX 35 32 0,
oX 36 32 1,
oM 6 35,
oM 7 36])
(sq (sq (kr [2,3,4,5,7] [oM 37 2,
oE 38 37,
oB 39 .neq 38 (cI 56)])
(.cond 39
(sq (.reg [oD 0 (.mov cF)])
.ret)
.skip))
(sq (.reg [oM 40 2,
oD 41 (.indexSl 1 40 (cI 17)),
oN (.store 1 41 (.c (.int .u8 5)))])
(sq (kr [2,3,4,5,7] [oM 43 2,
oC 44 14 [(cI 14),43],
oM 42 44,
oX 45 42 0,
oX 46 42 1,
oD 8 (.box [.int .i64 0,.int .u32 0,.imm (.int .u64) [],.imm (.int .u8) [],.imm YB [],.imm Y1 [],.imm Y2 [],.imm Y3 [],.imm Y4 [],.imm Y5 [],.imm Y7 [],.imm Y8 [],.int .i64 0,.int .i64 0,.imm YC []]),
oS 15 8 45,
oM 9 46])
(sq (kr [3,4,5,7,9] [oM 47 3,
oB 48 .eql 47 (cI 0),
oM 49 48,
oT 49 50 (.mov 5),
oT 49 51 (.bin .eql 50 (cI 0)),
oP 52 49 51 cF,
oM 53 52,
oT 53 54 (.fieldAddr 7 4),
oT 53 55 (.load none 54),
oT 53 56 (.len 55),
oT 53 57 (.bin .eql 56 (cI 1)),
oP 58 53 57 cF,
oM 59 58,
oT 59 60 (.fieldAddr 2 4),
oT 59 61 (.load none 60),
oT 59 62 (.len 61),
oT 59 63 (.bin .eql 62 (cI 11)),
oP 64 59 63 cF,
oM 65 64,
oT 65 66 (.fieldAddr 2 4),
oT 65 67 (.load none 66),
oT 65 68 (.slice 1 67 none (some (cI 3)) none),
oT 65 69 (.sliceAll (.int .u64) 3 [(0,1,(.c (.int .u64 1))),(1,1,(.c (.int .u64 0))),(2,1,(.c (.int .u64 2)))]),
oT 65 70 (.call false (.f 25) [68,69]),
oP 71 65 70 cF,
oM 72 71,
oT 72 73 (.mov 7),
oT 72 74 (.bin .eql 73 (cI 10001)),
oP 75 72 74 cF,
oM 76 75,
oT 76 77 (.mov 9),
oT 76 78 (.bin .eql 77 (cI 1287)),
oP 79 76 78 cF,
oM 80 79,
oT 80 81 (.call false (.f 11) [(cI 11)]),
oP 82 80 81 cF,
oM 0 82])
.ret)))))))))))
def zbm_:List RD:=[.tmp 0 true none]
theorem zbZ_:zm_ Tryz.prog Tryz.f8 zcN_ zbm_=true:=by kernel_rfl
def yL_:List AV->List Obj->Option (Prop × AV)
 | [],[]=>some ((True,.bool true))
 | _,_=>none
theorem H7_:zd_ Tryz.prog 8 (RoF yL_).sum:=by
 refine zi_ Tryz.func8 zbZ_ (za_ (s:=RwF k1_) VI_ (za_ (s:=RbF k0_) VH_ (za_ (s:=RoF kK_) KB_ (za_ (s:=RoF yM_) H8_ (zc_ _))))) fun args objs p v e=>?_
 unfold yL_ at e
 split at e
 ·cases e
  refine ⟨rfl,fun hw ho hp=>?_⟩
  clear hw ho
  obtain ⟨b1,b2,b3⟩:=s23b
  have hM0:okM []:=zmx_ (by decide)
  have hS:k1_=j7_ wrF:=rfl
  rw [hS]
  have hWl:=zjs_
  have z1:=s23a
  have z2:=s23c
  have z3:wrF (14,0,(([]:List Int)++[1,0,2,0,0,0,9,4294967295,4294967295,4294967295,1]).set (Int.toNat 3) 5,[],[],[],[],[(5,0,0,[],[],())],[],[],[],[],0,0,[],())=([],10001):=z2
  have hB:ZN_ 14 (wrF (14,0,[1,0,2,0,0,0,9,4294967295,4294967295,4294967295,1],[],[],[],[],[(5,0,0,[],[],())],[],[],[],[],0,0,[],())).1=0:=by rw [s23a];exact b1
  have hC:¬ ZN_ 14 ((wrF (14,0,[1,0,2,0,0,0,9,4294967295,4294967295,4294967295,1],[],[],[],[],[(5,0,0,[],[],())],[],[],[],[],0,0,[],())).1.set (Int.toNat 17) 5)=0:=by rw [s23a];exact (fun c=>absurd (s23d.symm.trans c) (by decide))
  have hG:(gI (wrF (14,0,[1,0,2,0,0,0,9,4294967295,4294967295,4294967295,1],[],[],[],[],[(5,0,0,[],[],())],[],[],[],[],0,0,[],())).1).length=1:=by rw [s23a];exact congrArg List.length b3
  have hS56:(wrF (14,0,[1,0,2,0,0,0,9,4294967295,4294967295,4294967295,1],[],[],[],[],[(5,0,0,[],[],())],[],[],[],[],0,0,[],())).1.length=56:=by rw [s23a];rfl
  generalize wrF=W at*
  have hI1:okI [((5:Int),(0:Int),(0:Int),([]:List AC),([]:List Int),())]:=zls_ (by decide+kernel) (by decide)
  repeat'(intro t ht;first|(cases t<;>first|(cases ht;done)|(try simp only[zg_]at ht;try(exfalso;first|contradiction|omega)))|((first|refine zb_ ht ?_|refine ht ?_ ?_|refine ht.1 ?_ ?_|refine ht ?_)<;>clear ht))
  all_goals first
   | exact True.intro
   | exact ⟨hM0,hI1,by decide⟩
   | exact (by decide:(([]:List Int).length+([1,0,2,0,0,0,9,4294967295,4294967295,4294967295,1]:List Int).length)*8<=140737488355328/\([]:List Int).length+([1,0,2,0,0,0,9,4294967295,4294967295,4294967295,1]:List Int).length<=140737488355328)
   | exact (by decide:(0:Int)<=3/\(3:Int) < ((([]:List Int)++[1,0,2,0,0,0,9,4294967295,4294967295,4294967295,1]).length:Int))
   | exact (by decide:(3:Int).toNat < (([]:List Int)++[1,0,2,0,0,0,9,4294967295,4294967295,4294967295,1]).length)
   | (simp only [zX_,z1,b2];decide)
   | exact ⟨rfl,Nat.le_trans (hWl _) (by decide)⟩
   | exact ⟨congrArg AV.bool (show kF 11=true from rfl),rfl⟩
   | (exfalso;simp only [z1,b1,b2,b3,z3,s23d] at*;first | contradiction | (simp at*;done) | omega)
 ·cases e
theorem zc9_ {l:List VIn} {i:Nat} {d:VIn} {k:Int} (h:i < l.length):dbI (l.drop i) k=(decide ((l.getD i d).1=k) && decide (¬ k=65535) || dbI (l.drop (i+1)) k):=by
 unfold dbI snI
 rw [zw_ h d,List.any_cons]
 cases decide ((l.getD i d).1=k)<;>simp
def BF_:IR:=
(sq (kr [0,1] [oD 4 (.mov cF)])
(sq (sq (.reg [oD 5 (.mov (cI 0))])
(.block 0
(.loop
(sq (sq (kr [0,1,5] [oM 6 5,
oM 7 0,
oE 8 7,
oB 9 .lss 6 8])
(.cond 9
.skip
(.exit 0)))
(sq (.block 1
(sq (kr [0,1,5] [oM 12 0,
oM 13 5,
oI 14 5 12 13,
oA 15 0 14,
oL 16 15,
oM 17 1,
oB 18 .eql 16 17,
oM 19 18,
oT 19 20 (.mov 1),
oT 19 21 (.bin .neq 20 (cI 65535)),
oP 22 19 21 cF])
(.cond 22
(sq (kr [] [oD 4 (.mov cT)])
.ret)
.skip)))
(kr [0,1,5] [oM 10 5,
oB 11 .add 10 (cI 1),
oM 5 11]))))))
(sq (kr [] [oD 4 (.mov cF)])
.ret)))
def bn_:List RD:=[.tmp 4 true none]
theorem bY_:zm_ Tryz.prog Tryz.f92 BF_ bn_=true:=by kernel_rfl
def Xc_:List AV->List Obj->Option (Prop × AV)
 | [.imm ty0 l,.int .i64 k],[]=>ZY_ ty0 Y3 l fun l=>some ((True,.bool (dbI l k)))
 | [.own 0,.int .i64 k],[.row false ty0 l]=>ZY_ ty0 Y3 l fun l=>some ((l.length<=100000000,.bool (dbI l k)))
 | _,_=>none
theorem g7_:zd_ Tryz.prog 92 (RoF Xc_).sum:=by
 refine zi_ Tryz.func92 bY_ (zc_ _) fun args objs p v e=>?_
 unfold Xc_ at e
 split at e
 ·rename_i ty0 l k
  obtain rfl:=zY_ e
  replace e:=zZ_ e
  cases e
  refine ⟨rfl,fun hw ho hp=>?_⟩
  change List VIn at l
  have hl:l.length<=maxLen:=(hw (.imm Y3 l) (by simp)).2
  unfold maxLen at hl
  clear hw ho
  repeat'(intro t ht;first|(cases t<;>first|(cases ht;done)|(try simp only[zg_]at ht;try(exfalso;first|contradiction|omega)))|((first|refine zb_ ht ?_|refine ht ?_ ?_|refine ht.1 ?_ ?_|refine ht ?_)<;>clear ht))
  all_goals first
   | exact True.intro
   | (intro r h1 h2;clear h1;refine h2 ⟨[0,1,5],Nat,(fun i=>i<=l.length/\dbI l k=dbI (l.drop i) k),fun i=>[.imm Y3 l,.int .i64 k,.int .i64 i],fun i=>[],fun i=>l.length - i,⟨0,⟨Nat.zero_le _,rfl⟩,rfl,rfl⟩,?_⟩;clear h2)
  rintro i ⟨hi,he⟩
  repeat'(intro t ht;first|(cases t<;>first|(cases ht;done)|(try simp only[zg_]at ht;try(exfalso;first|contradiction|omega)))|((first|refine zb_ ht ?_|refine ht ?_ ?_|refine ht.1 ?_ ?_|refine ht ?_)<;>clear ht))
  all_goals (try generalize (Ty.dflt Y3)=od at*)
  all_goals first
   | exact True.intro
   | ((try simp only [zk_,zl_,zj_] at*);omega)
   | (rw [he,List.drop_of_length_le (by omega)];exact ⟨rfl,rfl⟩)
   | (have hs:=he.trans (zc9_ (d:=od) (by omega))
      first
       | (have h1:(l.getD i od).1=k:=by assumption
          have h2:¬ k=65535:=by assumption
          rw [decide_eq_true h1,decide_eq_true h2] at hs
          rw [hs];exact ⟨rfl,rfl⟩)
       | (have h0:(decide ((l.getD i od).1=k) && decide (¬ k=65535))=false:=by
           first
            | (rw [decide_eq_false (show ¬ (l.getD i od).1=k from ht)];rfl)
            | (rw [decide_eq_false (not_not_intro (show k=65535 by assumption)),Bool.and_false])
          rw [h0,Bool.false_or] at hs
          exact ⟨i+1,⟨by omega,hs⟩,by (try dsimp only);omega,rfl,rfl⟩)
       | fail)
 ·rename_i k ty0 l
  obtain rfl:=zY_ e
  replace e:=zZ_ e
  cases e
  refine ⟨rfl,fun hw ho hp=>?_⟩
  change List VIn at l
  clear hw ho
  repeat'(intro t ht;first|(cases t<;>first|(cases ht;done)|(try simp only[zg_]at ht;try(exfalso;first|contradiction|omega)))|((first|refine zb_ ht ?_|refine ht ?_ ?_|refine ht.1 ?_ ?_|refine ht ?_)<;>clear ht))
  all_goals first
   | exact True.intro
   | (intro r h1 h2;clear h1;refine h2 ⟨[0,1,5],Nat,(fun i=>i<=l.length/\dbI l k=dbI (l.drop i) k),fun i=>[.own 0,.int .i64 k,.int .i64 i],fun i=>[.row false Y3 l],fun i=>l.length - i,⟨0,⟨Nat.zero_le _,rfl⟩,rfl,rfl⟩,?_⟩;clear h2)
  rintro i ⟨hi,he⟩
  repeat'(intro t ht;first|(cases t<;>first|(cases ht;done)|(try simp only[zg_]at ht;try(exfalso;first|contradiction|omega)))|((first|refine zb_ ht ?_|refine ht ?_ ?_|refine ht.1 ?_ ?_|refine ht ?_)<;>clear ht))
  all_goals (try generalize (Ty.dflt Y3)=od at*)
  all_goals first
   | exact True.intro
   | ((try simp only [zk_,zl_,zj_] at*);omega)
   | (rw [he,List.drop_of_length_le (by omega)];exact ⟨rfl,rfl⟩)
   | (have hs:=he.trans (zc9_ (d:=od) (by omega))
      first
       | (have h1:(l.getD i od).1=k:=by assumption
          have h2:¬ k=65535:=by assumption
          rw [decide_eq_true h1,decide_eq_true h2] at hs
          rw [hs];exact ⟨rfl,rfl⟩)
       | (have h0:(decide ((l.getD i od).1=k) && decide (¬ k=65535))=false:=by
           first
            | (rw [decide_eq_false (show ¬ (l.getD i od).1=k from ht)];rfl)
            | (rw [decide_eq_false (not_not_intro (show k=65535 by assumption)),Bool.and_false])
          rw [h0,Bool.false_or] at hs
          exact ⟨i+1,⟨by omega,hs⟩,by (try dsimp only);omega,rfl,rfl⟩)
       | fail)
 ·cases e
end Go.Eng
