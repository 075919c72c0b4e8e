/- Parts of the proof: R4, T1, C1, B1. No condition. -/
import Derived.Test.YteihcoggfaenaaaGreatDoorProg
import Derived.Test.YteihcoggfaenaaaGreatDoorWH10
import Derived.KernelRfl
namespace Go.Eng
open Go.Proofs
set_option linter.unusedVariables false
set_option linter.unusedSimpArgs false
set_option maxRecDepth 100000
set_option maxHeartbeats 1000000
def qb_:List Int->List Int->List Int->Option (List Int)
 | [],_,b=>some b
 | n :: r,xs,b=>if n < 0 then qb_ r xs (b++ze_ 0 (0 - n)) else match xs with
   | []=>none
   | x :: ys=>if n < 8/\x.fdiv (2 ^ (min (8*n).toNat 64)) ≠ 0 then none else qb_ r ys (b++ze_ x n)
def k2_ (w xs:List Int):Option (List Int):=if Zw_ w=true/\zB_ w=xs.length then qb_ w xs [] else none
def Zn_ (w xs:List Int):List Int:=(k2_ w xs).getD []
def ZX_ (w xs:List Int):Bool:=(k2_ w xs).isSome
theorem hc_ {w:List Int} (i:Nat):∀ k,jY_ qM_ w i<=jY_ qM_ w (i+k)
 | 0=>Int.le_refl _
 | k+1=>by
   have ih:=hc_ (w:=w) i k
   by_cases h:i+k < w.length
   ·rw [show i+(k+1)=(i+k)+1 by omega,QE_ qM_ h]
    have:0<=qM_ (w.getD (i+k) 0):=by unfold qM_;split<;>omega
    omega
   ·rw [jX_ qM_ (show w.length<=i+(k+1) by omega)]
    rwa [jX_ qM_ (show w.length<=i+k by omega)] at ih
theorem zhw_ {w:List Int} {i:Nat} (h:i < w.length) (hp:0 < w.getD i 0):jY_ qM_ w i+1<=(w.map qM_).sum:=by
 have h1:=hc_ (w:=w) (i+1) w.length
 rw [QE_ qM_ h,jX_ qM_ (show w.length<=i+1+w.length by omega)] at h1
 have:qM_ (w.getD i 0)=1:=if_pos hp
 omega
theorem zfX_ {w xs b:List Int} {i k:Nat} (h:i < w.length) (hn:w.getD i 0 < 0):qb_ (w.drop i) (xs.drop k) b=qb_ (w.drop (i+1)) (xs.drop k) (b++ze_ 0 (0 - w.getD i 0)):=by
 rw [zI_ h 0];exact if_pos hn
theorem zeI_ {w xs b:List Int} {i k:Nat} (h:i < w.length) (hn:¬ w.getD i 0 < 0) (h2:k < xs.length) (h8:w.getD i 0 < 8) (hx:¬ (xs.getD k 0).fdiv (2 ^ (min (8*w.getD i 0).toNat 64))=0):qb_ (w.drop i) (xs.drop k) b=none:=by
 rw [zI_ h 0,zI_ h2 0]
 show (if w.getD i 0 < 0 then _ else _)=_
 rw [if_neg hn]
 exact if_pos ⟨h8,hx⟩
theorem zeH_ {w xs b:List Int} {i k:Nat} (h:i < w.length) (hn:¬ w.getD i 0 < 0) (h2:k < xs.length) (h8:¬ (w.getD i 0 < 8/\(xs.getD k 0).fdiv (2 ^ (min (8*w.getD i 0).toNat 64)) ≠ 0)):qb_ (w.drop i) (xs.drop k) b=qb_ (w.drop (i+1)) (xs.drop (k+1)) (b++ze_ (xs.getD k 0) (w.getD i 0)):=by
 rw [zI_ h 0,zI_ h2 0]
 show (if w.getD i 0 < 0 then _ else _)=_
 rw [if_neg hn]
 exact if_neg h8
theorem KZ_ {α:Type} {l:List α} {k:Nat} {d:α}:(l.drop k).getD 0 d=l.getD k d:=by
 rw [List.getD_eq_getElem?_getD,List.getElem?_drop,Nat.add_zero,<- List.getD_eq_getElem?_getD]
def zcO_:IR:=
(sq (kr [0,1] [oD 4 (.mov (.c (.imm (.int .u8) []))),
oD 5 (.mov cF)])
(sq (sq (kr [0,1] [oM 10 0,
oC 11 113 [10],
oD 12 (.un .not 11),
oM 13 12,
oF 13 14 (.mov 0),
oF 13 15 (.call false (.f 114) [14]),
oF 13 16 (.mov 1),
oF 13 17 (.len 16),
oF 13 18 (.bin .neq 15 17),
oP 19 13 cT 18])
(.cond 19
(sq (kr [] [oD 4 (.mov (.c (.imm (.int .u8) []))),
oD 5 (.mov cF)])
.ret)
.skip))
(sq (kr [0,1] [oM 20 0,
oC 21 94 [20],
oD 22 (.mkrow (.int .u8) 1 (0:Int) (cI 0) 21),
oM 6 22])
(sq (sq (.reg [oM 23 0,
oE 24 23,
oD 25 (.mov (cI 0))])
(.block 0
(.loop
(sq (kr [1,6,23,24,25] [oB 26 .lss 25 24])
(sq (.cond 26
.skip
(.exit 0))
(sq (.block 1
(sq (.reg [oI 27 1 23 25,
oL 28 27,
oM 8 28])
(sq (sq (.reg [oM 29 8,
oB 30 .lss 29 (cI 0)])
(.cond 30
(sq (kr [1,6,8,23,24,25] [oM 31 6,
oM 32 8,
oD 33 (.un .neg 32),
oD 34 (.call true (.f 115) [31,(.c (.int .u64 0)),33]),
oM 6 34])
(.exit 1))
.skip))
(sq (kr [1,6,8,23,24,25] [oM 35 1,
oD 36 (.indexSl 1 35 (cI 0)),
oL 37 36,
oM 9 37])
(sq (sq (kr [1,6,8,9,23,24,25] [oM 38 8,
oB 39 .lss 38 (cI 8),
oM 40 39,
oT 40 41 (.mov 9),
oT 40 42 (.mov 8),
oT 40 43 (.bin .mul (cI 8) 42),
oT 40 44 (.bin .shr 41 43),
oT 40 45 (.bin .neq 44 (.c (.int .u64 0))),
oP 46 40 45 cF])
(.cond 46
(sq (kr [] [oD 4 (.mov (.c (.imm (.int .u8) []))),
oD 5 (.mov cF)])
.ret)
.skip))
(kd [1,6,8,9,23,24,25] [(oM 47 6,[]),
(oM 48 9,[0]),
(oM 49 8,[0,0]),
(oD 50 (.call true (.f 115) [47,48,49]),[]),
(oM 51 1,[0,0,0,0]),
(oD 52 (.slice 1 51 (some (cI 1)) none none),[1,0,0,0]),
(oM 6 50,[0,0]),
(oM 1 52,[])]))))))
(kr [1,6,23,24,25] [oB 53 .add 25 (cI 1),
oM 25 53])))))))
(sq (kr [6] [oM 54 6,
oM 4 54,
oD 5 (.mov cT)])
.ret)))))
def zbX_:List RD:=[.tmp 4 true (some (.int .u8)),.tmp 5 true none]
theorem zch_:zj_ Tryz.prog Tryz.f64 zcO_ zbX_=true:=by kernel_rfl
def Xg_:List AV->List Obj->Option (Prop × AV)
 | [.imm (.int .i64) w,.imm (.int .u64) xs],[]=>some ((True,.tup [.imm (.int .u8) (Zn_ w xs),.bool (ZX_ w xs)]))
 | _,_=>none
theorem vD_:zd_ Tryz.prog 64 (RoF Xg_).sum:=by
 refine zi_ Tryz.func64 zch_ (za_ (s:=RoF qS_) Qm_ (za_ (s:=RoF QK_) kJ_ (za_ (s:=RoF QD_) QU_ (za_ (s:=RwF vo_) b4_ (zc_ _))))) fun args objs p v e=>?_
 unfold Xg_ at e
 split at e
 ·rename_i w xs
  cases e
  refine ⟨rfl,fun hw ho hp=>?_⟩
  change List Int at w
  change List Int at xs
  have hx:xs.length<=maxLen:=(hw (.imm (.int .u64) xs) (by simp)).2
  unfold maxLen at hx
  have hz:=WX_ w
  repeat'(intro t ht;first|(cases t<;>first|(cases ht;done)|(try simp only[zg_]at ht))|((first|refine zb_ ht ?_|refine ht ?_ ?_|refine ht.1 ?_ ?_|refine ht ?_)<;>clear ht))
  all_goals first
   | exact True.intro
   | (intro r h1 h2;clear h1;refine h2 ⟨[1,6,23,24,25],Nat × Nat × List Int,(fun a=>a.1<=w.length/\(a.2.2.length:Int)=jY_ zv_ w a.1/\jY_ qM_ w a.1=a.2.1/\qb_ w xs []=qb_ (w.drop a.1) (xs.drop a.2.1) a.2.2),fun a=>[.imm (.int .u64) (xs.drop a.2.1),.own 0,.imm (.int .i64) w,.int .i64 w.length,.int .i64 a.1],fun a=>[.row false (.int .u8) a.2.2],fun a=>w.length - a.1,⟨(0,0,[]),⟨Nat.zero_le _,rfl,rfl,rfl⟩,rfl,rfl⟩,?_⟩;clear h2)
   | ((try simp only [zm_,zn_,zl_] at*);omega)
   | (have hn:¬ (Zw_ w=true/\zB_ w=xs.length):=fun h=>by simp_all
      refine ⟨?_,rfl⟩;unfold Zn_ ZX_ k2_;rw [if_neg hn];rfl)
  rintro ⟨i,k,b⟩ ⟨hi,hb,hk,he⟩
  dsimp only at hi hb hk he
  have hr:Zw_ w=true:=by assumption
  have hc:zB_ w=xs.length:=by assumption
  have hsum:(w.map qM_).sum=xs.length:=by unfold zB_ at hc;rwa [if_pos hr] at hc
  have hl:=(ZD_.1 hr).1
  have hs:=ut_ hr i
  have h1:=b3_ hr i
  repeat'(intro t ht;first|(cases t<;>first|(cases ht;done)|(try simp only[zg_]at ht))|((first|refine zb_ ht ?_|refine ht ?_ ?_|refine ht.1 ?_ ?_|refine ht ?_)<;>clear ht))
  all_goals first
   | ((try simp only [zm_,zn_,zl_] at*);omega)
   | (have hge:w.length<=i:=by omega
      rw [List.drop_of_length_le hge] at he
      have hf:k2_ w xs=some b:=by unfold k2_;rw [if_pos ⟨hr,hc⟩,he];rfl
      refine ⟨?_,rfl⟩;unfold Zn_ ZX_;rw [hf];rfl)
   | skip
  all_goals have hlt:i < w.length:=by omega
  all_goals have hkk:=(ZD_.1 hr).2 _ (zU_ (α:=Int) hlt 0)
  all_goals first
   | ((try simp only [zm_,zn_,zl_] at*);rw [List.length_drop];omega)
   | ((try simp only [zm_,zn_,zl_] at*);omega)
   | (have hn:w.getD i 0 < 0:=by assumption
      have ha:=xI_ hn
      have h0:qM_ (w.getD i 0)=0:=if_neg (by omega)
      have hbl:=zk_ (n:=0) (w:=0 - w.getD i 0) (by omega)
      refine ⟨(i+1,k,b++ze_ 0 (0 - w.getD i 0)),⟨hlt,?_,?_,?_⟩,by dsimp only;omega,rfl,rfl⟩
      ·rw [QE_ zv_ hlt,ha];simp only [List.length_append];omega
      ·rw [QE_ qM_ hlt,h0];dsimp only;omega
      ·rw [he];exact zfX_ hlt hn)
   | (have hn:¬ w.getD i 0 < 0:=by assumption
      have hlt2:=zhw_ (w:=w) (i:=i) hlt (by omega)
      have h2:k < xs.length:=by omega
      first
       | ((try simp only [zm_,zn_,zl_] at*);rw [List.length_drop];omega)
       | (have h8:w.getD i 0 < 8:=by assumption
          have hx:¬ ((xs.drop k).getD 0 0).fdiv (2 ^ (min (8*w.getD i 0).toNat 64))=0:=by assumption
          rw [KZ_] at hx
          have hf:k2_ w xs=none:=by unfold k2_;rw [if_pos ⟨hr,hc⟩,he];exact zeI_ hlt hn h2 h8 hx
          refine ⟨?_,rfl⟩;unfold Zn_ ZX_;rw [hf];rfl)
       | (have h8:¬ (w.getD i 0 < 8/\(xs.getD k 0).fdiv (2 ^ (min (8*w.getD i 0).toNat 64)) ≠ 0):=fun h=>by
           first
            | (exact absurd h.1 (by assumption))
            | (have hx:((xs.drop k).getD 0 0).fdiv (2 ^ (min (8*w.getD i 0).toNat 64))=0:=by assumption
               rw [KZ_] at hx
               exact h.2 hx)
          have ha:=Yj_ hn
          have h0:qM_ (w.getD i 0)=1:=if_pos (by omega)
          have hbl:=zk_ (n:=xs.getD k 0) (w:=w.getD i 0) (by omega)
          refine ⟨(i+1,k+1,b++ze_ (xs.getD k 0) (w.getD i 0)),⟨hlt,?_,?_,?_⟩,by dsimp only;omega,?_,?_⟩
          ·rw [QE_ zv_ hlt,ha];simp only [List.length_append];omega
          ·rw [QE_ qM_ hlt,h0];dsimp only;omega
          ·rw [he];exact zeH_ hlt hn h2 h8
          ·dsimp only;rw [<- List.drop_drop];rfl
          ·dsimp only;rw [<- KZ_ (l:=xs) (k:=k)];rfl))
 ·cases e
def Zy_:List Int->List Int->List Int->List Int × Int
 | [],_,o=>(o,0)
 | n :: r,b,o=>if (b.length:Int) < zv_ n then ([],1) else if 0 < n then Zy_ r (b.drop (zv_ n).toNat) (o++[Zx_ (b.take (zv_ n).toNat)]) else if ZB_ (b.take (zv_ n).toNat)=true then Zy_ r (b.drop (zv_ n).toNat) o else ([],2)
def ZE_ (w b:List Int):List Int × Int:=if Zw_ w=true then Zy_ w b [] else ([],2)
def zP_ (w b:List Int):List Int:=(ZE_ w b).1
def zZ_ (w b:List Int):Int:=(ZE_ w b).2
theorem U3_ {w b o:List Int} {i:Nat} (h:i < w.length) (h1:(b.length:Int) < zv_ (w.getD i 0)):Zy_ (w.drop i) b o=([],1):=by
 rw [zI_ h 0];exact if_pos h1
theorem za2_ {w b o:List Int} {i:Nat} (h:i < w.length) (h1:¬ (b.length:Int) < zv_ (w.getD i 0)) (h2:0 < w.getD i 0):Zy_ (w.drop i) b o=Zy_ (w.drop (i+1)) (b.drop (zv_ (w.getD i 0)).toNat) (o++[Zx_ (b.take (zv_ (w.getD i 0)).toNat)]):=by
 rw [zI_ h 0]
 show (if (b.length:Int) < zv_ (w.getD i 0) then _ else _)=_
 rw [if_neg h1];exact if_pos h2
theorem hr_ {w b o:List Int} {i:Nat} (h:i < w.length) (h1:¬ (b.length:Int) < zv_ (w.getD i 0)) (h2:¬ 0 < w.getD i 0) (h3:ZB_ (b.take (zv_ (w.getD i 0)).toNat)=true):Zy_ (w.drop i) b o=Zy_ (w.drop (i+1)) (b.drop (zv_ (w.getD i 0)).toNat) o:=by
 rw [zI_ h 0]
 show (if (b.length:Int) < zv_ (w.getD i 0) then _ else _)=_
 rw [if_neg h1]
 show (if 0 < w.getD i 0 then _ else _)=_
 rw [if_neg h2];exact if_pos h3
theorem za1_ {w b o:List Int} {i:Nat} (h:i < w.length) (h1:¬ (b.length:Int) < zv_ (w.getD i 0)) (h2:¬ 0 < w.getD i 0) (h3:ZB_ (b.take (zv_ (w.getD i 0)).toNat)=false):Zy_ (w.drop i) b o=([],2):=by
 rw [zI_ h 0]
 show (if (b.length:Int) < zv_ (w.getD i 0) then _ else _)=_
 rw [if_neg h1]
 show (if 0 < w.getD i 0 then _ else _)=_
 rw [if_neg h2];exact if_neg (by rw [h3];simp)
def zcP_:IR:=
(sq (kr [0,1] [oD 4 (.nilrow (.int .u64)),
oD 5 (.mov (cI 0))])
(sq (sq (.reg [oM 10 0,
oC 11 113 [10],
oD 12 (.un .not 11)])
(.cond 12
(sq (.reg [oD 4 (.nilrow (.int .u64)),
oD 5 (.mov (cI 2))])
.ret)
.skip))
(sq (kr [0,1] [oD 6 (.nilrow (.int .u64))])
(sq (sq (.reg [oM 13 0,
oE 14 13,
oD 15 (.mov (cI 0))])
(.block 0
(.loop
(sq (kr [1,6,13,14,15] [oB 16 .lss 15 14])
(sq (.cond 16
.skip
(.exit 0))
(sq (.block 1
(sq (.reg [oI 17 1 13 15,
oL 18 17,
oM 8 18])
(sq (kr [1,6,8,13,14,15] [oM 19 8,
oM 20 8,
oD 21 (.un .neg 20),
oD 22 (.minmax true 19 21),
oM 9 22])
(sq (.block 2
(sq (kr [1,6,8,9,13,14,15] [oM 24 1,
oE 25 24,
oM 26 9,
oB 27 .lss 25 26,
oM 23 27])
(.cond 23
(sq (.reg [oD 4 (.nilrow (.int .u64)),
oD 5 (.mov (cI 1))])
.ret)
(sq (.reg [oM 29 8,
oB 30 .gtr 29 (cI 0),
oM 28 30])
(.cond 28
(kr [1,6,9,13,14,15] [oM 31 6,
oM 32 1,
oM 33 9,
oD 34 (.slice 1 32 none (some 33) none),
oC 35 129 [34],
oD 36 (.sliceAll (.int .u64) 1 [(0,1,35)]),
oD 37 (.append (.int .u64) 8 31 36),
oM 6 37])
(sq (kr [1,6,9,13,14,15] [oM 39 1,
oM 40 9,
oD 41 (.slice 1 39 none (some 40) none),
oC 42 130 [41],
oD 43 (.un .not 42),
oM 38 43])
(.cond 38
(sq (kr [] [oD 4 (.nilrow (.int .u64)),
oD 5 (.mov (cI 2))])
.ret)
.skip)))))))
(kr [1,6,9,13,14,15] [oM 44 1,
oM 45 9,
oD 46 (.slice 1 44 (some 45) none none),
oM 1 46])))))
(kr [1,6,13,14,15] [oB 47 .add 15 (cI 1),
oM 15 47])))))))
(sq (kr [6] [oM 48 6,
oM 4 48,
oD 5 (.mov (cI 0))])
.ret)))))
def zbY_:List RD:=[.tmp 4 true (some (.int .u64)),.tmp 5 true none]
theorem zci_:zj_ Tryz.prog Tryz.f93 zcP_ zbY_=true:=by kernel_rfl
def vp_:List AV->List Obj->Option (Prop × AV)
 | [.imm (.int .i64) w,.imm (.int .u8) b],[]=>some ((True,.tup [.imm (.int .u64) (zP_ w b),.int .i64 (zZ_ w b)]))
 | _,_=>none
theorem b5_:zd_ Tryz.prog 93 (RoF vp_).sum:=by
 refine zi_ Tryz.func93 zci_ (za_ (s:=RoF qS_) Qm_ (za_ (s:=RoF Kz_) WJ_ (za_ (s:=RoF wr_) yw_ (zc_ _)))) fun args objs p v e=>?_
 unfold vp_ at e
 split at e
 ·rename_i w b
  cases e
  refine ⟨rfl,fun hw ho hp=>?_⟩
  change List Int at w
  change List Int at b
  have hb:b.length<=maxLen:=(hw (.imm (.int .u8) b) (by simp)).2
  unfold maxLen at hb
  repeat'(intro t ht;first|(cases t<;>first|(cases ht;done)|(try simp only[zg_]at ht))|((first|refine zb_ ht ?_|refine ht ?_ ?_|refine ht.1 ?_ ?_|refine ht ?_)<;>clear ht))
  all_goals first
   | exact True.intro
   | (intro r h1 h2;clear h1;refine h2 ⟨[1,6,13,14,15],Nat × List Int × List Int,(fun a=>a.1<=w.length/\a.2.1.length<=b.length/\a.2.2.length<=a.1/\Zy_ w b []=Zy_ (w.drop a.1) a.2.1 a.2.2),fun a=>[.imm (.int .u8) a.2.1,.own 0,.imm (.int .i64) w,.int .i64 w.length,.int .i64 a.1],fun a=>[.row false (.int .u64) a.2.2],fun a=>w.length - a.1,⟨(0,b,[]),⟨Nat.zero_le _,Nat.le_refl _,Nat.zero_le _,rfl⟩,rfl,rfl⟩,?_⟩;clear h2)
   | (have hr:Zw_ w=false:=by assumption
      have hf:ZE_ w b=([],2):=by unfold ZE_;rw [hr];rfl
      refine ⟨?_,rfl⟩;unfold zP_ zZ_;rw [hf])
  rintro ⟨i,c,o⟩ ⟨hi,hc,ho,he⟩
  dsimp only at hi hc ho he
  have hr:Zw_ w=true:=by assumption
  have hl:=(ZD_.1 hr).1
  repeat'(intro t ht;first|(cases t<;>first|(cases ht;done)|(try simp only[zg_]at ht))|((first|refine zb_ ht ?_|refine ht ?_ ?_|refine ht.1 ?_ ?_|refine ht ?_)<;>clear ht))
  all_goals first
   | ((try simp only [zm_,zn_,zl_] at*);omega)
   | (have hge:w.length<=i:=by omega
      rw [List.drop_of_length_le hge] at he
      have hf:ZE_ w b=(o,0):=by unfold ZE_;rw [if_pos hr,he];rfl
      refine ⟨?_,rfl⟩;unfold zP_ zZ_;rw [hf];done)
   | skip
  all_goals have hlt:i < w.length:=by omega
  all_goals have hkk:=(ZD_.1 hr).2 _ (zU_ (α:=Int) hlt 0)
  all_goals have ha:=wq_ (n:=w.getD i 0)
  all_goals have hA:(if 0 - w.getD i 0 > w.getD i 0 then 0 - w.getD i 0 else w.getD i 0)=zv_ (w.getD i 0):=rfl
  all_goals first
   | exact True.intro
   | ((try simp only [zm_,zn_,zl_] at*);omega)
   | (have h1:(c.length:Int) < zv_ (w.getD i 0):=by assumption
      have hf:ZE_ w b=([],1):=by unfold ZE_;rw [if_pos hr,he];exact U3_ hlt h1
      refine ⟨?_,rfl⟩;unfold zP_ zZ_;rw [hf];done)
   | (have h1:¬ (c.length:Int) < zv_ (w.getD i 0):=by assumption
      first
       | (have h2:¬ 0 < w.getD i 0:=by assumption
          first
           | (have h3:ZB_ (c.take (zv_ (w.getD i 0)).toNat)=true:=by assumption
              refine ⟨(i+1,c.drop (zv_ (w.getD i 0)).toNat,o),⟨hlt,?_,by dsimp only;omega,?_⟩,by dsimp only;omega,rfl,rfl⟩
              ·dsimp only;rw [List.length_drop];omega
              ·rw [he];exact hr_ hlt h1 h2 h3)
           | (have h3:ZB_ (c.take (zv_ (w.getD i 0)).toNat)=false:=by assumption
              have hf:ZE_ w b=([],2):=by unfold ZE_;rw [if_pos hr,he];exact za1_ hlt h1 h2 h3
              refine ⟨?_,rfl⟩;unfold zP_ zZ_;rw [hf];done))
       | (have h2:0 < w.getD i 0:=by assumption
          first
           | (show (c.take (zv_ (w.getD i 0)).toNat).length<=8;rw [List.length_take];omega)
           | (simp only [qd_,List.length_append,List.length_cons,List.length_nil];omega)
           | (refine ⟨(i+1,c.drop (zv_ (w.getD i 0)).toNat,o++[Zx_ (c.take (zv_ (w.getD i 0)).toNat)]),⟨hlt,?_,?_,?_⟩,by dsimp only;omega,rfl,rfl⟩
              ·dsimp only;rw [List.length_drop];omega
              ·simp only [List.length_append,List.length_cons,List.length_nil];omega
              ·rw [he];exact za2_ hlt h1 h2)))
 ·cases e
theorem Qf_ {α:Type} {a b:List α} {d:α} {i:Nat} (h:a.take i=b.take i) (hi:i < a.length) (hl:a.length=b.length) (e:a.getD i d=b.getD i d):a.take (i+1)=b.take (i+1):=by
 have hb:i < b.length:=by omega
 rw [List.getD_eq_getElem?_getD,List.getD_eq_getElem?_getD,List.getElem?_eq_getElem hi,List.getElem?_eq_getElem hb] at e
 rw [List.take_succ_eq_append_getElem hi,List.take_succ_eq_append_getElem hb,h,show a[i]=b[i] from e]
theorem Km_ {α:Type} {a b:List α} {i:Nat} (h:a.take i=b.take i) (hi:a.length<=i) (hl:a.length=b.length):a=b:=by
 rwa [List.take_of_length_le hi,List.take_of_length_le (by omega)] at h
theorem Xr_ {α:Type} {a b:List α} {d:α} {i:Nat} (e:¬ a.getD i d=b.getD i d):a ≠ b:=fun h=>e (by rw [h])
def bj_:IR:=
(sq (kr [0,1] [oD 4 (.mov cF)])
(sq (sq (kr [0,1] [oM 6 0,
oE 7 6,
oM 8 1,
oE 9 8,
oB 10 .neq 7 9])
(.cond 10
(sq (.reg [oD 4 (.mov cF)])
.ret)
.skip))
(sq (sq (kr [0,1] [oD 5 (.mov (cI 0))])
(.block 0
(.loop
(sq (sq (kr [0,1,5] [oM 11 5,
oM 12 0,
oE 13 12,
oB 14 .lss 11 13])
(.cond 14
.skip
(.exit 0)))
(sq (.block 1
(sq (kd [0,1,5] [(oM 17 0,[]),
(oM 18 5,[0]),
(oI 19 1 17 18,[]),
(oL 20 19,[]),
(oM 21 1,[0,0,0,0]),
(oM 22 5,[0,0,0,0,0]),
(oI 23 1 21 22,[2,0,0,0]),
(oL 24 23,[3,0,0,0]),
(oB 25 .neq 20 24,[])])
(.cond 25
(sq (kr [] [oD 4 (.mov cF)])
.ret)
.skip)))
(kr [0,1,5] [oM 15 5,
oB 16 .add 15 (cI 1),
oM 5 16]))))))
(sq (kr [] [oD 4 (.mov cT)])
.ret))))
def Hm_:List RD:=[.tmp 4 true none]
theorem HL_:zj_ Tryz.prog Tryz.f13 bj_ Hm_=true:=by kernel_rfl
def Zc_:List AV->List Obj->Option (Prop × AV)
 | [.imm (.int .u8) a,.imm (.int .u8) b],[]=>some ((True,.bool (decide (a=b))))
 | _,_=>none
theorem z6_:zd_ Tryz.prog 13 (RoF Zc_).sum:=by
 refine zi_ Tryz.func13 HL_ (zc_ _) fun args objs p v e=>?_
 unfold Zc_ at e
 split at e
 ·rename_i a b
  cases e
  refine ⟨rfl,fun hw ho hp=>?_⟩
  change List Int at a
  change List Int at b
  have hl:a.length<=maxLen:=(hw (.imm (.int .u8) a) (by simp)).2
  unfold maxLen at hl
  repeat'(intro t ht;first|(cases t<;>first|(cases ht;done)|(try simp only[zg_]at ht))|((first|refine zb_ ht ?_|refine ht ?_ ?_|refine ht.1 ?_ ?_|refine ht ?_)<;>clear ht))
  all_goals first
   | (have hne:a ≠ b:=fun h=>(by assumption:¬ (a.length:Int)=b.length) (by rw [h])
      refine ⟨?_,rfl⟩;rw [decide_eq_false hne];done)
   | (intro r h1 h2;clear h1;refine h2 ⟨[0,1,5],Nat,(fun i=>i<=a.length/\a.take i=b.take i),fun i=>[.imm (.int .u8) a,.imm (.int .u8) b,.int .i64 i],fun _=>[],fun i=>a.length - i,⟨0,⟨Nat.zero_le _,rfl⟩,rfl,rfl⟩,?_⟩;clear h2)
  rintro i ⟨hi,he⟩
  have hl2:a.length=b.length:=by omega
  repeat'(intro t ht;first|(cases t<;>first|(cases ht;done)|(try simp only[zg_]at ht))|((first|refine zb_ ht ?_|refine ht ?_ ?_|refine ht.1 ?_ ?_|refine ht ?_)<;>clear ht))
  all_goals first
   | ((try simp only [zm_,zn_,zl_] at*);omega)
   | (have hge:a.length<=i:=by omega
      have e:=Km_ he hge hl2
      refine ⟨?_,rfl⟩;rw [decide_eq_true e];done)
   | (have hne:a ≠ b:=Xr_ (d:=0) (i:=i) (by assumption)
      refine ⟨?_,rfl⟩;rw [decide_eq_false hne];done)
   | (have hlt:i < a.length:=by omega
      exact ⟨i+1,⟨hlt,Qf_ he hlt hl2 (d:=0) (by assumption)⟩,by (try simp only [zm_,zn_,zl_] at*);omega,rfl,rfl⟩)
 ·cases e
def Jy_ (b:List Int) (c:Int):Nat->Nat
 | 0=>0
 | k+1=>if b.getD k 0=c then Jy_ b c k else k+1
def vA_ (b:List Int) (c:Int):List Int:=b.take (Jy_ b c b.length)
def WI_ (b:List Int) (c:Int):List Int:=b.dropWhile fun x=>decide (x=c)
theorem Yw_ {b:List Int} {k j:Nat} (h:j < k):(b.take k).getD j 0=b.getD j 0:=by
 rw [List.getD_eq_getElem?_getD,List.getElem?_take,if_pos h,<- List.getD_eq_getElem?_getD]
def wh_:IR:=
(sq (kr [0,1] [oD 4 (.mov (.c (.imm (.int .u8) [])))])
(sq (.block 0
(.loop
(sq (sq (kr [0,1] [oM 5 0,
oE 6 5,
oB 7 .gtr 6 (cI 0),
oM 8 7,
oT 8 9 (.mov 0),
oT 8 10 (.mov 0),
oT 8 11 (.len 10),
oT 8 12 (.bin .sub 11 (cI 1)),
oT 8 13 (.indexSl 1 9 12),
oT 8 14 (.load none 13),
oT 8 15 (.mov 1),
oT 8 16 (.bin .eql 14 15),
oP 17 8 16 cF])
(.cond 17
.skip
(.exit 0)))
(.block 1
(kr [0,1] [oM 18 0,
oM 19 0,
oE 20 19,
oB 21 .sub 20 (cI 1),
oD 22 (.slice 1 18 none (some 21) none),
oM 0 22])))))
(sq (kr [0] [oM 23 0,
oM 4 23])
.ret)))
def JV_:List RD:=[.tmp 4 true (some (.int .u8))]
theorem J3_:zj_ Tryz.prog Tryz.f201 wh_ JV_=true:=by kernel_rfl
def qz_:List AV->List Obj->Option (Prop × AV)
 | [.imm (.int .u8) b,.int .u8 c],[]=>some ((b.length<=140737488355328,.imm (.int .u8) (vA_ b c)))
 | _,_=>none
theorem j4_:zd_ Tryz.prog 201 (RoF qz_).sum:=by
 refine zi_ Tryz.func201 J3_ (zc_ _) fun args objs p v e=>?_
 unfold qz_ at e
 split at e
 ·rename_i b c
  cases e
  refine ⟨rfl,fun hw ho hp=>?_⟩
  change List Int at b
  repeat'(intro t ht;first|(cases t<;>first|(cases ht;done)|(try simp only[zg_]at ht))|((first|refine zb_ ht ?_|refine ht ?_ ?_|refine ht.1 ?_ ?_|refine ht ?_)<;>clear ht))
  all_goals first
   | (intro r h1 h2;clear h1;refine h2 ⟨[0,1],Nat,(fun k=>k<=b.length/\Jy_ b c b.length=Jy_ b c k),fun k=>[.imm (.int .u8) (b.take k),.int .u8 c],fun _=>[],fun k=>k,⟨b.length,⟨Nat.le_refl _,rfl⟩,by simp only [List.take_length],rfl⟩,?_⟩;clear h2)
  rintro k ⟨hk,he⟩
  have hl:(b.take k).length=k:=by rw [List.length_take];omega
  repeat'(intro t ht;first|(cases t<;>first|(cases ht;done)|(try simp only[zg_]at ht))|((first|refine zb_ ht ?_|refine ht ?_ ?_|refine ht.1 ?_ ?_|refine ht ?_)<;>clear ht))
  all_goals first
   | ((try simp only [zm_,zn_,zl_] at*);omega)
   | (have h0:k=0:=by omega
      refine ⟨?_,rfl⟩;unfold vA_;rw [he,h0];rfl)
   | (obtain ⟨j,rfl⟩:∃ j,k=j+1:=⟨k - 1,by omega⟩
      have e:(((b.take (j+1)).length:Int) - 1).toNat=j:=by omega
      first
       | (have hx:¬ (b.take (j+1)).getD (((b.take (j+1)).length:Int) - 1).toNat 0=c:=by assumption
          rw [e,Yw_ (Nat.lt_succ_self j)] at hx
          have h1:Jy_ b c (j+1)=j+1:=if_neg hx
          refine ⟨?_,rfl⟩;unfold vA_;rw [he,h1])
       | (have hx:(b.take (j+1)).getD (((b.take (j+1)).length:Int) - 1).toNat 0=c:=by assumption
          rw [e,Yw_ (Nat.lt_succ_self j)] at hx
          have h1:Jy_ b c (j+1)=Jy_ b c j:=if_pos hx
          refine ⟨j,⟨by omega,by rw [he,h1]⟩,Nat.lt_succ_self j,?_,rfl⟩
          dsimp only;rw [e,List.take_take,Nat.min_eq_left (Nat.le_succ j)]))
 ·cases e
def WA_:IR:=
(sq (kr [0,1] [oD 4 (.mov (.c (.imm (.int .u8) [])))])
(sq (.block 0
(.loop
(sq (sq (kr [0,1] [oM 5 0,
oE 6 5,
oB 7 .gtr 6 (cI 0),
oM 8 7,
oT 8 9 (.mov 0),
oT 8 10 (.indexSl 1 9 (cI 0)),
oT 8 11 (.load none 10),
oT 8 12 (.mov 1),
oT 8 13 (.bin .eql 11 12),
oP 14 8 13 cF])
(.cond 14
.skip
(.exit 0)))
(.block 1
(kr [0,1] [oM 15 0,
oD 16 (.slice 1 15 (some (cI 1)) none none),
oM 0 16])))))
(sq (sq (kr [0] [oM 17 0,
oE 18 17,
oB 19 .eql 18 (cI 0)])
(.cond 19
(sq (.reg [oD 4 (.mov (.c (.imm (.int .u8) [])))])
.ret)
.skip))
(sq (.reg [oM 20 0,
oM 4 20])
.ret))))
def w5_:List RD:=[.tmp 4 true (some (.int .u8))]
theorem Wl_:zj_ Tryz.prog Tryz.f200 WA_ w5_=true:=by kernel_rfl
def q0_:List AV->List Obj->Option (Prop × AV)
 | [.imm (.int .u8) b,.int .u8 c],[]=>some ((b.length<=140737488355328,.imm (.int .u8) (WI_ b c)))
 | _,_=>none
theorem JJ_:zd_ Tryz.prog 200 (RoF q0_).sum:=by
 refine zi_ Tryz.func200 Wl_ (zc_ _) fun args objs p v e=>?_
 unfold q0_ at e
 split at e
 ·rename_i b c
  cases e
  refine ⟨rfl,fun hw ho hp=>?_⟩
  change List Int at b
  repeat'(intro t ht;first|(cases t<;>first|(cases ht;done)|(try simp only[zg_]at ht))|((first|refine zb_ ht ?_|refine ht ?_ ?_|refine ht.1 ?_ ?_|refine ht ?_)<;>clear ht))
  all_goals first
   | (intro r h1 h2;clear h1;refine h2 ⟨[0,1],Nat,(fun k=>k<=b.length/\WI_ b c=WI_ (b.drop k) c),fun k=>[.imm (.int .u8) (b.drop k),.int .u8 c],fun _=>[],fun k=>b.length - k,⟨0,⟨Nat.zero_le _,rfl⟩,rfl,rfl⟩,?_⟩;clear h2)
  rintro k ⟨hk,he⟩
  have hl:(b.drop k).length=b.length - k:=List.length_drop
  repeat'(intro t ht;first|(cases t<;>first|(cases ht;done)|(try simp only[zg_]at ht))|((first|refine zb_ ht ?_|refine ht ?_ ?_|refine ht.1 ?_ ?_|refine ht ?_)<;>clear ht))
  all_goals first
   | ((try simp only [zm_,zn_,zl_] at*);omega)
   | (exfalso;omega)
   | (have h0:b.drop k=[]:=List.eq_nil_of_length_eq_zero (by omega)
      refine ⟨?_,rfl⟩;rw [he,h0];rfl)
   | (have hlt:k < b.length:=by omega
      first
       | (have hx:¬ (b.drop k).getD 0 0=c:=by assumption
          rw [KZ_] at hx
          have h1:WI_ (b.drop k) c=b.drop k:=by
           unfold WI_;rw [zI_ hlt 0,List.dropWhile_cons_of_neg (by simpa using hx)]
          refine ⟨?_,rfl⟩;rw [he,h1])
       | (have hx:(b.drop k).getD 0 0=c:=by assumption
          rw [KZ_] at hx
          have h1:WI_ (b.drop k) c=WI_ (b.drop (k+1)) c:=by
           unfold WI_;rw [zI_ hlt 0,List.dropWhile_cons_of_pos (by simpa using hx)]
          refine ⟨k+1,⟨hlt,by rw [he,h1]⟩,by dsimp only;omega,?_,rfl⟩
          dsimp only;rw [<- List.drop_drop];rfl))
 ·cases e
theorem hb_:∀ (b:List Int),decide ((WI_ (vA_ b 0) 0).length=0)=ZB_ b:=by
 intro b
 have hR:∀ k ≤ b.length,(b.take (Jy_ b 0 k)).all (fun c=>decide (c=0))=(b.take k).all fun c=>decide (c=0):=by
  intro k
  induction k with
  | zero=>intro _;rfl
  | succ k ih=>
    intro hk
    unfold Jy_
    split
    ·rename_i h
     rw [ih (by omega),List.take_succ_eq_append_getElem (by omega),List.all_append]
     have:b[k]=0:=by rw [List.getD_eq_getElem?_getD,List.getElem?_eq_getElem (by omega)] at h;exact h
     simp [this]
    ·rfl
 have hL:∀ l:List Int,decide ((l.dropWhile fun x=>decide (x=0)).length=0)=l.all fun c=>decide (c=0):=by
  intro l
  induction l with
  | nil=>rfl
  | cons a l ih=>
    by_cases h:a=0
    ·rw [List.dropWhile_cons_of_pos (by simpa using h),ih];simp [h]
    ·rw [List.dropWhile_cons_of_neg (by simpa using h)];simp [h]
 unfold WI_ vA_ ZB_
 rw [hL,hR _ (Nat.le_refl _),List.take_length]
def G0_:IR:=
(sq (kr [0,1] [oD 4 (.mov (.c (.imm (.int .u8) [])))])
(sq (sq (.reg [oM 7 0,
oE 8 7,
oB 9 .eql 8 (cI 0)])
(.cond 9
(sq (.reg [oD 4 (.mov (.c (.imm (.int .u8) [])))])
.ret)
.skip))
(sq (sq (.reg [oM 10 1,
oB 11 .eql 10 (.c (.str []))])
(.cond 11
(sq (kr [0] [oM 12 0,
oM 4 12])
.ret)
.skip))
(sq (sq (kr [0,1] [oM 13 1,
oD 14 (.slen 13),
oB 15 .eql 14 (cI 1),
oM 16 15,
oT 16 17 (.mov 1),
oT 16 18 (.sindex 17 (cI 0)),
oT 16 19 (.bin .lss 18 (.c (.int .u8 128))),
oP 20 16 19 cF])
(.cond 20
(sq (kd [0,1] [(oM 21 0,[]),
(oM 22 1,[0]),
(oD 23 (.sindex 22 (cI 0)),[1]),
(oC 24 201 [21,23],[]),
(oM 25 1,[0,0,0,0]),
(oD 26 (.sindex 25 (cI 0)),[1,0,0,0]),
(oC 27 200 [24,26],[]),
(oM 4 27,[])])
.ret)
.skip))
(sq (sq (kr [0,1] [oM 29 1,
oC 30 202 [29],
oM 28 30,
oX 31 28 0,
oX 32 28 1,
oD 5 (.box [.kb false,.kb false,.kb false,.kb false,.kb false,.kb false,.kb false,.kb false,.kb false,.kb false,.kb false,.kb false,.kb false,.kb false,.kb false,.kb false,.kb false,.kb false,.kb false,.kb false,.kb false,.kb false,.kb false,.kb false,.kb false,.kb false,.kb false,.kb false,.kb false,.kb false,.kb false,.kb false,.kb false,.kb false,.kb false,.kb false,.kb false,.kb false,.kb false,.kb false,.kb false,.kb false,.kb false,.kb false,.kb false,.kb false,.kb false,.kb false,.kb false,.kb false,.kb false,.kb false,.kb false,.kb false,.kb false,.kb false,.kb false,.kb false,.kb false,.kb false,.kb false,.kb false,.kb false,.kb false,.kb false,.kb false,.kb false,.kb false,.kb false,.kb false,.kb false,.kb false,.kb false,.kb false,.kb false,.kb false,.kb false,.kb false,.kb false,.kb false,.kb false,.kb false,.kb false,.kb false,.kb false,.kb false,.kb false,.kb false,.kb false,.kb false,.kb false,.kb false,.kb false,.kb false,.kb false,.kb false,.kb false,.kb false,.kb false,.kb false,.kb false,.kb false,.kb false,.kb false,.kb false,.kb false,.kb false,.kb false,.kb false,.kb false,.kb false,.kb false,.kb false,.kb false,.kb false,.kb false,.kb false,.kb false,.kb false,.kb false,.kb false,.kb false,.kb false,.kb false,.kb false,.kb false,.kb false,.kb false,.kb false,.kb false,.kb false,.kb false,.kb false,.kb false,.kb false,.kb false,.kb false,.kb false,.kb false,.kb false,.kb false,.kb false,.kb false,.kb false,.kb false,.kb false,.kb false,.kb false,.kb false,.kb false,.kb false,.kb false,.kb false,.kb false,.kb false,.kb false,.kb false,.kb false,.kb false,.kb false,.kb false,.kb false,.kb false,.kb false,.kb false,.kb false,.kb false,.kb false,.kb false,.kb false,.kb false,.kb false,.kb false,.kb false,.kb false,.kb false,.kb false,.kb false,.kb false,.kb false,.kb false,.kb false,.kb false,.kb false,.kb false,.kb false,.kb false,.kb false,.kb false,.kb false,.kb false,.kb false,.kb false,.kb false,.kb false,.kb false,.kb false,.kb false,.kb false,.kb false,.kb false,.kb false,.kb false,.kb false,.kb false,.kb false,.kb false,.kb false,.kb false,.kb false,.kb false,.kb false,.kb false,.kb false,.kb false,.kb false,.kb false,.kb false,.kb false,.kb false,.kb false,.kb false,.kb false,.kb false,.kb false,.kb false,.kb false,.kb false,.kb false,.kb false,.kb false,.kb false,.kb false,.kb false,.kb false,.kb false,.kb false,.kb false,.kb false,.kb false,.kb false,.kb false,.kb false,.kb false,.kb false,.kb false,.kb false,.kb false,.kb false,.kb false,.kb false,.kb false,.kb false,.kb false,.kb false,.kb false]),
oS 256 5 31,
oM 6 32])
(sq (kr [0,1,5,6] [oM 33 6])
(.cond 33
(sq (.reg [oM 34 0,
oC 35 204 [34,5],
oC 36 203 [35,5],
oM 4 36])
.ret)
.skip)))
(sq (kr [0,1] [oM 37 0,
oM 38 1,
oC 39 206 [37,38],
oM 40 1,
oC 41 205 [39,40],
oM 4 41])
.ret))))))
def g7_:List RD:=[.tmp 4 true (some (.int .u8))]
theorem Gx_:zj_ Tryz.prog Tryz.f189 G0_ g7_=true:=by kernel_rfl
def KK_:List AV->List Obj->Option (Prop × AV)
 | [.imm (.int .u8) b,.str [0]],[]=>some ((b.length<=140737488355328,.imm (.int .u8) (WI_ (vA_ b 0) 0)))
 | _,_=>none
theorem WV_:zd_ Tryz.prog 189 (RoF KK_).sum:=by
 refine zi_ Tryz.func189 Gx_ (za_ (s:=RoF qz_) j4_ (za_ (s:=RoF q0_) JJ_ (zc_ _))) fun args objs p v e=>?_
 unfold KK_ at e
 split at e
 ·rename_i b
  cases e
  refine ⟨rfl,fun hw ho hp=>?_⟩
  change List Int at b
  have hl:(vA_ b 0).length<=b.length:=by unfold vA_;rw [List.length_take];omega
  repeat'(intro t ht;first|(cases t<;>first|(cases ht;done)|(try simp only[zg_]at ht))|((first|refine zb_ ht ?_|refine ht ?_ ?_|refine ht.1 ?_ ?_|refine ht ?_)<;>clear ht))
  all_goals first
   | exact hp
   | exact ⟨by decide,by decide⟩
   | exact Nat.le_trans hl hp
   | exact ⟨rfl,rfl⟩
   | (have hb:b=[]:=List.eq_nil_of_length_eq_zero (by omega)
      refine ⟨?_,rfl⟩;rw [hb];rfl)
 ·cases e
def US_:IR:=
(sq (kr [0] [oD 2 (.mov (.c (.imm (.int .u8) [])))])
(sq (sq (.reg [oM 3 0,
oD 4 (.isnil false 3)])
(.cond 4
(sq (.reg [oD 2 (.mov (.c (.imm (.int .u8) [])))])
.ret)
.skip))
(sq (.reg [oD 5 (.slice0 (.int .u8)),
oM 6 0,
oD 7 (.append (.int .u8) 1 5 6),
oM 2 7])
.ret)))
def u0_:List RD:=[.tmp 2 true (some (.int .u8))]
theorem Us_:zj_ Tryz.prog Tryz.f67 US_ u0_=true:=by kernel_rfl
def qt_:List AV->List Obj->Option (Prop × AV)
 | [.imm (.int .u8) b],[]=>some ((b.length<=140737488355328,.imm (.int .u8) b))
 | _,_=>none
theorem Qy_:zd_ Tryz.prog 67 (RoF qt_).sum:=by
 refine zi_ Tryz.func67 Us_ (zc_ _) fun args objs p v e=>?_
 unfold qt_ at e
 split at e
 ·rename_i b
  cases e
  refine ⟨rfl,fun hw ho hp=>?_⟩
  change List Int at b
  repeat'(intro t ht;first|(cases t<;>first|(cases ht;done)|(try simp only[zg_]at ht))|((first|refine zb_ ht ?_|refine ht ?_ ?_|refine ht.1 ?_ ?_|refine ht ?_)<;>clear ht))
  all_goals first
   | (simp only [qd_,List.length_nil,Nat.zero_add,Nat.mul_one];omega)
   | exact ⟨rfl,rfl⟩
   | (have e:b=[]:=by simp_all
      refine ⟨?_,rfl⟩;rw [e])
 ·cases e
def Wv_:IR:=
(sq (kr [0] [oD 2 (.mov cF)])
(sq (kr [0] [oM 3 0,
oD 4 (.eqp false 3 (.c (.nilp))),
oM 5 4,
oF 5 6 (.mov 0),
oF 5 7 (.nilck 6),
oF 5 8 (.fieldAddr 5 7),
oF 5 9 (.load none 8),
oF 5 10 (.un .not 9),
oP 11 5 cT 10,
oM 2 11])
.ret))
def w0_:List RD:=[.tmp 2 true none]
theorem Wg_:zj_ Tryz.prog Tryz.f95 Wv_ w0_=true:=by kernel_rfl
def z1_:List AV->List Obj->Option (Prop × AV)
 | [.ptr 0 0],[.box [.imm (.int .u8) b,.int .i64 p,.int .i64 sh,.int .i64 od,.int .i64 e,.bool true]]=>some ((True,.bool false))
 | _,_=>none
theorem Zh_:zd_ Tryz.prog 95 (RoF z1_).sum:=by
 refine zi_ Tryz.func95 Wg_ (zc_ _) fun args objs p v e=>?_
 unfold z1_ at e
 split at e
 ·rename_i b p sh od e
  cases e
  refine ⟨rfl,fun hw ho hp=>?_⟩
  change List Int at b
  repeat'(intro t ht;first|(cases t<;>first|(cases ht;done)|(try simp only[zg_]at ht))|((first|refine zb_ ht ?_|refine ht ?_ ?_|refine ht.1 ?_ ?_|refine ht ?_)<;>clear ht))
  all_goals exact ⟨rfl,rfl⟩
 ·cases e
def GZ_:IR:=
(sq (kr [0,1,2] [oD 6 (.mov (.c (.nilp)))])
(sq (kr [0,1,2] [oM 7 0,
oC 8 67 [7],
oM 9 1,
oM 10 2,
oD 11 (.build [.imm (.int .u8) [],.int .i64 0,.int .i64 0,.int .i64 0,.int .i64 0,.kb false] [(0,1,8),(2,1,9),(3,1,10),(5,1,cT)]),
oD 12 (.boxv 11),
oM 6 12])
.ret))
def g6_:List RD:=[.tmp 6 true none]
theorem Gw_:zj_ Tryz.prog Tryz.f41 GZ_ g6_=true:=by kernel_rfl
def ZJ_:List AV->List Obj->Option (Prop × AV × List Obj)
 | [.imm (.int .u8) b,.int .i64 sh,.int .i64 od],[]=>some ((b.length<=140737488355328,.ptr 0 0,[.box [.imm (.int .u8) b,.int .i64 0,.int .i64 sh,.int .i64 od,.int .i64 0,.bool true]]))
 | _,_=>none
theorem ZN_:zd_ Tryz.prog 41 (RwF ZJ_).sum:=by
 refine qg_ Tryz.func41 Gw_ (za_ (s:=RoF qt_) Qy_ (zc_ _)) fun args objs p v o e=>?_
 unfold ZJ_ at e
 split at e
 ·rename_i b sh od
  cases e
  refine ⟨rfl,fun hw ho hp=>?_⟩
  change List Int at b
  repeat'(intro t ht;first|(cases t<;>first|(cases ht;done)|(try simp only[zg_]at ht))|((first|refine zb_ ht ?_|refine ht ?_ ?_|refine ht.1 ?_ ?_|refine ht ?_)<;>clear ht))
  all_goals first
   | exact hp
   | exact ⟨rfl,rfl⟩
 ·cases e
def zt_ (e x:Int):Int:=if e=0 then x else e
def Wz_:IR:=
(sq (kr [0,1] [oM 4 0,
oC 5 95 [4],
oD 6 (.un .not 5),
oM 7 6,
oT 7 8 (.mov 0),
oT 7 9 (.nilck 8),
oT 7 10 (.fieldAddr 4 9),
oT 7 11 (.load none 10),
oT 7 12 (.bin .eql 11 (cI 0)),
oP 13 7 12 cF])
(.cond 13
(kr [0,1] [oM 14 0,
oM 15 1,
oD 16 (.nilck 14),
oA 17 4 16,
oS 1 17 15])
.skip))
def w4_:List RD:=[]
theorem Wk_:zj_ Tryz.prog Tryz.f44 Wz_ w4_=true:=by kernel_rfl
def zr_:List AV->List Obj->Option (Prop × AV × List Obj)
 | [.ptr 0 0,.int .i64 x],[.box [.imm (.int .u8) b,.int .i64 p,.int .i64 sh,.int .i64 od,.int .i64 e,.bool true]]=>some ((True,.tup [],[.box [.imm (.int .u8) b,.int .i64 p,.int .i64 sh,.int .i64 od,.int .i64 (zt_ e x),.bool true]]))
 | _,_=>none
theorem zs_:zd_ Tryz.prog 44 (RwF zr_).sum:=by
 refine qg_ Tryz.func44 Wk_ (za_ (s:=RoF z1_) Zh_ (zc_ _)) fun args objs p v o e=>?_
 unfold zr_ at e
 split at e
 ·rename_i x b p sh od e
  cases e
  refine ⟨rfl,fun hw ho hp=>?_⟩
  change List Int at b
  repeat'(intro t ht;first|(cases t<;>first|(cases ht;done)|(try simp only[zg_]at ht))|((first|refine zb_ ht ?_|refine ht ?_ ?_|refine ht.1 ?_ ?_|refine ht ?_)<;>clear ht))
  all_goals first
   | exact True.intro
   | (unfold zt_;simp_all;done)
 ·cases e
def xn_:IR:=
(sq (kr [0] [oD 2 (.mov (cI 0))])
(sq (sq (.reg [oM 3 0,
oC 4 95 [3]])
(.cond 4
(sq (.reg [oD 2 (.mov (cI 10001))])
.ret)
.skip))
(sq (kr [0] [oM 5 0,
oD 6 (.nilck 5),
oA 7 4 6,
oL 8 7,
oM 2 8])
.ret)))
def W1_:List RD:=[.tmp 2 true none]
theorem xa_:zj_ Tryz.prog Tryz.f43 xn_ W1_=true:=by kernel_rfl
def zp_:List AV->List Obj->Option (Prop × AV)
 | [.ptr 0 0],[.box [.imm (.int .u8) b,.int .i64 p,.int .i64 sh,.int .i64 od,.int .i64 e,.bool true]]=>some ((True,.int .i64 e))
 | _,_=>none
theorem zq_:zd_ Tryz.prog 43 (RoF zp_).sum:=by
 refine zi_ Tryz.func43 xa_ (za_ (s:=RoF z1_) Zh_ (zc_ _)) fun args objs p v e=>?_
 unfold zp_ at e
 split at e
 ·rename_i b p sh od e
  cases e
  refine ⟨rfl,fun hw ho hp=>?_⟩
  change List Int at b
  repeat'(intro t ht;first|(cases t<;>first|(cases ht;done)|(try simp only[zg_]at ht))|((first|refine zb_ ht ?_|refine ht ?_ ?_|refine ht.1 ?_ ?_|refine ht ?_)<;>clear ht))
  all_goals first
   | exact True.intro
   | exact ⟨rfl,rfl⟩
 ·cases e
def Wy_:IR:=
(sq (kr [0] [oD 2 (.mov (cI 0))])
(sq (sq (.reg [oM 3 0,
oC 4 95 [3]])
(.cond 4
(sq (.reg [oD 2 (.mov (cI 0))])
.ret)
.skip))
(sq (kd [0] [(oM 5 0,[]),
(oD 6 (.nilck 5),[]),
(oA 7 0 6,[]),
(oL 8 7,[]),
(oE 9 8,[]),
(oM 10 0,[0,0,0,0,0]),
(oD 11 (.nilck 10),[1,0,0,0,0]),
(oA 12 1 11,[2,0,0,0,0]),
(oL 13 12,[3,0,0,0,0]),
(oB 14 .sub 9 13,[]),
(oM 2 14,[])])
.ret)))
def w3_:List RD:=[.tmp 2 true none]
theorem Wj_:zj_ Tryz.prog Tryz.f47 Wy_ w3_=true:=by kernel_rfl
def zS_:List AV->List Obj->Option (Prop × AV)
 | [.ptr 0 0],[.box [.imm (.int .u8) b,.int .i64 p,.int .i64 sh,.int .i64 od,.int .i64 e,.bool true]]=>some ((0<=p/\p<=b.length,.int .i64 (b.length - p)))
 | _,_=>none
theorem z3_:zd_ Tryz.prog 47 (RoF zS_).sum:=by
 refine zi_ Tryz.func47 Wj_ (za_ (s:=RoF z1_) Zh_ (zc_ _)) fun args objs p v e=>?_
 unfold zS_ at e
 split at e
 ·rename_i b p sh od e
  cases e
  refine ⟨rfl,fun hw ho hp=>?_⟩
  change List Int at b
  have hb:b.length<=maxLen:=(ho _ (List.mem_cons_self ..) (.imm (.int .u8) b) (by simp)).2
  unfold maxLen at hb
  repeat'(intro t ht;first|(cases t<;>first|(cases ht;done)|(try simp only[zg_]at ht))|((first|refine zb_ ht ?_|refine ht ?_ ?_|refine ht.1 ?_ ?_|refine ht ?_)<;>clear ht))
  all_goals first
   | exact True.intro
   | ((try simp only [zm_,zn_,zl_] at*);omega)
   | exact ⟨rfl,rfl⟩
 ·cases e
def Xz_:IR:=
(sq (kr [0] [oD 2 (.mov (cI 0))])
(sq (sq (.reg [oM 3 0,
oC 4 95 [3]])
(.cond 4
(sq (.reg [oD 2 (.mov (cI 0))])
.ret)
.skip))
(sq (kr [0] [oM 5 0,
oD 6 (.nilck 5),
oA 7 1 6,
oL 8 7,
oM 2 8])
.ret)))
def Xv_:List RD:=[.tmp 2 true none]
theorem Xw_:zj_ Tryz.prog Tryz.f133 Xz_ Xv_=true:=by kernel_rfl
def ZR_:List AV->List Obj->Option (Prop × AV)
 | [.ptr 0 0],[.box [.imm (.int .u8) b,.int .i64 p,.int .i64 sh,.int .i64 od,.int .i64 e,.bool true]]=>some ((True,.int .i64 p))
 | _,_=>none
theorem qH_:zd_ Tryz.prog 133 (RoF ZR_).sum:=by
 refine zi_ Tryz.func133 Xw_ (za_ (s:=RoF z1_) Zh_ (zc_ _)) fun args objs p v e=>?_
 unfold ZR_ at e
 split at e
 ·rename_i b p sh od e
  cases e
  refine ⟨rfl,fun hw ho hp=>?_⟩
  change List Int at b
  repeat'(intro t ht;first|(cases t<;>first|(cases ht;done)|(try simp only[zg_]at ht))|((first|refine zb_ ht ?_|refine ht ?_ ?_|refine ht.1 ?_ ?_|refine ht ?_)<;>clear ht))
  all_goals first
   | exact True.intro
   | exact ⟨rfl,rfl⟩
 ·cases e
def QR_ (w b:List Int) (p e:Int):List Int:=if e=0 then zP_ w (b.drop p.toNat) else []
def ky_ (w b:List Int) (p e:Int):Int:=if e=0 then (if zZ_ w (b.drop p.toNat)=1 then p else if zZ_ w (b.drop p.toNat)=2 then p else p+zG_ w) else p
def k8_ (w b:List Int) (p sh od e:Int):Int:=if e=0 then (if zZ_ w (b.drop p.toNat)=1 then sh else if zZ_ w (b.drop p.toNat)=2 then od else 0) else e
def xl_:IR:=
(sq (kr [0,1] [oD 4 (.mov (.c (.imm (.int .u64) [])))])
(sq (sq (.reg [oM 7 0,
oC 8 43 [7],
oB 9 .neq 8 (cI 0)])
(.cond 9
(sq (.reg [oD 4 (.mov (.c (.imm (.int .u64) [])))])
.ret)
.skip))
(sq (kd [0,1] [(oM 11 1,[]),
(oM 12 0,[0]),
(oD 13 (.nilck 12),[1]),
(oA 14 0 13,[2]),
(oL 15 14,[3]),
(oM 16 0,[0,0,0,0,0]),
(oD 17 (.nilck 16),[1,0,0,0,0]),
(oA 18 1 17,[2,0,0,0,0]),
(oL 19 18,[3,0,0,0,0]),
(oD 20 (.slice 1 15 (some 19) none none),[8]),
(oC 21 93 [11,20],[]),
(oM 10 21,[]),
(oX 22 10 0,[]),
(oX 23 10 1,[0]),
(oM 5 22,[0]),
(oM 6 23,[])])
(sq (sq (kr [0,1,5,6] [oM 24 6])
(.block 0
(sq (.reg [oB 35 .eql 24 (cI 1),
oM 34 35])
(.cond 34
(kr [0,5] [oM 36 0,
oM 37 0,
oD 38 (.nilck 37),
oA 39 2 38,
oL 40 39,
oC 41 44 [36,40]])
(sq (.reg [oB 43 .eql 24 (cI 2),
oM 42 43])
(.cond 42
(kr [0,5] [oM 44 0,
oM 45 0,
oD 46 (.nilck 45),
oA 47 3 46,
oL 48 47,
oC 49 44 [44,48]])
(kd [0,1,5] [(oM 25 0,[]),
(oD 26 (.nilck 25),[]),
(oA 27 1 26,[]),
(oL 28 27,[]),
(oM 29 1,[0,0,0,0]),
(oC 30 94 [29],[1,0,0,0]),
(oB 31 .add 28 30,[]),
(oD 32 (.nilck 25),[]),
(oA 33 1 32,[]),
(oS 1 33 31,[])])))))))
(sq (kr [5] [oM 50 5,
oM 4 50])
.ret)))))
def WZ_:List RD:=[.tmp 4 true (some (.int .u64))]
theorem W8_:zj_ Tryz.prog Tryz.f42 xl_ WZ_=true:=by kernel_rfl
def zW_:List AV->List Obj->Option (Prop × AV × List Obj)
 | [.ptr 0 0,.imm (.int .i64) w],[.box [.imm (.int .u8) b,.int .i64 p,.int .i64 sh,.int .i64 od,.int .i64 e,.bool true]]=>some ((0<=p/\p<=b.length/\b.length<=140737488355328,.imm (.int .u64) (QR_ w b p e),[.box [.imm (.int .u8) b,.int .i64 (ky_ w b p e),.int .i64 sh,.int .i64 od,.int .i64 (k8_ w b p sh od e),.bool true]]))
 | _,_=>none
theorem z5_:zd_ Tryz.prog 42 (RwF zW_).sum:=by
 refine qg_ Tryz.func42 W8_ (za_ (s:=RoF zp_) zq_ (za_ (s:=RoF vp_) b5_ (za_ (s:=RwF zr_) zs_ (za_ (s:=RoF QD_) QU_ (zc_ _))))) fun args objs p v o e=>?_
 unfold zW_ at e
 split at e
 ·rename_i w b p sh od e
  cases e
  refine ⟨rfl,fun hw ho hp=>?_⟩
  change List Int at w
  change List Int at b
  have hz:=WX_ w
  repeat'(intro t ht;first|(cases t<;>first|(cases ht;done)|(try simp only[zg_]at ht))|((first|refine zb_ ht ?_|refine ht ?_ ?_|refine ht.1 ?_ ?_|refine ht ?_)<;>clear ht))
  all_goals first
   | exact True.intro
   | ((try simp only [zm_,zn_,zl_] at*);omega)
   | (unfold QR_ ky_ k8_;simp_all [zt_];done)
 ·cases e
def yY_ (w:Int) (b:List Int) (p e:Int):Int:=if 1<=w/\w<=8 then (QR_ [w] b p e).getD 0 0 else 0
def xf_ (w:Int) (b:List Int) (p e:Int):Int:=if 1<=w/\w<=8 then ky_ [w] b p e else p
def Xx_ (w:Int) (b:List Int) (p sh od e:Int):Int:=if 1<=w/\w<=8 then k8_ [w] b p sh od e else zt_ e 10001
def xm_:IR:=
(sq (kr [0,1] [oD 4 (.mov (.c (.int .u64 0)))])
(sq (sq (kr [0,1] [oM 7 1,
oB 8 .lss 7 (cI 1),
oM 9 8,
oF 9 10 (.mov 1),
oF 9 11 (.bin .gtr 10 (cI 8)),
oP 12 9 cT 11])
(.cond 12
(sq (kr [0] [oM 13 0,
oC 14 44 [13,(cI 10001)]])
(sq (.reg [oD 4 (.mov (.c (.int .u64 0)))])
.ret))
.skip))
(sq (kr [0,1] [oM 15 0,
oD 16 (.mkfn 42 [15] []),
oM 5 16])
(sq (sq (kr [1,5] [oM 17 5,
oM 18 1,
oD 19 (.sliceAll (.int .i64) 1 [(0,1,18)]),
oD 20 (.call false 17 [19]),
oM 6 20])
(sq (.reg [oM 21 6,
oE 22 21,
oB 23 .gtr 22 (cI 0)])
(.cond 23
(sq (kr [6] [oM 24 6,
oD 25 (.indexSl 1 24 (cI 0)),
oL 26 25,
oM 4 26])
.ret)
.skip)))
(sq (kr [] [oD 4 (.mov (.c (.int .u64 0)))])
.ret)))))
def W0_:List RD:=[.tmp 4 true none]
theorem W9_:zj_ Tryz.prog Tryz.f131 xm_ W0_=true:=by kernel_rfl
def Z9_:List AV->List Obj->Option (Prop × AV × List Obj)
 | [.ptr 0 0,.int .i64 w],[.box [.imm (.int .u8) b,.int .i64 p,.int .i64 sh,.int .i64 od,.int .i64 e,.bool true]]=>some ((0<=p/\p<=b.length/\b.length<=140737488355328,.int .u64 (yY_ w b p e),[.box [.imm (.int .u8) b,.int .i64 (xf_ w b p e),.int .i64 sh,.int .i64 od,.int .i64 (Xx_ w b p sh od e),.bool true]]))
 | _,_=>none
theorem kl_:zd_ Tryz.prog 131 (RwF Z9_).sum:=by
 refine qg_ Tryz.func131 W9_ (za_ (s:=RwF zr_) zs_ (za_ (s:=RwF zW_) z5_ (zc_ _))) fun args objs p v o e=>?_
 unfold Z9_ at e
 split at e
 ·rename_i w b p sh od e
  cases e
  refine ⟨rfl,fun hw ho hp=>?_⟩
  change List Int at b
  repeat'(intro t ht;first|(cases t<;>first|(cases ht;done)|(try simp only[zg_]at ht))|((first|refine zb_ ht ?_|refine ht ?_ ?_|refine ht.1 ?_ ?_|refine ht ?_)<;>clear ht))
  all_goals first
   | exact True.intro
   | exact hp
   | ((try simp only [zm_,zn_,zl_] at*);omega)
   | (have hc:1<=w/\w<=8:=by omega
      unfold yY_ xf_ Xx_
      rw [if_pos hc,if_pos hc,if_pos hc]
      first
       | exact ⟨rfl,rfl⟩
       | (have hl:QR_ [w] b p e=[]:=List.eq_nil_of_length_eq_zero (by omega)
          refine ⟨?_,rfl⟩;rw [hl];rfl))
   | (have hc:¬ (1<=w/\w<=8):=by omega
      unfold yY_ xf_ Xx_
      rw [if_neg hc,if_neg hc,if_neg hc]
      exact ⟨rfl,rfl⟩)
 ·cases e
theorem zbe_ {e x:Int} (h:x ≠ 0):zt_ e x ≠ 0:=by unfold zt_;split<;>assumption
def ZW_ (n:Int) (b:List Int) (p sh e:Int):Int:=if n < 0 then zt_ e 10001 else if b.length - p < n then zt_ e sh else e
def Ql_ (n:Int) (b:List Int) (p sh e:Int):List Int:=if ZW_ n b p sh e=0 then (b.take (p+n).toNat).drop p.toNat else []
def jm_ (n:Int) (b:List Int) (p sh e:Int):Int:=if ZW_ n b p sh e=0 then p+n else p
def Wu_:IR:=
(sq (kr [0,1] [oD 4 (.mov (.c (.imm (.int .u8) []))),
oD 5 (.mov cF)])
(sq (sq (.reg [oM 7 1,
oB 8 .lss 7 (cI 0)])
(.cond 8
(.reg [oM 9 0,
oC 10 44 [9,(cI 10001)]])
(sq (kr [0,1] [oM 11 1,
oM 12 0,
oC 13 47 [12],
oB 14 .gtr 11 13,
oM 15 14,
oT 15 16 (.mov 0),
oT 15 17 (.call false (.f 95) [16]),
oT 15 18 (.un .not 17),
oP 19 15 18 cF])
(.cond 19
(kr [0,1] [oM 20 0,
oM 21 0,
oD 22 (.nilck 21),
oA 23 2 22,
oL 24 23,
oC 25 44 [20,24]])
.skip))))
(sq (sq (kr [0,1] [oM 26 0,
oC 27 43 [26],
oB 28 .neq 27 (cI 0)])
(.cond 28
(sq (.reg [oD 4 (.mov (.c (.imm (.int .u8) []))),
oD 5 (.mov cF)])
.ret)
.skip))
(sq (kd [0,1] [(oM 29 0,[]),
(oD 30 (.nilck 29),[]),
(oA 31 0 30,[]),
(oL 32 31,[]),
(oM 33 0,[0,0,0,0]),
(oD 34 (.nilck 33),[1,0,0,0]),
(oA 35 1 34,[2,0,0,0]),
(oL 36 35,[3,0,0,0]),
(oM 37 0,[0,0,0,0,0,0,0,0]),
(oD 38 (.nilck 37),[1,0,0,0,0,0,0,0]),
(oA 39 1 38,[2,0,0,0,0,0,0,0]),
(oL 40 39,[3,0,0,0,0,0,0,0]),
(oM 41 1,[0,0,0,0,0,0,0,0,0,0,0,0]),
(oB 42 .add 40 41,[5,0,0,0,0,0,0,0]),
(oM 43 0,[0,0,0,0,0,0,0,0,0,0,0,0,0,0]),
(oD 44 (.nilck 43),[1,0,0,0,0,0,0,0,0,0,0,0,0,0]),
(oA 45 1 44,[2,0,0,0,0,0,0,0,0,0,0,0,0,0]),
(oL 46 45,[3,0,0,0,0,0,0,0,0,0,0,0,0,0]),
(oM 47 1,[0,0,0,0,0,0,0,0,0,0,0,0,0,0,0,0,0,0]),
(oB 48 .add 46 47,[5,0,0,0,0,0,0,0,0,0,0,0,0,0]),
(oD 49 (.slice 1 32 (some 36) (some 42) (some 48)),[]),
(oM 6 49,[])])
(sq (kr [0,1,6] [oM 50 0,
oD 51 (.nilck 50),
oA 52 1 51,
oL 53 52,
oM 54 1,
oB 55 .add 53 54,
oD 56 (.nilck 50),
oA 57 1 56,
oS 1 57 55])
(sq (kr [6] [oM 58 6,
oM 4 58,
oD 5 (.mov cT)])
.ret))))))
def wZ_:List RD:=[.tmp 4 true (some (.int .u8)),.tmp 5 true none]
theorem Wf_:zj_ Tryz.prog Tryz.f134 Wu_ wZ_=true:=by kernel_rfl
def qY_:List AV->List Obj->Option (Prop × AV × List Obj)
 | [.ptr 0 0,.int .i64 n],[.box [.imm (.int .u8) b,.int .i64 p,.int .i64 sh,.int .i64 od,.int .i64 e,.bool true]]=>some ((0<=p/\p<=b.length/\b.length<=140737488355328/\sh ≠ 0,.tup [.imm (.int .u8) (Ql_ n b p sh e),.bool (decide (ZW_ n b p sh e=0))],[.box [.imm (.int .u8) b,.int .i64 (jm_ n b p sh e),.int .i64 sh,.int .i64 od,.int .i64 (ZW_ n b p sh e),.bool true]]))
 | _,_=>none
theorem JH_:zd_ Tryz.prog 134 (RwF qY_).sum:=by
 refine qg_ Tryz.func134 Wf_ (za_ (s:=RwF zr_) zs_ (za_ (s:=RoF zS_) z3_ (za_ (s:=RoF z1_) Zh_ (za_ (s:=RoF zp_) zq_ (zc_ _))))) fun args objs p v o e=>?_
 unfold qY_ at e
 split at e
 ·rename_i n b p sh od e
  cases e
  refine ⟨rfl,fun hw ho hp=>?_⟩
  change List Int at b
  have hf1:zt_ e 10001 ≠ 0:=zbe_ (by decide)
  have hf2:zt_ e sh ≠ 0:=zbe_ hp.2.2.2
  repeat'(intro t ht;first|(cases t<;>first|(cases ht;done)|(try simp only[zg_]at ht))|((first|refine zb_ ht ?_|refine ht ?_ ?_|refine ht.1 ?_ ?_|refine ht ?_)<;>clear ht))
  all_goals first
   | exact True.intro
   | (exfalso;omega)
   | omega
   | ((try simp only [zm_,zn_,zl_] at*);omega)
   | (first
       | (have hE:ZW_ n b p sh e=e:=by unfold ZW_;rw [if_neg (by assumption),if_neg (by assumption)]
          unfold Ql_ jm_;rw [hE]
          first
           | (have h0:e=0:=by assumption
              rw [if_pos h0,if_pos h0,decide_eq_true h0];exact ⟨rfl,rfl⟩)
           | (have h0:¬ e=0:=by assumption
              rw [if_neg h0,if_neg h0,decide_eq_false h0];exact ⟨rfl,rfl⟩))
       | (have hE:ZW_ n b p sh e=zt_ e sh:=by unfold ZW_;rw [if_neg (by assumption),if_pos (by assumption)]
          unfold Ql_ jm_;rw [hE,if_neg hf2,if_neg hf2,decide_eq_false hf2];exact ⟨rfl,rfl⟩)
       | (have hE:ZW_ n b p sh e=zt_ e 10001:=by unfold ZW_;rw [if_pos (by assumption)]
          unfold Ql_ jm_;rw [hE,if_neg hf1,if_neg hf1,decide_eq_false hf1];exact ⟨rfl,rfl⟩))
 ·cases e
def wg_:IR:=
(sq (kr [0,1] [oD 4 (.mov (.c (.imm (.int .u8) [])))])
(sq (kr [0,1] [oM 8 0,
oM 9 1,
oC 10 134 [8,9],
oM 7 10,
oX 11 7 0,
oX 12 7 1,
oM 5 11,
oM 6 12])
(sq (kr [5] [oM 13 5,
oC 14 67 [13],
oM 4 14])
.ret)))
def JU_:List RD:=[.tmp 4 true (some (.int .u8))]
theorem J2_:zj_ Tryz.prog Tryz.f98 wg_ JU_=true:=by kernel_rfl
def zK_:List AV->List Obj->Option (Prop × AV × List Obj)
 | [.ptr 0 0,.int .i64 n],[.box [.imm (.int .u8) b,.int .i64 p,.int .i64 sh,.int .i64 od,.int .i64 e,.bool true]]=>some ((0<=p/\p<=b.length/\b.length<=140737488355328/\sh ≠ 0,.imm (.int .u8) (Ql_ n b p sh e),[.box [.imm (.int .u8) b,.int .i64 (jm_ n b p sh e),.int .i64 sh,.int .i64 od,.int .i64 (ZW_ n b p sh e),.bool true]]))
 | _,_=>none
theorem zY_:zd_ Tryz.prog 98 (RwF zK_).sum:=by
 refine qg_ Tryz.func98 J2_ (za_ (s:=RwF qY_) JH_ (za_ (s:=RoF qt_) Qy_ (zc_ _))) fun args objs p v o e=>?_
 unfold zK_ at e
 split at e
 ·rename_i n b p sh od e
  cases e
  refine ⟨rfl,fun hw ho hp=>?_⟩
  change List Int at b
  have hlen:(Ql_ n b p sh e).length<=140737488355328:=by
   unfold Ql_;split
   ·rw [List.length_drop,List.length_take];omega
   ·exact Nat.zero_le _
  repeat'(intro t ht;first|(cases t<;>first|(cases ht;done)|(try simp only[zg_]at ht))|((first|refine zb_ ht ?_|refine ht ?_ ?_|refine ht.1 ?_ ?_|refine ht ?_)<;>clear ht))
  all_goals first
   | exact hp
   | exact hlen
   | exact ⟨rfl,rfl⟩
 ·cases e
def WC_:IR:=
(sq (kr [0] [oD 2 (.mov cF)])
(sq (kr [0] [oM 3 0,
oD 4 (.eqp false 3 (.c (.nilp))),
oM 5 4,
oF 5 6 (.mov 0),
oF 5 7 (.nilck 6),
oF 5 8 (.fieldAddr 2 7),
oF 5 9 (.load none 8),
oF 5 10 (.eqn false 9 (.c (.nilm))),
oP 11 5 cT 10,
oM 2 11])
.ret))
def w7_:List RD:=[.tmp 2 true none]
theorem Wn_:zj_ Tryz.prog Tryz.f66 WC_ w7_=true:=by kernel_rfl
def z2_:List AV->List Obj->Option (Prop × AV)
 | [.ptr 0 0],[.box [.own 1,.int .i64 room,.mapv 2,.int .i64 e],.row false (.int .u8) l,.map sq (.int .i64) (.int .i64) h]=>some ((True,.bool false))
 | _,_=>none
theorem Zi_:zd_ Tryz.prog 66 (RoF z2_).sum:=by
 refine zi_ Tryz.func66 Wn_ (zc_ _) fun args objs p v e=>?_
 unfold z2_ at e
 split at e
 ·rename_i room e l sq h
  cases e
  refine ⟨rfl,fun hw ho hp=>?_⟩
  change List Int at l
  repeat'(intro t ht;first|(cases t<;>first|(cases ht;done)|(try simp only[zg_]at ht))|((first|refine zb_ ht ?_|refine ht ?_ ?_|refine ht.1 ?_ ?_|refine ht ?_)<;>clear ht))
  all_goals exact ⟨rfl,rfl⟩
 ·cases e
def wO_ (n:Int):Int:=if 1000000 < (if 0 > n then 0 else n) then 1000000 else (if 0 > n then 0 else n)
def G1_:IR:=
(sq (kr [0] [oD 2 (.mov (.c (.nilp)))])
(sq (kr [0] [oM 3 0,
oD 4 (.minmax true 3 (cI 0)),
oD 5 (.minmax false 4 (cI 1000000)),
oD 6 (.mkmap (.int .i64) (.int .i64)),
oD 7 (.build [.nils,.int .i64 0,.nilm,.int .i64 0] [(1,1,5),(2,1,6)]),
oD 8 (.boxv 7),
oM 2 8])
.ret))
def g8_:List RD:=[.tmp 2 true none]
theorem Gy_:zj_ Tryz.prog Tryz.f27 G1_ g8_=true:=by kernel_rfl
def Ys_:List AV->List Obj->Option (Prop × AV × List Obj)
 | [.int .i64 n],[]=>some (True,.ptr 0 0,[.box [.nils,.int .i64 (wO_ n),.mapv 1,.int .i64 0],.map true (.int .i64) (.int .i64) ([])])
 | _,_=>none
def Z1_:List AV->List Obj->Option (Prop × AV × List Obj)
 | [.int .i64 n],[]=>some (True,.ptr 0 0,[.box [.own 2,.int .i64 (wO_ n),.mapv 1,.int .i64 0],.map true (.int .i64) (.int .i64) ([]),.row false (.int .u8) ([])])
 | _,_=>none
theorem qa_:zd_ Tryz.prog 27 (RwF Z1_).sum:=by
 have h0:zd_ Tryz.prog 27 (RwF Ys_).sum:=by
  refine qg_ Tryz.func27 Gy_ (zc_ _) fun args objs p v o e=>?_
  unfold Ys_ at e
  split at e
  ·rename_i n
   cases e
   refine ⟨rfl,fun hw ho hp=>?_⟩
   repeat'(intro t ht;first|(cases t<;>first|(cases ht;done)|(try simp only[zg_]at ht))|((first|refine zb_ ht ?_|refine ht ?_ ?_|refine ht.1 ?_ ?_|refine ht ?_)<;>clear ht))
   all_goals exact ⟨rfl,rfl⟩
  ·cases e
 refine BJ_ (t:=.int .u8) h0 fun args objs p v o e=>?_
 unfold Z1_ at e
 split at e
 ·rename_i n
  cases e
  exact ⟨0,[],[.int .i64 (wO_ n),.mapv 1,.int .i64 0],_,rfl,rfl,rfl⟩
 ·cases e
def WD_:IR:=
(sq (kr [0,1] [oM 4 0,
oC 5 66 [4],
oD 6 (.un .not 5),
oM 7 6,
oT 7 8 (.mov 0),
oT 7 9 (.nilck 8),
oT 7 10 (.fieldAddr 3 9),
oT 7 11 (.load none 10),
oT 7 12 (.bin .eql 11 (cI 0)),
oP 13 7 12 cF])
(.cond 13
(kr [0,1] [oM 14 0,
oM 15 1,
oD 16 (.nilck 14),
oA 17 3 16,
oS 1 17 15])
.skip))
def w8_:List RD:=[]
theorem Wo_:zj_ Tryz.prog Tryz.f34 WD_ w8_=true:=by kernel_rfl
def zy_:List AV->List Obj->Option (Prop × AV × List Obj)
 | [.ptr 0 0,.int .i64 x],[.box [.own 1,.int .i64 room,.mapv 2,.int .i64 e],.row false (.int .u8) l,.map sq (.int .i64) (.int .i64) h]=>some ((True,.tup [],[.box [.own 1,.int .i64 room,.mapv 2,.int .i64 (zt_ e x)],.row false (.int .u8) l,.map sq (.int .i64) (.int .i64) h]))
 | _,_=>none
theorem zE_:zd_ Tryz.prog 34 (RwF zy_).sum:=by
 refine qg_ Tryz.func34 Wo_ (za_ (s:=RoF z2_) Zi_ (zc_ _)) fun args objs p v o e=>?_
 unfold zy_ at e
 split at e
 ·rename_i x room e l sq h
  cases e
  refine ⟨rfl,fun hw ho hp=>?_⟩
  change List Int at l
  repeat'(intro t ht;first|(cases t<;>first|(cases ht;done)|(try simp only[zg_]at ht))|((first|refine zb_ ht ?_|refine ht ?_ ?_|refine ht.1 ?_ ?_|refine ht ?_)<;>clear ht))
  all_goals first
   | exact True.intro
   | (unfold zt_;simp_all;done)
 ·cases e
def Jp_ (x l:List Int) (room e:Int):Bool:=decide (e=0) && decide ((x.length:Int)<=room - l.length)
def kB_ (x l:List Int) (room e:Int):List Int:=if Jp_ x l room e=true then l++x else l
def QS_ (x l:List Int) (room e:Int):Int:=if e=0 then (if (x.length:Int)<=room - l.length then 0 else 10003) else e
def wi_:IR:=
(.block 0
(sq (kr [0,1] [oM 14 0,
oC 15 66 [14],
oM 16 15,
oF 16 17 (.mov 0),
oF 16 18 (.nilck 17),
oF 16 19 (.fieldAddr 3 18),
oF 16 20 (.load none 19),
oF 16 21 (.bin .neq 20 (cI 0)),
oP 22 16 cT 21,
oM 13 22])
(.cond 13
.skip
(sq (kd [0,1] [(oM 24 1,[]),
(oE 25 24,[]),
(oM 26 0,[0,0]),
(oD 27 (.nilck 26),[1,0]),
(oA 28 1 27,[2,0]),
(oL 29 28,[3,0]),
(oM 30 0,[0,0,0,0,0,0]),
(oD 31 (.nilck 30),[1,0,0,0,0,0]),
(oA 32 0 31,[2,0,0,0,0,0]),
(oL 33 32,[3,0,0,0,0,0]),
(oE 34 33,[4,0,0,0,0,0]),
(oB 35 .sub 29 34,[9,0]),
(oB 36 .gtr 25 35,[]),
(oM 23 36,[])])
(.cond 23
(kr [0] [oM 37 0,
oC 38 34 [37,(cI 10003)]])
(kr [0,1] [oM 4 0,
oM 5 0,
oD 6 (.nilck 5),
oA 7 0 6,
oL 8 7,
oM 9 1,
oD 10 (.append (.int .u8) 1 8 9),
oD 11 (.nilck 4),
oA 12 0 11,
oS 1 12 10]))))))
def JW_:List RD:=[]
theorem J4_:zj_ Tryz.prog Tryz.f65 wi_ JW_=true:=by kernel_rfl
def ko_:List AV->List Obj->Option (Prop × Res)
 | [.ptr 0 0,.imm (.int .u8) x],[.box [.own 1,.int .i64 room,.mapv 2,.int .i64 e],.row false (.int .u8) l,.map sq (.int .i64) (.int .i64) h]=>some (0<=room/\room<=1000000/\l.length<=1000000/\x.length<=1000000,.br (Jp_ x l room e) (.one (.tup []) [.box [.own 3,.int .i64 room,.mapv 2,.int .i64 e],.dead,.map sq (.int .i64) (.int .i64) h,.row false (.int .u8) (kB_ x l room e)]) (.one (.tup []) [.box [.own 1,.int .i64 room,.mapv 2,.int .i64 (QS_ x l room e)],.row false (.int .u8) l,.map sq (.int .i64) (.int .i64) h]))
 | _,_=>none
def zu_:List AV->List Obj->Option (Prop × AV × List Obj)
 | [.ptr 0 0,.imm (.int .u8) x],[.box [.own 1,.int .i64 room,.mapv 2,.int .i64 e],.row false (.int .u8) l,.map sq (.int .i64) (.int .i64) h]=>some (0<=room/\room<=1000000/\l.length<=1000000/\x.length<=1000000,.tup [],[.box [.own 3,.int .i64 room,.mapv 2,.int .i64 (QS_ x l room e)],.dead,.map sq (.int .i64) (.int .i64) h,.row false (.int .u8) (kB_ x l room e)])
 | _,_=>none
theorem jV_:zd_ Tryz.prog 65 (RcF ko_).sum:=by
 refine u5_ Tryz.func65 J4_ (za_ (s:=RoF z2_) Zi_ (za_ (s:=RwF zy_) zE_ (zc_ _))) fun args objs p v e=>?_
 unfold ko_ at e
 split at e
 ·rename_i x room e l sq h
  cases e
  change List Int at x
  change List Int at l
  refine ⟨rfl,fun hw ho hp=>?_⟩
  repeat'(intro t ht;first|(cases t<;>first|(cases ht;done)|(try simp only[zg_]at ht))|((first|refine zb_ ht ?_|refine ht ?_ ?_|refine ht.1 ?_ ?_|refine ht ?_)<;>clear ht))
  all_goals first
   | exact True.intro
   | ((try simp only [zm_,zn_,zl_] at*);omega)
   | (simp only [qd_];omega)
   | (have hb:Jp_ x l room e=true:=by unfold Jp_;simp only [Bool.and_eq_true,decide_eq_true_eq];omega
      have hbb:kB_ x l room e=l++x:=by unfold kB_;rw [hb];rfl
      rw [KY_ hb,hbb];exact ⟨rfl,rfl⟩)
   | (have hb:Jp_ x l room e=false:=by unfold Jp_;simp only [Bool.and_eq_false_iff,decide_eq_false_iff_not];omega
      rw [QZ_ hb]
      unfold QS_
      first
       | (rw [if_neg (by assumption)];exact ⟨rfl,rfl⟩)
       | (have h0:e=0:=by assumption
          have h1:¬ (x.length:Int)<=room - l.length:=by omega
          rw [if_pos h0,if_neg h1]
          refine ⟨rfl,?_⟩;unfold zt_;rw [if_pos h0];rfl))
 ·cases e
theorem zz_:zd_ Tryz.prog 65 (RwF zu_).sum:=by
 refine yO_ jV_ fun args objs p v o e=>?_
 unfold zu_ at e
 split at e
 ·rename_i x room e l sq h
  cases e
  cases hb:Jp_ x l room e with
  | true=>
    have h1:e=0:=by unfold Jp_ at hb;simp_all
    have h2:(x.length:Int)<=room - l.length:=by unfold Jp_ at hb;simp_all
    refine ⟨_,_,rfl,KY_ hb,.inl ?_⟩
    unfold QS_;rw [if_pos h1,if_pos h2,h1]
  | false=>
    refine ⟨_,_,rfl,QZ_ hb,.inr ⟨0,1,[],[.int .i64 room,.mapv 2,.int .i64 (QS_ x l room e)],.int .u8,l,rfl,rfl,?_⟩⟩
    have hbb:kB_ x l room e=l:=by unfold kB_;rw [hb];rfl
    rw [hbb];rfl
 ·cases e
theorem yQ_:∀ (w xs b r:List Int),(∀ n ∈ w,n ≠ 0/\n<=8/\-64<=n)->qb_ w xs b=some r->(r.length:Int)=b.length+(w.map zv_).sum
 | [],xs,b,r,_,h=>by simp only [qb_,Option.some.injEq] at h;subst h;simp
 | n :: w,xs,b,r,hw,h=>by
   have hn:=hw n (by simp)
   have hw':∀ n ∈ w,n ≠ 0/\n<=8/\-64<=n:=fun m hm=>hw m (by simp [hm])
   simp only [qb_] at h
   split at h
   ·have ih:=yQ_ w _ _ r hw' h
    have hl:=zk_ (n:=0) (w:=0 - n) (by omega)
    rw [List.length_append] at ih
    rw [List.map_cons,List.sum_cons,xI_ (by assumption)];omega
   ·cases xs with
    | nil=>cases h
    | cons x ys=>
      simp only at h
      split at h
      ·cases h
      ·have ih:=yQ_ w _ _ r hw' h
       have hl:=zk_ (n:=x) (w:=n) (by omega)
       rw [List.length_append] at ih
       rw [List.map_cons,List.sum_cons,Yj_ (by assumption)];omega
theorem zfW_ (w xs:List Int):(Zn_ w xs).length<=4096:=by
 unfold Zn_ k2_
 split
 ·rename_i h
  cases hp:qb_ w xs [] with
  | none=>simp
  | some r=>
    have h1:=yQ_ w xs [] r (ZD_.1 h.1).2 hp
    have h2:=WX_ w
    unfold zG_ at h2;rw [if_pos h.1] at h2
    simp at h1 ⊢;omega
 ·simp
def qj_ (w xs l:List Int) (room e:Int):List Int:=if ZX_ w xs=true then kB_ (Zn_ w xs) l room e else l
def qG_ (w xs l:List Int) (room e:Int):Int:=if ZX_ w xs=true then QS_ (Zn_ w xs) l room e else zt_ e 10001
def xo_:IR:=
(sq (kr [0,1,2] [oM 9 1,
oM 10 2,
oC 11 64 [9,10],
oM 8 11,
oX 12 8 0,
oX 13 8 1,
oM 6 12,
oM 7 13])
(sq (sq (kr [0,6,7] [oM 14 7,
oD 15 (.un .not 14)])
(.cond 15
(sq (.reg [oM 16 0,
oC 17 34 [16,(cI 10001)]])
.ret)
.skip))
(.reg [oM 18 0,
oM 19 6,
oC 20 65 [18,19]])))
def W2_:List RD:=[]
theorem xb_:zj_ Tryz.prog Tryz.f28 xo_ W2_=true:=by kernel_rfl
def Kq_:List AV->List Obj->Option (Prop × Res)
 | [.ptr 0 0,.imm (.int .i64) w,.imm (.int .u64) xs],[.box [.own 1,.int .i64 room,.mapv 2,.int .i64 e],.row false (.int .u8) l,.map sq (.int .i64) (.int .i64) h]=>some (0<=room/\room<=1000000/\l.length<=1000000,.br (ZX_ w xs) (.one (.tup []) [.box [.own 3,.int .i64 room,.mapv 2,.int .i64 (QS_ (Zn_ w xs) l room e)],.dead,.map sq (.int .i64) (.int .i64) h,.row false (.int .u8) (kB_ (Zn_ w xs) l room e)]) (.one (.tup []) [.box [.own 1,.int .i64 room,.mapv 2,.int .i64 (zt_ e 10001)],.row false (.int .u8) l,.map sq (.int .i64) (.int .i64) h]))
 | _,_=>none
def zF_:List AV->List Obj->Option (Prop × AV × List Obj)
 | [.ptr 0 0,.imm (.int .i64) w,.imm (.int .u64) xs],[.box [.own 1,.int .i64 room,.mapv 2,.int .i64 e],.row false (.int .u8) l,.map sq (.int .i64) (.int .i64) h]=>some (0<=room/\room<=1000000/\l.length<=1000000,.tup [],[.box [.own 3,.int .i64 room,.mapv 2,.int .i64 (qG_ w xs l room e)],.dead,.map sq (.int .i64) (.int .i64) h,.row false (.int .u8) (qj_ w xs l room e)])
 | _,_=>none
theorem wR_:zd_ Tryz.prog 28 (RcF Kq_).sum:=by
 refine u5_ Tryz.func28 xb_ (za_ (s:=RoF Xg_) vD_ (za_ (s:=RwF zy_) zE_ (za_ (s:=RwF zu_) zz_ (zc_ _)))) fun args objs p v e=>?_
 unfold Kq_ at e
 split at e
 ·rename_i w xs room e l sq h
  cases e
  refine ⟨rfl,fun hw ho hp=>?_⟩
  have hz:=zfW_ w xs
  repeat'(intro t ht;first|(cases t<;>first|(cases ht;done)|(try simp only[zg_]at ht))|((first|refine zb_ ht ?_|refine ht ?_ ?_|refine ht.1 ?_ ?_|refine ht ?_)<;>clear ht))
  all_goals first
   | exact True.intro
   | exact ⟨hp.1,hp.2.1,hp.2.2,by omega⟩
   | (rw [KY_ (by assumption)];exact ⟨rfl,rfl⟩)
   | (rw [QZ_ (by assumption)];exact ⟨rfl,rfl⟩)
 ·cases e
theorem zJ_:zd_ Tryz.prog 28 (RwF zF_).sum:=by
 refine yO_ wR_ fun args objs p v o e=>?_
 unfold zF_ at e
 split at e
 ·rename_i w xs room e l sq h
  cases e
  cases hb:ZX_ w xs with
  | true=>
    refine ⟨_,_,rfl,KY_ hb,.inl ?_⟩
    unfold qG_ qj_;rw [if_pos hb,if_pos hb]
  | false=>
    refine ⟨_,_,rfl,QZ_ hb,.inr ⟨0,1,[],[.int .i64 room,.mapv 2,.int .i64 (zt_ e 10001)],.int .u8,l,rfl,rfl,?_⟩⟩
    unfold qG_ qj_;rw [hb];rfl
 ·cases e
def jW_ (w:Int):Bool:=decide (1<=w) && decide (w<=8)
def XA_ (w e:Int):Int:=if jW_ w=true then e else zt_ e 10001
def WB_:IR:=
(sq (kr [0,1] [oD 4 (.mov cF)])
(sq (kr [0,1] [oM 6 1,
oB 7 .geq 6 (cI 1),
oM 8 7,
oT 8 9 (.mov 1),
oT 8 10 (.bin .leq 9 (cI 8)),
oP 11 8 10 cF,
oM 5 11])
(sq (sq (kr [0,5] [oM 12 5,
oD 13 (.un .not 12)])
(.cond 13
(.reg [oM 14 0,
oC 15 34 [14,(cI 10001)]])
.skip))
(sq (.reg [oM 16 5,
oM 4 16])
.ret))))
def w6_:List RD:=[.tmp 4 true none]
theorem Wm_:zj_ Tryz.prog Tryz.f152 WB_ w6_=true:=by kernel_rfl
def q1_:List AV->List Obj->Option (Prop × AV × List Obj)
 | [.ptr 0 0,.int .i64 w],[.box [.own 1,.int .i64 room,.mapv 2,.int .i64 e],.row false (.int .u8) l,.map sq (.int .i64) (.int .i64) h]=>some ((True,.bool (jW_ w),[.box [.own 1,.int .i64 room,.mapv 2,.int .i64 (XA_ w e)],.row false (.int .u8) l,.map sq (.int .i64) (.int .i64) h]))
 | _,_=>none
theorem JK_:zd_ Tryz.prog 152 (RwF q1_).sum:=by
 refine qg_ Tryz.func152 Wm_ (za_ (s:=RwF zy_) zE_ (zc_ _)) fun args objs p v o e=>?_
 unfold q1_ at e
 split at e
 ·rename_i w room e l sq h
  cases e
  refine ⟨rfl,fun hw ho hp=>?_⟩
  change List Int at l
  repeat'(intro t ht;first|(cases t<;>first|(cases ht;done)|(try simp only[zg_]at ht))|((first|refine zb_ ht ?_|refine ht ?_ ?_|refine ht.1 ?_ ?_|refine ht ?_)<;>clear ht))
  all_goals first
   | exact True.intro
   | (have hb:jW_ w=true:=by unfold jW_;simp_all
      have h8:decide (w<=8)=true:=decide_eq_true (by assumption)
      unfold XA_;rw [hb,h8];exact ⟨rfl,rfl⟩)
   | (have hb:jW_ w=false:=by unfold jW_;simp_all
      have h8:decide (w<=8)=false:=decide_eq_false (by assumption)
      unfold XA_;rw [hb,h8];exact ⟨rfl,rfl⟩)
   | (have hb:jW_ w=false:=by unfold jW_;simp only [Bool.and_eq_false_iff,decide_eq_false_iff_not];omega
      unfold XA_;rw [hb];exact ⟨rfl,rfl⟩)
 ·cases e
def nmB (w n:Int) (l:List Int) (room e:Int):List Int:=if jW_ w=true then qj_ [w] [n] l room e else l
def nmE (w n:Int) (l:List Int) (room e:Int):Int:=if jW_ w=true then qG_ [w] [n] l room e else zt_ e 10001
def xp_:IR:=
(sq (kr [0,1,2] [oM 6 0,
oM 7 1,
oC 8 152 [6,7]])
(.cond 8
(kr [0,1,2] [oM 9 0,
oM 10 1,
oD 11 (.sliceAll (.int .i64) 1 [(0,1,10)]),
oM 12 2,
oD 13 (.sliceAll (.int .u64) 1 [(0,1,12)]),
oC 14 28 [9,11,13]])
.skip))
def W3_:List RD:=[]
theorem xc_:zj_ Tryz.prog Tryz.f122 xp_ W3_=true:=by kernel_rfl
def Kr_:List AV->List Obj->Option (Prop × Res)
 | [.ptr 0 0,.int .i64 w,.int .u64 n],[.box [.own 1,.int .i64 room,.mapv 2,.int .i64 e],.row false (.int .u8) l,.map sq (.int .i64) (.int .i64) h]=>some (0<=room/\room<=1000000/\l.length<=1000000,.br (jW_ w) (.one (.tup []) [.box [.own 3,.int .i64 room,.mapv 2,.int .i64 (qG_ [w] [n] l room (XA_ w e))],.dead,.map sq (.int .i64) (.int .i64) h,.row false (.int .u8) (qj_ [w] [n] l room (XA_ w e))]) (.one (.tup []) [.box [.own 1,.int .i64 room,.mapv 2,.int .i64 (XA_ w e)],.row false (.int .u8) l,.map sq (.int .i64) (.int .i64) h]))
 | _,_=>none
def Qj_:List AV->List Obj->Option (Prop × AV × List Obj)
 | [.ptr 0 0,.int .i64 w,.int .u64 n],[.box [.own 1,.int .i64 room,.mapv 2,.int .i64 e],.row false (.int .u8) l,.map sq (.int .i64) (.int .i64) h]=>some (0<=room/\room<=1000000/\l.length<=1000000,.tup [],[.box [.own 3,.int .i64 room,.mapv 2,.int .i64 (nmE w n l room e)],.dead,.map sq (.int .i64) (.int .i64) h,.row false (.int .u8) (nmB w n l room e)])
 | _,_=>none
theorem wS_:zd_ Tryz.prog 122 (RcF Kr_).sum:=by
 refine u5_ Tryz.func122 xc_ (za_ (s:=RwF q1_) JK_ (za_ (s:=RwF zF_) zJ_ (zc_ _))) fun args objs p v e=>?_
 unfold Kr_ at e
 split at e
 ·rename_i w n room e l sq h
  cases e
  refine ⟨rfl,fun hw ho hp=>?_⟩
  repeat'(intro t ht;first|(cases t<;>first|(cases ht;done)|(try simp only[zg_]at ht))|((first|refine zb_ ht ?_|refine ht ?_ ?_|refine ht.1 ?_ ?_|refine ht ?_)<;>clear ht))
  all_goals first
   | exact True.intro
   | exact hp
   | (rw [KY_ (by assumption)];exact ⟨rfl,rfl⟩)
   | (rw [QZ_ (by assumption)];exact ⟨rfl,rfl⟩)
 ·cases e
theorem wU_:zd_ Tryz.prog 122 (RwF Qj_).sum:=by
 refine yO_ wS_ fun args objs p v o e=>?_
 unfold Qj_ at e
 split at e
 ·rename_i w n room e l sq h
  cases e
  cases hb:jW_ w with
  | true=>
    refine ⟨_,_,rfl,KY_ hb,.inl ?_⟩
    unfold nmE nmB XA_;rw [hb];rfl
  | false=>
    refine ⟨_,_,rfl,QZ_ hb,.inr ⟨0,1,[],[.int .i64 room,.mapv 2,.int .i64 (XA_ w e)],.int .u8,l,rfl,rfl,?_⟩⟩
    unfold nmE nmB XA_;rw [hb];rfl
 ·cases e
def K2_ (h:List (Int × Int)) (e:Int):Bool:=decide (e=0) && decide (h.length=0)
def qE_ (l:List Int) (h:List (Int × Int)) (e:Int):List Int:=if K2_ h e=true then l else []
def kn_ (h:List (Int × Int)) (e:Int):Int:=if e=0 then (if h.length=0 then 0 else 10001) else e
def WF_:IR:=
(sq (kr [0] [oD 2 (.mov (.c (.imm (.int .u8) []))),
oD 3 (.mov (cI 0))])
(sq (.block 0
(sq (.reg [oM 5 0,
oC 6 66 [5],
oM 4 6])
(.cond 4
(sq (.reg [oD 2 (.mov (.c (.imm (.int .u8) []))),
oD 3 (.mov (cI 10001))])
.ret)
(sq (kr [0] [oM 8 0,
oD 9 (.nilck 8),
oA 10 3 9,
oL 11 10,
oB 12 .neq 11 (cI 0),
oM 7 12])
(.cond 7
(sq (kd [0] [(oM 13 0,[]),
(oD 14 (.nilck 13),[]),
(oA 15 3 14,[]),
(oL 16 15,[]),
(oD 2 (.mov (.c (.imm (.int .u8) []))),[0,0,0,0]),
(oM 3 16,[])])
.ret)
(sq (kr [0] [oM 18 0,
oD 19 (.nilck 18),
oA 20 2 19,
oL 21 20,
oD 22 (.mlen 21),
oB 23 .gtr 22 (cI 0),
oM 17 23])
(.cond 17
(sq (kr [] [oD 2 (.mov (.c (.imm (.int .u8) []))),
oD 3 (.mov (cI 10001))])
.ret)
.skip)))))))
(sq (kr [0] [oM 24 0,
oD 25 (.nilck 24),
oA 26 0 25,
oL 27 26,
oC 28 67 [27],
oM 2 28,
oD 3 (.mov (cI 0))])
.ret)))
def Wa_:List RD:=[.tmp 2 true (some (.int .u8)),.tmp 3 true none]
theorem Wq_:zj_ Tryz.prog Tryz.f29 WF_ Wa_=true:=by kernel_rfl
def Kb_:List AV->List Obj->Option (Prop × Res)
 | [.ptr 0 0],[.box [.own 1,.int .i64 room,.mapv 2,.int .i64 e],.row false (.int .u8) l,.map sq (.int .i64) (.int .i64) h]=>some (l.length<=140737488355328/\h.length<=140737488355328,.br (K2_ h e) (.one (.tup [.imm (.int .u8) l,.int .i64 0]) [.box [.own 1,.int .i64 room,.mapv 2,.int .i64 e],.row true (.int .u8) l,.map sq (.int .i64) (.int .i64) h]) (.one (.tup [.imm (.int .u8) [],.int .i64 (kn_ h e)]) [.box [.own 1,.int .i64 room,.mapv 2,.int .i64 e],.row false (.int .u8) l,.map sq (.int .i64) (.int .i64) h]))
 | _,_=>none
def Ze_:List AV->List Obj->Option (Prop × AV × List Obj)
 | [.ptr 0 0],[.box [.own 1,.int .i64 room,.mapv 2,.int .i64 e],.row false (.int .u8) l,.map sq (.int .i64) (.int .i64) h]=>some (l.length<=140737488355328/\h.length<=140737488355328,.tup [.imm (.int .u8) (qE_ l h e),.int .i64 (kn_ h e)],[.box [.own 1,.int .i64 room,.mapv 2,.int .i64 e],.dead,.map sq (.int .i64) (.int .i64) h])
 | _,_=>none
theorem Jt_:zd_ Tryz.prog 29 (RcF Kb_).sum:=by
 refine u5_ Tryz.func29 Wq_ (za_ (s:=RoF z2_) Zi_ (za_ (s:=RoF qt_) Qy_ (zc_ _))) fun args objs p v e=>?_
 unfold Kb_ at e
 split at e
 ·rename_i room e l sq h
  cases e
  change List (Int × Int) at h
  refine ⟨rfl,fun hw ho hp=>?_⟩
  repeat'(intro t ht;first|(cases t<;>first|(cases ht;done)|(try simp only[zg_]at ht))|((first|refine zb_ ht ?_|refine ht ?_ ?_|refine ht.1 ?_ ?_|refine ht ?_)<;>clear ht))
  all_goals first
   | exact True.intro
   | exact hp.1
   | exact hp.2
   | (have hb:K2_ h e=true:=by unfold K2_;simp only [Bool.and_eq_true,decide_eq_true_eq];omega
      rw [KY_ hb];exact ⟨rfl,rfl⟩)
   | (have hb:K2_ h e=false:=by unfold K2_;simp only [Bool.and_eq_false_iff,decide_eq_false_iff_not];omega
      rw [QZ_ hb]
      unfold kn_
      first
       | (rw [if_neg (by assumption)];exact ⟨rfl,rfl⟩)
       | (have h0:e=0:=by assumption
          have h1:¬ h.length=0:=by omega
          rw [if_pos h0,if_neg h1];exact ⟨rfl,rfl⟩))
 ·cases e
theorem ZH_:zd_ Tryz.prog 29 (RwF Ze_).sum:=by
 refine zhQ_ Jt_ fun args objs p v o e=>?_
 unfold Ze_ at e
 split at e
 ·rename_i room e l sq h
  cases e
  change List (Int × Int) at h
  cases hb:K2_ h e with
  | true=>
    have h1:e=0:=by unfold K2_ at hb;simp_all
    have h2:h.length=0:=by unfold K2_ at hb;simp_all
    refine ⟨_,[.box [.own 1,.int .i64 room,.mapv 2,.int .i64 e],.row true (.int .u8) l,.map sq (.int .i64) (.int .i64) h],1,rfl,?_,by simp,rfl⟩
    rw [KY_ hb];unfold qE_ kn_;rw [if_pos hb,if_pos h1,if_pos h2];rfl
  | false=>
    refine ⟨_,[.box [.own 1,.int .i64 room,.mapv 2,.int .i64 e],.row false (.int .u8) l,.map sq (.int .i64) (.int .i64) h],1,rfl,?_,by simp,rfl⟩
    rw [QZ_ hb];unfold qE_;rw [hb];rfl
 ·cases e
end Go.Eng
