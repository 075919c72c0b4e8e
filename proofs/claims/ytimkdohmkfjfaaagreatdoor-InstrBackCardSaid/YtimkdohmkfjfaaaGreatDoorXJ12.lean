/- Parts of the proof: R4, T1, C1, B1. No condition. -/
import Derived.Test.YtimkdohmkfjfaaaGreatDoorProg
import Derived.Test.YtimkdohmkfjfaaaGreatDoorXJ11
import Derived.KernelRfl
namespace Go.Eng
open Go.Proofs
set_option linter.unusedVariables false
set_option linter.unusedSimpArgs false
set_option maxRecDepth 100000
set_option maxHeartbeats 1000000
def qR_:List Int->List Int->List Int->Option (List Int)
 | [],_,b=>some b
 | n :: r,xs,b=>if n < 0 then qR_ r xs (b++zd_ 0 (0 - n)) else match xs with
   | []=>none
   | x :: ys=>if n < 8/\x.fdiv (2 ^ (min (8*n).toNat 64)) ≠ 0 then none else qR_ r ys (b++zd_ x n)
def KB_ (w xs:List Int):Option (List Int):=if ZR_ w=true/\zF_ w=xs.length then qR_ w xs [] else none
def ZZ_ (w xs:List Int):List Int:=(KB_ w xs).getD []
def Qc_ (w xs:List Int):Bool:=(KB_ w xs).isSome
theorem ut_ {w:List Int} (i:Nat):∀ k,KP_ qv_ w i<=KP_ qv_ w (i+k)
 | 0=>Int.le_refl _
 | k+1=>by
   have ih:=ut_ (w:=w) i k
   by_cases h:i+k < w.length
   ·rw [show i+(k+1)=(i+k)+1 by omega,Qg_ qv_ h]
    have:0<=qv_ (w.getD (i+k) 0):=by unfold qv_;split<;>omega
    omega
   ·rw [KO_ qv_ (show w.length<=i+(k+1) by omega)]
    rwa [KO_ qv_ (show w.length<=i+k by omega)] at ih
theorem zbU_ {w:List Int} {i:Nat} (h:i < w.length) (hp:0 < w.getD i 0):KP_ qv_ w i+1<=(w.map qv_).sum:=by
 have h1:=ut_ (w:=w) (i+1) w.length
 rw [Qg_ qv_ h,KO_ qv_ (show w.length<=i+1+w.length by omega)] at h1
 have:qv_ (w.getD i 0)=1:=if_pos hp
 omega
theorem zam_ {w xs b:List Int} {i k:Nat} (h:i < w.length) (hn:w.getD i 0 < 0):qR_ (w.drop i) (xs.drop k) b=qR_ (w.drop (i+1)) (xs.drop k) (b++zd_ 0 (0 - w.getD i 0)):=by
 rw [zX_ h 0];exact if_pos hn
theorem Bi_ {w xs b:List Int} {i k:Nat} (h:i < w.length) (hn:¬ w.getD i 0 < 0) (h2:k < xs.length) (h8:w.getD i 0 < 8) (hx:¬ (xs.getD k 0).fdiv (2 ^ (min (8*w.getD i 0).toNat 64))=0):qR_ (w.drop i) (xs.drop k) b=none:=by
 rw [zX_ h 0,zX_ h2 0]
 show (if w.getD i 0 < 0 then _ else _)=_
 rw [if_neg hn]
 exact if_pos ⟨h8,hx⟩
theorem Bh_ {w xs b:List Int} {i k:Nat} (h:i < w.length) (hn:¬ w.getD i 0 < 0) (h2:k < xs.length) (h8:¬ (w.getD i 0 < 8/\(xs.getD k 0).fdiv (2 ^ (min (8*w.getD i 0).toNat 64)) ≠ 0)):qR_ (w.drop i) (xs.drop k) b=qR_ (w.drop (i+1)) (xs.drop (k+1)) (b++zd_ (xs.getD k 0) (w.getD i 0)):=by
 rw [zX_ h 0,zX_ h2 0]
 show (if w.getD i 0 < 0 then _ else _)=_
 rw [if_neg hn]
 exact if_neg h8
theorem Kc_ {α:Type} {l:List α} {k:Nat} {d:α}:(l.drop k).getD 0 d=l.getD k d:=by
 rw [List.getD_eq_getElem?_getD,List.getElem?_drop,Nat.add_zero,<- List.getD_eq_getElem?_getD]
def HD_:IR:=
(sq (kr [0,1] [oD 4 (.mov (.c (.imm (.int .u8) []))),
oD 5 (.mov cF)])
(sq (sq (kr [0,1] [oM 10 0,
oC 11 164 [10],
oD 12 (.un .not 11),
oM 13 12,
oF 13 14 (.mov 0),
oF 13 15 (.call false (.f 151) [14]),
oF 13 16 (.mov 1),
oF 13 17 (.len 16),
oF 13 18 (.bin .neq 15 17),
oP 19 13 cT 18])
(.cond 19
(sq (kr [] [oD 4 (.mov (.c (.imm (.int .u8) []))),
oD 5 (.mov cF)])
.ret)
.skip))
(sq (kr [0,1] [oM 20 0,
oC 21 141 [20],
oD 22 (.mkrow (.int .u8) 1 (0:Int) (cI 0) 21),
oM 6 22])
(sq (sq (.reg [oM 23 0,
oE 24 23,
oD 25 (.mov (cI 0))])
(.block 0
(.loop
(sq (kr [1,6,23,24,25] [oB 26 .lss 25 24])
(sq (.cond 26
.skip
(.exit 0))
(sq (.block 1
(sq (.reg [oI 27 1 23 25,
oL 28 27,
oM 8 28])
(sq (sq (.reg [oM 29 8,
oB 30 .lss 29 (cI 0)])
(.cond 30
(sq (kr [1,6,8,23,24,25] [oM 31 6,
oM 32 8,
oD 33 (.un .neg 32),
oD 34 (.call true (.f 176) [31,(.c (.int .u64 0)),33]),
oM 6 34])
(.exit 1))
.skip))
(sq (kr [1,6,8,23,24,25] [oM 35 1,
oD 36 (.indexSl 1 35 (cI 0)),
oL 37 36,
oM 9 37])
(sq (sq (kr [1,6,8,9,23,24,25] [oM 38 8,
oB 39 .lss 38 (cI 8),
oM 40 39,
oT 40 41 (.mov 9),
oT 40 42 (.mov 8),
oT 40 43 (.bin .mul (cI 8) 42),
oT 40 44 (.bin .shr 41 43),
oT 40 45 (.bin .neq 44 (.c (.int .u64 0))),
oP 46 40 45 cF])
(.cond 46
(sq (kr [] [oD 4 (.mov (.c (.imm (.int .u8) []))),
oD 5 (.mov cF)])
.ret)
.skip))
(kd [1,6,8,9,23,24,25] [(oM 47 6,[]),
(oM 48 9,[0]),
(oM 49 8,[0,0]),
(oD 50 (.call true (.f 176) [47,48,49]),[]),
(oM 51 1,[0,0,0,0]),
(oD 52 (.slice 1 51 (some (cI 1)) none none),[1,0,0,0]),
(oM 6 50,[0,0]),
(oM 1 52,[])]))))))
(kr [1,6,23,24,25] [oB 53 .add 25 (cI 1),
oM 25 53])))))))
(sq (kr [6] [oM 54 6,
oM 4 54,
oD 5 (.mov cT)])
.ret)))))
def Hb_:List RD:=[.tmp 4 true (some (.int .u8)),.tmp 5 true none]
theorem Hk_:zl_ Tryz.prog Tryz.f149 HD_ Hb_=true:=by kernel_rfl
def w9_:List AV->List Obj->Option (Prop × AV)
 | [.imm (.int .i64) w,.imm (.int .u64) xs],[]=>some ((True,.tup [.imm (.int .u8) (ZZ_ w xs),.bool (Qc_ w xs)]))
 | _,_=>none
theorem XU_:zf_ Tryz.prog 149 (RoF w9_).sum:=by
 refine zj_ Tryz.func149 Hk_ (za_ (s:=RoF qA_) qW_ (za_ (s:=RoF Ql_) kb_ (za_ (s:=RoF Qe_) Qs_ (za_ (s:=RwF XG_) g1_ (ze_ _))))) fun args objs p v e=>?_
 unfold w9_ at e
 split at e
 ·rename_i w xs
  cases e
  refine ⟨rfl,fun hw ho hp=>?_⟩
  change List Int at w
  change List Int at xs
  have hx:xs.length<=maxLen:=(hw (.imm (.int .u64) xs) (by simp)).2
  unfold maxLen at hx
  have hz:=JY_ w
  repeat'(intro t ht;first|(cases t<;>first|(cases ht;done)|(try simp only[zh_]at ht))|((first|refine zb_ ht ?_|refine ht ?_ ?_|refine ht.1 ?_ ?_|refine ht ?_)<;>clear ht))
  all_goals first
   | exact True.intro
   | (intro r h1 h2;clear h1;refine h2 ⟨[],[1,6,23,24,25],Nat × Nat × List Int,(fun a=>a.1<=w.length/\(a.2.2.length:Int)=KP_ zq_ w a.1/\KP_ qv_ w a.1=a.2.1/\qR_ w xs []=qR_ (w.drop a.1) (xs.drop a.2.1) a.2.2),fun a=>[.imm (.int .u64) (xs.drop a.2.1),.own 0,.imm (.int .i64) w,.int .i64 w.length,.int .i64 a.1],fun a=>[.row false (.int .u8) a.2.2],fun a=>w.length - a.1,⟨(0,0,[]),⟨Nat.zero_le _,rfl,rfl,rfl⟩,rfl,rfl⟩,?_⟩;clear h2)
   | ((try simp only [zn_,zo_,zm_] at*);omega)
   | (have hn:¬ (ZR_ w=true/\zF_ w=xs.length):=fun h=>by simp_all
      refine ⟨?_,rfl⟩;unfold ZZ_ Qc_ KB_;rw [if_neg hn];rfl)
  rintro ⟨i,k,b⟩ ⟨hi,hb,hk,he⟩
  dsimp only at hi hb hk he
  have hr:ZR_ w=true:=by assumption
  have hc:zF_ w=xs.length:=by assumption
  have hsum:(w.map qv_).sum=xs.length:=by unfold zF_ at hc;rwa [if_pos hr] at hc
  have hl:=(ZQ_.1 hr).1
  have hs:=Yb_ hr i
  have h1:=gZ_ hr i
  repeat'(intro t ht;first|(cases t<;>first|(cases ht;done)|(try simp only[zh_]at ht))|((first|refine zb_ ht ?_|refine ht ?_ ?_|refine ht.1 ?_ ?_|refine ht ?_)<;>clear ht))
  all_goals first
   | ((try simp only [zn_,zo_,zm_] at*);omega)
   | (have hge:w.length<=i:=by omega
      rw [List.drop_of_length_le hge] at he
      have hf:KB_ w xs=some b:=by unfold KB_;rw [if_pos ⟨hr,hc⟩,he];rfl
      refine ⟨?_,rfl⟩;unfold ZZ_ Qc_;rw [hf];rfl)
   | skip
  all_goals have hlt:i < w.length:=by omega
  all_goals have hkk:=(ZQ_.1 hr).2 _ (zW_ (α:=Int) hlt 0)
  all_goals first
   | ((try simp only [zn_,zo_,zm_] at*);rw [List.length_drop];omega)
   | ((try simp only [zn_,zo_,zm_] at*);omega)
   | (have hn:w.getD i 0 < 0:=by assumption
      have ha:=wH_ hn
      have h0:qv_ (w.getD i 0)=0:=if_neg (by omega)
      have hbl:=zk_ (n:=0) (w:=0 - w.getD i 0) (by omega)
      refine ⟨(i+1,k,b++zd_ 0 (0 - w.getD i 0)),⟨hlt,?_,?_,?_⟩,by dsimp only;omega,rfl,rfl⟩
      ·rw [Qg_ zq_ hlt,ha];simp only [List.length_append];omega
      ·rw [Qg_ qv_ hlt,h0];dsimp only;omega
      ·rw [he];exact zam_ hlt hn)
   | (have hn:¬ w.getD i 0 < 0:=by assumption
      have hlt2:=zbU_ (w:=w) (i:=i) hlt (by omega)
      have h2:k < xs.length:=by omega
      first
       | ((try simp only [zn_,zo_,zm_] at*);rw [List.length_drop];omega)
       | (have h8:w.getD i 0 < 8:=by assumption
          have hx:¬ ((xs.drop k).getD 0 0).fdiv (2 ^ (min (8*w.getD i 0).toNat 64))=0:=by assumption
          rw [Kc_] at hx
          have hf:KB_ w xs=none:=by unfold KB_;rw [if_pos ⟨hr,hc⟩,he];exact Bi_ hlt hn h2 h8 hx
          refine ⟨?_,rfl⟩;unfold ZZ_ Qc_;rw [hf];rfl)
       | (have h8:¬ (w.getD i 0 < 8/\(xs.getD k 0).fdiv (2 ^ (min (8*w.getD i 0).toNat 64)) ≠ 0):=fun h=>by
           first
            | (exact absurd h.1 (by assumption))
            | (have hx:((xs.drop k).getD 0 0).fdiv (2 ^ (min (8*w.getD i 0).toNat 64))=0:=by assumption
               rw [Kc_] at hx
               exact h.2 hx)
          have ha:=xH_ hn
          have h0:qv_ (w.getD i 0)=1:=if_pos (by omega)
          have hbl:=zk_ (n:=xs.getD k 0) (w:=w.getD i 0) (by omega)
          refine ⟨(i+1,k+1,b++zd_ (xs.getD k 0) (w.getD i 0)),⟨hlt,?_,?_,?_⟩,by dsimp only;omega,?_,?_⟩
          ·rw [Qg_ zq_ hlt,ha];simp only [List.length_append];omega
          ·rw [Qg_ qv_ hlt,h0];dsimp only;omega
          ·rw [he];exact Bh_ hlt hn h2 h8
          ·dsimp only;rw [<- List.drop_drop];rfl
          ·dsimp only;rw [<- Kc_ (l:=xs) (k:=k)];rfl))
 ·cases e
def ZF_:List Int->List Int->List Int->List Int × Int
 | [],_,o=>(o,0)
 | n :: r,b,o=>if (b.length:Int) < zq_ n then ([],1) else if 0 < n then ZF_ r (b.drop (zq_ n).toNat) (o++[ZN_ (b.take (zq_ n).toNat)]) else if Z6_ (b.take (zq_ n).toNat)=true then ZF_ r (b.drop (zq_ n).toNat) o else ([],2)
def Z5_ (w b:List Int):List Int × Int:=if ZR_ w=true then ZF_ w b [] else ([],2)
def Z0_ (w b:List Int):List Int:=(Z5_ w b).1
def Zo_ (w b:List Int):Int:=(Z5_ w b).2
theorem vz_ {w b o:List Int} {i:Nat} (h:i < w.length) (h1:(b.length:Int) < zq_ (w.getD i 0)):ZF_ (w.drop i) b o=([],1):=by
 rw [zX_ h 0];exact if_pos h1
theorem ho_ {w b o:List Int} {i:Nat} (h:i < w.length) (h1:¬ (b.length:Int) < zq_ (w.getD i 0)) (h2:0 < w.getD i 0):ZF_ (w.drop i) b o=ZF_ (w.drop (i+1)) (b.drop (zq_ (w.getD i 0)).toNat) (o++[ZN_ (b.take (zq_ (w.getD i 0)).toNat)]):=by
 rw [zX_ h 0]
 show (if (b.length:Int) < zq_ (w.getD i 0) then _ else _)=_
 rw [if_neg h1];exact if_pos h2
theorem uI_ {w b o:List Int} {i:Nat} (h:i < w.length) (h1:¬ (b.length:Int) < zq_ (w.getD i 0)) (h2:¬ 0 < w.getD i 0) (h3:Z6_ (b.take (zq_ (w.getD i 0)).toNat)=true):ZF_ (w.drop i) b o=ZF_ (w.drop (i+1)) (b.drop (zq_ (w.getD i 0)).toNat) o:=by
 rw [zX_ h 0]
 show (if (b.length:Int) < zq_ (w.getD i 0) then _ else _)=_
 rw [if_neg h1]
 show (if 0 < w.getD i 0 then _ else _)=_
 rw [if_neg h2];exact if_pos h3
theorem hn_ {w b o:List Int} {i:Nat} (h:i < w.length) (h1:¬ (b.length:Int) < zq_ (w.getD i 0)) (h2:¬ 0 < w.getD i 0) (h3:Z6_ (b.take (zq_ (w.getD i 0)).toNat)=false):ZF_ (w.drop i) b o=([],2):=by
 rw [zX_ h 0]
 show (if (b.length:Int) < zq_ (w.getD i 0) then _ else _)=_
 rw [if_neg h1]
 show (if 0 < w.getD i 0 then _ else _)=_
 rw [if_neg h2];exact if_neg (by rw [h3];simp)
def HE_:IR:=
(sq (kr [0,1] [oD 4 (.nilrow (.int .u64)),
oD 5 (.mov (cI 0))])
(sq (sq (.reg [oM 10 0,
oC 11 164 [10],
oD 12 (.un .not 11)])
(.cond 12
(sq (.reg [oD 4 (.nilrow (.int .u64)),
oD 5 (.mov (cI 2))])
.ret)
.skip))
(sq (kr [0,1] [oD 6 (.nilrow (.int .u64))])
(sq (sq (.reg [oM 13 0,
oE 14 13,
oD 15 (.mov (cI 0))])
(.block 0
(.loop
(sq (kr [1,6,13,14,15] [oB 16 .lss 15 14])
(sq (.cond 16
.skip
(.exit 0))
(sq (.block 1
(sq (.reg [oI 17 1 13 15,
oL 18 17,
oM 8 18])
(sq (kr [1,6,8,13,14,15] [oM 19 8,
oM 20 8,
oD 21 (.un .neg 20),
oD 22 (.minmax true 19 21),
oM 9 22])
(sq (.block 2
(sq (kr [1,6,8,9,13,14,15] [oM 24 1,
oE 25 24,
oM 26 9,
oB 27 .lss 25 26,
oM 23 27])
(.cond 23
(sq (.reg [oD 4 (.nilrow (.int .u64)),
oD 5 (.mov (cI 1))])
.ret)
(sq (.reg [oM 29 8,
oB 30 .gtr 29 (cI 0),
oM 28 30])
(.cond 28
(kr [1,6,9,13,14,15] [oM 31 6,
oM 32 1,
oM 33 9,
oD 34 (.slice 1 32 none (some 33) none),
oC 35 165 [34],
oD 36 (.sliceAll (.int .u64) 1 [(0,1,35)]),
oD 37 (.append (.int .u64) 8 31 36),
oM 6 37])
(sq (kr [1,6,9,13,14,15] [oM 39 1,
oM 40 9,
oD 41 (.slice 1 39 none (some 40) none),
oC 42 166 [41],
oD 43 (.un .not 42),
oM 38 43])
(.cond 38
(sq (kr [] [oD 4 (.nilrow (.int .u64)),
oD 5 (.mov (cI 2))])
.ret)
.skip)))))))
(kr [1,6,9,13,14,15] [oM 44 1,
oM 45 9,
oD 46 (.slice 1 44 (some 45) none none),
oM 1 46])))))
(kr [1,6,13,14,15] [oB 47 .add 15 (cI 1),
oM 15 47])))))))
(sq (kr [6] [oM 48 6,
oM 4 48,
oD 5 (.mov (cI 0))])
.ret)))))
def Hc_:List RD:=[.tmp 4 true (some (.int .u64)),.tmp 5 true none]
theorem Hl_:zl_ Tryz.prog Tryz.f140 HE_ Hc_=true:=by kernel_rfl
def XH_:List AV->List Obj->Option (Prop × AV)
 | [.imm (.int .i64) w,.imm (.int .u8) b],[]=>some ((True,.tup [.imm (.int .u64) (Z0_ w b),.int .i64 (Zo_ w b)]))
 | _,_=>none
theorem g2_:zf_ Tryz.prog 140 (RoF XH_).sum:=by
 refine zj_ Tryz.func140 Hl_ (za_ (s:=RoF qA_) qW_ (za_ (s:=RoF kW_) JT_ (za_ (s:=RoF jP_) W3_ (ze_ _)))) fun args objs p v e=>?_
 unfold XH_ at e
 split at e
 ·rename_i w b
  cases e
  refine ⟨rfl,fun hw ho hp=>?_⟩
  change List Int at w
  change List Int at b
  have hb:b.length<=maxLen:=(hw (.imm (.int .u8) b) (by simp)).2
  unfold maxLen at hb
  repeat'(intro t ht;first|(cases t<;>first|(cases ht;done)|(try simp only[zh_]at ht))|((first|refine zb_ ht ?_|refine ht ?_ ?_|refine ht.1 ?_ ?_|refine ht ?_)<;>clear ht))
  all_goals first
   | exact True.intro
   | (intro r h1 h2;clear h1;refine h2 ⟨[],[1,6,13,14,15],Nat × List Int × List Int,(fun a=>a.1<=w.length/\a.2.1.length<=b.length/\a.2.2.length<=a.1/\ZF_ w b []=ZF_ (w.drop a.1) a.2.1 a.2.2),fun a=>[.imm (.int .u8) a.2.1,.own 0,.imm (.int .i64) w,.int .i64 w.length,.int .i64 a.1],fun a=>[.row false (.int .u64) a.2.2],fun a=>w.length - a.1,⟨(0,b,[]),⟨Nat.zero_le _,Nat.le_refl _,Nat.zero_le _,rfl⟩,rfl,rfl⟩,?_⟩;clear h2)
   | (have hr:ZR_ w=false:=by assumption
      have hf:Z5_ w b=([],2):=by unfold Z5_;rw [hr];rfl
      refine ⟨?_,rfl⟩;unfold Z0_ Zo_;rw [hf])
  rintro ⟨i,c,o⟩ ⟨hi,hc,ho,he⟩
  dsimp only at hi hc ho he
  have hr:ZR_ w=true:=by assumption
  have hl:=(ZQ_.1 hr).1
  repeat'(intro t ht;first|(cases t<;>first|(cases ht;done)|(try simp only[zh_]at ht))|((first|refine zb_ ht ?_|refine ht ?_ ?_|refine ht.1 ?_ ?_|refine ht ?_)<;>clear ht))
  all_goals first
   | ((try simp only [zn_,zo_,zm_] at*);omega)
   | (have hge:w.length<=i:=by omega
      rw [List.drop_of_length_le hge] at he
      have hf:Z5_ w b=(o,0):=by unfold Z5_;rw [if_pos hr,he];rfl
      refine ⟨?_,rfl⟩;unfold Z0_ Zo_;rw [hf];done)
   | skip
  all_goals have hlt:i < w.length:=by omega
  all_goals have hkk:=(ZQ_.1 hr).2 _ (zW_ (α:=Int) hlt 0)
  all_goals have ha:=jO_ (n:=w.getD i 0)
  all_goals have hA:(if 0 - w.getD i 0 > w.getD i 0 then 0 - w.getD i 0 else w.getD i 0)=zq_ (w.getD i 0):=rfl
  all_goals first
   | exact True.intro
   | ((try simp only [zn_,zo_,zm_] at*);omega)
   | (have h1:(c.length:Int) < zq_ (w.getD i 0):=by assumption
      have hf:Z5_ w b=([],1):=by unfold Z5_;rw [if_pos hr,he];exact vz_ hlt h1
      refine ⟨?_,rfl⟩;unfold Z0_ Zo_;rw [hf];done)
   | (have h1:¬ (c.length:Int) < zq_ (w.getD i 0):=by assumption
      first
       | (have h2:¬ 0 < w.getD i 0:=by assumption
          first
           | (have h3:Z6_ (c.take (zq_ (w.getD i 0)).toNat)=true:=by assumption
              refine ⟨(i+1,c.drop (zq_ (w.getD i 0)).toNat,o),⟨hlt,?_,by dsimp only;omega,?_⟩,by dsimp only;omega,rfl,rfl⟩
              ·dsimp only;rw [List.length_drop];omega
              ·rw [he];exact uI_ hlt h1 h2 h3)
           | (have h3:Z6_ (c.take (zq_ (w.getD i 0)).toNat)=false:=by assumption
              have hf:Z5_ w b=([],2):=by unfold Z5_;rw [if_pos hr,he];exact hn_ hlt h1 h2 h3
              refine ⟨?_,rfl⟩;unfold Z0_ Zo_;rw [hf];done))
       | (have h2:0 < w.getD i 0:=by assumption
          first
           | (show (c.take (zq_ (w.getD i 0)).toNat).length<=8;rw [List.length_take];omega)
           | (simp only [Z8_,List.length_append,List.length_cons,List.length_nil];omega)
           | (refine ⟨(i+1,c.drop (zq_ (w.getD i 0)).toNat,o++[ZN_ (c.take (zq_ (w.getD i 0)).toNat)]),⟨hlt,?_,?_,?_⟩,by dsimp only;omega,rfl,rfl⟩
              ·dsimp only;rw [List.length_drop];omega
              ·simp only [List.length_append,List.length_cons,List.length_nil];omega
              ·rw [he];exact ho_ hlt h1 h2)))
 ·cases e
theorem y9_ {α:Type} {a b:List α} {d:α} {i:Nat} (h:a.take i=b.take i) (hi:i < a.length) (hl:a.length=b.length) (e:a.getD i d=b.getD i d):a.take (i+1)=b.take (i+1):=by
 have hb:i < b.length:=by omega
 rw [List.getD_eq_getElem?_getD,List.getD_eq_getElem?_getD,List.getElem?_eq_getElem hi,List.getElem?_eq_getElem hb] at e
 rw [List.take_succ_eq_append_getElem hi,List.take_succ_eq_append_getElem hb,h,show a[i]=b[i] from e]
theorem gY_ {α:Type} {a b:List α} {i:Nat} (h:a.take i=b.take i) (hi:a.length<=i) (hl:a.length=b.length):a=b:=by
 rwa [List.take_of_length_le hi,List.take_of_length_le (by omega)] at h
theorem B3_ {α:Type} {a b:List α} {d:α} {i:Nat} (e:¬ a.getD i d=b.getD i d):a ≠ b:=fun h=>e (by rw [h])
def gi_:IR:=
(sq (kr [0,1] [oD 4 (.mov cF)])
(sq (sq (kr [0,1] [oM 6 0,
oE 7 6,
oM 8 1,
oE 9 8,
oB 10 .neq 7 9])
(.cond 10
(sq (.reg [oD 4 (.mov cF)])
.ret)
.skip))
(sq (sq (kr [0,1] [oD 5 (.mov (cI 0))])
(.block 0
(.loop
(sq (sq (kr [0,1,5] [oM 11 5,
oM 12 0,
oE 13 12,
oB 14 .lss 11 13])
(.cond 14
.skip
(.exit 0)))
(sq (.block 1
(sq (kd [0,1,5] [(oM 17 0,[]),
(oM 18 5,[0]),
(oI 19 1 17 18,[]),
(oL 20 19,[]),
(oM 21 1,[0,0,0,0]),
(oM 22 5,[0,0,0,0,0]),
(oI 23 1 21 22,[2,0,0,0]),
(oL 24 23,[3,0,0,0]),
(oB 25 .neq 20 24,[])])
(.cond 25
(sq (kr [] [oD 4 (.mov cF)])
.ret)
.skip)))
(kr [0,1,5] [oM 15 5,
oB 16 .add 15 (cI 1),
oM 5 16]))))))
(sq (kr [] [oD 4 (.mov cT)])
.ret))))
def UA_:List RD:=[.tmp 4 true none]
theorem UR_:zl_ Tryz.prog Tryz.f20 gi_ UA_=true:=by kernel_rfl
def qB_:List AV->List Obj->Option (Prop × AV)
 | [.imm (.int .u8) a,.imm (.int .u8) b],[]=>some ((True,.bool (decide (a=b))))
 | _,_=>none
theorem qX_:zf_ Tryz.prog 20 (RoF qB_).sum:=by
 refine zj_ Tryz.func20 UR_ (ze_ _) fun args objs p v e=>?_
 unfold qB_ at e
 split at e
 ·rename_i a b
  cases e
  refine ⟨rfl,fun hw ho hp=>?_⟩
  change List Int at a
  change List Int at b
  have hl:a.length<=maxLen:=(hw (.imm (.int .u8) a) (by simp)).2
  unfold maxLen at hl
  repeat'(intro t ht;first|(cases t<;>first|(cases ht;done)|(try simp only[zh_]at ht))|((first|refine zb_ ht ?_|refine ht ?_ ?_|refine ht.1 ?_ ?_|refine ht ?_)<;>clear ht))
  all_goals first
   | (have hne:a ≠ b:=fun h=>(by assumption:¬ (a.length:Int)=b.length) (by rw [h])
      refine ⟨?_,rfl⟩;rw [decide_eq_false hne];done)
   | (intro r h1 h2;clear h1;refine h2 ⟨[],[0,1,5],Nat,(fun i=>i<=a.length/\a.take i=b.take i),fun i=>[.imm (.int .u8) a,.imm (.int .u8) b,.int .i64 i],fun _=>[],fun i=>a.length - i,⟨0,⟨Nat.zero_le _,rfl⟩,rfl,rfl⟩,?_⟩;clear h2)
  rintro i ⟨hi,he⟩
  have hl2:a.length=b.length:=by omega
  repeat'(intro t ht;first|(cases t<;>first|(cases ht;done)|(try simp only[zh_]at ht))|((first|refine zb_ ht ?_|refine ht ?_ ?_|refine ht.1 ?_ ?_|refine ht ?_)<;>clear ht))
  all_goals first
   | ((try simp only [zn_,zo_,zm_] at*);omega)
   | (have hge:a.length<=i:=by omega
      have e:=gY_ he hge hl2
      refine ⟨?_,rfl⟩;rw [decide_eq_true e];done)
   | (have hne:a ≠ b:=B3_ (d:=0) (i:=i) (by assumption)
      refine ⟨?_,rfl⟩;rw [decide_eq_false hne];done)
   | (have hlt:i < a.length:=by omega
      exact ⟨i+1,⟨hlt,y9_ he hlt hl2 (d:=0) (by assumption)⟩,by (try simp only [zn_,zo_,zm_] at*);omega,rfl,rfl⟩)
 ·cases e
def jf_ (b:List Int) (c:Int):Nat->Nat
 | 0=>0
 | k+1=>if b.getD k 0=c then jf_ b c k else k+1
def XQ_ (b:List Int) (c:Int):List Int:=b.take (jf_ b c b.length)
def JR_ (b:List Int) (c:Int):List Int:=b.dropWhile fun x=>decide (x=c)
theorem xV_ {b:List Int} {k j:Nat} (h:j < k):(b.take k).getD j 0=b.getD j 0:=by
 rw [List.getD_eq_getElem?_getD,List.getElem?_take,if_pos h,<- List.getD_eq_getElem?_getD]
def jG_:IR:=
(sq (kr [0,1] [oD 4 (.mov (.c (.imm (.int .u8) [])))])
(sq (.block 0
(.loop
(sq (sq (kr [0,1] [oM 5 0,
oE 6 5,
oB 7 .gtr 6 (cI 0),
oM 8 7,
oT 8 9 (.mov 0),
oT 8 10 (.mov 0),
oT 8 11 (.len 10),
oT 8 12 (.bin .sub 11 (cI 1)),
oT 8 13 (.indexSl 1 9 12),
oT 8 14 (.load none 13),
oT 8 15 (.mov 1),
oT 8 16 (.bin .eql 14 15),
oP 17 8 16 cF])
(.cond 17
.skip
(.exit 0)))
(.block 1
(kr [0,1] [oM 18 0,
oM 19 0,
oE 20 19,
oB 21 .sub 20 (cI 1),
oD 22 (.slice 1 18 none (some 21) none),
oM 0 22])))))
(sq (kr [0] [oM 23 0,
oM 4 23])
.ret)))
def jp_:List RD:=[.tmp 4 true (some (.int .u8))]
theorem jw_:zl_ Tryz.prog Tryz.f219 jG_ jp_=true:=by kernel_rfl
def ql_:List AV->List Obj->Option (Prop × AV)
 | [.imm (.int .u8) b,.int .u8 c],[]=>some ((b.length<=140737488355328,.imm (.int .u8) (XQ_ b c)))
 | _,_=>none
theorem KU_:zf_ Tryz.prog 219 (RoF ql_).sum:=by
 refine zj_ Tryz.func219 jw_ (ze_ _) fun args objs p v e=>?_
 unfold ql_ at e
 split at e
 ·rename_i b c
  cases e
  refine ⟨rfl,fun hw ho hp=>?_⟩
  change List Int at b
  repeat'(intro t ht;first|(cases t<;>first|(cases ht;done)|(try simp only[zh_]at ht))|((first|refine zb_ ht ?_|refine ht ?_ ?_|refine ht.1 ?_ ?_|refine ht ?_)<;>clear ht))
  all_goals first
   | (intro r h1 h2;clear h1;refine h2 ⟨[],[0,1],Nat,(fun k=>k<=b.length/\jf_ b c b.length=jf_ b c k),fun k=>[.imm (.int .u8) (b.take k),.int .u8 c],fun _=>[],fun k=>k,⟨b.length,⟨Nat.le_refl _,rfl⟩,by simp only [List.take_length],rfl⟩,?_⟩;clear h2)
  rintro k ⟨hk,he⟩
  have hl:(b.take k).length=k:=by rw [List.length_take];omega
  repeat'(intro t ht;first|(cases t<;>first|(cases ht;done)|(try simp only[zh_]at ht))|((first|refine zb_ ht ?_|refine ht ?_ ?_|refine ht.1 ?_ ?_|refine ht ?_)<;>clear ht))
  all_goals first
   | ((try simp only [zn_,zo_,zm_] at*);omega)
   | (have h0:k=0:=by omega
      refine ⟨?_,rfl⟩;unfold XQ_;rw [he,h0];rfl)
   | (obtain ⟨j,rfl⟩:∃ j,k=j+1:=⟨k - 1,by omega⟩
      have e:(((b.take (j+1)).length:Int) - 1).toNat=j:=by omega
      first
       | (have hx:¬ (b.take (j+1)).getD (((b.take (j+1)).length:Int) - 1).toNat 0=c:=by assumption
          rw [e,xV_ (Nat.lt_succ_self j)] at hx
          have h1:jf_ b c (j+1)=j+1:=if_neg hx
          refine ⟨?_,rfl⟩;unfold XQ_;rw [he,h1])
       | (have hx:(b.take (j+1)).getD (((b.take (j+1)).length:Int) - 1).toNat 0=c:=by assumption
          rw [e,xV_ (Nat.lt_succ_self j)] at hx
          have h1:jf_ b c (j+1)=jf_ b c j:=if_pos hx
          refine ⟨j,⟨by omega,by rw [he,h1]⟩,Nat.lt_succ_self j,?_,rfl⟩
          dsimp only;rw [e,List.take_take,Nat.min_eq_left (Nat.le_succ j)]))
 ·cases e
def JK_:IR:=
(sq (kr [0,1] [oD 4 (.mov (.c (.imm (.int .u8) [])))])
(sq (.block 0
(.loop
(sq (sq (kr [0,1] [oM 5 0,
oE 6 5,
oB 7 .gtr 6 (cI 0),
oM 8 7,
oT 8 9 (.mov 0),
oT 8 10 (.indexSl 1 9 (cI 0)),
oT 8 11 (.load none 10),
oT 8 12 (.mov 1),
oT 8 13 (.bin .eql 11 12),
oP 14 8 13 cF])
(.cond 14
.skip
(.exit 0)))
(.block 1
(kr [0,1] [oM 15 0,
oD 16 (.slice 1 15 (some (cI 1)) none none),
oM 0 16])))))
(sq (sq (kr [0] [oM 17 0,
oE 18 17,
oB 19 .eql 18 (cI 0)])
(.cond 19
(sq (.reg [oD 4 (.mov (.c (.imm (.int .u8) [])))])
.ret)
.skip))
(sq (.reg [oM 20 0,
oM 4 20])
.ret))))
def Jm_:List RD:=[.tmp 4 true (some (.int .u8))]
theorem Jy_:zl_ Tryz.prog Tryz.f218 JK_ Jm_=true:=by kernel_rfl
def qE_:List AV->List Obj->Option (Prop × AV)
 | [.imm (.int .u8) b,.int .u8 c],[]=>some ((b.length<=140737488355328,.imm (.int .u8) (JR_ b c)))
 | _,_=>none
theorem ji_:zf_ Tryz.prog 218 (RoF qE_).sum:=by
 refine zj_ Tryz.func218 Jy_ (ze_ _) fun args objs p v e=>?_
 unfold qE_ at e
 split at e
 ·rename_i b c
  cases e
  refine ⟨rfl,fun hw ho hp=>?_⟩
  change List Int at b
  repeat'(intro t ht;first|(cases t<;>first|(cases ht;done)|(try simp only[zh_]at ht))|((first|refine zb_ ht ?_|refine ht ?_ ?_|refine ht.1 ?_ ?_|refine ht ?_)<;>clear ht))
  all_goals first
   | (intro r h1 h2;clear h1;refine h2 ⟨[],[0,1],Nat,(fun k=>k<=b.length/\JR_ b c=JR_ (b.drop k) c),fun k=>[.imm (.int .u8) (b.drop k),.int .u8 c],fun _=>[],fun k=>b.length - k,⟨0,⟨Nat.zero_le _,rfl⟩,rfl,rfl⟩,?_⟩;clear h2)
  rintro k ⟨hk,he⟩
  have hl:(b.drop k).length=b.length - k:=List.length_drop
  repeat'(intro t ht;first|(cases t<;>first|(cases ht;done)|(try simp only[zh_]at ht))|((first|refine zb_ ht ?_|refine ht ?_ ?_|refine ht.1 ?_ ?_|refine ht ?_)<;>clear ht))
  all_goals first
   | ((try simp only [zn_,zo_,zm_] at*);omega)
   | (exfalso;omega)
   | (have h0:b.drop k=[]:=List.eq_nil_of_length_eq_zero (by omega)
      refine ⟨?_,rfl⟩;rw [he,h0];rfl)
   | (have hlt:k < b.length:=by omega
      first
       | (have hx:¬ (b.drop k).getD 0 0=c:=by assumption
          rw [Kc_] at hx
          have h1:JR_ (b.drop k) c=b.drop k:=by
           unfold JR_;rw [zX_ hlt 0,List.dropWhile_cons_of_neg (by simpa using hx)]
          refine ⟨?_,rfl⟩;rw [he,h1])
       | (have hx:(b.drop k).getD 0 0=c:=by assumption
          rw [Kc_] at hx
          have h1:JR_ (b.drop k) c=JR_ (b.drop (k+1)) c:=by
           unfold JR_;rw [zX_ hlt 0,List.dropWhile_cons_of_pos (by simpa using hx)]
          refine ⟨k+1,⟨hlt,by rw [he,h1]⟩,by dsimp only;omega,?_,rfl⟩
          dsimp only;rw [<- List.drop_drop];rfl))
 ·cases e
theorem us_:∀ (b:List Int),decide ((JR_ (XQ_ b 0) 0).length=0)=Z6_ b:=by
 intro b
 have hR:∀ k ≤ b.length,(b.take (jf_ b 0 k)).all (fun c=>decide (c=0))=(b.take k).all fun c=>decide (c=0):=by
  intro k
  induction k with
  | zero=>intro _;rfl
  | succ k ih=>
    intro hk
    unfold jf_
    split
    ·rename_i h
     rw [ih (by omega),List.take_succ_eq_append_getElem (by omega),List.all_append]
     have:b[k]=0:=by rw [List.getD_eq_getElem?_getD,List.getElem?_eq_getElem (by omega)] at h;exact h
     simp [this]
    ·rfl
 have hL:∀ l:List Int,decide ((l.dropWhile fun x=>decide (x=0)).length=0)=l.all fun c=>decide (c=0):=by
  intro l
  induction l with
  | nil=>rfl
  | cons a l ih=>
    by_cases h:a=0
    ·rw [List.dropWhile_cons_of_pos (by simpa using h),ih];simp [h]
    ·rw [List.dropWhile_cons_of_neg (by simpa using h)];simp [h]
 unfold JR_ XQ_ Z6_
 rw [hL,hR _ (Nat.le_refl _),List.take_length]
def uf_:IR:=
(sq (kr [0,1] [oD 4 (.mov (.c (.imm (.int .u8) [])))])
(sq (sq (.reg [oM 7 0,
oE 8 7,
oB 9 .eql 8 (cI 0)])
(.cond 9
(sq (.reg [oD 4 (.mov (.c (.imm (.int .u8) [])))])
.ret)
.skip))
(sq (sq (.reg [oM 10 1,
oB 11 .eql 10 (.c (.str []))])
(.cond 11
(sq (kr [0] [oM 12 0,
oM 4 12])
.ret)
.skip))
(sq (sq (kr [0,1] [oM 13 1,
oD 14 (.slen 13),
oB 15 .eql 14 (cI 1),
oM 16 15,
oT 16 17 (.mov 1),
oT 16 18 (.sindex 17 (cI 0)),
oT 16 19 (.bin .lss 18 (.c (.int .u8 128))),
oP 20 16 19 cF])
(.cond 20
(sq (kd [0,1] [(oM 21 0,[]),
(oM 22 1,[0]),
(oD 23 (.sindex 22 (cI 0)),[1]),
(oC 24 219 [21,23],[]),
(oM 25 1,[0,0,0,0]),
(oD 26 (.sindex 25 (cI 0)),[1,0,0,0]),
(oC 27 218 [24,26],[]),
(oM 4 27,[])])
.ret)
.skip))
(sq (sq (kr [0,1] [oM 29 1,
oC 30 220 [29],
oM 28 30,
oX 31 28 0,
oX 32 28 1,
oD 5 (.box [.kb false,.kb false,.kb false,.kb false,.kb false,.kb false,.kb false,.kb false,.kb false,.kb false,.kb false,.kb false,.kb false,.kb false,.kb false,.kb false,.kb false,.kb false,.kb false,.kb false,.kb false,.kb false,.kb false,.kb false,.kb false,.kb false,.kb false,.kb false,.kb false,.kb false,.kb false,.kb false,.kb false,.kb false,.kb false,.kb false,.kb false,.kb false,.kb false,.kb false,.kb false,.kb false,.kb false,.kb false,.kb false,.kb false,.kb false,.kb false,.kb false,.kb false,.kb false,.kb false,.kb false,.kb false,.kb false,.kb false,.kb false,.kb false,.kb false,.kb false,.kb false,.kb false,.kb false,.kb false,.kb false,.kb false,.kb false,.kb false,.kb false,.kb false,.kb false,.kb false,.kb false,.kb false,.kb false,.kb false,.kb false,.kb false,.kb false,.kb false,.kb false,.kb false,.kb false,.kb false,.kb false,.kb false,.kb false,.kb false,.kb false,.kb false,.kb false,.kb false,.kb false,.kb false,.kb false,.kb false,.kb false,.kb false,.kb false,.kb false,.kb false,.kb false,.kb false,.kb false,.kb false,.kb false,.kb false,.kb false,.kb false,.kb false,.kb false,.kb false,.kb false,.kb false,.kb false,.kb false,.kb false,.kb false,.kb false,.kb false,.kb false,.kb false,.kb false,.kb false,.kb false,.kb false,.kb false,.kb false,.kb false,.kb false,.kb false,.kb false,.kb false,.kb false,.kb false,.kb false,.kb false,.kb false,.kb false,.kb false,.kb false,.kb false,.kb false,.kb false,.kb false,.kb false,.kb false,.kb false,.kb false,.kb false,.kb false,.kb false,.kb false,.kb false,.kb false,.kb false,.kb false,.kb false,.kb false,.kb false,.kb false,.kb false,.kb false,.kb false,.kb false,.kb false,.kb false,.kb false,.kb false,.kb false,.kb false,.kb false,.kb false,.kb false,.kb false,.kb false,.kb false,.kb false,.kb false,.kb false,.kb false,.kb false,.kb false,.kb false,.kb false,.kb false,.kb false,.kb false,.kb false,.kb false,.kb false,.kb false,.kb false,.kb false,.kb false,.kb false,.kb false,.kb false,.kb false,.kb false,.kb false,.kb false,.kb false,.kb false,.kb false,.kb false,.kb false,.kb false,.kb false,.kb false,.kb false,.kb false,.kb false,.kb false,.kb false,.kb false,.kb false,.kb false,.kb false,.kb false,.kb false,.kb false,.kb false,.kb false,.kb false,.kb false,.kb false,.kb false,.kb false,.kb false,.kb false,.kb false,.kb false,.kb false,.kb false,.kb false,.kb false,.kb false,.kb false,.kb false,.kb false,.kb false,.kb false,.kb false,.kb false,.kb false,.kb false,.kb false,.kb false,.kb false,.kb false,.kb false,.kb false,.kb false,.kb false,.kb false]),
oS 256 5 31,
oM 6 32])
(sq (kr [0,1,5,6] [oM 33 6])
(.cond 33
(sq (.reg [oM 34 0,
oC 35 222 [34,5],
oC 36 221 [35,5],
oM 4 36])
.ret)
.skip)))
(sq (kr [0,1] [oM 37 0,
oM 38 1,
oC 39 224 [37,38],
oM 40 1,
oC 41 223 [39,40],
oM 4 41])
.ret))))))
def VB_:List RD:=[.tmp 4 true (some (.int .u8))]
theorem VU_:zl_ Tryz.prog Tryz.f192 uf_ VB_=true:=by kernel_rfl
def kZ_:List AV->List Obj->Option (Prop × AV)
 | [.imm (.int .u8) b,.str [0]],[]=>some ((b.length<=140737488355328,.imm (.int .u8) (JR_ (XQ_ b 0) 0)))
 | _,_=>none
theorem JW_:zf_ Tryz.prog 192 (RoF kZ_).sum:=by
 refine zj_ Tryz.func192 VU_ (za_ (s:=RoF ql_) KU_ (za_ (s:=RoF qE_) ji_ (ze_ _))) fun args objs p v e=>?_
 unfold kZ_ at e
 split at e
 ·rename_i b
  cases e
  refine ⟨rfl,fun hw ho hp=>?_⟩
  change List Int at b
  have hl:(XQ_ b 0).length<=b.length:=by unfold XQ_;rw [List.length_take];omega
  repeat'(intro t ht;first|(cases t<;>first|(cases ht;done)|(try simp only[zh_]at ht))|((first|refine zb_ ht ?_|refine ht ?_ ?_|refine ht.1 ?_ ?_|refine ht ?_)<;>clear ht))
  all_goals first
   | exact hp
   | exact ⟨by decide,by decide⟩
   | exact Nat.le_trans hl hp
   | exact ⟨rfl,rfl⟩
   | (have hb:b=[]:=List.eq_nil_of_length_eq_zero (by omega)
      refine ⟨?_,rfl⟩;rw [hb];rfl)
 ·cases e
def vm_:IR:=
(sq (kr [0] [oD 2 (.mov (.c (.imm (.int .u8) [])))])
(sq (sq (.reg [oM 3 0,
oD 4 (.isnil false 3)])
(.cond 4
(sq (.reg [oD 2 (.mov (.c (.imm (.int .u8) [])))])
.ret)
.skip))
(sq (.reg [oD 5 (.slice0 (.int .u8)),
oM 6 0,
oD 7 (.append (.int .u8) 1 5 6),
oM 2 7])
.ret)))
def YD_:List RD:=[.tmp 2 true (some (.int .u8))]
theorem YY_:zl_ Tryz.prog Tryz.f68 vm_ YD_=true:=by kernel_rfl
def q8_:List AV->List Obj->Option (Prop × AV)
 | [.imm (.int .u8) b],[]=>some ((b.length<=140737488355328,.imm (.int .u8) b))
 | _,_=>none
theorem ky_:zf_ Tryz.prog 68 (RoF q8_).sum:=by
 refine zj_ Tryz.func68 YY_ (ze_ _) fun args objs p v e=>?_
 unfold q8_ at e
 split at e
 ·rename_i b
  cases e
  refine ⟨rfl,fun hw ho hp=>?_⟩
  change List Int at b
  repeat'(intro t ht;first|(cases t<;>first|(cases ht;done)|(try simp only[zh_]at ht))|((first|refine zb_ ht ?_|refine ht ?_ ?_|refine ht.1 ?_ ?_|refine ht ?_)<;>clear ht))
  all_goals first
   | (simp only [Z8_,List.length_nil,Nat.zero_add,Nat.mul_one];omega)
   | exact ⟨rfl,rfl⟩
   | (have e:b=[]:=by simp_all
      refine ⟨?_,rfl⟩;rw [e])
 ·cases e
def JG_:IR:=
(sq (kr [0] [oD 2 (.mov cF)])
(sq (kr [0] [oM 3 0,
oD 4 (.eqp false 3 (.c (.nilp))),
oM 5 4,
oF 5 6 (.mov 0),
oF 5 7 (.nilck 6),
oF 5 8 (.fieldAddr 5 7),
oF 5 9 (.load none 8),
oF 5 10 (.un .not 9),
oP 11 5 cT 10,
oM 2 11])
.ret))
def Ji_:List RD:=[.tmp 2 true none]
theorem Ju_:zl_ Tryz.prog Tryz.f111 JG_ Ji_=true:=by kernel_rfl
def zT_:List AV->List Obj->Option (Prop × AV)
 | [.ptr 0 0],[.box [.imm (.int .u8) b,.int .i64 p,.int .i64 sh,.int .i64 od,.int .i64 e,.bool true]]=>some ((True,.bool false))
 | _,_=>none
theorem Ze_:zf_ Tryz.prog 111 (RoF zT_).sum:=by
 refine zj_ Tryz.func111 Ju_ (ze_ _) fun args objs p v e=>?_
 unfold zT_ at e
 split at e
 ·rename_i b p sh od e
  cases e
  refine ⟨rfl,fun hw ho hp=>?_⟩
  change List Int at b
  repeat'(intro t ht;first|(cases t<;>first|(cases ht;done)|(try simp only[zh_]at ht))|((first|refine zb_ ht ?_|refine ht ?_ ?_|refine ht.1 ?_ ?_|refine ht ?_)<;>clear ht))
  all_goals exact ⟨rfl,rfl⟩
 ·cases e
def ue_:IR:=
(sq (kr [0,1,2] [oD 6 (.mov (.c (.nilp)))])
(sq (kr [0,1,2] [oM 7 0,
oC 8 68 [7],
oM 9 1,
oM 10 2,
oD 11 (.build [.imm (.int .u8) [],.int .i64 0,.int .i64 0,.int .i64 0,.int .i64 0,.kb false] [(0,1,8),(2,1,9),(3,1,10),(5,1,cT)]),
oD 12 (.boxv 11),
oM 6 12])
.ret))
def VA_:List RD:=[.tmp 6 true none]
theorem VT_:zl_ Tryz.prog Tryz.f51 ue_ VA_=true:=by kernel_rfl
def qN_:List AV->List Obj->Option (Prop × AV × List Obj)
 | [.imm (.int .u8) b,.int .i64 sh,.int .i64 od],[]=>some ((b.length<=140737488355328,.ptr 0 0,[.box [.imm (.int .u8) b,.int .i64 0,.int .i64 sh,.int .i64 od,.int .i64 0,.bool true]]))
 | _,_=>none
theorem Qt_:zf_ Tryz.prog 51 (RwF qN_).sum:=by
 refine Qi_ Tryz.func51 VT_ (za_ (s:=RoF q8_) ky_ (ze_ _)) fun args objs p v o e=>?_
 unfold qN_ at e
 split at e
 ·rename_i b sh od
  cases e
  refine ⟨rfl,fun hw ho hp=>?_⟩
  change List Int at b
  repeat'(intro t ht;first|(cases t<;>first|(cases ht;done)|(try simp only[zh_]at ht))|((first|refine zb_ ht ?_|refine ht ?_ ?_|refine ht.1 ?_ ?_|refine ht ?_)<;>clear ht))
  all_goals first
   | exact hp
   | exact ⟨rfl,rfl⟩
 ·cases e
def Zd_ (e x:Int):Int:=if e=0 then x else e
def JJ_:IR:=
(sq (kr [0,1] [oM 4 0,
oC 5 111 [4],
oD 6 (.un .not 5),
oM 7 6,
oT 7 8 (.mov 0),
oT 7 9 (.nilck 8),
oT 7 10 (.fieldAddr 4 9),
oT 7 11 (.load none 10),
oT 7 12 (.bin .eql 11 (cI 0)),
oP 13 7 12 cF])
(.cond 13
(kr [0,1] [oM 14 0,
oM 15 1,
oD 16 (.nilck 14),
oA 17 4 16,
oS 1 17 15])
.skip))
def Jl_:List RD:=[]
theorem Jx_:zl_ Tryz.prog Tryz.f110 JJ_ Jl_=true:=by kernel_rfl
def zE_:List AV->List Obj->Option (Prop × AV × List Obj)
 | [.ptr 0 0,.int .i64 x],[.box [.imm (.int .u8) b,.int .i64 p,.int .i64 sh,.int .i64 od,.int .i64 e,.bool true]]=>some ((True,.tup [],[.box [.imm (.int .u8) b,.int .i64 p,.int .i64 sh,.int .i64 od,.int .i64 (Zd_ e x),.bool true]]))
 | _,_=>none
theorem zJ_:zf_ Tryz.prog 110 (RwF zE_).sum:=by
 refine Qi_ Tryz.func110 Jx_ (za_ (s:=RoF zT_) Ze_ (ze_ _)) fun args objs p v o e=>?_
 unfold zE_ at e
 split at e
 ·rename_i x b p sh od e
  cases e
  refine ⟨rfl,fun hw ho hp=>?_⟩
  change List Int at b
  repeat'(intro t ht;first|(cases t<;>first|(cases ht;done)|(try simp only[zh_]at ht))|((first|refine zb_ ht ?_|refine ht ?_ ?_|refine ht.1 ?_ ?_|refine ht ?_)<;>clear ht))
  all_goals first
   | exact True.intro
   | (unfold Zd_;simp_all;done)
 ·cases e
def wj_:IR:=
(sq (kr [0] [oD 2 (.mov (cI 0))])
(sq (sq (.reg [oM 3 0,
oC 4 111 [3]])
(.cond 4
(sq (.reg [oD 2 (.mov (cI 10001))])
.ret)
.skip))
(sq (kr [0] [oM 5 0,
oD 6 (.nilck 5),
oA 7 4 6,
oL 8 7,
oM 2 8])
.ret)))
def J3_:List RD:=[.tmp 2 true none]
theorem wb_:zl_ Tryz.prog Tryz.f53 wj_ J3_=true:=by kernel_rfl
def zB_:List AV->List Obj->Option (Prop × AV)
 | [.ptr 0 0],[.box [.imm (.int .u8) b,.int .i64 p,.int .i64 sh,.int .i64 od,.int .i64 e,.bool true]]=>some ((True,.int .i64 e))
 | _,_=>none
theorem zG_:zf_ Tryz.prog 53 (RoF zB_).sum:=by
 refine zj_ Tryz.func53 wb_ (za_ (s:=RoF zT_) Ze_ (ze_ _)) fun args objs p v e=>?_
 unfold zB_ at e
 split at e
 ·rename_i b p sh od e
  cases e
  refine ⟨rfl,fun hw ho hp=>?_⟩
  change List Int at b
  repeat'(intro t ht;first|(cases t<;>first|(cases ht;done)|(try simp only[zh_]at ht))|((first|refine zb_ ht ?_|refine ht ?_ ?_|refine ht.1 ?_ ?_|refine ht ?_)<;>clear ht))
  all_goals first
   | exact True.intro
   | exact ⟨rfl,rfl⟩
 ·cases e
def JI_:IR:=
(sq (kr [0] [oD 2 (.mov (cI 0))])
(sq (sq (.reg [oM 3 0,
oC 4 111 [3]])
(.cond 4
(sq (.reg [oD 2 (.mov (cI 0))])
.ret)
.skip))
(sq (kd [0] [(oM 5 0,[]),
(oD 6 (.nilck 5),[]),
(oA 7 0 6,[]),
(oL 8 7,[]),
(oE 9 8,[]),
(oM 10 0,[0,0,0,0,0]),
(oD 11 (.nilck 10),[1,0,0,0,0]),
(oA 12 1 11,[2,0,0,0,0]),
(oL 13 12,[3,0,0,0,0]),
(oB 14 .sub 9 13,[]),
(oM 2 14,[])])
.ret)))
def Jk_:List RD:=[.tmp 2 true none]
theorem Jw_:zl_ Tryz.prog Tryz.f108 JI_ Jk_=true:=by kernel_rfl
def z7_:List AV->List Obj->Option (Prop × AV)
 | [.ptr 0 0],[.box [.imm (.int .u8) b,.int .i64 p,.int .i64 sh,.int .i64 od,.int .i64 e,.bool true]]=>some ((0<=p/\p<=b.length,.int .i64 (b.length - p)))
 | _,_=>none
theorem ZC_:zf_ Tryz.prog 108 (RoF z7_).sum:=by
 refine zj_ Tryz.func108 Jw_ (za_ (s:=RoF zT_) Ze_ (ze_ _)) fun args objs p v e=>?_
 unfold z7_ at e
 split at e
 ·rename_i b p sh od e
  cases e
  refine ⟨rfl,fun hw ho hp=>?_⟩
  change List Int at b
  have hb:b.length<=maxLen:=(ho _ (List.mem_cons_self ..) (.imm (.int .u8) b) (by simp)).2
  unfold maxLen at hb
  repeat'(intro t ht;first|(cases t<;>first|(cases ht;done)|(try simp only[zh_]at ht))|((first|refine zb_ ht ?_|refine ht ?_ ?_|refine ht.1 ?_ ?_|refine ht ?_)<;>clear ht))
  all_goals first
   | exact True.intro
   | ((try simp only [zn_,zo_,zm_] at*);omega)
   | exact ⟨rfl,rfl⟩
 ·cases e
def Wh_:IR:=
(sq (kr [0] [oD 2 (.mov (cI 0))])
(sq (sq (.reg [oM 3 0,
oC 4 111 [3]])
(.cond 4
(sq (.reg [oD 2 (.mov (cI 0))])
.ret)
.skip))
(sq (kr [0] [oM 5 0,
oD 6 (.nilck 5),
oA 7 1 6,
oL 8 7,
oM 2 8])
.ret)))
def Wf_:List RD:=[.tmp 2 true none]
theorem Wg_:zl_ Tryz.prog Tryz.f90 Wh_ Wf_=true:=by kernel_rfl
def qe_:List AV->List Obj->Option (Prop × AV)
 | [.ptr 0 0],[.box [.imm (.int .u8) b,.int .i64 p,.int .i64 sh,.int .i64 od,.int .i64 e,.bool true]]=>some ((True,.int .i64 p))
 | _,_=>none
theorem kj_:zf_ Tryz.prog 90 (RoF qe_).sum:=by
 refine zj_ Tryz.func90 Wg_ (za_ (s:=RoF zT_) Ze_ (ze_ _)) fun args objs p v e=>?_
 unfold qe_ at e
 split at e
 ·rename_i b p sh od e
  cases e
  refine ⟨rfl,fun hw ho hp=>?_⟩
  change List Int at b
  repeat'(intro t ht;first|(cases t<;>first|(cases ht;done)|(try simp only[zh_]at ht))|((first|refine zb_ ht ?_|refine ht ?_ ?_|refine ht.1 ?_ ?_|refine ht ?_)<;>clear ht))
  all_goals first
   | exact True.intro
   | exact ⟨rfl,rfl⟩
 ·cases e
def kU_ (w b:List Int) (p e:Int):List Int:=if e=0 then Z0_ w (b.drop p.toNat) else []
def K4_ (w b:List Int) (p e:Int):Int:=if e=0 then (if Zo_ w (b.drop p.toNat)=1 then p else if Zo_ w (b.drop p.toNat)=2 then p else p+zV_ w) else p
def wz_ (w b:List Int) (p sh od e:Int):Int:=if e=0 then (if Zo_ w (b.drop p.toNat)=1 then sh else if Zo_ w (b.drop p.toNat)=2 then od else 0) else e
def wh_:IR:=
(sq (kr [0,1] [oD 4 (.mov (.c (.imm (.int .u64) [])))])
(sq (sq (.reg [oM 7 0,
oC 8 53 [7],
oB 9 .neq 8 (cI 0)])
(.cond 9
(sq (.reg [oD 4 (.mov (.c (.imm (.int .u64) [])))])
.ret)
.skip))
(sq (kd [0,1] [(oM 11 1,[]),
(oM 12 0,[0]),
(oD 13 (.nilck 12),[1]),
(oA 14 0 13,[2]),
(oL 15 14,[3]),
(oM 16 0,[0,0,0,0,0]),
(oD 17 (.nilck 16),[1,0,0,0,0]),
(oA 18 1 17,[2,0,0,0,0]),
(oL 19 18,[3,0,0,0,0]),
(oD 20 (.slice 1 15 (some 19) none none),[8]),
(oC 21 140 [11,20],[]),
(oM 10 21,[]),
(oX 22 10 0,[]),
(oX 23 10 1,[0]),
(oM 5 22,[0]),
(oM 6 23,[])])
(sq (sq (kr [0,1,5,6] [oM 24 6])
(.block 0
(sq (.reg [oB 35 .eql 24 (cI 1),
oM 34 35])
(.cond 34
(kr [0,5] [oM 36 0,
oM 37 0,
oD 38 (.nilck 37),
oA 39 2 38,
oL 40 39,
oC 41 110 [36,40]])
(sq (.reg [oB 43 .eql 24 (cI 2),
oM 42 43])
(.cond 42
(kr [0,5] [oM 44 0,
oM 45 0,
oD 46 (.nilck 45),
oA 47 3 46,
oL 48 47,
oC 49 110 [44,48]])
(kd [0,1,5] [(oM 25 0,[]),
(oD 26 (.nilck 25),[]),
(oA 27 1 26,[]),
(oL 28 27,[]),
(oM 29 1,[0,0,0,0]),
(oC 30 141 [29],[1,0,0,0]),
(oB 31 .add 28 30,[]),
(oD 32 (.nilck 25),[]),
(oA 33 1 32,[]),
(oS 1 33 31,[])])))))))
(sq (kr [5] [oM 50 5,
oM 4 50])
.ret)))))
def J1_:List RD:=[.tmp 4 true (some (.int .u64))]
theorem J9_:zl_ Tryz.prog Tryz.f89 wh_ J1_=true:=by kernel_rfl
def Zh_:List AV->List Obj->Option (Prop × AV × List Obj)
 | [.ptr 0 0,.imm (.int .i64) w],[.box [.imm (.int .u8) b,.int .i64 p,.int .i64 sh,.int .i64 od,.int .i64 e,.bool true]]=>some ((0<=p/\p<=b.length/\b.length<=140737488355328,.imm (.int .u64) (kU_ w b p e),[.box [.imm (.int .u8) b,.int .i64 (K4_ w b p e),.int .i64 sh,.int .i64 od,.int .i64 (wz_ w b p sh od e),.bool true]]))
 | _,_=>none
theorem ZV_:zf_ Tryz.prog 89 (RwF Zh_).sum:=by
 refine Qi_ Tryz.func89 J9_ (za_ (s:=RoF zB_) zG_ (za_ (s:=RoF XH_) g2_ (za_ (s:=RwF zE_) zJ_ (za_ (s:=RoF Qe_) Qs_ (ze_ _))))) fun args objs p v o e=>?_
 unfold Zh_ at e
 split at e
 ·rename_i w b p sh od e
  cases e
  refine ⟨rfl,fun hw ho hp=>?_⟩
  change List Int at w
  change List Int at b
  have hz:=JY_ w
  repeat'(intro t ht;first|(cases t<;>first|(cases ht;done)|(try simp only[zh_]at ht))|((first|refine zb_ ht ?_|refine ht ?_ ?_|refine ht.1 ?_ ?_|refine ht ?_)<;>clear ht))
  all_goals first
   | exact True.intro
   | ((try simp only [zn_,zo_,zm_] at*);omega)
   | (unfold kU_ K4_ wz_;simp_all [Zd_];done)
 ·cases e
def numV (w:Int) (b:List Int) (p e:Int):Int:=if 1<=w/\w<=8 then (kU_ [w] b p e).getD 0 0 else 0
def numP (w:Int) (b:List Int) (p e:Int):Int:=if 1<=w/\w<=8 then K4_ [w] b p e else p
def numE (w:Int) (b:List Int) (p sh od e:Int):Int:=if 1<=w/\w<=8 then wz_ [w] b p sh od e else Zd_ e 10001
def wi_:IR:=
(sq (kr [0,1] [oD 4 (.mov (.c (.int .u64 0)))])
(sq (sq (kr [0,1] [oM 7 1,
oB 8 .lss 7 (cI 1),
oM 9 8,
oF 9 10 (.mov 1),
oF 9 11 (.bin .gtr 10 (cI 8)),
oP 12 9 cT 11])
(.cond 12
(sq (kr [0] [oM 13 0,
oC 14 110 [13,(cI 10001)]])
(sq (.reg [oD 4 (.mov (.c (.int .u64 0)))])
.ret))
.skip))
(sq (kr [0,1] [oM 15 0,
oD 16 (.mkfn 89 [15] []),
oM 5 16])
(sq (sq (kr [1,5] [oM 17 5,
oM 18 1,
oD 19 (.sliceAll (.int .i64) 1 [(0,1,18)]),
oD 20 (.call false 17 [19]),
oM 6 20])
(sq (.reg [oM 21 6,
oE 22 21,
oB 23 .gtr 22 (cI 0)])
(.cond 23
(sq (kr [6] [oM 24 6,
oD 25 (.indexSl 1 24 (cI 0)),
oL 26 25,
oM 4 26])
.ret)
.skip)))
(sq (kr [] [oD 4 (.mov (.c (.int .u64 0)))])
.ret)))))
def J2_:List RD:=[.tmp 4 true none]
theorem wa_:zl_ Tryz.prog Tryz.f85 wi_ J2_=true:=by kernel_rfl
def qS_:List AV->List Obj->Option (Prop × AV × List Obj)
 | [.ptr 0 0,.int .i64 w],[.box [.imm (.int .u8) b,.int .i64 p,.int .i64 sh,.int .i64 od,.int .i64 e,.bool true]]=>some ((0<=p/\p<=b.length/\b.length<=140737488355328,.int .u64 (numV w b p e),[.box [.imm (.int .u8) b,.int .i64 (numP w b p e),.int .i64 sh,.int .i64 od,.int .i64 (numE w b p sh od e),.bool true]]))
 | _,_=>none
theorem Je_:zf_ Tryz.prog 85 (RwF qS_).sum:=by
 refine Qi_ Tryz.func85 wa_ (za_ (s:=RwF zE_) zJ_ (za_ (s:=RwF Zh_) ZV_ (ze_ _))) fun args objs p v o e=>?_
 unfold qS_ at e
 split at e
 ·rename_i w b p sh od e
  cases e
  refine ⟨rfl,fun hw ho hp=>?_⟩
  change List Int at b
  repeat'(intro t ht;first|(cases t<;>first|(cases ht;done)|(try simp only[zh_]at ht))|((first|refine zb_ ht ?_|refine ht ?_ ?_|refine ht.1 ?_ ?_|refine ht ?_)<;>clear ht))
  all_goals first
   | exact True.intro
   | exact hp
   | ((try simp only [zn_,zo_,zm_] at*);omega)
   | (have hc:1<=w/\w<=8:=by omega
      unfold numV numP numE
      rw [if_pos hc,if_pos hc,if_pos hc]
      first
       | exact ⟨rfl,rfl⟩
       | (have hl:kU_ [w] b p e=[]:=List.eq_nil_of_length_eq_zero (by omega)
          refine ⟨?_,rfl⟩;rw [hl];rfl))
   | (have hc:¬ (1<=w/\w<=8):=by omega
      unfold numV numP numE
      rw [if_neg hc,if_neg hc,if_neg hc]
      exact ⟨rfl,rfl⟩)
 ·cases e
theorem ht_ {e x:Int} (h:x ≠ 0):Zd_ e x ≠ 0:=by unfold Zd_;split<;>assumption
def qb_ (n:Int) (b:List Int) (p sh e:Int):Int:=if n < 0 then Zd_ e 10001 else if b.length - p < n then Zd_ e sh else e
def qV_ (n:Int) (b:List Int) (p sh e:Int):List Int:=if qb_ n b p sh e=0 then (b.take (p+n).toNat).drop p.toNat else []
def j5_ (n:Int) (b:List Int) (p sh e:Int):Int:=if qb_ n b p sh e=0 then p+n else p
def JF_:IR:=
(sq (kr [0,1] [oD 4 (.mov (.c (.imm (.int .u8) []))),
oD 5 (.mov cF)])
(sq (sq (.reg [oM 7 1,
oB 8 .lss 7 (cI 0)])
(.cond 8
(.reg [oM 9 0,
oC 10 110 [9,(cI 10001)]])
(sq (kr [0,1] [oM 11 1,
oM 12 0,
oC 13 108 [12],
oB 14 .gtr 11 13,
oM 15 14,
oT 15 16 (.mov 0),
oT 15 17 (.call false (.f 111) [16]),
oT 15 18 (.un .not 17),
oP 19 15 18 cF])
(.cond 19
(kr [0,1] [oM 20 0,
oM 21 0,
oD 22 (.nilck 21),
oA 23 2 22,
oL 24 23,
oC 25 110 [20,24]])
.skip))))
(sq (sq (kr [0,1] [oM 26 0,
oC 27 53 [26],
oB 28 .neq 27 (cI 0)])
(.cond 28
(sq (.reg [oD 4 (.mov (.c (.imm (.int .u8) []))),
oD 5 (.mov cF)])
.ret)
.skip))
(sq (kd [0,1] [(oM 29 0,[]),
(oD 30 (.nilck 29),[]),
(oA 31 0 30,[]),
(oL 32 31,[]),
(oM 33 0,[0,0,0,0]),
(oD 34 (.nilck 33),[1,0,0,0]),
(oA 35 1 34,[2,0,0,0]),
(oL 36 35,[3,0,0,0]),
(oM 37 0,[0,0,0,0,0,0,0,0]),
(oD 38 (.nilck 37),[1,0,0,0,0,0,0,0]),
(oA 39 1 38,[2,0,0,0,0,0,0,0]),
(oL 40 39,[3,0,0,0,0,0,0,0]),
(oM 41 1,[0,0,0,0,0,0,0,0,0,0,0,0]),
(oB 42 .add 40 41,[5,0,0,0,0,0,0,0]),
(oM 43 0,[0,0,0,0,0,0,0,0,0,0,0,0,0,0]),
(oD 44 (.nilck 43),[1,0,0,0,0,0,0,0,0,0,0,0,0,0]),
(oA 45 1 44,[2,0,0,0,0,0,0,0,0,0,0,0,0,0]),
(oL 46 45,[3,0,0,0,0,0,0,0,0,0,0,0,0,0]),
(oM 47 1,[0,0,0,0,0,0,0,0,0,0,0,0,0,0,0,0,0,0]),
(oB 48 .add 46 47,[5,0,0,0,0,0,0,0,0,0,0,0,0,0]),
(oD 49 (.slice 1 32 (some 36) (some 42) (some 48)),[]),
(oM 6 49,[])])
(sq (kr [0,1,6] [oM 50 0,
oD 51 (.nilck 50),
oA 52 1 51,
oL 53 52,
oM 54 1,
oB 55 .add 53 54,
oD 56 (.nilck 50),
oA 57 1 56,
oS 1 57 55])
(sq (kr [6] [oM 58 6,
oM 4 58,
oD 5 (.mov cT)])
.ret))))))
def Jh_:List RD:=[.tmp 4 true (some (.int .u8)),.tmp 5 true none]
theorem Jt_:zl_ Tryz.prog Tryz.f139 JF_ Jh_=true:=by kernel_rfl
def qD_:List AV->List Obj->Option (Prop × AV × List Obj)
 | [.ptr 0 0,.int .i64 n],[.box [.imm (.int .u8) b,.int .i64 p,.int .i64 sh,.int .i64 od,.int .i64 e,.bool true]]=>some ((0<=p/\p<=b.length/\b.length<=140737488355328/\sh ≠ 0,.tup [.imm (.int .u8) (qV_ n b p sh e),.bool (decide (qb_ n b p sh e=0))],[.box [.imm (.int .u8) b,.int .i64 (j5_ n b p sh e),.int .i64 sh,.int .i64 od,.int .i64 (qb_ n b p sh e),.bool true]]))
 | _,_=>none
theorem jh_:zf_ Tryz.prog 139 (RwF qD_).sum:=by
 refine Qi_ Tryz.func139 Jt_ (za_ (s:=RwF zE_) zJ_ (za_ (s:=RoF z7_) ZC_ (za_ (s:=RoF zT_) Ze_ (za_ (s:=RoF zB_) zG_ (ze_ _))))) fun args objs p v o e=>?_
 unfold qD_ at e
 split at e
 ·rename_i n b p sh od e
  cases e
  refine ⟨rfl,fun hw ho hp=>?_⟩
  change List Int at b
  have hf1:Zd_ e 10001 ≠ 0:=ht_ (by decide)
  have hf2:Zd_ e sh ≠ 0:=ht_ hp.2.2.2
  repeat'(intro t ht;first|(cases t<;>first|(cases ht;done)|(try simp only[zh_]at ht))|((first|refine zb_ ht ?_|refine ht ?_ ?_|refine ht.1 ?_ ?_|refine ht ?_)<;>clear ht))
  all_goals first
   | exact True.intro
   | (exfalso;omega)
   | omega
   | ((try simp only [zn_,zo_,zm_] at*);omega)
   | (first
       | (have hE:qb_ n b p sh e=e:=by unfold qb_;rw [if_neg (by assumption),if_neg (by assumption)]
          unfold qV_ j5_;rw [hE]
          first
           | (have h0:e=0:=by assumption
              rw [if_pos h0,if_pos h0,decide_eq_true h0];exact ⟨rfl,rfl⟩)
           | (have h0:¬ e=0:=by assumption
              rw [if_neg h0,if_neg h0,decide_eq_false h0];exact ⟨rfl,rfl⟩))
       | (have hE:qb_ n b p sh e=Zd_ e sh:=by unfold qb_;rw [if_neg (by assumption),if_pos (by assumption)]
          unfold qV_ j5_;rw [hE,if_neg hf2,if_neg hf2,decide_eq_false hf2];exact ⟨rfl,rfl⟩)
       | (have hE:qb_ n b p sh e=Zd_ e 10001:=by unfold qb_;rw [if_pos (by assumption)]
          unfold qV_ j5_;rw [hE,if_neg hf1,if_neg hf1,decide_eq_false hf1];exact ⟨rfl,rfl⟩))
 ·cases e
def jF_:IR:=
(sq (kr [0,1] [oD 4 (.mov (.c (.imm (.int .u8) [])))])
(sq (kr [0,1] [oM 8 0,
oM 9 1,
oC 10 139 [8,9],
oM 7 10,
oX 11 7 0,
oX 12 7 1,
oM 5 11,
oM 6 12])
(sq (kr [5] [oM 13 5,
oC 14 68 [13],
oM 4 14])
.ret)))
def jo_:List RD:=[.tmp 4 true (some (.int .u8))]
theorem jv_:zl_ Tryz.prog Tryz.f88 jF_ jo_=true:=by kernel_rfl
def zZ_:List AV->List Obj->Option (Prop × AV × List Obj)
 | [.ptr 0 0,.int .i64 n],[.box [.imm (.int .u8) b,.int .i64 p,.int .i64 sh,.int .i64 od,.int .i64 e,.bool true]]=>some ((0<=p/\p<=b.length/\b.length<=140737488355328/\sh ≠ 0,.imm (.int .u8) (qV_ n b p sh e),[.box [.imm (.int .u8) b,.int .i64 (j5_ n b p sh e),.int .i64 sh,.int .i64 od,.int .i64 (qb_ n b p sh e),.bool true]]))
 | _,_=>none
theorem Zw_:zf_ Tryz.prog 88 (RwF zZ_).sum:=by
 refine Qi_ Tryz.func88 jv_ (za_ (s:=RwF qD_) jh_ (za_ (s:=RoF q8_) ky_ (ze_ _))) fun args objs p v o e=>?_
 unfold zZ_ at e
 split at e
 ·rename_i n b p sh od e
  cases e
  refine ⟨rfl,fun hw ho hp=>?_⟩
  change List Int at b
  have hlen:(qV_ n b p sh e).length<=140737488355328:=by
   unfold qV_;split
   ·rw [List.length_drop,List.length_take];omega
   ·exact Nat.zero_le _
  repeat'(intro t ht;first|(cases t<;>first|(cases ht;done)|(try simp only[zh_]at ht))|((first|refine zb_ ht ?_|refine ht ?_ ?_|refine ht.1 ?_ ?_|refine ht ?_)<;>clear ht))
  all_goals first
   | exact hp
   | exact hlen
   | exact ⟨rfl,rfl⟩
 ·cases e
def JM_:IR:=
(sq (kr [0] [oD 2 (.mov cF)])
(sq (kr [0] [oM 3 0,
oD 4 (.eqp false 3 (.c (.nilp))),
oM 5 4,
oF 5 6 (.mov 0),
oF 5 7 (.nilck 6),
oF 5 8 (.fieldAddr 2 7),
oF 5 9 (.load none 8),
oF 5 10 (.eqn false 9 (.c (.nilm))),
oP 11 5 cT 10,
oM 2 11])
.ret))
def Jo_:List RD:=[.tmp 2 true none]
theorem JA_:zl_ Tryz.prog Tryz.f107 JM_ Jo_=true:=by kernel_rfl
def z8_:List AV->List Obj->Option (Prop × AV)
 | [.ptr 0 0],[.box [.own 1,.int .i64 room,.mapv 2,.int .i64 e],.row false (.int .u8) l,.map sq (.int .i64) (.int .i64) h]=>some ((True,.bool false))
 | _,_=>none
theorem ZD_:zf_ Tryz.prog 107 (RoF z8_).sum:=by
 refine zj_ Tryz.func107 JA_ (ze_ _) fun args objs p v e=>?_
 unfold z8_ at e
 split at e
 ·rename_i room e l sq h
  cases e
  refine ⟨rfl,fun hw ho hp=>?_⟩
  change List Int at l
  repeat'(intro t ht;first|(cases t<;>first|(cases ht;done)|(try simp only[zh_]at ht))|((first|refine zb_ ht ?_|refine ht ?_ ?_|refine ht.1 ?_ ?_|refine ht ?_)<;>clear ht))
  all_goals exact ⟨rfl,rfl⟩
 ·cases e
def Wm_ (n:Int):Int:=if 1000000 < (if 0 > n then 0 else n) then 1000000 else (if 0 > n then 0 else n)
def ug_:IR:=
(sq (kr [0] [oD 2 (.mov (.c (.nilp)))])
(sq (kr [0] [oM 3 0,
oD 4 (.minmax true 3 (cI 0)),
oD 5 (.minmax false 4 (cI 1000000)),
oD 6 (.mkmap (.int .i64) (.int .i64)),
oD 7 (.build [.nils,.int .i64 0,.nilm,.int .i64 0] [(1,1,5),(2,1,6)]),
oD 8 (.boxv 7),
oM 2 8])
.ret))
def VC_:List RD:=[.tmp 2 true none]
theorem VV_:zl_ Tryz.prog Tryz.f48 ug_ VC_=true:=by kernel_rfl
def xQ_:List AV->List Obj->Option (Prop × AV × List Obj)
 | [.int .i64 n],[]=>some (True,.ptr 0 0,[.box [.nils,.int .i64 (Wm_ n),.mapv 1,.int .i64 0],.map true (.int .i64) (.int .i64) ([])])
 | _,_=>none
def qO_:List AV->List Obj->Option (Prop × AV × List Obj)
 | [.int .i64 n],[]=>some (True,.ptr 0 0,[.box [.own 2,.int .i64 (Wm_ n),.mapv 1,.int .i64 0],.map true (.int .i64) (.int .i64) ([]),.row false (.int .u8) ([])])
 | _,_=>none
theorem Qv_:zf_ Tryz.prog 48 (RwF qO_).sum:=by
 have h0:zf_ Tryz.prog 48 (RwF xQ_).sum:=by
  refine Qi_ Tryz.func48 VV_ (ze_ _) fun args objs p v o e=>?_
  unfold xQ_ at e
  split at e
  ·rename_i n
   cases e
   refine ⟨rfl,fun hw ho hp=>?_⟩
   repeat'(intro t ht;first|(cases t<;>first|(cases ht;done)|(try simp only[zh_]at ht))|((first|refine zb_ ht ?_|refine ht ?_ ?_|refine ht.1 ?_ ?_|refine ht ?_)<;>clear ht))
   all_goals exact ⟨rfl,rfl⟩
  ·cases e
 refine Gx_ (t:=.int .u8) h0 fun args objs p v o e=>?_
 unfold qO_ at e
 split at e
 ·rename_i n
  cases e
  exact ⟨0,[],[.int .i64 (Wm_ n),.mapv 1,.int .i64 0],_,rfl,rfl,rfl⟩
 ·cases e
def JN_:IR:=
(sq (kr [0,1] [oM 4 0,
oC 5 107 [4],
oD 6 (.un .not 5),
oM 7 6,
oT 7 8 (.mov 0),
oT 7 9 (.nilck 8),
oT 7 10 (.fieldAddr 3 9),
oT 7 11 (.load none 10),
oT 7 12 (.bin .eql 11 (cI 0)),
oP 13 7 12 cF])
(.cond 13
(kr [0,1] [oM 14 0,
oM 15 1,
oD 16 (.nilck 14),
oA 17 3 16,
oS 1 17 15])
.skip))
def Jp_:List RD:=[]
theorem JB_:zl_ Tryz.prog Tryz.f103 JN_ Jp_=true:=by kernel_rfl
def zU_:List AV->List Obj->Option (Prop × AV × List Obj)
 | [.ptr 0 0,.int .i64 x],[.box [.own 1,.int .i64 room,.mapv 2,.int .i64 e],.row false (.int .u8) l,.map sq (.int .i64) (.int .i64) h]=>some ((True,.tup [],[.box [.own 1,.int .i64 room,.mapv 2,.int .i64 (Zd_ e x)],.row false (.int .u8) l,.map sq (.int .i64) (.int .i64) h]))
 | _,_=>none
theorem Zf_:zf_ Tryz.prog 103 (RwF zU_).sum:=by
 refine Qi_ Tryz.func103 JB_ (za_ (s:=RoF z8_) ZD_ (ze_ _)) fun args objs p v o e=>?_
 unfold zU_ at e
 split at e
 ·rename_i x room e l sq h
  cases e
  refine ⟨rfl,fun hw ho hp=>?_⟩
  change List Int at l
  repeat'(intro t ht;first|(cases t<;>first|(cases ht;done)|(try simp only[zh_]at ht))|((first|refine zb_ ht ?_|refine ht ?_ ?_|refine ht.1 ?_ ?_|refine ht ?_)<;>clear ht))
  all_goals first
   | exact True.intro
   | (unfold Zd_;simp_all;done)
 ·cases e
def K9_ (x l:List Int) (room e:Int):Bool:=decide (e=0) && decide ((x.length:Int)<=room - l.length)
def Kf_ (x l:List Int) (room e:Int):List Int:=if K9_ x l room e=true then l++x else l
def kV_ (x l:List Int) (room e:Int):Int:=if e=0 then (if (x.length:Int)<=room - l.length then 0 else 10003) else e
def jH_:IR:=
(.block 0
(sq (kr [0,1] [oM 14 0,
oC 15 107 [14],
oM 16 15,
oF 16 17 (.mov 0),
oF 16 18 (.nilck 17),
oF 16 19 (.fieldAddr 3 18),
oF 16 20 (.load none 19),
oF 16 21 (.bin .neq 20 (cI 0)),
oP 22 16 cT 21,
oM 13 22])
(.cond 13
.skip
(sq (kd [0,1] [(oM 24 1,[]),
(oE 25 24,[]),
(oM 26 0,[0,0]),
(oD 27 (.nilck 26),[1,0]),
(oA 28 1 27,[2,0]),
(oL 29 28,[3,0]),
(oM 30 0,[0,0,0,0,0,0]),
(oD 31 (.nilck 30),[1,0,0,0,0,0]),
(oA 32 0 31,[2,0,0,0,0,0]),
(oL 33 32,[3,0,0,0,0,0]),
(oE 34 33,[4,0,0,0,0,0]),
(oB 35 .sub 29 34,[9,0]),
(oB 36 .gtr 25 35,[]),
(oM 23 36,[])])
(.cond 23
(kr [0] [oM 37 0,
oC 38 103 [37,(cI 10003)]])
(kr [0,1] [oM 4 0,
oM 5 0,
oD 6 (.nilck 5),
oA 7 0 6,
oL 8 7,
oM 9 1,
oD 10 (.append (.int .u8) 1 8 9),
oD 11 (.nilck 4),
oA 12 0 11,
oS 1 12 10]))))))
def jq_:List RD:=[]
theorem jx_:zl_ Tryz.prog Tryz.f122 jH_ jq_=true:=by kernel_rfl
def QT_:List AV->List Obj->Option (Prop × Res)
 | [.ptr 0 0,.imm (.int .u8) x],[.box [.own 1,.int .i64 room,.mapv 2,.int .i64 e],.row false (.int .u8) l,.map sq (.int .i64) (.int .i64) h]=>some (0<=room/\room<=1000000/\l.length<=1000000/\x.length<=1000000,.br (K9_ x l room e) (.one (.tup []) [.box [.own 3,.int .i64 room,.mapv 2,.int .i64 e],.dead,.map sq (.int .i64) (.int .i64) h,.row false (.int .u8) (Kf_ x l room e)]) (.one (.tup []) [.box [.own 1,.int .i64 room,.mapv 2,.int .i64 (kV_ x l room e)],.row false (.int .u8) l,.map sq (.int .i64) (.int .i64) h]))
 | _,_=>none
def zA_:List AV->List Obj->Option (Prop × AV × List Obj)
 | [.ptr 0 0,.imm (.int .u8) x],[.box [.own 1,.int .i64 room,.mapv 2,.int .i64 e],.row false (.int .u8) l,.map sq (.int .i64) (.int .i64) h]=>some (0<=room/\room<=1000000/\l.length<=1000000/\x.length<=1000000,.tup [],[.box [.own 3,.int .i64 room,.mapv 2,.int .i64 (kV_ x l room e)],.dead,.map sq (.int .i64) (.int .i64) h,.row false (.int .u8) (Kf_ x l room e)])
 | _,_=>none
theorem KL_:zf_ Tryz.prog 122 (RcF QT_).sum:=by
 refine Gw_ Tryz.func122 jx_ (za_ (s:=RoF z8_) ZD_ (za_ (s:=RwF zU_) Zf_ (ze_ _))) fun args objs p v e=>?_
 unfold QT_ at e
 split at e
 ·rename_i x room e l sq h
  cases e
  change List Int at x
  change List Int at l
  refine ⟨rfl,fun hw ho hp=>?_⟩
  repeat'(intro t ht;first|(cases t<;>first|(cases ht;done)|(try simp only[zh_]at ht))|((first|refine zb_ ht ?_|refine ht ?_ ?_|refine ht.1 ?_ ?_|refine ht ?_)<;>clear ht))
  all_goals first
   | exact True.intro
   | ((try simp only [zn_,zo_,zm_] at*);omega)
   | (simp only [Z8_];omega)
   | (have hb:K9_ x l room e=true:=by unfold K9_;simp only [Bool.and_eq_true,decide_eq_true_eq];omega
      have hbb:Kf_ x l room e=l++x:=by unfold Kf_;rw [hb];rfl
      rw [jr_ hb,hbb];exact ⟨rfl,rfl⟩)
   | (have hb:K9_ x l room e=false:=by unfold K9_;simp only [Bool.and_eq_false_iff,decide_eq_false_iff_not];omega
      rw [js_ hb]
      unfold kV_
      first
       | (rw [if_neg (by assumption)];exact ⟨rfl,rfl⟩)
       | (have h0:e=0:=by assumption
          have h1:¬ (x.length:Int)<=room - l.length:=by omega
          rw [if_pos h0,if_neg h1]
          refine ⟨rfl,?_⟩;unfold Zd_;rw [if_pos h0];rfl))
 ·cases e
theorem zH_:zf_ Tryz.prog 122 (RwF zA_).sum:=by
 refine yV_ KL_ fun args objs p v o e=>?_
 unfold zA_ at e
 split at e
 ·rename_i x room e l sq h
  cases e
  cases hb:K9_ x l room e with
  | true=>
    have h1:e=0:=by unfold K9_ at hb;simp_all
    have h2:(x.length:Int)<=room - l.length:=by unfold K9_ at hb;simp_all
    refine ⟨_,_,rfl,jr_ hb,.inl ?_⟩
    unfold kV_;rw [if_pos h1,if_pos h2,h1]
  | false=>
    refine ⟨_,_,rfl,js_ hb,.inr ⟨0,1,[],[.int .i64 room,.mapv 2,.int .i64 (kV_ x l room e)],.int .u8,l,rfl,rfl,?_⟩⟩
    have hbb:Kf_ x l room e=l:=by unfold Kf_;rw [hb];rfl
    rw [hbb];rfl
 ·cases e
theorem xh_:∀ (w xs b r:List Int),(∀ n ∈ w,n ≠ 0/\n<=8/\-64<=n)->qR_ w xs b=some r->(r.length:Int)=b.length+(w.map zq_).sum
 | [],xs,b,r,_,h=>by simp only [qR_,Option.some.injEq] at h;subst h;simp
 | n :: w,xs,b,r,hw,h=>by
   have hn:=hw n (by simp)
   have hw':∀ n ∈ w,n ≠ 0/\n<=8/\-64<=n:=fun m hm=>hw m (by simp [hm])
   simp only [qR_] at h
   split at h
   ·have ih:=xh_ w _ _ r hw' h
    have hl:=zk_ (n:=0) (w:=0 - n) (by omega)
    rw [List.length_append] at ih
    rw [List.map_cons,List.sum_cons,wH_ (by assumption)];omega
   ·cases xs with
    | nil=>cases h
    | cons x ys=>
      simp only at h
      split at h
      ·cases h
      ·have ih:=xh_ w _ _ r hw' h
       have hl:=zk_ (n:=x) (w:=n) (by omega)
       rw [List.length_append] at ih
       rw [List.map_cons,List.sum_cons,xH_ (by assumption)];omega
theorem zal_ (w xs:List Int):(ZZ_ w xs).length<=4096:=by
 unfold ZZ_ KB_
 split
 ·rename_i h
  cases hp:qR_ w xs [] with
  | none=>simp
  | some r=>
    have h1:=xh_ w xs [] r (ZQ_.1 h.1).2 hp
    have h2:=JY_ w
    unfold zV_ at h2;rw [if_pos h.1] at h2
    simp at h1 ⊢;omega
 ·simp
def kk_ (w xs l:List Int) (room e:Int):List Int:=if Qc_ w xs=true then Kf_ (ZZ_ w xs) l room e else l
def Ka_ (w xs l:List Int) (room e:Int):Int:=if Qc_ w xs=true then kV_ (ZZ_ w xs) l room e else Zd_ e 10001
def wk_:IR:=
(sq (kr [0,1,2] [oM 9 1,
oM 10 2,
oC 11 149 [9,10],
oM 8 11,
oX 12 8 0,
oX 13 8 1,
oM 6 12,
oM 7 13])
(sq (sq (kr [0,6,7] [oM 14 7,
oD 15 (.un .not 14)])
(.cond 15
(sq (.reg [oM 16 0,
oC 17 103 [16,(cI 10001)]])
.ret)
.skip))
(.reg [oM 18 0,
oM 19 6,
oC 20 122 [18,19]])))
def J4_:List RD:=[]
theorem wc_:zl_ Tryz.prog Tryz.f105 wk_ J4_=true:=by kernel_rfl
def kN_:List AV->List Obj->Option (Prop × Res)
 | [.ptr 0 0,.imm (.int .i64) w,.imm (.int .u64) xs],[.box [.own 1,.int .i64 room,.mapv 2,.int .i64 e],.row false (.int .u8) l,.map sq (.int .i64) (.int .i64) h]=>some (0<=room/\room<=1000000/\l.length<=1000000,.br (Qc_ w xs) (.one (.tup []) [.box [.own 3,.int .i64 room,.mapv 2,.int .i64 (kV_ (ZZ_ w xs) l room e)],.dead,.map sq (.int .i64) (.int .i64) h,.row false (.int .u8) (Kf_ (ZZ_ w xs) l room e)]) (.one (.tup []) [.box [.own 1,.int .i64 room,.mapv 2,.int .i64 (Zd_ e 10001)],.row false (.int .u8) l,.map sq (.int .i64) (.int .i64) h]))
 | _,_=>none
def zY_:List AV->List Obj->Option (Prop × AV × List Obj)
 | [.ptr 0 0,.imm (.int .i64) w,.imm (.int .u64) xs],[.box [.own 1,.int .i64 room,.mapv 2,.int .i64 e],.row false (.int .u8) l,.map sq (.int .i64) (.int .i64) h]=>some (0<=room/\room<=1000000/\l.length<=1000000,.tup [],[.box [.own 3,.int .i64 room,.mapv 2,.int .i64 (Ka_ w xs l room e)],.dead,.map sq (.int .i64) (.int .i64) h,.row false (.int .u8) (kk_ w xs l room e)])
 | _,_=>none
theorem Jc_:zf_ Tryz.prog 105 (RcF kN_).sum:=by
 refine Gw_ Tryz.func105 wc_ (za_ (s:=RoF w9_) XU_ (za_ (s:=RwF zU_) Zf_ (za_ (s:=RwF zA_) zH_ (ze_ _)))) fun args objs p v e=>?_
 unfold kN_ at e
 split at e
 ·rename_i w xs room e l sq h
  cases e
  refine ⟨rfl,fun hw ho hp=>?_⟩
  have hz:=zal_ w xs
  repeat'(intro t ht;first|(cases t<;>first|(cases ht;done)|(try simp only[zh_]at ht))|((first|refine zb_ ht ?_|refine ht ?_ ?_|refine ht.1 ?_ ?_|refine ht ?_)<;>clear ht))
  all_goals first
   | exact True.intro
   | exact ⟨hp.1,hp.2.1,hp.2.2,by omega⟩
   | (rw [jr_ (by assumption)];exact ⟨rfl,rfl⟩)
   | (rw [js_ (by assumption)];exact ⟨rfl,rfl⟩)
 ·cases e
theorem Zn_:zf_ Tryz.prog 105 (RwF zY_).sum:=by
 refine yV_ Jc_ fun args objs p v o e=>?_
 unfold zY_ at e
 split at e
 ·rename_i w xs room e l sq h
  cases e
  cases hb:Qc_ w xs with
  | true=>
    refine ⟨_,_,rfl,jr_ hb,.inl ?_⟩
    unfold Ka_ kk_;rw [if_pos hb,if_pos hb]
  | false=>
    refine ⟨_,_,rfl,js_ hb,.inr ⟨0,1,[],[.int .i64 room,.mapv 2,.int .i64 (Zd_ e 10001)],.int .u8,l,rfl,rfl,?_⟩⟩
    unfold Ka_ kk_;rw [hb];rfl
 ·cases e
def KM_ (w:Int):Bool:=decide (1<=w) && decide (w<=8)
def Wi_ (w e:Int):Int:=if KM_ w=true then e else Zd_ e 10001
def JL_:IR:=
(sq (kr [0,1] [oD 4 (.mov cF)])
(sq (kr [0,1] [oM 6 1,
oB 7 .geq 6 (cI 1),
oM 8 7,
oT 8 9 (.mov 1),
oT 8 10 (.bin .leq 9 (cI 8)),
oP 11 8 10 cF,
oM 5 11])
(sq (sq (kr [0,5] [oM 12 5,
oD 13 (.un .not 12)])
(.cond 13
(.reg [oM 14 0,
oC 15 103 [14,(cI 10001)]])
.skip))
(sq (.reg [oM 16 5,
oM 4 16])
.ret))))
def Jn_:List RD:=[.tmp 4 true none]
theorem Jz_:zl_ Tryz.prog Tryz.f193 JL_ Jn_=true:=by kernel_rfl
def qF_:List AV->List Obj->Option (Prop × AV × List Obj)
 | [.ptr 0 0,.int .i64 w],[.box [.own 1,.int .i64 room,.mapv 2,.int .i64 e],.row false (.int .u8) l,.map sq (.int .i64) (.int .i64) h]=>some ((True,.bool (KM_ w),[.box [.own 1,.int .i64 room,.mapv 2,.int .i64 (Wi_ w e)],.row false (.int .u8) l,.map sq (.int .i64) (.int .i64) h]))
 | _,_=>none
theorem jj_:zf_ Tryz.prog 193 (RwF qF_).sum:=by
 refine Qi_ Tryz.func193 Jz_ (za_ (s:=RwF zU_) Zf_ (ze_ _)) fun args objs p v o e=>?_
 unfold qF_ at e
 split at e
 ·rename_i w room e l sq h
  cases e
  refine ⟨rfl,fun hw ho hp=>?_⟩
  change List Int at l
  repeat'(intro t ht;first|(cases t<;>first|(cases ht;done)|(try simp only[zh_]at ht))|((first|refine zb_ ht ?_|refine ht ?_ ?_|refine ht.1 ?_ ?_|refine ht ?_)<;>clear ht))
  all_goals first
   | exact True.intro
   | (have hb:KM_ w=true:=by unfold KM_;simp_all
      have h8:decide (w<=8)=true:=decide_eq_true (by assumption)
      unfold Wi_;rw [hb,h8];exact ⟨rfl,rfl⟩)
   | (have hb:KM_ w=false:=by unfold KM_;simp_all
      have h8:decide (w<=8)=false:=decide_eq_false (by assumption)
      unfold Wi_;rw [hb,h8];exact ⟨rfl,rfl⟩)
   | (have hb:KM_ w=false:=by unfold KM_;simp only [Bool.and_eq_false_iff,decide_eq_false_iff_not];omega
      unfold Wi_;rw [hb];exact ⟨rfl,rfl⟩)
 ·cases e
def nmB (w n:Int) (l:List Int) (room e:Int):List Int:=if KM_ w=true then kk_ [w] [n] l room e else l
def nmE (w n:Int) (l:List Int) (room e:Int):Int:=if KM_ w=true then Ka_ [w] [n] l room e else Zd_ e 10001
def wl_:IR:=
(sq (kr [0,1,2] [oM 6 0,
oM 7 1,
oC 8 193 [6,7]])
(.cond 8
(kr [0,1,2] [oM 9 0,
oM 10 1,
oD 11 (.sliceAll (.int .i64) 1 [(0,1,10)]),
oM 12 2,
oD 13 (.sliceAll (.int .u64) 1 [(0,1,12)]),
oC 14 105 [9,11,13]])
.skip))
def J5_:List RD:=[]
theorem wd_:zl_ Tryz.prog Tryz.f161 wl_ J5_=true:=by kernel_rfl
def kO_:List AV->List Obj->Option (Prop × Res)
 | [.ptr 0 0,.int .i64 w,.int .u64 n],[.box [.own 1,.int .i64 room,.mapv 2,.int .i64 e],.row false (.int .u8) l,.map sq (.int .i64) (.int .i64) h]=>some (0<=room/\room<=1000000/\l.length<=1000000,.br (KM_ w) (.one (.tup []) [.box [.own 3,.int .i64 room,.mapv 2,.int .i64 (Ka_ [w] [n] l room (Wi_ w e))],.dead,.map sq (.int .i64) (.int .i64) h,.row false (.int .u8) (kk_ [w] [n] l room (Wi_ w e))]) (.one (.tup []) [.box [.own 1,.int .i64 room,.mapv 2,.int .i64 (Wi_ w e)],.row false (.int .u8) l,.map sq (.int .i64) (.int .i64) h]))
 | _,_=>none
def qT_:List AV->List Obj->Option (Prop × AV × List Obj)
 | [.ptr 0 0,.int .i64 w,.int .u64 n],[.box [.own 1,.int .i64 room,.mapv 2,.int .i64 e],.row false (.int .u8) l,.map sq (.int .i64) (.int .i64) h]=>some (0<=room/\room<=1000000/\l.length<=1000000,.tup [],[.box [.own 3,.int .i64 room,.mapv 2,.int .i64 (nmE w n l room e)],.dead,.map sq (.int .i64) (.int .i64) h,.row false (.int .u8) (nmB w n l room e)])
 | _,_=>none
theorem Jd_:zf_ Tryz.prog 161 (RcF kO_).sum:=by
 refine Gw_ Tryz.func161 wd_ (za_ (s:=RwF qF_) jj_ (za_ (s:=RwF zY_) Zn_ (ze_ _))) fun args objs p v e=>?_
 unfold kO_ at e
 split at e
 ·rename_i w n room e l sq h
  cases e
  refine ⟨rfl,fun hw ho hp=>?_⟩
  repeat'(intro t ht;first|(cases t<;>first|(cases ht;done)|(try simp only[zh_]at ht))|((first|refine zb_ ht ?_|refine ht ?_ ?_|refine ht.1 ?_ ?_|refine ht ?_)<;>clear ht))
  all_goals first
   | exact True.intro
   | exact hp
   | (rw [jr_ (by assumption)];exact ⟨rfl,rfl⟩)
   | (rw [js_ (by assumption)];exact ⟨rfl,rfl⟩)
 ·cases e
theorem Jf_:zf_ Tryz.prog 161 (RwF qT_).sum:=by
 refine yV_ Jd_ fun args objs p v o e=>?_
 unfold qT_ at e
 split at e
 ·rename_i w n room e l sq h
  cases e
  cases hb:KM_ w with
  | true=>
    refine ⟨_,_,rfl,jr_ hb,.inl ?_⟩
    unfold nmE nmB Wi_;rw [hb];rfl
  | false=>
    refine ⟨_,_,rfl,js_ hb,.inr ⟨0,1,[],[.int .i64 room,.mapv 2,.int .i64 (Wi_ w e)],.int .u8,l,rfl,rfl,?_⟩⟩
    unfold nmE nmB Wi_;rw [hb];rfl
 ·cases e
def j9_ (h:List (Int × Int)) (e:Int):Bool:=decide (e=0) && decide (h.length=0)
def ww_ (l:List Int) (h:List (Int × Int)) (e:Int):List Int:=if j9_ h e=true then l else []
def wx_ (h:List (Int × Int)) (e:Int):Int:=if e=0 then (if h.length=0 then 0 else 10001) else e
def JP_:IR:=
(sq (kr [0] [oD 2 (.mov (.c (.imm (.int .u8) []))),
oD 3 (.mov (cI 0))])
(sq (.block 0
(sq (.reg [oM 5 0,
oC 6 107 [5],
oM 4 6])
(.cond 4
(sq (.reg [oD 2 (.mov (.c (.imm (.int .u8) []))),
oD 3 (.mov (cI 10001))])
.ret)
(sq (kr [0] [oM 8 0,
oD 9 (.nilck 8),
oA 10 3 9,
oL 11 10,
oB 12 .neq 11 (cI 0),
oM 7 12])
(.cond 7
(sq (kd [0] [(oM 13 0,[]),
(oD 14 (.nilck 13),[]),
(oA 15 3 14,[]),
(oL 16 15,[]),
(oD 2 (.mov (.c (.imm (.int .u8) []))),[0,0,0,0]),
(oM 3 16,[])])
.ret)
(sq (kr [0] [oM 18 0,
oD 19 (.nilck 18),
oA 20 2 19,
oL 21 20,
oD 22 (.mlen 21),
oB 23 .gtr 22 (cI 0),
oM 17 23])
(.cond 17
(sq (kr [] [oD 2 (.mov (.c (.imm (.int .u8) []))),
oD 3 (.mov (cI 10001))])
.ret)
.skip)))))))
(sq (kr [0] [oM 24 0,
oD 25 (.nilck 24),
oA 26 0 25,
oL 27 26,
oC 28 68 [27],
oM 2 28,
oD 3 (.mov (cI 0))])
.ret)))
def Jr_:List RD:=[.tmp 2 true (some (.int .u8)),.tmp 3 true none]
theorem JD_:zl_ Tryz.prog Tryz.f50 JP_ Jr_=true:=by kernel_rfl
def ku_:List AV->List Obj->Option (Prop × Res)
 | [.ptr 0 0],[.box [.own 1,.int .i64 room,.mapv 2,.int .i64 e],.row false (.int .u8) l,.map sq (.int .i64) (.int .i64) h]=>some (l.length<=140737488355328/\h.length<=140737488355328,.br (j9_ h e) (.one (.tup [.imm (.int .u8) l,.int .i64 0]) [.box [.own 1,.int .i64 room,.mapv 2,.int .i64 e],.row true (.int .u8) l,.map sq (.int .i64) (.int .i64) h]) (.one (.tup [.imm (.int .u8) [],.int .i64 (wx_ h e)]) [.box [.own 1,.int .i64 room,.mapv 2,.int .i64 e],.row false (.int .u8) l,.map sq (.int .i64) (.int .i64) h]))
 | _,_=>none
def z9_:List AV->List Obj->Option (Prop × AV × List Obj)
 | [.ptr 0 0],[.box [.own 1,.int .i64 room,.mapv 2,.int .i64 e],.row false (.int .u8) l,.map sq (.int .i64) (.int .i64) h]=>some (l.length<=140737488355328/\h.length<=140737488355328,.tup [.imm (.int .u8) (ww_ l h e),.int .i64 (wx_ h e)],[.box [.own 1,.int .i64 room,.mapv 2,.int .i64 e],.dead,.map sq (.int .i64) (.int .i64) h])
 | _,_=>none
theorem jd_:zf_ Tryz.prog 50 (RcF ku_).sum:=by
 refine Gw_ Tryz.func50 JD_ (za_ (s:=RoF z8_) ZD_ (za_ (s:=RoF q8_) ky_ (ze_ _))) fun args objs p v e=>?_
 unfold ku_ at e
 split at e
 ·rename_i room e l sq h
  cases e
  change List (Int × Int) at h
  refine ⟨rfl,fun hw ho hp=>?_⟩
  repeat'(intro t ht;first|(cases t<;>first|(cases ht;done)|(try simp only[zh_]at ht))|((first|refine zb_ ht ?_|refine ht ?_ ?_|refine ht.1 ?_ ?_|refine ht ?_)<;>clear ht))
  all_goals first
   | exact True.intro
   | exact hp.1
   | exact hp.2
   | (have hb:j9_ h e=true:=by unfold j9_;simp only [Bool.and_eq_true,decide_eq_true_eq];omega
      rw [jr_ hb];exact ⟨rfl,rfl⟩)
   | (have hb:j9_ h e=false:=by unfold j9_;simp only [Bool.and_eq_false_iff,decide_eq_false_iff_not];omega
      rw [js_ hb]
      unfold wx_
      first
       | (rw [if_neg (by assumption)];exact ⟨rfl,rfl⟩)
       | (have h0:e=0:=by assumption
          have h1:¬ h.length=0:=by omega
          rw [if_pos h0,if_neg h1];exact ⟨rfl,rfl⟩))
 ·cases e
theorem ZE_:zf_ Tryz.prog 50 (RwF z9_).sum:=by
 refine zca_ jd_ fun args objs p v o e=>?_
 unfold z9_ at e
 split at e
 ·rename_i room e l sq h
  cases e
  change List (Int × Int) at h
  cases hb:j9_ h e with
  | true=>
    have h1:e=0:=by unfold j9_ at hb;simp_all
    have h2:h.length=0:=by unfold j9_ at hb;simp_all
    refine ⟨_,[.box [.own 1,.int .i64 room,.mapv 2,.int .i64 e],.row true (.int .u8) l,.map sq (.int .i64) (.int .i64) h],1,rfl,?_,by simp,rfl⟩
    rw [jr_ hb];unfold ww_ wx_;rw [if_pos hb,if_pos h1,if_pos h2];rfl
  | false=>
    refine ⟨_,[.box [.own 1,.int .i64 room,.mapv 2,.int .i64 e],.row false (.int .u8) l,.map sq (.int .i64) (.int .i64) h],1,rfl,?_,by simp,rfl⟩
    rw [js_ hb];unfold ww_;rw [hb];rfl
 ·cases e
end Go.Eng
