/- Parts of the proof: R4, R7, P1, T1, P2, P3. No condition. -/
import Derived.Test.YtimkdohmkfjfaaaGreatDoorProg
import Derived.Test.YtimkdohmkfjfaaaGreatDoorXK11
import Derived.KernelRfl
import Derived.Lib.BytesEntry
import Derived.Lib.Walk
import Derived.Laws.Externs
import Derived.Lib.Strings
import Derived.Lib.Slices
namespace Go.Eng
open Go.Proofs
set_option linter.unusedVariables false
set_option linter.unusedSimpArgs false
set_option maxRecDepth 100000
set_option maxHeartbeats 1000000
def qE_:List Int->List Int->List Int->Option (List Int)
 | [],_,b=>some b
 | n :: r,xs,b=>if n < 0 then qE_ r xs (b++zi_ 0 (0 - n)) else match xs with
   | []=>none
   | x :: ys=>if n < 8/\x.fdiv (2 ^ (min (8*n).toNat 64)) ≠ 0 then none else qE_ r ys (b++zi_ x n)
def jG_ (w xs:List Int):Option (List Int):=if Zr_ w=true/\ki_ w=xs.length then qE_ w xs [] else none
def Qb_ (w xs:List Int):List Int:=(jG_ w xs).getD []
def Kr_ (w xs:List Int):Bool:=(jG_ w xs).isSome
theorem ue_ {w:List Int} (i:Nat):∀ k,jU_ qL_ w i<=jU_ qL_ w (i+k)
 | 0=>Int.le_refl _
 | k+1=>by
   have ih:=ue_ (w:=w) i k
   by_cases h:i+k < w.length
   ·rw [show i+(k+1)=(i+k)+1 by omega,QQ_ qL_ h]
    have:0<=qL_ (w.getD (i+k) 0):=by unfold qL_;split<;>omega
    omega
   ·rw [jT_ qL_ (show w.length<=i+(k+1) by omega)]
    rwa [jT_ qL_ (show w.length<=i+k by omega)] at ih
theorem zbp_ {w:List Int} {i:Nat} (h:i < w.length) (hp:0 < w.getD i 0):jU_ qL_ w i+1<=(w.map qL_).sum:=by
 have h1:=ue_ (w:=w) (i+1) w.length
 rw [QQ_ qL_ h,jT_ qL_ (show w.length<=i+1+w.length by omega)] at h1
 have:qL_ (w.getD i 0)=1:=if_pos hp
 omega
theorem By_ {w xs b:List Int} {i k:Nat} (h:i < w.length) (hn:w.getD i 0 < 0):qE_ (w.drop i) (xs.drop k) b=qE_ (w.drop (i+1)) (xs.drop k) (b++zi_ 0 (0 - w.getD i 0)):=by
 rw [zJ_ h 0];exact if_pos hn
theorem bi_ {w xs b:List Int} {i k:Nat} (h:i < w.length) (hn:¬ w.getD i 0 < 0) (h2:k < xs.length) (h8:w.getD i 0 < 8) (hx:¬ (xs.getD k 0).fdiv (2 ^ (min (8*w.getD i 0).toNat 64))=0):qE_ (w.drop i) (xs.drop k) b=none:=by
 rw [zJ_ h 0,zJ_ h2 0]
 show (if w.getD i 0 < 0 then _ else _)=_
 rw [if_neg hn]
 exact if_pos ⟨h8,hx⟩
theorem bh_ {w xs b:List Int} {i k:Nat} (h:i < w.length) (hn:¬ w.getD i 0 < 0) (h2:k < xs.length) (h8:¬ (w.getD i 0 < 8/\(xs.getD k 0).fdiv (2 ^ (min (8*w.getD i 0).toNat 64)) ≠ 0)):qE_ (w.drop i) (xs.drop k) b=qE_ (w.drop (i+1)) (xs.drop (k+1)) (b++zi_ (xs.getD k 0) (w.getD i 0)):=by
 rw [zJ_ h 0,zJ_ h2 0]
 show (if w.getD i 0 < 0 then _ else _)=_
 rw [if_neg hn]
 exact if_neg h8
theorem K8_ {α:Type} {l:List α} {k:Nat} {d:α}:(l.drop k).getD 0 d=l.getD k d:=by
 rw [List.getD_eq_getElem?_getD,List.getElem?_drop,Nat.add_zero,<- List.getD_eq_getElem?_getD]
def hF_:IR:=
(sq (kr [0,1] [oD 4 (.mov (.c (.imm (.int .u8) []))),
oD 5 (.mov cF)])
(sq (sq (kr [0,1] [oM 10 0,
oC 11 164 [10],
oD 12 (.un .not 11),
oM 13 12,
oF 13 14 (.mov 0),
oF 13 15 (.call false (.f 151) [14]),
oF 13 16 (.mov 1),
oF 13 17 (.len 16),
oF 13 18 (.bin .neq 15 17),
oP 19 13 cT 18])
(.cond 19
(sq (kr [] [oD 4 (.mov (.c (.imm (.int .u8) []))),
oD 5 (.mov cF)])
.ret)
.skip))
(sq (kr [0,1] [oM 20 0,
oC 21 141 [20],
oD 22 (.mkrow (.int .u8) 1 (0:Int) (cI 0) 21),
oM 6 22])
(sq (sq (.reg [oM 23 0,
oE 24 23,
oD 25 (.mov (cI 0))])
(.block 0
(.loop
(sq (kr [1,6,23,24,25] [oB 26 .lss 25 24])
(sq (.cond 26
.skip
(.exit 0))
(sq (.block 1
(sq (.reg [oI 27 1 23 25,
oL 28 27,
oM 8 28])
(sq (sq (.reg [oM 29 8,
oB 30 .lss 29 (cI 0)])
(.cond 30
(sq (kr [1,6,8,23,24,25] [oM 31 6,
oM 32 8,
oD 33 (.un .neg 32),
oD 34 (.call true (.f 176) [31,(.c (.int .u64 0)),33]),
oM 6 34])
(.exit 1))
.skip))
(sq (kr [1,6,8,23,24,25] [oM 35 1,
oD 36 (.indexSl 1 35 (cI 0)),
oL 37 36,
oM 9 37])
(sq (sq (kr [1,6,8,9,23,24,25] [oM 38 8,
oB 39 .lss 38 (cI 8),
oM 40 39,
oT 40 41 (.mov 9),
oT 40 42 (.mov 8),
oT 40 43 (.bin .mul (cI 8) 42),
oT 40 44 (.bin .shr 41 43),
oT 40 45 (.bin .neq 44 (.c (.int .u64 0))),
oP 46 40 45 cF])
(.cond 46
(sq (kr [] [oD 4 (.mov (.c (.imm (.int .u8) []))),
oD 5 (.mov cF)])
.ret)
.skip))
(kd [1,6,8,9,23,24,25] [(oM 47 6,[]),
(oM 48 9,[0]),
(oM 49 8,[0,0]),
(oD 50 (.call true (.f 176) [47,48,49]),[]),
(oM 51 1,[0,0,0,0]),
(oD 52 (.slice 1 51 (some (cI 1)) none none),[1,0,0,0]),
(oM 6 50,[0,0]),
(oM 1 52,[])]))))))
(kr [1,6,23,24,25] [oB 53 .add 25 (cI 1),
oM 25 53])))))))
(sq (kr [6] [oM 54 6,
oM 4 54,
oD 5 (.mov cT)])
.ret)))))
def G9_:List RD:=[.tmp 4 true (some (.int .u8)),.tmp 5 true none]
theorem hi_:zo_ Tryz.prog Tryz.f149 hF_ G9_=true:=by kernel_rfl
def yX_:List AV->List Obj->Option (Prop × AV)
 | [.imm (.int .i64) w,.imm (.int .u64) xs],[]=>some ((True,.tup [.imm (.int .u8) (Qb_ w xs),.bool (Kr_ w xs)]))
 | _,_=>none
theorem go_:ze_ Tryz.prog 149 (RoF yX_).sum:=by
 refine zz_ Tryz.func149 hi_ (zb_ (s:=RoF qN_) Qk_ (zb_ (s:=RoF WF_) VK_ (zb_ (s:=RoF je_) Jq_ (zb_ (s:=RwF yW_) gn_ (zf_ _))))) fun args objs p v e=>?_
 unfold yX_ at e
 split at e
 ·rename_i w xs
  cases e
  refine ⟨rfl,fun hw ho hp=>?_⟩
  change List Int at w
  change List Int at xs
  have hx:xs.length<=maxLen:=(hw (.imm (.int .u64) xs) (by simp)).2
  unfold maxLen at hx
  have hz:=wS_ w
  repeat'(intro t ht;first|(cases t<;>first|(cases ht;done)|(try simp only[zh_]at ht))|((first|refine za_ ht ?_|refine ht ?_ ?_|refine ht.1 ?_ ?_|refine ht ?_)<;>clear ht))
  all_goals first
   | exact True.intro
   | (intro r h1 h2;clear h1;refine h2 ⟨[],[1,6,23,24,25],Nat × Nat × List Int,(fun a=>a.1<=w.length/\(a.2.2.length:Int)=jU_ zp_ w a.1/\jU_ qL_ w a.1=a.2.1/\qE_ w xs []=qE_ (w.drop a.1) (xs.drop a.2.1) a.2.2),fun a=>[.imm (.int .u64) (xs.drop a.2.1),.own 0,.imm (.int .i64) w,.int .i64 w.length,.int .i64 a.1],fun a=>[.row false (.int .u8) a.2.2],fun a=>w.length - a.1,⟨(0,0,[]),⟨Nat.zero_le _,rfl,rfl,rfl⟩,rfl,rfl⟩,?_⟩;clear h2)
   | ((try simp only [zI_,zK_,zn_] at*);omega)
   | (have hn:¬ (Zr_ w=true/\ki_ w=xs.length):=fun h=>by simp_all
      refine ⟨?_,rfl⟩;unfold Qb_ Kr_ jG_;rw [if_neg hn];rfl)
  rintro ⟨i,k,b⟩ ⟨hi,hb,hk,he⟩
  dsimp only at hi hb hk he
  have hr:Zr_ w=true:=by assumption
  have hc:ki_ w=xs.length:=by assumption
  have hsum:(w.map qL_).sum=xs.length:=by unfold ki_ at hc;rwa [if_pos hr] at hc
  have hl:=(Zu_.1 hr).1
  have hs:=vm_ hr i
  have h1:=gl_ hr i
  repeat'(intro t ht;first|(cases t<;>first|(cases ht;done)|(try simp only[zh_]at ht))|((first|refine za_ ht ?_|refine ht ?_ ?_|refine ht.1 ?_ ?_|refine ht ?_)<;>clear ht))
  all_goals first
   | ((try simp only [zI_,zK_,zn_] at*);omega)
   | (have hge:w.length<=i:=by omega
      rw [List.drop_of_length_le hge] at he
      have hf:jG_ w xs=some b:=by unfold jG_;rw [if_pos ⟨hr,hc⟩,he];rfl
      refine ⟨?_,rfl⟩;unfold Qb_ Kr_;rw [hf];rfl)
   | skip
  all_goals have hlt:i < w.length:=by omega
  all_goals have hkk:=(Zu_.1 hr).2 _ (zv_ (α:=Int) hlt 0)
  all_goals first
   | ((try simp only [zI_,zK_,zn_] at*);rw [List.length_drop];omega)
   | ((try simp only [zI_,zK_,zn_] at*);omega)
   | (have hn:w.getD i 0 < 0:=by assumption
      have ha:=jd_ hn
      have h0:qL_ (w.getD i 0)=0:=if_neg (by omega)
      have hbl:=z1_ (n:=0) (w:=0 - w.getD i 0) (by omega)
      refine ⟨(i+1,k,b++zi_ 0 (0 - w.getD i 0)),⟨hlt,?_,?_,?_⟩,by dsimp only;omega,rfl,rfl⟩
      ·rw [QQ_ zp_ hlt,ha];simp only [List.length_append];omega
      ·rw [QQ_ qL_ hlt,h0];dsimp only;omega
      ·rw [he];exact By_ hlt hn)
   | (have hn:¬ w.getD i 0 < 0:=by assumption
      have hlt2:=zbp_ (w:=w) (i:=i) hlt (by omega)
      have h2:k < xs.length:=by omega
      first
       | ((try simp only [zI_,zK_,zn_] at*);rw [List.length_drop];omega)
       | (have h8:w.getD i 0 < 8:=by assumption
          have hx:¬ ((xs.drop k).getD 0 0).fdiv (2 ^ (min (8*w.getD i 0).toNat 64))=0:=by assumption
          rw [K8_] at hx
          have hf:jG_ w xs=none:=by unfold jG_;rw [if_pos ⟨hr,hc⟩,he];exact bi_ hlt hn h2 h8 hx
          refine ⟨?_,rfl⟩;unfold Qb_ Kr_;rw [hf];rfl)
       | (have h8:¬ (w.getD i 0 < 8/\(xs.getD k 0).fdiv (2 ^ (min (8*w.getD i 0).toNat 64)) ≠ 0):=fun h=>by
           first
            | (exact absurd h.1 (by assumption))
            | (have hx:((xs.drop k).getD 0 0).fdiv (2 ^ (min (8*w.getD i 0).toNat 64))=0:=by assumption
               rw [K8_] at hx
               exact h.2 hx)
          have ha:=J0_ hn
          have h0:qL_ (w.getD i 0)=1:=if_pos (by omega)
          have hbl:=z1_ (n:=xs.getD k 0) (w:=w.getD i 0) (by omega)
          refine ⟨(i+1,k+1,b++zi_ (xs.getD k 0) (w.getD i 0)),⟨hlt,?_,?_,?_⟩,by dsimp only;omega,?_,?_⟩
          ·rw [QQ_ zp_ hlt,ha];simp only [List.length_append];omega
          ·rw [QQ_ qL_ hlt,h0];dsimp only;omega
          ·rw [he];exact bh_ hlt hn h2 h8
          ·dsimp only;rw [<- List.drop_drop];rfl
          ·dsimp only;rw [<- K8_ (l:=xs) (k:=k)];rfl))
 ·cases e
def qg_:List Int->List Int->List Int->List Int × Int
 | [],_,o=>(o,0)
 | n :: r,b,o=>if (b.length:Int) < zp_ n then ([],1) else if 0 < n then qg_ r (b.drop (zp_ n).toNat) (o++[zs_ (b.take (zp_ n).toNat)]) else if zY_ (b.take (zp_ n).toNat)=true then qg_ r (b.drop (zp_ n).toNat) o else ([],2)
def qY_ (w b:List Int):List Int × Int:=if Zr_ w=true then qg_ w b [] else ([],2)
def KV_ (w b:List Int):List Int:=(qY_ w b).1
def Q3_ (w b:List Int):Int:=(qY_ w b).2
theorem v5_ {w b o:List Int} {i:Nat} (h:i < w.length) (h1:(b.length:Int) < zp_ (w.getD i 0)):qg_ (w.drop i) b o=([],1):=by
 rw [zJ_ h 0];exact if_pos h1
theorem Gk_ {w b o:List Int} {i:Nat} (h:i < w.length) (h1:¬ (b.length:Int) < zp_ (w.getD i 0)) (h2:0 < w.getD i 0):qg_ (w.drop i) b o=qg_ (w.drop (i+1)) (b.drop (zp_ (w.getD i 0)).toNat) (o++[zs_ (b.take (zp_ (w.getD i 0)).toNat)]):=by
 rw [zJ_ h 0]
 show (if (b.length:Int) < zp_ (w.getD i 0) then _ else _)=_
 rw [if_neg h1];exact if_pos h2
theorem uz_ {w b o:List Int} {i:Nat} (h:i < w.length) (h1:¬ (b.length:Int) < zp_ (w.getD i 0)) (h2:¬ 0 < w.getD i 0) (h3:zY_ (b.take (zp_ (w.getD i 0)).toNat)=true):qg_ (w.drop i) b o=qg_ (w.drop (i+1)) (b.drop (zp_ (w.getD i 0)).toNat) o:=by
 rw [zJ_ h 0]
 show (if (b.length:Int) < zp_ (w.getD i 0) then _ else _)=_
 rw [if_neg h1]
 show (if 0 < w.getD i 0 then _ else _)=_
 rw [if_neg h2];exact if_pos h3
theorem Gj_ {w b o:List Int} {i:Nat} (h:i < w.length) (h1:¬ (b.length:Int) < zp_ (w.getD i 0)) (h2:¬ 0 < w.getD i 0) (h3:zY_ (b.take (zp_ (w.getD i 0)).toNat)=false):qg_ (w.drop i) b o=([],2):=by
 rw [zJ_ h 0]
 show (if (b.length:Int) < zp_ (w.getD i 0) then _ else _)=_
 rw [if_neg h1]
 show (if 0 < w.getD i 0 then _ else _)=_
 rw [if_neg h2];exact if_neg (by rw [h3];simp)
def hG_:IR:=
(sq (kr [0,1] [oD 4 (.nilrow (.int .u64)),
oD 5 (.mov (cI 0))])
(sq (sq (.reg [oM 10 0,
oC 11 164 [10],
oD 12 (.un .not 11)])
(.cond 12
(sq (.reg [oD 4 (.nilrow (.int .u64)),
oD 5 (.mov (cI 2))])
.ret)
.skip))
(sq (kr [0,1] [oD 6 (.nilrow (.int .u64))])
(sq (sq (.reg [oM 13 0,
oE 14 13,
oD 15 (.mov (cI 0))])
(.block 0
(.loop
(sq (kr [1,6,13,14,15] [oB 16 .lss 15 14])
(sq (.cond 16
.skip
(.exit 0))
(sq (.block 1
(sq (.reg [oI 17 1 13 15,
oL 18 17,
oM 8 18])
(sq (kr [1,6,8,13,14,15] [oM 19 8,
oM 20 8,
oD 21 (.un .neg 20),
oD 22 (.minmax true 19 21),
oM 9 22])
(sq (.block 2
(sq (kr [1,6,8,9,13,14,15] [oM 24 1,
oE 25 24,
oM 26 9,
oB 27 .lss 25 26,
oM 23 27])
(.cond 23
(sq (.reg [oD 4 (.nilrow (.int .u64)),
oD 5 (.mov (cI 1))])
.ret)
(sq (.reg [oM 29 8,
oB 30 .gtr 29 (cI 0),
oM 28 30])
(.cond 28
(kr [1,6,9,13,14,15] [oM 31 6,
oM 32 1,
oM 33 9,
oD 34 (.slice 1 32 none (some 33) none),
oC 35 165 [34],
oD 36 (.sliceAll (.int .u64) 1 [(0,1,35)]),
oD 37 (.append (.int .u64) 8 31 36),
oM 6 37])
(sq (kr [1,6,9,13,14,15] [oM 39 1,
oM 40 9,
oD 41 (.slice 1 39 none (some 40) none),
oC 42 166 [41],
oD 43 (.un .not 42),
oM 38 43])
(.cond 38
(sq (kr [] [oD 4 (.nilrow (.int .u64)),
oD 5 (.mov (cI 2))])
.ret)
.skip)))))))
(kr [1,6,9,13,14,15] [oM 44 1,
oM 45 9,
oD 46 (.slice 1 44 (some 45) none none),
oM 1 46])))))
(kr [1,6,13,14,15] [oB 47 .add 15 (cI 1),
oM 15 47])))))))
(sq (kr [6] [oM 48 6,
oM 4 48,
oD 5 (.mov (cI 0))])
.ret)))))
def ha_:List RD:=[.tmp 4 true (some (.int .u64)),.tmp 5 true none]
theorem hj_:zo_ Tryz.prog Tryz.f140 hG_ ha_=true:=by kernel_rfl
def yY_:List AV->List Obj->Option (Prop × AV)
 | [.imm (.int .i64) w,.imm (.int .u8) b],[]=>some ((True,.tup [.imm (.int .u64) (KV_ w b),.int .i64 (Q3_ w b)]))
 | _,_=>none
theorem gp_:ze_ Tryz.prog 140 (RoF yY_).sum:=by
 refine zz_ Tryz.func140 hj_ (zb_ (s:=RoF qN_) Qk_ (zb_ (s:=RoF KX_) wQ_ (zb_ (s:=RoF J2_) x4_ (zf_ _)))) fun args objs p v e=>?_
 unfold yY_ at e
 split at e
 ·rename_i w b
  cases e
  refine ⟨rfl,fun hw ho hp=>?_⟩
  change List Int at w
  change List Int at b
  have hb:b.length<=maxLen:=(hw (.imm (.int .u8) b) (by simp)).2
  unfold maxLen at hb
  repeat'(intro t ht;first|(cases t<;>first|(cases ht;done)|(try simp only[zh_]at ht))|((first|refine za_ ht ?_|refine ht ?_ ?_|refine ht.1 ?_ ?_|refine ht ?_)<;>clear ht))
  all_goals first
   | exact True.intro
   | (intro r h1 h2;clear h1;refine h2 ⟨[],[1,6,13,14,15],Nat × List Int × List Int,(fun a=>a.1<=w.length/\a.2.1.length<=b.length/\a.2.2.length<=a.1/\qg_ w b []=qg_ (w.drop a.1) a.2.1 a.2.2),fun a=>[.imm (.int .u8) a.2.1,.own 0,.imm (.int .i64) w,.int .i64 w.length,.int .i64 a.1],fun a=>[.row false (.int .u64) a.2.2],fun a=>w.length - a.1,⟨(0,b,[]),⟨Nat.zero_le _,Nat.le_refl _,Nat.zero_le _,rfl⟩,rfl,rfl⟩,?_⟩;clear h2)
   | (have hr:Zr_ w=false:=by assumption
      have hf:qY_ w b=([],2):=by unfold qY_;rw [hr];rfl
      refine ⟨?_,rfl⟩;unfold KV_ Q3_;rw [hf])
  rintro ⟨i,c,o⟩ ⟨hi,hc,ho,he⟩
  dsimp only at hi hc ho he
  have hr:Zr_ w=true:=by assumption
  have hl:=(Zu_.1 hr).1
  repeat'(intro t ht;first|(cases t<;>first|(cases ht;done)|(try simp only[zh_]at ht))|((first|refine za_ ht ?_|refine ht ?_ ?_|refine ht.1 ?_ ?_|refine ht ?_)<;>clear ht))
  all_goals first
   | ((try simp only [zI_,zK_,zn_] at*);omega)
   | (have hge:w.length<=i:=by omega
      rw [List.drop_of_length_le hge] at he
      have hf:qY_ w b=(o,0):=by unfold qY_;rw [if_pos hr,he];rfl
      refine ⟨?_,rfl⟩;unfold KV_ Q3_;rw [hf];done)
   | skip
  all_goals have hlt:i < w.length:=by omega
  all_goals have hkk:=(Zu_.1 hr).2 _ (zv_ (α:=Int) hlt 0)
  all_goals have ha:=J1_ (n:=w.getD i 0)
  all_goals have hA:(if 0 - w.getD i 0 > w.getD i 0 then 0 - w.getD i 0 else w.getD i 0)=zp_ (w.getD i 0):=rfl
  all_goals first
   | exact True.intro
   | ((try simp only [zI_,zK_,zn_] at*);omega)
   | (have h1:(c.length:Int) < zp_ (w.getD i 0):=by assumption
      have hf:qY_ w b=([],1):=by unfold qY_;rw [if_pos hr,he];exact v5_ hlt h1
      refine ⟨?_,rfl⟩;unfold KV_ Q3_;rw [hf];done)
   | (have h1:¬ (c.length:Int) < zp_ (w.getD i 0):=by assumption
      first
       | (have h2:¬ 0 < w.getD i 0:=by assumption
          first
           | (have h3:zY_ (c.take (zp_ (w.getD i 0)).toNat)=true:=by assumption
              refine ⟨(i+1,c.drop (zp_ (w.getD i 0)).toNat,o),⟨hlt,?_,by dsimp only;omega,?_⟩,by dsimp only;omega,rfl,rfl⟩
              ·dsimp only;rw [List.length_drop];omega
              ·rw [he];exact uz_ hlt h1 h2 h3)
           | (have h3:zY_ (c.take (zp_ (w.getD i 0)).toNat)=false:=by assumption
              have hf:qY_ w b=([],2):=by unfold qY_;rw [if_pos hr,he];exact Gj_ hlt h1 h2 h3
              refine ⟨?_,rfl⟩;unfold KV_ Q3_;rw [hf];done))
       | (have h2:0 < w.getD i 0:=by assumption
          first
           | (show (c.take (zp_ (w.getD i 0)).toNat).length<=8;rw [List.length_take];omega)
           | (simp only [Qx_,List.length_append,List.length_cons,List.length_nil];omega)
           | (refine ⟨(i+1,c.drop (zp_ (w.getD i 0)).toNat,o++[zs_ (c.take (zp_ (w.getD i 0)).toNat)]),⟨hlt,?_,?_,?_⟩,by dsimp only;omega,rfl,rfl⟩
              ·dsimp only;rw [List.length_drop];omega
              ·simp only [List.length_append,List.length_cons,List.length_nil];omega
              ·rw [he];exact Gk_ hlt h1 h2)))
 ·cases e
theorem wN_ {α:Type} {a b:List α} {d:α} {i:Nat} (h:a.take i=b.take i) (hi:i < a.length) (hl:a.length=b.length) (e:a.getD i d=b.getD i d):a.take (i+1)=b.take (i+1):=by
 have hb:i < b.length:=by omega
 rw [List.getD_eq_getElem?_getD,List.getD_eq_getElem?_getD,List.getElem?_eq_getElem hi,List.getElem?_eq_getElem hb] at e
 rw [List.take_succ_eq_append_getElem hi,List.take_succ_eq_append_getElem hb,h,show a[i]=b[i] from e]
theorem y4_ {α:Type} {a b:List α} {i:Nat} (h:a.take i=b.take i) (hi:a.length<=i) (hl:a.length=b.length):a=b:=by
 rwa [List.take_of_length_le hi,List.take_of_length_le (by omega)] at h
theorem gj_ {α:Type} {a b:List α} {d:α} {i:Nat} (e:¬ a.getD i d=b.getD i d):a ≠ b:=fun h=>e (by rw [h])
def UN_:IR:=
(sq (kr [0,1] [oD 4 (.mov cF)])
(sq (sq (kr [0,1] [oM 6 0,
oE 7 6,
oM 8 1,
oE 9 8,
oB 10 .neq 7 9])
(.cond 10
(sq (.reg [oD 4 (.mov cF)])
.ret)
.skip))
(sq (sq (kr [0,1] [oD 5 (.mov (cI 0))])
(.block 0
(.loop
(sq (sq (kr [0,1,5] [oM 11 5,
oM 12 0,
oE 13 12,
oB 14 .lss 11 13])
(.cond 14
.skip
(.exit 0)))
(sq (.block 1
(sq (kd [0,1,5] [(oM 17 0,[]),
(oM 18 5,[0]),
(oI 19 1 17 18,[]),
(oL 20 19,[]),
(oM 21 1,[0,0,0,0]),
(oM 22 5,[0,0,0,0,0]),
(oI 23 1 21 22,[2,0,0,0]),
(oL 24 23,[3,0,0,0]),
(oB 25 .neq 20 24,[])])
(.cond 25
(sq (kr [] [oD 4 (.mov cF)])
.ret)
.skip)))
(kr [0,1,5] [oM 15 5,
oB 16 .add 15 (cI 1),
oM 5 16]))))))
(sq (kr [] [oD 4 (.mov cT)])
.ret))))
def Uj_:List RD:=[.tmp 4 true none]
theorem Uw_:zo_ Tryz.prog Tryz.f20 UN_ Uj_=true:=by kernel_rfl
def Kl_:List AV->List Obj->Option (Prop × AV)
 | [.imm (.int .u8) a,.imm (.int .u8) b],[]=>some ((True,.bool (decide (a=b))))
 | _,_=>none
theorem jE_:ze_ Tryz.prog 20 (RoF Kl_).sum:=by
 refine zz_ Tryz.func20 Uw_ (zf_ _) fun args objs p v e=>?_
 unfold Kl_ at e
 split at e
 ·rename_i a b
  cases e
  refine ⟨rfl,fun hw ho hp=>?_⟩
  change List Int at a
  change List Int at b
  have hl:a.length<=maxLen:=(hw (.imm (.int .u8) a) (by simp)).2
  unfold maxLen at hl
  repeat'(intro t ht;first|(cases t<;>first|(cases ht;done)|(try simp only[zh_]at ht))|((first|refine za_ ht ?_|refine ht ?_ ?_|refine ht.1 ?_ ?_|refine ht ?_)<;>clear ht))
  all_goals first
   | (have hne:a ≠ b:=fun h=>(by assumption:¬ (a.length:Int)=b.length) (by rw [h])
      refine ⟨?_,rfl⟩;rw [decide_eq_false hne];done)
   | (intro r h1 h2;clear h1;refine h2 ⟨[],[0,1,5],Nat,(fun i=>i<=a.length/\a.take i=b.take i),fun i=>[.imm (.int .u8) a,.imm (.int .u8) b,.int .i64 i],fun _=>[],fun i=>a.length - i,⟨0,⟨Nat.zero_le _,rfl⟩,rfl,rfl⟩,?_⟩;clear h2)
  rintro i ⟨hi,he⟩
  have hl2:a.length=b.length:=by omega
  repeat'(intro t ht;first|(cases t<;>first|(cases ht;done)|(try simp only[zh_]at ht))|((first|refine za_ ht ?_|refine ht ?_ ?_|refine ht.1 ?_ ?_|refine ht ?_)<;>clear ht))
  all_goals first
   | ((try simp only [zI_,zK_,zn_] at*);omega)
   | (have hge:a.length<=i:=by omega
      have e:=y4_ he hge hl2
      refine ⟨?_,rfl⟩;rw [decide_eq_true e];done)
   | (have hne:a ≠ b:=gj_ (d:=0) (i:=i) (by assumption)
      refine ⟨?_,rfl⟩;rw [decide_eq_false hne];done)
   | (have hlt:i < a.length:=by omega
      exact ⟨i+1,⟨hlt,wN_ he hlt hl2 (d:=0) (by assumption)⟩,by (try simp only [zI_,zK_,zn_] at*);omega,rfl,rfl⟩)
 ·cases e
theorem GC_ (w:Int):List.replicate w.toNat 0=zi_ 0 w:=by
 have:∀ j:Nat,Ku_ 0 w j=0:=fun j=>by unfold Ku_;rw [Int.zero_fdiv];rfl
 unfold zi_ kM_
 simp only [this,List.map_const',List.length_range]
abbrev P8:=Int × Int × Int × Int × Int × Int × Int × Int × Unit
abbrev PV:=Int × Int × List Int × P8 × Unit
instance:DecidableEq (Int × Int × Int × Int × Unit):=inferInstance
instance:DecidableEq P8:=inferInstance
instance:DecidableEq PV:=inferInstance
theorem GM_ {α:Type} {f:α->Bool} {l:List α} {i:Nat} {d:α} (h:i < l.length) (ht:(l.take i).all f=true) (hd:f (l.getD i d)=true):(l.take (i+1)).all f=true:=by
 rw [List.take_succ_eq_append_getElem h,List.all_append,ht,Bool.true_and,List.all_cons,List.all_nil,Bool.and_true]
 rwa [List.getD_eq_getElem?_getD,List.getElem?_eq_getElem h] at hd
theorem HX_ {α:Type} {f:α->Bool} {l:List α} {i:Nat} (h:l.length<=i) (ht:(l.take i).all f=true):l.all f=true:=by
 rwa [List.take_of_length_le h] at ht
theorem h4_ {α:Type} {f:α->Bool} {l:List α} {i:Nat} {d:α} (h:i < l.length) (hd:f (l.getD i d)=false):l.all f=false:=by
 rw [List.all_eq_false]
 refine ⟨l.getD i d,zv_ h d,?_⟩
 rw [hd];decide
def okc (lo c:Int):Bool:=decide (lo<=c) && decide (c<=126)
theorem zcH_ {lo c:Int}:okc lo c=true ↔ lo<=c/\c<=126:=by unfold okc;simp
theorem BN_ {lo c:Int}:okc lo c=false ↔ (c < lo\/126 < c):=by unfold okc;simp;omega
def yx_ (lo:Int):List Int->Int->Int
 | [],_=>-1
 | c :: r,i=>if okc lo c=true then yx_ lo r (i+1) else i
theorem zbM_ {lo:Int} {s:List Int} {p:Nat} (h:p < s.length) (hk:okc lo (s.getD p 0)=true):yx_ lo (s.drop p) p=yx_ lo (s.drop (p+1)) ((p+1:Nat):Int):=by
 rw [zJ_ h 0];exact if_pos hk
theorem zbN_ {lo:Int} {s:List Int} {p:Nat} (h:p < s.length) (hk:okc lo (s.getD p 0)=false):yx_ lo (s.drop p) p=p:=by
 rw [zJ_ h 0];exact if_neg (by rw [hk];decide)
theorem BP_ {lo:Int} {s:List Int} {p:Nat} (h:s.length<=p):yx_ lo (s.drop p) p=-1:=by
 rw [List.drop_of_length_le h];rfl
theorem gQ_ {lo:Int}:∀ (s:List Int) (i:Int),0<=i->(0<=yx_ lo s i ↔ s.all (okc lo)=false)
 | [],i,h=>by simp [yx_]
 | c :: r,i,h=>by
   unfold yx_
   cases hk:okc lo c with
   | true=>
     rw [if_pos rfl,gQ_ r (i+1) (by omega),List.all_cons,hk,Bool.true_and]
   | false=>
     rw [if_neg (by decide),List.all_cons,hk,Bool.false_and]
     simp [h]
theorem Bp_ {s:List Int} {p:Nat} (h:(s.getD p 0).toNat < 128):KF_ s p=((s.getD p 0).toNat,1):=by
 unfold KF_;simp only [Nat.add_zero];rw [if_pos (by omega)]
theorem Bq_ {s:List Int} {p:Nat} (h:¬ (s.getD p 0).toNat < 128):128<=(KF_ s p).1:=by
 unfold KF_;simp only [Nat.add_zero];rw [if_neg (by omega)]
 have e:128<=Utf8.runeError:=by decide
 repeat' (first | split | assumption)
 all_goals (try simp only [Bool.and_eq_true,decide_eq_true_eq,beq_iff_eq] at*)
 all_goals omega
theorem Bo_ {lo:Int} {s:List Int} {p:Nat} (hx:0<=s.getD p 0):okc lo (KF_ s p).1=okc lo (s.getD p 0)/\(okc lo (s.getD p 0)=true->(KF_ s p).2=1):=by
 by_cases h:(s.getD p 0).toNat < 128
 ·rw [Bp_ h]
  have e:((s.getD p 0).toNat:Int)=s.getD p 0:=by omega
  dsimp only;rw [e];exact ⟨rfl,fun _=>rfl⟩
 ·have h1:=Bq_ h
  have h2:okc lo (KF_ s p).1=false:=BN_.2 (by omega)
  have h3:okc lo (s.getD p 0)=false:=BN_.2 (by omega)
  rw [h2,h3];exact ⟨rfl,fun h=>by cases h⟩
def xJ_:IR:=
(sq (kr [0] [oD 2 (.mov cF)])
(sq (kr [0] [oM 3 0,
oB 4 .leq 3 (.c (.int .i32 32)),
oM 5 4,
oF 5 6 (.mov 0),
oF 5 7 (.bin .gtr 6 (.c (.int .i32 126))),
oP 8 5 cT 7,
oM 2 8])
.ret))
def xw_:List RD:=[.tmp 2 true none]
theorem xC_:zo_ Tryz.prog Tryz.f156 xJ_ xw_=true:=by kernel_rfl
def qD_:List AV->List Obj->Option (Prop × AV)
 | [.int .i32 c],[]=>some ((True,.bool (!okc 33 c)))
 | _,_=>none
theorem KE_:ze_ Tryz.prog 156 (RoF qD_).sum:=by
 refine zz_ Tryz.func156 xC_ (zf_ _) fun args objs p v e=>?_
 unfold qD_ at e
 split at e
 ·rename_i c
  cases e
  refine ⟨rfl,fun hw ho hp=>?_⟩
  repeat'(intro t ht;first|(cases t<;>first|(cases ht;done)|(try simp only[zh_]at ht))|((first|refine za_ ht ?_|refine ht ?_ ?_|refine ht.1 ?_ ?_|refine ht ?_)<;>clear ht))
  all_goals first
   | (have h:okc 33 c=false:=BN_.2 (by omega)
      refine ⟨?_,rfl⟩;rw [h];rfl)
   | (refine ⟨?_,rfl⟩;unfold okc;rw [decide_eq_true (show (33:Int)<=c by omega),Bool.true_and];congr 1;rw [<- decide_not];congr 1;exact propext (by omega))
 ·cases e
def Wj_:IR:=
(sq (kr [0,1,2] [oD 6 (.mov (cI 0))])
(sq (sq (.reg [oM 9 0,
oD 10 (.rngs 9)])
(.block 0
(.loop
(sq (kr [1,2,10] [oD 11 (.nxts 10),
oX 12 11 0])
(sq (.cond 12
.skip
(.exit 0))
(.block 1
(sq (.reg [oX 13 11 1,
oX 14 11 2,
oM 7 13,
oM 8 14])
(sq (kr [1,2,7,8,10] [oM 15 1,
oM 16 8,
oD 17 (.call false 15 [16]),
oM 18 2,
oD 19 (.eqb false 17 18)])
(.cond 19
(sq (.reg [oM 20 7,
oM 6 20])
.ret)
.skip)))))))))
(sq (kr [] [oD 6 (.mov (cI (-1)))])
.ret)))
def wY_:List RD:=[.tmp 6 true none]
theorem w7_:zo_ Tryz.prog Tryz.f216 Wj_ wY_=true:=by kernel_rfl
def Qc_:List AV->List Obj->Option (Prop × AV)
 | [.str s,.fn 156 [] [],.bool t],[]=>some ((t=true,.int .i64 (yx_ 33 s 0)))
 | _,_=>none
theorem J9_:ze_ Tryz.prog 216 (RoF Qc_).sum:=by
 refine zz_ Tryz.func216 w7_ (zb_ (s:=RoF qD_) KE_ (zf_ _)) fun args objs p v e=>?_
 unfold Qc_ at e
 split at e
 ·rename_i s t
  cases e
  refine ⟨rfl,fun hw ho hp=>?_⟩
  obtain ⟨hb,hl⟩:(∀ x ∈ s,0<=x/\x<=255)/\s.length<=maxLen:=hw (.str s) (by simp)
  subst hp
  unfold maxLen at hl
  clear hw ho
  repeat'(intro t ht;first|(cases t<;>first|(cases ht;done)|(try simp only[zh_]at ht))|((first|refine za_ ht ?_|refine ht ?_ ?_|refine ht.1 ?_ ?_|refine ht ?_)<;>clear ht))
  all_goals first
   | (intro r h1 h2;clear h1;refine h2 ⟨[],[1,2,10],Nat,(fun p=>p<=s.length/\yx_ 33 s 0=yx_ 33 (s.drop p) p),fun p=>[.fn 156 [] [],.bool true,.ptr 0 0],fun p=>[.iter s p],fun p=>s.length - p,⟨0,⟨Nat.zero_le _,rfl⟩,rfl,rfl⟩,?_⟩;clear h2)
  rintro p ⟨hp,he⟩
  repeat'(intro t ht;first|(cases t<;>first|(cases ht;done)|(try simp only[zh_]at ht;try(exfalso;first|contradiction|omega)))|((first|refine za_ ht ?_|refine ht ?_ ?_|refine ht.1 ?_ ?_|refine ht ?_)<;>clear ht))
  all_goals first
   | exact True.intro
   | (refine ⟨?_,rfl⟩;rw [he,BP_ (by omega)];done)
   | (obtain ⟨k1,k2⟩:=Bo_ (lo:=33) (hb _ (zv_ (α:=Int) (l:=s) (j:=p) (by omega) 0)).1
      cases hk:okc 33 (s.getD p 0) with
      | true=>
        rw [k1,hk] at ht
        first
         | (exfalso;revert ht;decide)
         | (refine ⟨p+1,⟨by omega,?_⟩,by dsimp only;omega,rfl,by rw [k2 hk]⟩
            rw [he];exact zbM_ (by omega) hk)
      | false=>
        rw [k1,hk] at ht
        first
         | (exfalso;revert ht;decide)
         | (refine ⟨?_,rfl⟩;rw [he,zbN_ (by omega) hk]))
 ·cases e
def Wk_:IR:=
(sq (kr [0,1] [oD 4 (.mov (cI 0))])
(sq (.reg [oM 5 0,
oM 6 1,
oC 7 216 [5,6,cT],
oM 4 7])
.ret))
def wZ_:List RD:=[.tmp 4 true none]
theorem w8_:zo_ Tryz.prog Tryz.f190 Wk_ wZ_=true:=by kernel_rfl
def Qd_:List AV->List Obj->Option (Prop × AV)
 | [.str s,.fn 156 [] []],[]=>some ((True,.int .i64 (yx_ 33 s 0)))
 | _,_=>none
theorem wa_:ze_ Tryz.prog 190 (RoF Qd_).sum:=by
 refine zz_ Tryz.func190 w8_ (zb_ (s:=RoF Qc_) J9_ (zf_ _)) fun args objs p v e=>?_
 unfold Qd_ at e
 split at e
 ·rename_i s
  cases e
  refine ⟨rfl,fun hw ho hp=>?_⟩
  repeat'(intro t ht;first|(cases t<;>first|(cases ht;done)|(try simp only[zh_]at ht;try(exfalso;first|contradiction|omega)))|((first|refine za_ ht ?_|refine ht ?_ ?_|refine ht.1 ?_ ?_|refine ht ?_)<;>clear ht))
  all_goals first
   | exact True.intro
   | exact ⟨rfl,rfl⟩
   | exact rfl
 ·cases e
def j9_:IR:=
(sq (kr [0,1] [oD 4 (.mov cF)])
(sq (kr [0,1] [oM 5 0,
oM 6 1,
oC 7 190 [5,6],
oB 8 .geq 7 (cI 0),
oM 4 8])
.ret))
def j1_:List RD:=[.tmp 4 true none]
theorem j4_:zo_ Tryz.prog Tryz.f157 j9_ j1_=true:=by kernel_rfl
def qm_:List AV->List Obj->Option (Prop × AV)
 | [.str s,.fn 156 [] []],[]=>some ((True,.bool (!(s.all (okc 33)))))
 | _,_=>none
theorem jC_:ze_ Tryz.prog 157 (RoF qm_).sum:=by
 refine zz_ Tryz.func157 j4_ (zb_ (s:=RoF Qd_) wa_ (zf_ _)) fun args objs p v e=>?_
 unfold qm_ at e
 split at e
 ·rename_i s
  cases e
  refine ⟨rfl,fun hw ho hp=>?_⟩
  have h:=gQ_ (lo:=33) s 0 (by omega)
  have h2:decide (0<=yx_ 33 s 0)=!(s.all (okc 33)):=by
   cases hk:s.all (okc 33) with
   | true=>exact decide_eq_false (fun h'=>by rw [h.1 h'] at hk;cases hk)
   | false=>exact decide_eq_true (h.2 hk)
  repeat'(intro t ht;first|(cases t<;>first|(cases ht;done)|(try simp only[zh_]at ht;try(exfalso;first|contradiction|omega)))|((first|refine za_ ht ?_|refine ht ?_ ?_|refine ht.1 ?_ ?_|refine ht ?_)<;>clear ht))
  all_goals first
   | exact True.intro
   | exact ⟨congrArg AV.bool h2,rfl⟩
 ·cases e
def Jp_ (b:List Int) (c:Int):Nat->Nat
 | 0=>0
 | k+1=>if b.getD k 0=c then Jp_ b c k else k+1
def kY_ (b:List Int) (c:Int):List Int:=b.take (Jp_ b c b.length)
def QP_ (b:List Int) (c:Int):List Int:=b.dropWhile fun x=>decide (x=c)
theorem ud_ {b:List Int} {k j:Nat} (h:j < k):(b.take k).getD j 0=b.getD j 0:=by
 rw [List.getD_eq_getElem?_getD,List.getElem?_take,if_pos h,<- List.getD_eq_getElem?_getD]
def JS_:IR:=
(sq (kr [0,1] [oD 4 (.mov (.c (.imm (.int .u8) [])))])
(sq (.block 0
(.loop
(sq (sq (kr [0,1] [oM 5 0,
oE 6 5,
oB 7 .gtr 6 (cI 0),
oM 8 7,
oT 8 9 (.mov 0),
oT 8 10 (.mov 0),
oT 8 11 (.len 10),
oT 8 12 (.bin .sub 11 (cI 1)),
oT 8 13 (.indexSl 1 9 12),
oT 8 14 (.load none 13),
oT 8 15 (.mov 1),
oT 8 16 (.bin .eql 14 15),
oP 17 8 16 cF])
(.cond 17
.skip
(.exit 0)))
(.block 1
(kr [0,1] [oM 18 0,
oM 19 0,
oE 20 19,
oB 21 .sub 20 (cI 1),
oD 22 (.slice 1 18 none (some 21) none),
oM 0 22])))))
(sq (kr [0] [oM 23 0,
oM 4 23])
.ret)))
def JB_:List RD:=[.tmp 4 true (some (.int .u8))]
theorem JI_:zo_ Tryz.prog Tryz.f219 JS_ JB_=true:=by kernel_rfl
def qy_:List AV->List Obj->Option (Prop × AV)
 | [.imm (.int .u8) b,.int .u8 c],[]=>some ((b.length<=140737488355328,.imm (.int .u8) (kY_ b c)))
 | _,_=>none
theorem jX_:ze_ Tryz.prog 219 (RoF qy_).sum:=by
 refine zz_ Tryz.func219 JI_ (zf_ _) fun args objs p v e=>?_
 unfold qy_ at e
 split at e
 ·rename_i b c
  cases e
  refine ⟨rfl,fun hw ho hp=>?_⟩
  change List Int at b
  repeat'(intro t ht;first|(cases t<;>first|(cases ht;done)|(try simp only[zh_]at ht))|((first|refine za_ ht ?_|refine ht ?_ ?_|refine ht.1 ?_ ?_|refine ht ?_)<;>clear ht))
  all_goals first
   | (intro r h1 h2;clear h1;refine h2 ⟨[],[0,1],Nat,(fun k=>k<=b.length/\Jp_ b c b.length=Jp_ b c k),fun k=>[.imm (.int .u8) (b.take k),.int .u8 c],fun _=>[],fun k=>k,⟨b.length,⟨Nat.le_refl _,rfl⟩,by simp only [List.take_length],rfl⟩,?_⟩;clear h2)
  rintro k ⟨hk,he⟩
  have hl:(b.take k).length=k:=by rw [List.length_take];omega
  repeat'(intro t ht;first|(cases t<;>first|(cases ht;done)|(try simp only[zh_]at ht))|((first|refine za_ ht ?_|refine ht ?_ ?_|refine ht.1 ?_ ?_|refine ht ?_)<;>clear ht))
  all_goals first
   | ((try simp only [zI_,zK_,zn_] at*);omega)
   | (have h0:k=0:=by omega
      refine ⟨?_,rfl⟩;unfold kY_;rw [he,h0];rfl)
   | (obtain ⟨j,rfl⟩:∃ j,k=j+1:=⟨k - 1,by omega⟩
      have e:(((b.take (j+1)).length:Int) - 1).toNat=j:=by omega
      first
       | (have hx:¬ (b.take (j+1)).getD (((b.take (j+1)).length:Int) - 1).toNat 0=c:=by assumption
          rw [e,ud_ (Nat.lt_succ_self j)] at hx
          have h1:Jp_ b c (j+1)=j+1:=if_neg hx
          refine ⟨?_,rfl⟩;unfold kY_;rw [he,h1])
       | (have hx:(b.take (j+1)).getD (((b.take (j+1)).length:Int) - 1).toNat 0=c:=by assumption
          rw [e,ud_ (Nat.lt_succ_self j)] at hx
          have h1:Jp_ b c (j+1)=Jp_ b c j:=if_pos hx
          refine ⟨j,⟨by omega,by rw [he,h1]⟩,Nat.lt_succ_self j,?_,rfl⟩
          dsimp only;rw [e,List.take_take,Nat.min_eq_left (Nat.le_succ j)]))
 ·cases e
def wF_:IR:=
(sq (kr [0,1] [oD 4 (.mov (.c (.imm (.int .u8) [])))])
(sq (.block 0
(.loop
(sq (sq (kr [0,1] [oM 5 0,
oE 6 5,
oB 7 .gtr 6 (cI 0),
oM 8 7,
oT 8 9 (.mov 0),
oT 8 10 (.indexSl 1 9 (cI 0)),
oT 8 11 (.load none 10),
oT 8 12 (.mov 1),
oT 8 13 (.bin .eql 11 12),
oP 14 8 13 cF])
(.cond 14
.skip
(.exit 0)))
(.block 1
(kr [0,1] [oM 15 0,
oD 16 (.slice 1 15 (some (cI 1)) none none),
oM 0 16])))))
(sq (sq (kr [0] [oM 17 0,
oE 18 17,
oB 19 .eql 18 (cI 0)])
(.cond 19
(sq (.reg [oD 4 (.mov (.c (.imm (.int .u8) [])))])
.ret)
.skip))
(sq (.reg [oM 20 0,
oM 4 20])
.ret))))
def wi_:List RD:=[.tmp 4 true (some (.int .u8))]
theorem wt_:zo_ Tryz.prog Tryz.f218 wF_ wi_=true:=by kernel_rfl
def qQ_:List AV->List Obj->Option (Prop × AV)
 | [.imm (.int .u8) b,.int .u8 c],[]=>some ((b.length<=140737488355328,.imm (.int .u8) (QP_ b c)))
 | _,_=>none
theorem Jt_:ze_ Tryz.prog 218 (RoF qQ_).sum:=by
 refine zz_ Tryz.func218 wt_ (zf_ _) fun args objs p v e=>?_
 unfold qQ_ at e
 split at e
 ·rename_i b c
  cases e
  refine ⟨rfl,fun hw ho hp=>?_⟩
  change List Int at b
  repeat'(intro t ht;first|(cases t<;>first|(cases ht;done)|(try simp only[zh_]at ht))|((first|refine za_ ht ?_|refine ht ?_ ?_|refine ht.1 ?_ ?_|refine ht ?_)<;>clear ht))
  all_goals first
   | (intro r h1 h2;clear h1;refine h2 ⟨[],[0,1],Nat,(fun k=>k<=b.length/\QP_ b c=QP_ (b.drop k) c),fun k=>[.imm (.int .u8) (b.drop k),.int .u8 c],fun _=>[],fun k=>b.length - k,⟨0,⟨Nat.zero_le _,rfl⟩,rfl,rfl⟩,?_⟩;clear h2)
  rintro k ⟨hk,he⟩
  have hl:(b.drop k).length=b.length - k:=List.length_drop
  repeat'(intro t ht;first|(cases t<;>first|(cases ht;done)|(try simp only[zh_]at ht))|((first|refine za_ ht ?_|refine ht ?_ ?_|refine ht.1 ?_ ?_|refine ht ?_)<;>clear ht))
  all_goals first
   | ((try simp only [zI_,zK_,zn_] at*);omega)
   | (exfalso;omega)
   | (have h0:b.drop k=[]:=List.eq_nil_of_length_eq_zero (by omega)
      refine ⟨?_,rfl⟩;rw [he,h0];rfl)
   | (have hlt:k < b.length:=by omega
      first
       | (have hx:¬ (b.drop k).getD 0 0=c:=by assumption
          rw [K8_] at hx
          have h1:QP_ (b.drop k) c=b.drop k:=by
           unfold QP_;rw [zJ_ hlt 0,List.dropWhile_cons_of_neg (by simpa using hx)]
          refine ⟨?_,rfl⟩;rw [he,h1])
       | (have hx:(b.drop k).getD 0 0=c:=by assumption
          rw [K8_] at hx
          have h1:QP_ (b.drop k) c=QP_ (b.drop (k+1)) c:=by
           unfold QP_;rw [zJ_ hlt 0,List.dropWhile_cons_of_pos (by simpa using hx)]
          refine ⟨k+1,⟨hlt,by rw [he,h1]⟩,by dsimp only;omega,?_,rfl⟩
          dsimp only;rw [<- List.drop_drop];rfl))
 ·cases e
theorem H6_:∀ (b:List Int),decide ((QP_ (kY_ b 0) 0).length=0)=zY_ b:=by
 intro b
 have hR:∀ k ≤ b.length,(b.take (Jp_ b 0 k)).all (fun c=>decide (c=0))=(b.take k).all fun c=>decide (c=0):=by
  intro k
  induction k with
  | zero=>intro _;rfl
  | succ k ih=>
    intro hk
    unfold Jp_
    split
    ·rename_i h
     rw [ih (by omega),List.take_succ_eq_append_getElem (by omega),List.all_append]
     have:b[k]=0:=by rw [List.getD_eq_getElem?_getD,List.getElem?_eq_getElem (by omega)] at h;exact h
     simp [this]
    ·rfl
 have hL:∀ l:List Int,decide ((l.dropWhile fun x=>decide (x=0)).length=0)=l.all fun c=>decide (c=0):=by
  intro l
  induction l with
  | nil=>rfl
  | cons a l ih=>
    by_cases h:a=0
    ·rw [List.dropWhile_cons_of_pos (by simpa using h),ih];simp [h]
    ·rw [List.dropWhile_cons_of_neg (by simpa using h)];simp [h]
 unfold QP_ kY_ zY_
 rw [hL,hR _ (Nat.le_refl _),List.take_length]
def V3_:IR:=
(sq (kr [0,1] [oD 4 (.mov (.c (.imm (.int .u8) [])))])
(sq (sq (.reg [oM 7 0,
oE 8 7,
oB 9 .eql 8 (cI 0)])
(.cond 9
(sq (.reg [oD 4 (.mov (.c (.imm (.int .u8) [])))])
.ret)
.skip))
(sq (sq (.reg [oM 10 1,
oB 11 .eql 10 (.c (.str []))])
(.cond 11
(sq (kr [0] [oM 12 0,
oM 4 12])
.ret)
.skip))
(sq (sq (kr [0,1] [oM 13 1,
oD 14 (.slen 13),
oB 15 .eql 14 (cI 1),
oM 16 15,
oT 16 17 (.mov 1),
oT 16 18 (.sindex 17 (cI 0)),
oT 16 19 (.bin .lss 18 (.c (.int .u8 128))),
oP 20 16 19 cF])
(.cond 20
(sq (kd [0,1] [(oM 21 0,[]),
(oM 22 1,[0]),
(oD 23 (.sindex 22 (cI 0)),[1]),
(oC 24 219 [21,23],[]),
(oM 25 1,[0,0,0,0]),
(oD 26 (.sindex 25 (cI 0)),[1,0,0,0]),
(oC 27 218 [24,26],[]),
(oM 4 27,[])])
.ret)
.skip))
(sq (sq (kr [0,1] [oM 29 1,
oC 30 220 [29],
oM 28 30,
oX 31 28 0,
oX 32 28 1,
oD 5 (.box [.kb false,.kb false,.kb false,.kb false,.kb false,.kb false,.kb false,.kb false,.kb false,.kb false,.kb false,.kb false,.kb false,.kb false,.kb false,.kb false,.kb false,.kb false,.kb false,.kb false,.kb false,.kb false,.kb false,.kb false,.kb false,.kb false,.kb false,.kb false,.kb false,.kb false,.kb false,.kb false,.kb false,.kb false,.kb false,.kb false,.kb false,.kb false,.kb false,.kb false,.kb false,.kb false,.kb false,.kb false,.kb false,.kb false,.kb false,.kb false,.kb false,.kb false,.kb false,.kb false,.kb false,.kb false,.kb false,.kb false,.kb false,.kb false,.kb false,.kb false,.kb false,.kb false,.kb false,.kb false,.kb false,.kb false,.kb false,.kb false,.kb false,.kb false,.kb false,.kb false,.kb false,.kb false,.kb false,.kb false,.kb false,.kb false,.kb false,.kb false,.kb false,.kb false,.kb false,.kb false,.kb false,.kb false,.kb false,.kb false,.kb false,.kb false,.kb false,.kb false,.kb false,.kb false,.kb false,.kb false,.kb false,.kb false,.kb false,.kb false,.kb false,.kb false,.kb false,.kb false,.kb false,.kb false,.kb false,.kb false,.kb false,.kb false,.kb false,.kb false,.kb false,.kb false,.kb false,.kb false,.kb false,.kb false,.kb false,.kb false,.kb false,.kb false,.kb false,.kb false,.kb false,.kb false,.kb false,.kb false,.kb false,.kb false,.kb false,.kb false,.kb false,.kb false,.kb false,.kb false,.kb false,.kb false,.kb false,.kb false,.kb false,.kb false,.kb false,.kb false,.kb false,.kb false,.kb false,.kb false,.kb false,.kb false,.kb false,.kb false,.kb false,.kb false,.kb false,.kb false,.kb false,.kb false,.kb false,.kb false,.kb false,.kb false,.kb false,.kb false,.kb false,.kb false,.kb false,.kb false,.kb false,.kb false,.kb false,.kb false,.kb false,.kb false,.kb false,.kb false,.kb false,.kb false,.kb false,.kb false,.kb false,.kb false,.kb false,.kb false,.kb false,.kb false,.kb false,.kb false,.kb false,.kb false,.kb false,.kb false,.kb false,.kb false,.kb false,.kb false,.kb false,.kb false,.kb false,.kb false,.kb false,.kb false,.kb false,.kb false,.kb false,.kb false,.kb false,.kb false,.kb false,.kb false,.kb false,.kb false,.kb false,.kb false,.kb false,.kb false,.kb false,.kb false,.kb false,.kb false,.kb false,.kb false,.kb false,.kb false,.kb false,.kb false,.kb false,.kb false,.kb false,.kb false,.kb false,.kb false,.kb false,.kb false,.kb false,.kb false,.kb false,.kb false,.kb false,.kb false,.kb false,.kb false,.kb false,.kb false,.kb false,.kb false,.kb false,.kb false,.kb false,.kb false,.kb false,.kb false,.kb false,.kb false,.kb false,.kb false]),
oS 256 5 31,
oM 6 32])
(sq (kr [0,1,5,6] [oM 33 6])
(.cond 33
(sq (.reg [oM 34 0,
oC 35 222 [34,5],
oC 36 221 [35,5],
oM 4 36])
.ret)
.skip)))
(sq (kr [0,1] [oM 37 0,
oM 38 1,
oC 39 224 [37,38],
oM 40 1,
oC 41 223 [39,40],
oM 4 41])
.ret))))))
def VS_:List RD:=[.tmp 4 true (some (.int .u8))]
theorem VX_:zo_ Tryz.prog Tryz.f192 V3_ VS_=true:=by kernel_rfl
def J3_:List AV->List Obj->Option (Prop × AV)
 | [.imm (.int .u8) b,.str [0]],[]=>some ((b.length<=140737488355328,.imm (.int .u8) (QP_ (kY_ b 0) 0)))
 | _,_=>none
theorem vp_:ze_ Tryz.prog 192 (RoF J3_).sum:=by
 refine zz_ Tryz.func192 VX_ (zb_ (s:=RoF qy_) jX_ (zb_ (s:=RoF qQ_) Jt_ (zf_ _))) fun args objs p v e=>?_
 unfold J3_ at e
 split at e
 ·rename_i b
  cases e
  refine ⟨rfl,fun hw ho hp=>?_⟩
  change List Int at b
  have hl:(kY_ b 0).length<=b.length:=by unfold kY_;rw [List.length_take];omega
  repeat'(intro t ht;first|(cases t<;>first|(cases ht;done)|(try simp only[zh_]at ht))|((first|refine za_ ht ?_|refine ht ?_ ?_|refine ht.1 ?_ ?_|refine ht ?_)<;>clear ht))
  all_goals first
   | exact hp
   | exact ⟨by decide,by decide⟩
   | exact Nat.le_trans hl hp
   | exact ⟨rfl,rfl⟩
   | (have hb:b=[]:=List.eq_nil_of_length_eq_zero (by omega)
      refine ⟨?_,rfl⟩;rw [hb];rfl)
 ·cases e
def kf_ (c:Int):List Int->Int->Int
 | [],_=>-1
 | b :: l,i=>if b=c then i else kf_ c l (i+1)
theorem za4_ {b c:Int} (hb:0<=b/\b<=255) (hc:0<=c/\c<=255):(UInt8.ofNat b.toNat == c.toNat.toUInt8)=decide (b=c):=by
 rw [Bool.eq_iff_iff,beq_iff_eq,decide_eq_true_eq]
 constructor
 ·intro h
  have h2:=congrArg UInt8.toNat h
  rw [UInt8.toNat_ofNat',Nat.toUInt8,UInt8.toNat_ofNat',Nat.mod_eq_of_lt (by omega),Nat.mod_eq_of_lt (by omega)] at h2
  omega
 ·rintro rfl;rfl
theorem HL_ {c:Int} (hc:0<=c/\c<=255):∀ (xs:List Int) (i:Int),(∀ x ∈ xs,0<=x/\x<=255)->0<=i->
 (Go.Lib.indexByte (Go.Lib.bytesOf xs) c.toNat.toUInt8=-1/\kf_ c xs i=-1)\/(0<=Go.Lib.indexByte (Go.Lib.bytesOf xs) c.toNat.toUInt8/\kf_ c xs i=i+Go.Lib.indexByte (Go.Lib.bytesOf xs) c.toNat.toUInt8)
 | [],i,_,_=>.inl ⟨rfl,rfl⟩
 | b :: l,i,h,h0=>by
   have ih:=HL_ hc l (i+1) (fun x hx=>h x (List.mem_cons_of_mem _ hx)) (by omega)
   have e:=za4_ (h b (List.mem_cons_self ..)) hc
   have e0:Go.Lib.bytesOf (b :: l)=UInt8.ofNat b.toNat :: Go.Lib.bytesOf l:=rfl
   rw [e0]
   unfold Go.Lib.indexByte kf_
   rw [e]
   by_cases hbc:b=c
   ·rw [if_pos hbc,decide_eq_true hbc];simp
   ·rw [if_neg hbc,decide_eq_false hbc]
    simp only [Bool.false_eq_true,if_false]
    rcases ih with ⟨h1,h2⟩ | ⟨h1,h2⟩
    ·left;rw [h1,h2];exact ⟨rfl,rfl⟩
    ·right
     have:(Go.Lib.indexByte (Go.Lib.bytesOf l) c.toNat.toUInt8 == -1)=false:=by rw [beq_eq_false_iff_ne];omega
     rw [this,h2];simp only [Bool.false_eq_true,if_false];omega
theorem bF_ {c:Int} (hc:0<=c/\c<=255) {xs:List Int} (h:∀ x ∈ xs,0<=x/\x<=255):Go.Lib.indexByte (Go.Lib.bytesOf xs) c.toNat.toUInt8=kf_ c xs 0:=by
 rcases HL_ hc xs 0 h (Int.le_refl _) with ⟨h1,h2⟩ | ⟨h1,h2⟩<;>rw [h2]<;>omega
theorem XC_ {c:Int}:∀ (xs:List Int) (i:Int),0<=i->-1<=kf_ c xs i/\kf_ c xs i < i+xs.length\/kf_ c xs i=-1
 | [],i,_=>.inr rfl
 | b :: l,i,h=>by
   unfold kf_
   split
   ·left;simp only [List.length_cons];omega
   ·rcases XC_ (c:=c) l (i+1) (by omega) with h1 | h1
    ·left;simp only [List.length_cons];omega
    ·exact .inr h1
theorem zb4_ {P:Program} {w:World} {ao:Option Addr} {n c:Nat} {xs:List Int} (cv:Int) (hl:(Extern.Bytes.bytesOf (.slice ao n c)).run P w=.ok ⟨(Go.Lib.bytesOf xs).toArray⟩ w):
 (Extern.BytealgIndexByte.indexByte #[.slice ao n c,.int .u8 cv]).run P w=.ok (.int .i64 (Go.Lib.indexByte (Go.Lib.bytesOf xs) cv.toNat.toUInt8)) w:=by
 have hs:=Go.Lib.run_indexByteString (P:=P) ⟨(Go.Lib.bytesOf xs).toArray⟩ cv w
 change Sem.run P (do
  let b <- Extern.Bytes.bytesOf (.slice ao n c)
  let c <- Extern.Bytes.asByte (.int .u8 cv)
  match (List.range b.size).find? fun i=>b[i]! == c with
  | some i=>pure (goInt i)
  | none=>pure (goInt (-1))) w=_
 change Sem.run P (do
  let b <- Extern.Bytes.bytesOf (.string ⟨(Go.Lib.bytesOf xs).toArray⟩)
  let c <- Extern.Bytes.asByte (.int .u8 cv)
  match (List.range b.size).find? fun i=>b[i]! == c with
  | some i=>pure (goInt i)
  | none=>pure (goInt (-1))) w=_ at hs
 rw [Sem.run_bind,hl]
 exact hs
theorem zap_ {P:Program} {I:Nat->Prop} {w:World} {ao:Option Addr} {n c:Nat} {xs:List Int} (h:RS I w (.int .u8) xs ao n c):
 (Extern.Bytes.bytesOf (.slice ao n c)).run P w=.ok ⟨(Go.Lib.bytesOf xs).toArray⟩ w:=by
 obtain ⟨h1,h2,h3,h4⟩:=h
 change List Int at xs
 cases ao with
 | none=>
   have:xs=[]:=by
    cases xs with
    | nil=>rfl
    | cons a l=>obtain ⟨b,o,e,_⟩:=h4 (by rw [h1];simp);cases e
   subst this;rfl
 | some a=>
   have hl:=Go.Lib.run_loadBytesX (P:=P) w xs a .empty (fun j x hj=>by
    have hjl:j < xs.length:=(List.getElem?_eq_some_iff.1 hj).1
    obtain ⟨b,o,e,_,h5⟩:=h4 (by omega)
    cases e
    obtain ⟨es,h6,h7⟩:=h5 j hjl
    simp only [RC] at h6
    obtain ⟨rfl,_⟩:=h6
    have h8:=h7 0 (by simp)
    have e:(⟨b,o,none⟩:Addr).add j=⟨b,o+j*(Ty.int .u8).size+0,none⟩:=by
     show _=(⟨b,o+j*1+0,none⟩:Addr)
     unfold Addr.add;split<;>simp_all
    rw [e,h8]
    have:xs[j]?=some xs[j]:=List.getElem?_eq_getElem hjl
    rw [this] at hj;cases hj;rfl)
   show (Extern.Bytes.loadBytes a n .empty).run P w=_
   rw [h1,hl]
   have he:(ByteArray.empty.data++(Go.Lib.bytesOf xs).toArray)=(Go.Lib.bytesOf xs).toArray:=by
    show (#[]:Array UInt8)++_=_
    simp
   rw [he]
def kl_:List AV->List Obj->Option (Prop × AV)
 | [.imm (.int .u8) s,.int .u8 c],[]=>some (True,.int .i64 (kf_ c s 0))
 | _,_=>none
theorem xc_ {I:Nat->Prop} {xs:List Int} {ao:Option Addr} {n cap:Nat} {c:Int} {w:World} (h:RS I w (.int .u8) xs ao n cap):
 Calls Tryz.prog 232 #[.slice ao n cap,.int .u8 c] w fun e w'=>e=.returned (.int .i64 (Go.Lib.indexByte (Go.Lib.bytesOf xs) c.toNat.toUInt8))/\w'=w:=by
 have hr:=zb4_ (P:=Tryz.prog) c (zap_ h)
 go_enter Tryz.func232,Tryz.ntmps232
 go_wp2
 rw [run_callFunc_extern Tryz.func240 (by kernel_rfl) (by kernel_rfl) (by kernel_rfl) (e:=Extern.BytealgIndexByte.indexByte) (by kernel_rfl),hr]
 simp only [Result.andThen]
 rw [Oper.upon_value]
 go_wp2
 go_ret
 exact ⟨rfl,rfl⟩
theorem W7_:ze_ Tryz.prog 232 (RoF kl_).sum:=by
 refine ⟨⟨_,Tryz.func232,by kernel_rfl,by kernel_rfl⟩,Bs_ _,fun {I w m args cargs objs K} hH hA hu hS=>?_⟩
 simp only [RoF,SumK.sum] at hS
 split at hS
 ·rename_i p v e
  obtain ⟨hp,hk⟩:=zj_ hS
  have hwf:=vf_ hA
  unfold kl_ at e
  split at e
  ·rename_i s c
   cases e
   obtain ⟨l⟩:=cargs
   match l,hA with
   | [a,b],hA=>
     obtain ⟨h1,h2,_⟩:=hA
     obtain ⟨ao,n,cap,rfl,hs⟩:∃ ao len cap,a=.slice ao len cap/\RS I w (.int .u8) s ao len cap:=h1
     obtain ⟨rfl,hc⟩:b=.int .u8 c/\inK .u8 c:=h2
     have hb:∀ x ∈ (s:List Int),(0:Int)<=x/\x<=255:=fun x hx=>(hwf (.imm (.int .u8) s) (by simp)).1 x hx
     have hsl:List.length (α:=Int) s<=maxLen:=(hwf (.imm (.int .u8) s) (by simp)).2
     refine (xc_ hs).mono ?_
     rintro e w' ⟨rfl,rfl⟩
     rw [bF_ hc hb]
     have hle:=XC_ (c:=c) s 0 (Int.le_refl _)
     unfold maxLen at hsl
     exact ⟨_,_,_,I,m,rfl,hk,⟨⟨rfl,by unfold inK;rw [zbX_,zbY_];change List Int at s;omega⟩,hH,Evo.refl _ _ _,hu,Nat.le_refl _,Fr.refl _ _,fun b h=>.inl h,fun i o b h1 h2 h3=>.inr ⟨i,o,h1,h2,fun h=>h,h3⟩,fun b h=>.inl h⟩⟩
  ·cases e
 ·exact hS.elim
def vX_:IR:=
(sq (kr [0,1] [oD 4 (.mov (cI 0))])
(sq (.reg [oM 20 1,
oE 21 20,
oM 5 21])
(sq (.block 0
(sq (.reg [oM 23 5,
oB 24 .eql 23 (cI 0),
oM 22 24])
(.cond 22
(sq (kr [] [oD 4 (.mov (cI 0))])
.ret)
(sq (kr [0,1,5] [oM 26 5,
oB 27 .eql 26 (cI 1),
oM 25 27])
(.cond 25
(sq (kr [0,1] [oM 28 0,
oM 29 1,
oD 30 (.indexSl 1 29 (cI 0)),
oL 31 30,
oC 32 232 [28,31],
oM 4 32])
.ret)
(sq (kr [0,1,5] [oM 34 5,
oM 35 0,
oE 36 35,
oB 37 .eql 34 36,
oM 33 37])
(.cond 33
(sq (sq (.reg [oM 38 1,
oM 39 0,
oC 40 71 [38,39]])
(.cond 40
(sq (kr [] [oD 4 (.mov (cI 0))])
.ret)
.skip))
(sq (kr [] [oD 4 (.mov (cI (-1)))])
.ret))
(sq (kr [0,1,5] [oM 42 5,
oM 43 0,
oE 44 43,
oB 45 .gtr 42 44,
oM 41 45])
(.cond 41
(sq (.reg [oD 4 (.mov (cI (-1)))])
.ret)
(sq (.reg [oM 47 5,
oD 48 (.bad),
oB 49 .leq 47 48,
oM 46 49])
(.cond 46
(sq (sq (kr [0,1,5] [oM 50 0,
oE 51 50,
oB 52 .leq 51 (cI 64)])
(.cond 52
(sq (.reg [oM 53 0,
oM 54 1,
oC 55 233 [53,54],
oM 4 55])
.ret)
.skip))
(sq (kr [0,1,5] [oM 56 1,
oD 57 (.indexSl 1 56 (cI 0)),
oL 58 57,
oM 6 58])
(sq (.reg [oM 59 1,
oD 60 (.indexSl 1 59 (cI 1)),
oL 61 60,
oM 7 61])
(sq (kr [0,1,5,6,7] [oD 8 (.mov (cI 0))])
(sq (kr [0,1,5,6,7,8] [oM 62 0,
oE 63 62,
oM 64 5,
oB 65 .sub 63 64,
oB 66 .add 65 (cI 1),
oM 9 66])
(sq (.reg [oD 10 (.mov (cI 0))])
(sq (.block 1
(.loop
(sq (sq (kr [0,1,5,6,7,8,9,10] [oM 67 8,
oM 68 9,
oB 69 .lss 67 68])
(.cond 69
.skip
(.exit 1)))
(.block 2
(sq (sq (kr [0,1,5,6,7,8,9,10] [oM 70 0,
oM 71 8,
oI 72 1 70 71,
oL 73 72,
oM 74 6,
oB 75 .neq 73 74])
(.cond 75
(sq (kr [0,1,5,6,7,8,9,10] [oM 76 0,
oM 77 8,
oB 78 .add 77 (cI 1),
oM 79 9,
oD 80 (.slice 1 76 (some 78) (some 79) none),
oM 81 6,
oC 82 232 [80,81],
oM 11 82])
(sq (sq (kr [0,1,5,6,7,8,9,10,11] [oM 83 11,
oB 84 .lss 83 (cI 0)])
(.cond 84
(sq (.reg [oD 4 (.mov (cI (-1)))])
.ret)
.skip))
(kr [0,1,5,6,7,8,9,10,11] [oM 85 8,
oM 86 11,
oB 87 .add 86 (cI 1),
oB 88 .add 85 87,
oM 8 88])))
.skip))
(sq (sq (kr [0,1,5,6,7,8,9,10] [oM 89 0,
oM 90 8,
oB 91 .add 90 (cI 1),
oI 92 1 89 91,
oL 93 92,
oM 94 7,
oB 95 .eql 93 94,
oM 96 95,
oT 96 97 (.mov 0),
oT 96 98 (.mov 8),
oT 96 99 (.mov 8),
oT 96 100 (.mov 5),
oT 96 101 (.bin .add 99 100),
oT 96 102 (.slice 1 97 (some 98) (some 101) none),
oT 96 103 (.mov 1),
oT 96 104 (.call false (.f 71) [102,103]),
oP 105 96 104 cF])
(.cond 105
(sq (kr [8] [oM 106 8,
oM 4 106])
.ret)
.skip))
(sq (kr [0,1,5,6,7,8,9,10] [oM 107 10,
oB 108 .add 107 (cI 1),
oM 10 108])
(sq (.reg [oM 109 8,
oB 110 .add 109 (cI 1),
oM 8 110])
(sq (.reg [oM 111 10,
oM 112 8,
oC 113 234 [112],
oB 114 .gtr 111 113])
(.cond 114
(sq (kr [0,1,8] [oM 115 0,
oM 116 8,
oD 117 (.slice 1 115 (some 116) none none),
oM 118 1,
oC 119 233 [117,118],
oM 12 119])
(sq (sq (.reg [oM 120 12,
oB 121 .geq 120 (cI 0)])
(.cond 121
(sq (kr [8,12] [oM 122 12,
oM 123 8,
oB 124 .add 122 123,
oM 4 124])
.ret)
.skip))
(sq (kr [] [oD 4 (.mov (cI (-1)))])
.ret)))
.skip))))))))))
(sq (kr [] [oD 4 (.mov (cI (-1)))])
.ret))))))))
.skip)))))))))))
(sq (kr [0,1,5] [oM 125 1,
oD 126 (.indexSl 1 125 (cI 0)),
oL 127 126,
oM 13 127])
(sq (.reg [oM 128 1,
oD 129 (.indexSl 1 128 (cI 1)),
oL 130 129,
oM 14 130])
(sq (kr [0,1,5,13,14] [oD 15 (.mov (cI 0))])
(sq (.reg [oD 16 (.mov (cI 0))])
(sq (kr [0,1,5,13,14,15,16] [oM 131 0,
oE 132 131,
oM 133 5,
oB 134 .sub 132 133,
oB 135 .add 134 (cI 1),
oM 17 135])
(sq (.block 3
(.loop
(sq (sq (kr [0,1,5,13,14,15,16,17] [oM 136 15,
oM 137 17,
oB 138 .lss 136 137])
(.cond 138
.skip
(.exit 3)))
(.block 4
(sq (sq (kr [0,1,5,13,14,15,16,17] [oM 139 0,
oM 140 15,
oI 141 1 139 140,
oL 142 141,
oM 143 13,
oB 144 .neq 142 143])
(.cond 144
(sq (kr [0,1,5,13,14,15,16,17] [oM 145 0,
oM 146 15,
oB 147 .add 146 (cI 1),
oM 148 17,
oD 149 (.slice 1 145 (some 147) (some 148) none),
oM 150 13,
oC 151 232 [149,150],
oM 18 151])
(sq (sq (kr [0,1,5,13,14,15,16,17,18] [oM 152 18,
oB 153 .lss 152 (cI 0)])
(.cond 153
(.exit 3)
.skip))
(kr [0,1,5,13,14,15,16,17,18] [oM 154 15,
oM 155 18,
oB 156 .add 155 (cI 1),
oB 157 .add 154 156,
oM 15 157])))
.skip))
(sq (sq (kr [0,1,5,13,14,15,16,17] [oM 158 0,
oM 159 15,
oB 160 .add 159 (cI 1),
oI 161 1 158 160,
oL 162 161,
oM 163 14,
oB 164 .eql 162 163,
oM 165 164,
oT 165 166 (.mov 0),
oT 165 167 (.mov 15),
oT 165 168 (.mov 15),
oT 165 169 (.mov 5),
oT 165 170 (.bin .add 168 169),
oT 165 171 (.slice 1 166 (some 167) (some 170) none),
oT 165 172 (.mov 1),
oT 165 173 (.call false (.f 71) [171,172]),
oP 174 165 173 cF])
(.cond 174
(sq (kr [15] [oM 175 15,
oM 4 175])
.ret)
.skip))
(sq (kr [0,1,5,13,14,15,16,17] [oM 176 15,
oB 177 .add 176 (cI 1),
oM 15 177])
(sq (.reg [oM 178 16,
oB 179 .add 178 (cI 1),
oM 16 179])
(sq (kr [0,1,5,13,14,15,16,17] [oM 180 16,
oM 181 15,
oB 182 .shr 181 (.c (.int .u64 4)),
oB 183 .add (cI 4) 182,
oB 184 .geq 180 183,
oM 185 184,
oT 185 186 (.mov 15),
oT 185 187 (.mov 17),
oT 185 188 (.bin .lss 186 187),
oP 189 185 188 cF])
(.cond 189
(sq (kr [0,1,15] [oM 190 0,
oM 191 15,
oD 192 (.slice 1 190 (some 191) none none),
oM 193 1,
oC 194 235 [192,193],
oM 19 194])
(sq (sq (.reg [oM 195 19,
oB 196 .lss 195 (cI 0)])
(.cond 196
(sq (kr [] [oD 4 (.mov (cI (-1)))])
.ret)
.skip))
(sq (kr [15,19] [oM 197 15,
oM 198 19,
oB 199 .add 197 198,
oM 4 199])
.ret)))
.skip))))))))))
(sq (kr [] [oD 4 (.mov (cI (-1)))])
.ret))))))))))
def vw_:List RD:=[.tmp 4 true none]
theorem vJ_:zo_ Tryz.prog Tryz.f217 vX_ vw_=true:=by kernel_rfl
def jP_:List AV->List Obj->Option (Prop × AV)
 | [.imm (.int .u8) s,.imm (.int .u8) t],[]=>some ((t.length=1,.int .i64 (kf_ (t.getD 0 0) s 0)))
 | _,_=>none
theorem Ys_:ze_ Tryz.prog 217 (RoF jP_).sum:=by
 refine zz_ Tryz.func217 vJ_ (zb_ (s:=RoF kl_) W7_ (zf_ _)) fun args objs p v e=>?_
 unfold jP_ at e
 split at e
 ·rename_i s t
  cases e
  refine ⟨rfl,fun hw ho hp=>?_⟩
  change List Int at s
  change List Int at t
  have hi:((0:Int)).toNat=0:=rfl
  repeat'(intro t ht;first|(cases t<;>first|(cases ht;done)|(try simp only[zh_]at ht;try(exfalso;first|contradiction|omega)))|((first|refine za_ ht ?_|refine ht ?_ ?_|refine ht.1 ?_ ?_|refine ht ?_)<;>clear ht))
  all_goals first
   | exact True.intro
   | exact ⟨rfl,rfl⟩
   | ((try simp only [zI_,zK_,zn_] at*);omega)
 ·cases e
def ctB (s:List Int) (c:Int):List Int:=if 0<=kf_ c s 0 then s.take (kf_ c s 0).toNat else s
def ctR (s:List Int) (c:Int):List Int:=if 0<=kf_ c s 0 then s.drop (kf_ c s 0+1).toNat else []
def ctK (s:List Int) (c:Int):Bool:=decide (0<=kf_ c s 0)
def UO_:IR:=
(sq (kr [0,1] [oD 4 (.mov (.c (.imm (.int .u8) []))),
oD 5 (.mov (.c (.imm (.int .u8) []))),
oD 6 (.mov cF)])
(sq (sq (.reg [oM 8 0,
oM 9 1,
oC 10 217 [8,9],
oM 7 10])
(sq (kr [0,1,7] [oM 11 7,
oB 12 .geq 11 (cI 0)])
(.cond 12
(sq (kd [0,1,7] [(oM 13 0,[]),
(oM 14 7,[0]),
(oD 15 (.slice 1 13 none (some 14) none),[]),
(oM 16 0,[0,0,0]),
(oM 17 7,[0,0,0,0]),
(oM 18 1,[0,0,0,0,0]),
(oE 19 18,[1,0,0,0,0]),
(oB 20 .add 17 19,[3,0,0,0]),
(oD 21 (.slice 1 16 (some 20) none none),[5,0,0]),
(oM 4 15,[0,0,0,0,0,0]),
(oM 5 21,[]),
(oD 6 (.mov cT),[])])
.ret)
.skip)))
(sq (kr [0] [oM 22 0,
oM 4 22,
oD 5 (.mov (.c (.imm (.int .u8) []))),
oD 6 (.mov cF)])
.ret)))
def Uk_:List RD:=[.tmp 4 true (some (.int .u8)),.tmp 5 true (some (.int .u8)),.tmp 6 true none]
theorem Ux_:zo_ Tryz.prog Tryz.f191 UO_ Uk_=true:=by kernel_rfl
def WH_:List AV->List Obj->Option (Prop × AV)
 | [.imm (.int .u8) s,.imm (.int .u8) t],[]=>some ((t.length=1,.tup [.imm (.int .u8) (ctB s (t.getD 0 0)),.imm (.int .u8) (ctR s (t.getD 0 0)),.bool (ctK s (t.getD 0 0))]))
 | _,_=>none
theorem VM_:ze_ Tryz.prog 191 (RoF WH_).sum:=by
 refine zz_ Tryz.func191 Ux_ (zb_ (s:=RoF jP_) Ys_ (zf_ _)) fun args objs p v e=>?_
 unfold WH_ at e
 split at e
 ·rename_i s t
  cases e
  refine ⟨rfl,fun hw ho hp=>?_⟩
  change List Int at s
  change List Int at t
  have hl:s.length<=maxLen:=(hw (.imm (.int .u8) s) (by simp)).2
  unfold maxLen at hl
  clear hw ho
  have h:=XC_ (c:=t.getD 0 0) s 0 (Int.le_refl _)
  repeat'(intro t ht;first|(cases t<;>first|(cases ht;done)|(try simp only[zh_]at ht;try(exfalso;first|contradiction|omega)))|((first|refine za_ ht ?_|refine ht ?_ ?_|refine ht.1 ?_ ?_|refine ht ?_)<;>clear ht))
  all_goals first
   | exact True.intro
   | exact hp
   | ((try simp only [zI_,zK_,zn_] at*);omega)
   | (refine ⟨?_,rfl⟩;unfold ctB ctR ctK;rw [if_pos (by assumption),if_pos (by assumption),decide_eq_true (by assumption),hp];rfl)
   | (refine ⟨?_,rfl⟩;unfold ctB ctR ctK;rw [if_neg (by assumption),if_neg (by assumption),decide_eq_false (by assumption)];done)
 ·cases e
end Go.Eng
