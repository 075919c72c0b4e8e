/- Parts of the proof: R4, T1, C1, B1. No condition. -/
import Derived.Test.YtimkdohmkfjfaaaGreatDoorProg
import Derived.Test.YtimkdohmkfjfaaaGreatDoorXH10
import Derived.KernelRfl
namespace Go.Eng
open Go.Proofs
set_option linter.unusedVariables false
set_option linter.unusedSimpArgs false
set_option maxRecDepth 100000
set_option maxHeartbeats 1000000
def kB_:List Int->List Int->List Int->Option (List Int)
 | [],_,b=>some b
 | n :: r,xs,b=>if n < 0 then kB_ r xs (b++zf_ 0 (0 - n)) else match xs with
   | []=>none
   | x :: ys=>if n < 8/\x.fdiv (2 ^ (min (8*n).toNat 64)) ≠ 0 then none else kB_ r ys (b++zf_ x n)
def wo_ (w xs:List Int):Option (List Int):=if Zr_ w=true/\kE_ w=xs.length then kB_ w xs [] else none
def Kk_ (w xs:List Int):List Int:=(wo_ w xs).getD []
def JO_ (w xs:List Int):Bool:=(wo_ w xs).isSome
theorem Ye_ {w:List Int} (i:Nat):∀ k,kN_ qX_ w i<=kN_ qX_ w (i+k)
 | 0=>Int.le_refl _
 | k+1=>by
   have ih:=Ye_ (w:=w) i k
   by_cases h:i+k < w.length
   ·rw [show i+(k+1)=(i+k)+1 by omega,qv_ qX_ h]
    have:0<=qX_ (w.getD (i+k) 0):=by unfold qX_;split<;>omega
    omega
   ·rw [kM_ qX_ (show w.length<=i+(k+1) by omega)]
    rwa [kM_ qX_ (show w.length<=i+k by omega)] at ih
theorem h5_ {w:List Int} {i:Nat} (h:i < w.length) (hp:0 < w.getD i 0):kN_ qX_ w i+1<=(w.map qX_).sum:=by
 have h1:=Ye_ (w:=w) (i+1) w.length
 rw [qv_ qX_ h,kM_ qX_ (show w.length<=i+1+w.length by omega)] at h1
 have:qX_ (w.getD i 0)=1:=if_pos hp
 omega
theorem GO_ {w xs b:List Int} {i k:Nat} (h:i < w.length) (hn:w.getD i 0 < 0):kB_ (w.drop i) (xs.drop k) b=kB_ (w.drop (i+1)) (xs.drop k) (b++zf_ 0 (0 - w.getD i 0)):=by
 rw [zv_ h 0];exact if_pos hn
theorem gL_ {w xs b:List Int} {i k:Nat} (h:i < w.length) (hn:¬ w.getD i 0 < 0) (h2:k < xs.length) (h8:w.getD i 0 < 8) (hx:¬ (xs.getD k 0).fdiv (2 ^ (min (8*w.getD i 0).toNat 64))=0):kB_ (w.drop i) (xs.drop k) b=none:=by
 rw [zv_ h 0,zv_ h2 0]
 show (if w.getD i 0 < 0 then _ else _)=_
 rw [if_neg hn]
 exact if_pos ⟨h8,hx⟩
theorem gK_ {w xs b:List Int} {i k:Nat} (h:i < w.length) (hn:¬ w.getD i 0 < 0) (h2:k < xs.length) (h8:¬ (w.getD i 0 < 8/\(xs.getD k 0).fdiv (2 ^ (min (8*w.getD i 0).toNat 64)) ≠ 0)):kB_ (w.drop i) (xs.drop k) b=kB_ (w.drop (i+1)) (xs.drop (k+1)) (b++zf_ (xs.getD k 0) (w.getD i 0)):=by
 rw [zv_ h 0,zv_ h2 0]
 show (if w.getD i 0 < 0 then _ else _)=_
 rw [if_neg hn]
 exact if_neg h8
theorem Q4_ {α:Type} {l:List α} {k:Nat} {d:α}:(l.drop k).getD 0 d=l.getD k d:=by
 rw [List.getD_eq_getElem?_getD,List.getElem?_drop,Nat.add_zero,<- List.getD_eq_getElem?_getD]
def Uj_:IR:=
(sq (kr [0,1] [oD 4 (.mov (.c (.imm (.int .u8) []))),
oD 5 (.mov cF)])
(sq (sq (kr [0,1] [oM 10 0,
oC 11 164 [10],
oD 12 (.un .not 11),
oM 13 12,
oF 13 14 (.mov 0),
oF 13 15 (.call false (.f 151) [14]),
oF 13 16 (.mov 1),
oF 13 17 (.len 16),
oF 13 18 (.bin .neq 15 17),
oP 19 13 cT 18])
(.cond 19
(sq (kr [] [oD 4 (.mov (.c (.imm (.int .u8) []))),
oD 5 (.mov cF)])
.ret)
.skip))
(sq (kr [0,1] [oM 20 0,
oC 21 141 [20],
oD 22 (.mkrow (.int .u8) 1 (0:Int) (cI 0) 21),
oM 6 22])
(sq (sq (.reg [oM 23 0,
oE 24 23,
oD 25 (.mov (cI 0))])
(.block 0
(.loop
(sq (kr [1,6,23,24,25] [oB 26 .lss 25 24])
(sq (.cond 26
.skip
(.exit 0))
(sq (.block 1
(sq (.reg [oI 27 1 23 25,
oL 28 27,
oM 8 28])
(sq (sq (.reg [oM 29 8,
oB 30 .lss 29 (cI 0)])
(.cond 30
(sq (kr [1,6,8,23,24,25] [oM 31 6,
oM 32 8,
oD 33 (.un .neg 32),
oD 34 (.call true (.f 176) [31,(.c (.int .u64 0)),33]),
oM 6 34])
(.exit 1))
.skip))
(sq (kr [1,6,8,23,24,25] [oM 35 1,
oD 36 (.indexSl 1 35 (cI 0)),
oL 37 36,
oM 9 37])
(sq (sq (kr [1,6,8,9,23,24,25] [oM 38 8,
oB 39 .lss 38 (cI 8),
oM 40 39,
oT 40 41 (.mov 9),
oT 40 42 (.mov 8),
oT 40 43 (.bin .mul (cI 8) 42),
oT 40 44 (.bin .shr 41 43),
oT 40 45 (.bin .neq 44 (.c (.int .u64 0))),
oP 46 40 45 cF])
(.cond 46
(sq (kr [] [oD 4 (.mov (.c (.imm (.int .u8) []))),
oD 5 (.mov cF)])
.ret)
.skip))
(kd [1,6,8,9,23,24,25] [(oM 47 6,[]),
(oM 48 9,[0]),
(oM 49 8,[0,0]),
(oD 50 (.call true (.f 176) [47,48,49]),[]),
(oM 51 1,[0,0,0,0]),
(oD 52 (.slice 1 51 (some (cI 1)) none none),[1,0,0,0]),
(oM 6 50,[0,0]),
(oM 1 52,[])]))))))
(kr [1,6,23,24,25] [oB 53 .add 25 (cI 1),
oM 25 53])))))))
(sq (kr [6] [oM 54 6,
oM 4 54,
oD 5 (.mov cT)])
.ret)))))
def uW_:List RD:=[.tmp 4 true (some (.int .u8)),.tmp 5 true none]
theorem u2_:zq_ Tryz.prog Tryz.f149 Uj_ uW_=true:=by kernel_rfl
def Wp_:List AV->List Obj->Option (Prop × AV)
 | [.imm (.int .i64) w,.imm (.int .u64) xs],[]=>some ((True,.tup [.imm (.int .u8) (Kk_ w xs),.bool (JO_ w xs)]))
 | _,_=>none
theorem v6_:ze_ Tryz.prog 149 (RoF Wp_).sum:=by
 refine zk_ Tryz.func149 u2_ (za_ (s:=RoF qA_) Qi_ (za_ (s:=RoF j8_) X6_ (za_ (s:=RoF KB_) wg_ (za_ (s:=RwF Wo_) v5_ (zg_ _))))) fun args objs p v e=>?_
 unfold Wp_ at e
 split at e
 ·rename_i w xs
  cases e
  refine ⟨rfl,fun hw ho hp=>?_⟩
  change List Int at w
  change List Int at xs
  have hx:xs.length<=maxLen:=(hw (.imm (.int .u64) xs) (by simp)).2
  unfold maxLen at hx
  have hz:=xV_ w
  repeat'(intro t ht;first|(cases t<;>first|(cases ht;done)|(try simp only[zi_]at ht))|((first|refine zb_ ht ?_|refine ht ?_ ?_|refine ht.1 ?_ ?_|refine ht ?_)<;>clear ht))
  all_goals first
   | exact True.intro
   | (intro r h1 h2;clear h1;refine h2 ⟨[1,6,23,24,25],Nat × Nat × List Int,(fun a=>a.1<=w.length/\(a.2.2.length:Int)=kN_ zR_ w a.1/\kN_ qX_ w a.1=a.2.1/\kB_ w xs []=kB_ (w.drop a.1) (xs.drop a.2.1) a.2.2),fun a=>[.imm (.int .u64) (xs.drop a.2.1),.own 0,.imm (.int .i64) w,.int .i64 w.length,.int .i64 a.1],fun a=>[.row false (.int .u8) a.2.2],fun a=>w.length - a.1,⟨(0,0,[]),⟨Nat.zero_le _,rfl,rfl,rfl⟩,rfl,rfl⟩,?_⟩;clear h2)
   | ((try simp only [zo_,zp_,zn_] at*);omega)
   | (have hn:¬ (Zr_ w=true/\kE_ w=xs.length):=fun h=>by simp_all
      refine ⟨?_,rfl⟩;unfold Kk_ JO_ wo_;rw [if_neg hn];rfl)
  rintro ⟨i,k,b⟩ ⟨hi,hb,hk,he⟩
  dsimp only at hi hb hk he
  have hr:Zr_ w=true:=by assumption
  have hc:kE_ w=xs.length:=by assumption
  have hsum:(w.map qX_).sum=xs.length:=by unfold kE_ at hc;rwa [if_pos hr] at hc
  have hl:=(ZW_.1 hr).1
  have hs:=xE_ hr i
  have h1:=v3_ hr i
  repeat'(intro t ht;first|(cases t<;>first|(cases ht;done)|(try simp only[zi_]at ht))|((first|refine zb_ ht ?_|refine ht ?_ ?_|refine ht.1 ?_ ?_|refine ht ?_)<;>clear ht))
  all_goals first
   | ((try simp only [zo_,zp_,zn_] at*);omega)
   | (have hge:w.length<=i:=by omega
      rw [List.drop_of_length_le hge] at he
      have hf:wo_ w xs=some b:=by unfold wo_;rw [if_pos ⟨hr,hc⟩,he];rfl
      refine ⟨?_,rfl⟩;unfold Kk_ JO_;rw [hf];rfl)
   | skip
  all_goals have hlt:i < w.length:=by omega
  all_goals have hkk:=(ZW_.1 hr).2 _ (Zs_ (α:=Int) hlt 0)
  all_goals first
   | ((try simp only [zo_,zp_,zn_] at*);rw [List.length_drop];omega)
   | ((try simp only [zo_,zp_,zn_] at*);omega)
   | (have hn:w.getD i 0 < 0:=by assumption
      have ha:=uA_ hn
      have h0:qX_ (w.getD i 0)=0:=if_neg (by omega)
      have hbl:=zm_ (n:=0) (w:=0 - w.getD i 0) (by omega)
      refine ⟨(i+1,k,b++zf_ 0 (0 - w.getD i 0)),⟨hlt,?_,?_,?_⟩,by dsimp only;omega,rfl,rfl⟩
      ·rw [qv_ zR_ hlt,ha];simp only [List.length_append];omega
      ·rw [qv_ qX_ hlt,h0];dsimp only;omega
      ·rw [he];exact GO_ hlt hn)
   | (have hn:¬ w.getD i 0 < 0:=by assumption
      have hlt2:=h5_ (w:=w) (i:=i) hlt (by omega)
      have h2:k < xs.length:=by omega
      first
       | ((try simp only [zo_,zp_,zn_] at*);rw [List.length_drop];omega)
       | (have h8:w.getD i 0 < 8:=by assumption
          have hx:¬ ((xs.drop k).getD 0 0).fdiv (2 ^ (min (8*w.getD i 0).toNat 64))=0:=by assumption
          rw [Q4_] at hx
          have hf:wo_ w xs=none:=by unfold wo_;rw [if_pos ⟨hr,hc⟩,he];exact gL_ hlt hn h2 h8 hx
          refine ⟨?_,rfl⟩;unfold Kk_ JO_;rw [hf];rfl)
       | (have h8:¬ (w.getD i 0 < 8/\(xs.getD k 0).fdiv (2 ^ (min (8*w.getD i 0).toNat 64)) ≠ 0):=fun h=>by
           first
            | (exact absurd h.1 (by assumption))
            | (have hx:((xs.drop k).getD 0 0).fdiv (2 ^ (min (8*w.getD i 0).toNat 64))=0:=by assumption
               rw [Q4_] at hx
               exact h.2 hx)
          have ha:=gr_ hn
          have h0:qX_ (w.getD i 0)=1:=if_pos (by omega)
          have hbl:=zm_ (n:=xs.getD k 0) (w:=w.getD i 0) (by omega)
          refine ⟨(i+1,k+1,b++zf_ (xs.getD k 0) (w.getD i 0)),⟨hlt,?_,?_,?_⟩,by dsimp only;omega,?_,?_⟩
          ·rw [qv_ zR_ hlt,ha];simp only [List.length_append];omega
          ·rw [qv_ qX_ hlt,h0];dsimp only;omega
          ·rw [he];exact gK_ hlt hn h2 h8
          ·dsimp only;rw [<- List.drop_drop];rfl
          ·dsimp only;rw [<- Q4_ (l:=xs) (k:=k)];rfl))
 ·cases e
def Kv_:List Int->List Int->List Int->List Int × Int
 | [],_,o=>(o,0)
 | n :: r,b,o=>if (b.length:Int) < zR_ n then ([],1) else if 0 < n then Kv_ r (b.drop (zR_ n).toNat) (o++[Z2_ (b.take (zR_ n).toNat)]) else if qc_ (b.take (zR_ n).toNat)=true then Kv_ r (b.drop (zR_ n).toNat) o else ([],2)
def Q3_ (w b:List Int):List Int × Int:=if Zr_ w=true then Kv_ w b [] else ([],2)
def XC_ (w b:List Int):List Int:=(Q3_ w b).1
def JT_ (w b:List Int):Int:=(Q3_ w b).2
theorem Uo_ {w b o:List Int} {i:Nat} (h:i < w.length) (h1:(b.length:Int) < zR_ (w.getD i 0)):Kv_ (w.drop i) b o=([],1):=by
 rw [zv_ h 0];exact if_pos h1
theorem hr_ {w b o:List Int} {i:Nat} (h:i < w.length) (h1:¬ (b.length:Int) < zR_ (w.getD i 0)) (h2:0 < w.getD i 0):Kv_ (w.drop i) b o=Kv_ (w.drop (i+1)) (b.drop (zR_ (w.getD i 0)).toNat) (o++[Z2_ (b.take (zR_ (w.getD i 0)).toNat)]):=by
 rw [zv_ h 0]
 show (if (b.length:Int) < zR_ (w.getD i 0) then _ else _)=_
 rw [if_neg h1];exact if_pos h2
theorem g6_ {w b o:List Int} {i:Nat} (h:i < w.length) (h1:¬ (b.length:Int) < zR_ (w.getD i 0)) (h2:¬ 0 < w.getD i 0) (h3:qc_ (b.take (zR_ (w.getD i 0)).toNat)=true):Kv_ (w.drop i) b o=Kv_ (w.drop (i+1)) (b.drop (zR_ (w.getD i 0)).toNat) o:=by
 rw [zv_ h 0]
 show (if (b.length:Int) < zR_ (w.getD i 0) then _ else _)=_
 rw [if_neg h1]
 show (if 0 < w.getD i 0 then _ else _)=_
 rw [if_neg h2];exact if_pos h3
theorem hq_ {w b o:List Int} {i:Nat} (h:i < w.length) (h1:¬ (b.length:Int) < zR_ (w.getD i 0)) (h2:¬ 0 < w.getD i 0) (h3:qc_ (b.take (zR_ (w.getD i 0)).toNat)=false):Kv_ (w.drop i) b o=([],2):=by
 rw [zv_ h 0]
 show (if (b.length:Int) < zR_ (w.getD i 0) then _ else _)=_
 rw [if_neg h1]
 show (if 0 < w.getD i 0 then _ else _)=_
 rw [if_neg h2];exact if_neg (by rw [h3];simp)
def Uk_:IR:=
(sq (kr [0,1] [oD 4 (.nilrow (.int .u64)),
oD 5 (.mov (cI 0))])
(sq (sq (.reg [oM 10 0,
oC 11 164 [10],
oD 12 (.un .not 11)])
(.cond 12
(sq (.reg [oD 4 (.nilrow (.int .u64)),
oD 5 (.mov (cI 2))])
.ret)
.skip))
(sq (kr [0,1] [oD 6 (.nilrow (.int .u64))])
(sq (sq (.reg [oM 13 0,
oE 14 13,
oD 15 (.mov (cI 0))])
(.block 0
(.loop
(sq (kr [1,6,13,14,15] [oB 16 .lss 15 14])
(sq (.cond 16
.skip
(.exit 0))
(sq (.block 1
(sq (.reg [oI 17 1 13 15,
oL 18 17,
oM 8 18])
(sq (kr [1,6,8,13,14,15] [oM 19 8,
oM 20 8,
oD 21 (.un .neg 20),
oD 22 (.minmax true 19 21),
oM 9 22])
(sq (.block 2
(sq (kr [1,6,8,9,13,14,15] [oM 24 1,
oE 25 24,
oM 26 9,
oB 27 .lss 25 26,
oM 23 27])
(.cond 23
(sq (.reg [oD 4 (.nilrow (.int .u64)),
oD 5 (.mov (cI 1))])
.ret)
(sq (.reg [oM 29 8,
oB 30 .gtr 29 (cI 0),
oM 28 30])
(.cond 28
(kr [1,6,9,13,14,15] [oM 31 6,
oM 32 1,
oM 33 9,
oD 34 (.slice 1 32 none (some 33) none),
oC 35 165 [34],
oD 36 (.sliceAll (.int .u64) 1 [(0,1,35)]),
oD 37 (.append (.int .u64) 8 31 36),
oM 6 37])
(sq (kr [1,6,9,13,14,15] [oM 39 1,
oM 40 9,
oD 41 (.slice 1 39 none (some 40) none),
oC 42 166 [41],
oD 43 (.un .not 42),
oM 38 43])
(.cond 38
(sq (kr [] [oD 4 (.nilrow (.int .u64)),
oD 5 (.mov (cI 2))])
.ret)
.skip)))))))
(kr [1,6,9,13,14,15] [oM 44 1,
oM 45 9,
oD 46 (.slice 1 44 (some 45) none none),
oM 1 46])))))
(kr [1,6,13,14,15] [oB 47 .add 15 (cI 1),
oM 15 47])))))))
(sq (kr [6] [oM 48 6,
oM 4 48,
oD 5 (.mov (cI 0))])
.ret)))))
def uX_:List RD:=[.tmp 4 true (some (.int .u64)),.tmp 5 true none]
theorem u3_:zq_ Tryz.prog Tryz.f140 Uk_ uX_=true:=by kernel_rfl
def Wq_:List AV->List Obj->Option (Prop × AV)
 | [.imm (.int .i64) w,.imm (.int .u8) b],[]=>some ((True,.tup [.imm (.int .u64) (XC_ w b),.int .i64 (JT_ w b)]))
 | _,_=>none
theorem v7_:ze_ Tryz.prog 140 (RoF Wq_).sum:=by
 refine zk_ Tryz.func140 u3_ (za_ (s:=RoF qA_) Qi_ (za_ (s:=RoF KA_) xI_ (za_ (s:=RoF J1_) YT_ (zg_ _)))) fun args objs p v e=>?_
 unfold Wq_ at e
 split at e
 ·rename_i w b
  cases e
  refine ⟨rfl,fun hw ho hp=>?_⟩
  change List Int at w
  change List Int at b
  have hb:b.length<=maxLen:=(hw (.imm (.int .u8) b) (by simp)).2
  unfold maxLen at hb
  repeat'(intro t ht;first|(cases t<;>first|(cases ht;done)|(try simp only[zi_]at ht))|((first|refine zb_ ht ?_|refine ht ?_ ?_|refine ht.1 ?_ ?_|refine ht ?_)<;>clear ht))
  all_goals first
   | exact True.intro
   | (intro r h1 h2;clear h1;refine h2 ⟨[1,6,13,14,15],Nat × List Int × List Int,(fun a=>a.1<=w.length/\a.2.1.length<=b.length/\a.2.2.length<=a.1/\Kv_ w b []=Kv_ (w.drop a.1) a.2.1 a.2.2),fun a=>[.imm (.int .u8) a.2.1,.own 0,.imm (.int .i64) w,.int .i64 w.length,.int .i64 a.1],fun a=>[.row false (.int .u64) a.2.2],fun a=>w.length - a.1,⟨(0,b,[]),⟨Nat.zero_le _,Nat.le_refl _,Nat.zero_le _,rfl⟩,rfl,rfl⟩,?_⟩;clear h2)
   | (have hr:Zr_ w=false:=by assumption
      have hf:Q3_ w b=([],2):=by unfold Q3_;rw [hr];rfl
      refine ⟨?_,rfl⟩;unfold XC_ JT_;rw [hf])
  rintro ⟨i,c,o⟩ ⟨hi,hc,ho,he⟩
  dsimp only at hi hc ho he
  have hr:Zr_ w=true:=by assumption
  have hl:=(ZW_.1 hr).1
  repeat'(intro t ht;first|(cases t<;>first|(cases ht;done)|(try simp only[zi_]at ht))|((first|refine zb_ ht ?_|refine ht ?_ ?_|refine ht.1 ?_ ?_|refine ht ?_)<;>clear ht))
  all_goals first
   | ((try simp only [zo_,zp_,zn_] at*);omega)
   | (have hge:w.length<=i:=by omega
      rw [List.drop_of_length_le hge] at he
      have hf:Q3_ w b=(o,0):=by unfold Q3_;rw [if_pos hr,he];rfl
      refine ⟨?_,rfl⟩;unfold XC_ JT_;rw [hf];done)
   | skip
  all_goals have hlt:i < w.length:=by omega
  all_goals have hkk:=(ZW_.1 hr).2 _ (Zs_ (α:=Int) hlt 0)
  all_goals have ha:=vS_ (n:=w.getD i 0)
  all_goals have hA:(if 0 - w.getD i 0 > w.getD i 0 then 0 - w.getD i 0 else w.getD i 0)=zR_ (w.getD i 0):=rfl
  all_goals first
   | exact True.intro
   | ((try simp only [zo_,zp_,zn_] at*);omega)
   | (have h1:(c.length:Int) < zR_ (w.getD i 0):=by assumption
      have hf:Q3_ w b=([],1):=by unfold Q3_;rw [if_pos hr,he];exact Uo_ hlt h1
      refine ⟨?_,rfl⟩;unfold XC_ JT_;rw [hf];done)
   | (have h1:¬ (c.length:Int) < zR_ (w.getD i 0):=by assumption
      first
       | (have h2:¬ 0 < w.getD i 0:=by assumption
          first
           | (have h3:qc_ (c.take (zR_ (w.getD i 0)).toNat)=true:=by assumption
              refine ⟨(i+1,c.drop (zR_ (w.getD i 0)).toNat,o),⟨hlt,?_,by dsimp only;omega,?_⟩,by dsimp only;omega,rfl,rfl⟩
              ·dsimp only;rw [List.length_drop];omega
              ·rw [he];exact g6_ hlt h1 h2 h3)
           | (have h3:qc_ (c.take (zR_ (w.getD i 0)).toNat)=false:=by assumption
              have hf:Q3_ w b=([],2):=by unfold Q3_;rw [if_pos hr,he];exact hq_ hlt h1 h2 h3
              refine ⟨?_,rfl⟩;unfold XC_ JT_;rw [hf];done))
       | (have h2:0 < w.getD i 0:=by assumption
          first
           | (show (c.take (zR_ (w.getD i 0)).toNat).length<=8;rw [List.length_take];omega)
           | (simp only [qo_,List.length_append,List.length_cons,List.length_nil];omega)
           | (refine ⟨(i+1,c.drop (zR_ (w.getD i 0)).toNat,o++[Z2_ (c.take (zR_ (w.getD i 0)).toNat)]),⟨hlt,?_,?_,?_⟩,by dsimp only;omega,rfl,rfl⟩
              ·dsimp only;rw [List.length_drop];omega
              ·simp only [List.length_append,List.length_cons,List.length_nil];omega
              ·rw [he];exact hr_ hlt h1 h2)))
 ·cases e
theorem uL_ {α:Type} {a b:List α} {d:α} {i:Nat} (h:a.take i=b.take i) (hi:i < a.length) (hl:a.length=b.length) (e:a.getD i d=b.getD i d):a.take (i+1)=b.take (i+1):=by
 have hb:i < b.length:=by omega
 rw [List.getD_eq_getElem?_getD,List.getD_eq_getElem?_getD,List.getElem?_eq_getElem hi,List.getElem?_eq_getElem hb] at e
 rw [List.take_succ_eq_append_getElem hi,List.take_succ_eq_append_getElem hb,h,show a[i]=b[i] from e]
theorem Gy_ {α:Type} {a b:List α} {i:Nat} (h:a.take i=b.take i) (hi:a.length<=i) (hl:a.length=b.length):a=b:=by
 rwa [List.take_of_length_le hi,List.take_of_length_le (by omega)] at h
theorem bn_ {α:Type} {a b:List α} {d:α} {i:Nat} (e:¬ a.getD i d=b.getD i d):a ≠ b:=fun h=>e (by rw [h])
def vC_:IR:=
(sq (kr [0,1] [oD 4 (.mov cF)])
(sq (sq (kr [0,1] [oM 6 0,
oE 7 6,
oM 8 1,
oE 9 8,
oB 10 .neq 7 9])
(.cond 10
(sq (.reg [oD 4 (.mov cF)])
.ret)
.skip))
(sq (sq (kr [0,1] [oD 5 (.mov (cI 0))])
(.block 0
(.loop
(sq (sq (kr [0,1,5] [oM 11 5,
oM 12 0,
oE 13 12,
oB 14 .lss 11 13])
(.cond 14
.skip
(.exit 0)))
(sq (.block 1
(sq (kd [0,1,5] [(oM 17 0,[]),
(oM 18 5,[0]),
(oI 19 1 17 18,[]),
(oL 20 19,[]),
(oM 21 1,[0,0,0,0]),
(oM 22 5,[0,0,0,0,0]),
(oI 23 1 21 22,[2,0,0,0]),
(oL 24 23,[3,0,0,0]),
(oB 25 .neq 20 24,[])])
(.cond 25
(sq (kr [] [oD 4 (.mov cF)])
.ret)
.skip)))
(kr [0,1,5] [oM 15 5,
oB 16 .add 15 (cI 1),
oM 5 16]))))))
(sq (kr [] [oD 4 (.mov cT)])
.ret))))
def Y8_:List RD:=[.tmp 4 true none]
theorem vj_:zq_ Tryz.prog Tryz.f20 vC_ Y8_=true:=by kernel_rfl
def ku_:List AV->List Obj->Option (Prop × AV)
 | [.imm (.int .u8) a,.imm (.int .u8) b],[]=>some ((True,.bool (decide (a=b))))
 | _,_=>none
theorem Jz_:ze_ Tryz.prog 20 (RoF ku_).sum:=by
 refine zk_ Tryz.func20 vj_ (zg_ _) fun args objs p v e=>?_
 unfold ku_ at e
 split at e
 ·rename_i a b
  cases e
  refine ⟨rfl,fun hw ho hp=>?_⟩
  change List Int at a
  change List Int at b
  have hl:a.length<=maxLen:=(hw (.imm (.int .u8) a) (by simp)).2
  unfold maxLen at hl
  repeat'(intro t ht;first|(cases t<;>first|(cases ht;done)|(try simp only[zi_]at ht))|((first|refine zb_ ht ?_|refine ht ?_ ?_|refine ht.1 ?_ ?_|refine ht ?_)<;>clear ht))
  all_goals first
   | (have hne:a ≠ b:=fun h=>(by assumption:¬ (a.length:Int)=b.length) (by rw [h])
      refine ⟨?_,rfl⟩;rw [decide_eq_false hne];done)
   | (intro r h1 h2;clear h1;refine h2 ⟨[0,1,5],Nat,(fun i=>i<=a.length/\a.take i=b.take i),fun i=>[.imm (.int .u8) a,.imm (.int .u8) b,.int .i64 i],fun _=>[],fun i=>a.length - i,⟨0,⟨Nat.zero_le _,rfl⟩,rfl,rfl⟩,?_⟩;clear h2)
  rintro i ⟨hi,he⟩
  have hl2:a.length=b.length:=by omega
  repeat'(intro t ht;first|(cases t<;>first|(cases ht;done)|(try simp only[zi_]at ht))|((first|refine zb_ ht ?_|refine ht ?_ ?_|refine ht.1 ?_ ?_|refine ht ?_)<;>clear ht))
  all_goals first
   | ((try simp only [zo_,zp_,zn_] at*);omega)
   | (have hge:a.length<=i:=by omega
      have e:=Gy_ he hge hl2
      refine ⟨?_,rfl⟩;rw [decide_eq_true e];done)
   | (have hne:a ≠ b:=bn_ (d:=0) (i:=i) (by assumption)
      refine ⟨?_,rfl⟩;rw [decide_eq_false hne];done)
   | (have hlt:i < a.length:=by omega
      exact ⟨i+1,⟨hlt,uL_ he hlt hl2 (d:=0) (by assumption)⟩,by (try simp only [zo_,zp_,zn_] at*);omega,rfl,rfl⟩)
 ·cases e
def k9_ (b:List Int) (c:Int):Nat->Nat
 | 0=>0
 | k+1=>if b.getD k 0=c then k9_ b c k else k+1
def Wy_ (b:List Int) (c:Int):List Int:=b.take (k9_ b c b.length)
def jt_ (b:List Int) (c:Int):List Int:=b.dropWhile fun x=>decide (x=c)
theorem wU_ {b:List Int} {k j:Nat} (h:j < k):(b.take k).getD j 0=b.getD j 0:=by
 rw [List.getD_eq_getElem?_getD,List.getElem?_take,if_pos h,<- List.getD_eq_getElem?_getD]
def Kt_:IR:=
(sq (kr [0,1] [oD 4 (.mov (.c (.imm (.int .u8) [])))])
(sq (.block 0
(.loop
(sq (sq (kr [0,1] [oM 5 0,
oE 6 5,
oB 7 .gtr 6 (cI 0),
oM 8 7,
oT 8 9 (.mov 0),
oT 8 10 (.mov 0),
oT 8 11 (.len 10),
oT 8 12 (.bin .sub 11 (cI 1)),
oT 8 13 (.indexSl 1 9 12),
oT 8 14 (.load none 13),
oT 8 15 (.mov 1),
oT 8 16 (.bin .eql 14 15),
oP 17 8 16 cF])
(.cond 17
.skip
(.exit 0)))
(.block 1
(kr [0,1] [oM 18 0,
oM 19 0,
oE 20 19,
oB 21 .sub 20 (cI 1),
oD 22 (.slice 1 18 none (some 21) none),
oM 0 22])))))
(sq (kr [0] [oM 23 0,
oM 4 23])
.ret)))
def Ki_:List RD:=[.tmp 4 true (some (.int .u8))]
theorem Ko_:zq_ Tryz.prog Tryz.f219 Kt_ Ki_=true:=by kernel_rfl
def ZR_:List AV->List Obj->Option (Prop × AV)
 | [.imm (.int .u8) b,.int .u8 c],[]=>some ((b.length<=140737488355328,.imm (.int .u8) (Wy_ b c)))
 | _,_=>none
theorem kP_:ze_ Tryz.prog 219 (RoF ZR_).sum:=by
 refine zk_ Tryz.func219 Ko_ (zg_ _) fun args objs p v e=>?_
 unfold ZR_ at e
 split at e
 ·rename_i b c
  cases e
  refine ⟨rfl,fun hw ho hp=>?_⟩
  change List Int at b
  repeat'(intro t ht;first|(cases t<;>first|(cases ht;done)|(try simp only[zi_]at ht))|((first|refine zb_ ht ?_|refine ht ?_ ?_|refine ht.1 ?_ ?_|refine ht ?_)<;>clear ht))
  all_goals first
   | (intro r h1 h2;clear h1;refine h2 ⟨[0,1],Nat,(fun k=>k<=b.length/\k9_ b c b.length=k9_ b c k),fun k=>[.imm (.int .u8) (b.take k),.int .u8 c],fun _=>[],fun k=>k,⟨b.length,⟨Nat.le_refl _,rfl⟩,by simp only [List.take_length],rfl⟩,?_⟩;clear h2)
  rintro k ⟨hk,he⟩
  have hl:(b.take k).length=k:=by rw [List.length_take];omega
  repeat'(intro t ht;first|(cases t<;>first|(cases ht;done)|(try simp only[zi_]at ht))|((first|refine zb_ ht ?_|refine ht ?_ ?_|refine ht.1 ?_ ?_|refine ht ?_)<;>clear ht))
  all_goals first
   | ((try simp only [zo_,zp_,zn_] at*);omega)
   | (have h0:k=0:=by omega
      refine ⟨?_,rfl⟩;unfold Wy_;rw [he,h0];rfl)
   | (obtain ⟨j,rfl⟩:∃ j,k=j+1:=⟨k - 1,by omega⟩
      have e:(((b.take (j+1)).length:Int) - 1).toNat=j:=by omega
      first
       | (have hx:¬ (b.take (j+1)).getD (((b.take (j+1)).length:Int) - 1).toNat 0=c:=by assumption
          rw [e,wU_ (Nat.lt_succ_self j)] at hx
          have h1:k9_ b c (j+1)=j+1:=if_neg hx
          refine ⟨?_,rfl⟩;unfold Wy_;rw [he,h1])
       | (have hx:(b.take (j+1)).getD (((b.take (j+1)).length:Int) - 1).toNat 0=c:=by assumption
          rw [e,wU_ (Nat.lt_succ_self j)] at hx
          have h1:k9_ b c (j+1)=k9_ b c j:=if_pos hx
          refine ⟨j,⟨by omega,by rw [he,h1]⟩,Nat.lt_succ_self j,?_,rfl⟩
          dsimp only;rw [e,List.take_take,Nat.min_eq_left (Nat.le_succ j)]))
 ·cases e
def jn_:IR:=
(sq (kr [0,1] [oD 4 (.mov (.c (.imm (.int .u8) [])))])
(sq (.block 0
(.loop
(sq (sq (kr [0,1] [oM 5 0,
oE 6 5,
oB 7 .gtr 6 (cI 0),
oM 8 7,
oT 8 9 (.mov 0),
oT 8 10 (.indexSl 1 9 (cI 0)),
oT 8 11 (.load none 10),
oT 8 12 (.mov 1),
oT 8 13 (.bin .eql 11 12),
oP 14 8 13 cF])
(.cond 14
.skip
(.exit 0)))
(.block 1
(kr [0,1] [oM 15 0,
oD 16 (.slice 1 15 (some (cI 1)) none none),
oM 0 16])))))
(sq (sq (kr [0] [oM 17 0,
oE 18 17,
oB 19 .eql 18 (cI 0)])
(.cond 19
(sq (.reg [oD 4 (.mov (.c (.imm (.int .u8) [])))])
.ret)
.skip))
(sq (.reg [oM 20 0,
oM 4 20])
.ret))))
def K3_:List RD:=[.tmp 4 true (some (.int .u8))]
theorem jd_:zq_ Tryz.prog Tryz.f218 jn_ K3_=true:=by kernel_rfl
def Z8_:List AV->List Obj->Option (Prop × AV)
 | [.imm (.int .u8) b,.int .u8 c],[]=>some ((b.length<=140737488355328,.imm (.int .u8) (jt_ b c)))
 | _,_=>none
theorem Kd_:ze_ Tryz.prog 218 (RoF Z8_).sum:=by
 refine zk_ Tryz.func218 jd_ (zg_ _) fun args objs p v e=>?_
 unfold Z8_ at e
 split at e
 ·rename_i b c
  cases e
  refine ⟨rfl,fun hw ho hp=>?_⟩
  change List Int at b
  repeat'(intro t ht;first|(cases t<;>first|(cases ht;done)|(try simp only[zi_]at ht))|((first|refine zb_ ht ?_|refine ht ?_ ?_|refine ht.1 ?_ ?_|refine ht ?_)<;>clear ht))
  all_goals first
   | (intro r h1 h2;clear h1;refine h2 ⟨[0,1],Nat,(fun k=>k<=b.length/\jt_ b c=jt_ (b.drop k) c),fun k=>[.imm (.int .u8) (b.drop k),.int .u8 c],fun _=>[],fun k=>b.length - k,⟨0,⟨Nat.zero_le _,rfl⟩,rfl,rfl⟩,?_⟩;clear h2)
  rintro k ⟨hk,he⟩
  have hl:(b.drop k).length=b.length - k:=List.length_drop
  repeat'(intro t ht;first|(cases t<;>first|(cases ht;done)|(try simp only[zi_]at ht))|((first|refine zb_ ht ?_|refine ht ?_ ?_|refine ht.1 ?_ ?_|refine ht ?_)<;>clear ht))
  all_goals first
   | ((try simp only [zo_,zp_,zn_] at*);omega)
   | (exfalso;omega)
   | (have h0:b.drop k=[]:=List.eq_nil_of_length_eq_zero (by omega)
      refine ⟨?_,rfl⟩;rw [he,h0];rfl)
   | (have hlt:k < b.length:=by omega
      first
       | (have hx:¬ (b.drop k).getD 0 0=c:=by assumption
          rw [Q4_] at hx
          have h1:jt_ (b.drop k) c=b.drop k:=by
           unfold jt_;rw [zv_ hlt 0,List.dropWhile_cons_of_neg (by simpa using hx)]
          refine ⟨?_,rfl⟩;rw [he,h1])
       | (have hx:(b.drop k).getD 0 0=c:=by assumption
          rw [Q4_] at hx
          have h1:jt_ (b.drop k) c=jt_ (b.drop (k+1)) c:=by
           unfold jt_;rw [zv_ hlt 0,List.dropWhile_cons_of_pos (by simpa using hx)]
          refine ⟨k+1,⟨hlt,by rw [he,h1]⟩,by dsimp only;omega,?_,rfl⟩
          dsimp only;rw [<- List.drop_drop];rfl))
 ·cases e
theorem gB_:∀ (b:List Int),decide ((jt_ (Wy_ b 0) 0).length=0)=qc_ b:=by
 intro b
 have hR:∀ k ≤ b.length,(b.take (k9_ b 0 k)).all (fun c=>decide (c=0))=(b.take k).all fun c=>decide (c=0):=by
  intro k
  induction k with
  | zero=>intro _;rfl
  | succ k ih=>
    intro hk
    unfold k9_
    split
    ·rename_i h
     rw [ih (by omega),List.take_succ_eq_append_getElem (by omega),List.all_append]
     have:b[k]=0:=by rw [List.getD_eq_getElem?_getD,List.getElem?_eq_getElem (by omega)] at h;exact h
     simp [this]
    ·rfl
 have hL:∀ l:List Int,decide ((l.dropWhile fun x=>decide (x=0)).length=0)=l.all fun c=>decide (c=0):=by
  intro l
  induction l with
  | nil=>rfl
  | cons a l ih=>
    by_cases h:a=0
    ·rw [List.dropWhile_cons_of_pos (by simpa using h),ih];simp [h]
    ·rw [List.dropWhile_cons_of_neg (by simpa using h)];simp [h]
 unfold jt_ Wy_ qc_
 rw [hL,hR _ (Nat.le_refl _),List.take_length]
def y5_:IR:=
(sq (kr [0,1] [oD 4 (.mov (.c (.imm (.int .u8) [])))])
(sq (sq (.reg [oM 7 0,
oE 8 7,
oB 9 .eql 8 (cI 0)])
(.cond 9
(sq (.reg [oD 4 (.mov (.c (.imm (.int .u8) [])))])
.ret)
.skip))
(sq (sq (.reg [oM 10 1,
oB 11 .eql 10 (.c (.str []))])
(.cond 11
(sq (kr [0] [oM 12 0,
oM 4 12])
.ret)
.skip))
(sq (sq (kr [0,1] [oM 13 1,
oD 14 (.slen 13),
oB 15 .eql 14 (cI 1),
oM 16 15,
oT 16 17 (.mov 1),
oT 16 18 (.sindex 17 (cI 0)),
oT 16 19 (.bin .lss 18 (.c (.int .u8 128))),
oP 20 16 19 cF])
(.cond 20
(sq (kd [0,1] [(oM 21 0,[]),
(oM 22 1,[0]),
(oD 23 (.sindex 22 (cI 0)),[1]),
(oC 24 219 [21,23],[]),
(oM 25 1,[0,0,0,0]),
(oD 26 (.sindex 25 (cI 0)),[1,0,0,0]),
(oC 27 218 [24,26],[]),
(oM 4 27,[])])
.ret)
.skip))
(sq (sq (kr [0,1] [oM 29 1,
oC 30 220 [29],
oM 28 30,
oX 31 28 0,
oX 32 28 1,
oD 5 (.box [.kb false,.kb false,.kb false,.kb false,.kb false,.kb false,.kb false,.kb false,.kb false,.kb false,.kb false,.kb false,.kb false,.kb false,.kb false,.kb false,.kb false,.kb false,.kb false,.kb false,.kb false,.kb false,.kb false,.kb false,.kb false,.kb false,.kb false,.kb false,.kb false,.kb false,.kb false,.kb false,.kb false,.kb false,.kb false,.kb false,.kb false,.kb false,.kb false,.kb false,.kb false,.kb false,.kb false,.kb false,.kb false,.kb false,.kb false,.kb false,.kb false,.kb false,.kb false,.kb false,.kb false,.kb false,.kb false,.kb false,.kb false,.kb false,.kb false,.kb false,.kb false,.kb false,.kb false,.kb false,.kb false,.kb false,.kb false,.kb false,.kb false,.kb false,.kb false,.kb false,.kb false,.kb false,.kb false,.kb false,.kb false,.kb false,.kb false,.kb false,.kb false,.kb false,.kb false,.kb false,.kb false,.kb false,.kb false,.kb false,.kb false,.kb false,.kb false,.kb false,.kb false,.kb false,.kb false,.kb false,.kb false,.kb false,.kb false,.kb false,.kb false,.kb false,.kb false,.kb false,.kb false,.kb false,.kb false,.kb false,.kb false,.kb false,.kb false,.kb false,.kb false,.kb false,.kb false,.kb false,.kb false,.kb false,.kb false,.kb false,.kb false,.kb false,.kb false,.kb false,.kb false,.kb false,.kb false,.kb false,.kb false,.kb false,.kb false,.kb false,.kb false,.kb false,.kb false,.kb false,.kb false,.kb false,.kb false,.kb false,.kb false,.kb false,.kb false,.kb false,.kb false,.kb false,.kb false,.kb false,.kb false,.kb false,.kb false,.kb false,.kb false,.kb false,.kb false,.kb false,.kb false,.kb false,.kb false,.kb false,.kb false,.kb false,.kb false,.kb false,.kb false,.kb false,.kb false,.kb false,.kb false,.kb false,.kb false,.kb false,.kb false,.kb false,.kb false,.kb false,.kb false,.kb false,.kb false,.kb false,.kb false,.kb false,.kb false,.kb false,.kb false,.kb false,.kb false,.kb false,.kb false,.kb false,.kb false,.kb false,.kb false,.kb false,.kb false,.kb false,.kb false,.kb false,.kb false,.kb false,.kb false,.kb false,.kb false,.kb false,.kb false,.kb false,.kb false,.kb false,.kb false,.kb false,.kb false,.kb false,.kb false,.kb false,.kb false,.kb false,.kb false,.kb false,.kb false,.kb false,.kb false,.kb false,.kb false,.kb false,.kb false,.kb false,.kb false,.kb false,.kb false,.kb false,.kb false,.kb false,.kb false,.kb false,.kb false,.kb false,.kb false,.kb false,.kb false,.kb false,.kb false,.kb false,.kb false,.kb false,.kb false,.kb false,.kb false,.kb false,.kb false,.kb false,.kb false,.kb false,.kb false,.kb false,.kb false,.kb false]),
oS 256 5 31,
oM 6 32])
(sq (kr [0,1,5,6] [oM 33 6])
(.cond 33
(sq (.reg [oM 34 0,
oC 35 222 [34,5],
oC 36 221 [35,5],
oM 4 36])
.ret)
.skip)))
(sq (kr [0,1] [oM 37 0,
oM 38 1,
oC 39 224 [37,38],
oM 40 1,
oC 41 223 [39,40],
oM 4 41])
.ret))))))
def ys_:List RD:=[.tmp 4 true (some (.int .u8))]
theorem yL_:zq_ Tryz.prog Tryz.f192 y5_ ys_=true:=by kernel_rfl
def KQ_:List AV->List Obj->Option (Prop × AV)
 | [.imm (.int .u8) b,.str [0]],[]=>some ((b.length<=140737488355328,.imm (.int .u8) (jt_ (Wy_ b 0) 0)))
 | _,_=>none
theorem xU_:ze_ Tryz.prog 192 (RoF KQ_).sum:=by
 refine zk_ Tryz.func192 yL_ (za_ (s:=RoF ZR_) kP_ (za_ (s:=RoF Z8_) Kd_ (zg_ _))) fun args objs p v e=>?_
 unfold KQ_ at e
 split at e
 ·rename_i b
  cases e
  refine ⟨rfl,fun hw ho hp=>?_⟩
  change List Int at b
  have hl:(Wy_ b 0).length<=b.length:=by unfold Wy_;rw [List.length_take];omega
  repeat'(intro t ht;first|(cases t<;>first|(cases ht;done)|(try simp only[zi_]at ht))|((first|refine zb_ ht ?_|refine ht ?_ ?_|refine ht.1 ?_ ?_|refine ht ?_)<;>clear ht))
  all_goals first
   | exact hp
   | exact ⟨by decide,by decide⟩
   | exact Nat.le_trans hl hp
   | exact ⟨rfl,rfl⟩
   | (have hb:b=[]:=List.eq_nil_of_length_eq_zero (by omega)
      refine ⟨?_,rfl⟩;rw [hb];rfl)
 ·cases e
def Xy_:IR:=
(sq (kr [0] [oD 2 (.mov (.c (.imm (.int .u8) [])))])
(sq (sq (.reg [oM 3 0,
oD 4 (.isnil false 3)])
(.cond 4
(sq (.reg [oD 2 (.mov (.c (.imm (.int .u8) [])))])
.ret)
.skip))
(sq (.reg [oD 5 (.slice0 (.int .u8)),
oM 6 0,
oD 7 (.append (.int .u8) 1 5 6),
oM 2 7])
.ret)))
def x5_:List RD:=[.tmp 2 true (some (.int .u8))]
theorem Xj_:zq_ Tryz.prog Tryz.f68 Xy_ x5_=true:=by kernel_rfl
def qq_:List AV->List Obj->Option (Prop × AV)
 | [.imm (.int .u8) b],[]=>some ((b.length<=140737488355328,.imm (.int .u8) b))
 | _,_=>none
theorem QD_:ze_ Tryz.prog 68 (RoF qq_).sum:=by
 refine zk_ Tryz.func68 Xj_ (zg_ _) fun args objs p v e=>?_
 unfold qq_ at e
 split at e
 ·rename_i b
  cases e
  refine ⟨rfl,fun hw ho hp=>?_⟩
  change List Int at b
  repeat'(intro t ht;first|(cases t<;>first|(cases ht;done)|(try simp only[zi_]at ht))|((first|refine zb_ ht ?_|refine ht ?_ ?_|refine ht.1 ?_ ?_|refine ht ?_)<;>clear ht))
  all_goals first
   | (simp only [qo_,List.length_nil,Nat.zero_add,Nat.mul_one];omega)
   | exact ⟨rfl,rfl⟩
   | (have e:b=[]:=by simp_all
      refine ⟨?_,rfl⟩;rw [e])
 ·cases e
def jk_:IR:=
(sq (kr [0] [oD 2 (.mov cF)])
(sq (kr [0] [oM 3 0,
oD 4 (.eqp false 3 (.c (.nilp))),
oM 5 4,
oF 5 6 (.mov 0),
oF 5 7 (.nilck 6),
oF 5 8 (.fieldAddr 5 7),
oF 5 9 (.load none 8),
oF 5 10 (.un .not 9),
oP 11 5 cT 10,
oM 2 11])
.ret))
def K0_:List RD:=[.tmp 2 true none]
theorem ja_:zq_ Tryz.prog Tryz.f111 jk_ K0_=true:=by kernel_rfl
def zE_:List AV->List Obj->Option (Prop × AV)
 | [.ptr 0 0],[.box [.imm (.int .u8) b,.int .i64 p,.int .i64 sh,.int .i64 od,.int .i64 e,.bool true]]=>some ((True,.bool false))
 | _,_=>none
theorem zO_:ze_ Tryz.prog 111 (RoF zE_).sum:=by
 refine zk_ Tryz.func111 ja_ (zg_ _) fun args objs p v e=>?_
 unfold zE_ at e
 split at e
 ·rename_i b p sh od e
  cases e
  refine ⟨rfl,fun hw ho hp=>?_⟩
  change List Int at b
  repeat'(intro t ht;first|(cases t<;>first|(cases ht;done)|(try simp only[zi_]at ht))|((first|refine zb_ ht ?_|refine ht ?_ ?_|refine ht.1 ?_ ?_|refine ht ?_)<;>clear ht))
  all_goals exact ⟨rfl,rfl⟩
 ·cases e
def y4_:IR:=
(sq (kr [0,1,2] [oD 6 (.mov (.c (.nilp)))])
(sq (kr [0,1,2] [oM 7 0,
oC 8 68 [7],
oM 9 1,
oM 10 2,
oD 11 (.build [.imm (.int .u8) [],.int .i64 0,.int .i64 0,.int .i64 0,.int .i64 0,.kb false] [(0,1,8),(2,1,9),(3,1,10),(5,1,cT)]),
oD 12 (.boxv 11),
oM 6 12])
.ret))
def yr_:List RD:=[.tmp 6 true none]
theorem yK_:zq_ Tryz.prog Tryz.f51 y4_ yr_=true:=by kernel_rfl
def QU_:List AV->List Obj->Option (Prop × AV × List Obj)
 | [.imm (.int .u8) b,.int .i64 sh,.int .i64 od],[]=>some ((b.length<=140737488355328,.ptr 0 0,[.box [.imm (.int .u8) b,.int .i64 0,.int .i64 sh,.int .i64 od,.int .i64 0,.bool true]]))
 | _,_=>none
theorem jy_:ze_ Tryz.prog 51 (RwF QU_).sum:=by
 refine km_ Tryz.func51 yK_ (za_ (s:=RoF qq_) QD_ (zg_ _)) fun args objs p v o e=>?_
 unfold QU_ at e
 split at e
 ·rename_i b sh od
  cases e
  refine ⟨rfl,fun hw ho hp=>?_⟩
  change List Int at b
  repeat'(intro t ht;first|(cases t<;>first|(cases ht;done)|(try simp only[zi_]at ht))|((first|refine zb_ ht ?_|refine ht ?_ ?_|refine ht.1 ?_ ?_|refine ht ?_)<;>clear ht))
  all_goals first
   | exact hp
   | exact ⟨rfl,rfl⟩
 ·cases e
def Zq_ (e x:Int):Int:=if e=0 then x else e
def jm_:IR:=
(sq (kr [0,1] [oM 4 0,
oC 5 111 [4],
oD 6 (.un .not 5),
oM 7 6,
oT 7 8 (.mov 0),
oT 7 9 (.nilck 8),
oT 7 10 (.fieldAddr 4 9),
oT 7 11 (.load none 10),
oT 7 12 (.bin .eql 11 (cI 0)),
oP 13 7 12 cF])
(.cond 13
(kr [0,1] [oM 14 0,
oM 15 1,
oD 16 (.nilck 14),
oA 17 4 16,
oS 1 17 15])
.skip))
def K2_:List RD:=[]
theorem jc_:zq_ Tryz.prog Tryz.f110 jm_ K2_=true:=by kernel_rfl
def z1_:List AV->List Obj->Option (Prop × AV × List Obj)
 | [.ptr 0 0,.int .i64 x],[.box [.imm (.int .u8) b,.int .i64 p,.int .i64 sh,.int .i64 od,.int .i64 e,.bool true]]=>some ((True,.tup [],[.box [.imm (.int .u8) b,.int .i64 p,.int .i64 sh,.int .i64 od,.int .i64 (Zq_ e x),.bool true]]))
 | _,_=>none
theorem ZF_:ze_ Tryz.prog 110 (RwF z1_).sum:=by
 refine km_ Tryz.func110 jc_ (za_ (s:=RoF zE_) zO_ (zg_ _)) fun args objs p v o e=>?_
 unfold z1_ at e
 split at e
 ·rename_i x b p sh od e
  cases e
  refine ⟨rfl,fun hw ho hp=>?_⟩
  change List Int at b
  repeat'(intro t ht;first|(cases t<;>first|(cases ht;done)|(try simp only[zi_]at ht))|((first|refine zb_ ht ?_|refine ht ?_ ?_|refine ht.1 ?_ ?_|refine ht ?_)<;>clear ht))
  all_goals first
   | exact True.intro
   | (unfold Zq_;simp_all;done)
 ·cases e
def jS_:IR:=
(sq (kr [0] [oD 2 (.mov (cI 0))])
(sq (sq (.reg [oM 3 0,
oC 4 111 [3]])
(.cond 4
(sq (.reg [oD 2 (.mov (cI 10001))])
.ret)
.skip))
(sq (kr [0] [oM 5 0,
oD 6 (.nilck 5),
oA 7 4 6,
oL 8 7,
oM 2 8])
.ret)))
def jC_:List RD:=[.tmp 2 true none]
theorem jJ_:zq_ Tryz.prog Tryz.f53 jS_ jC_=true:=by kernel_rfl
def zQ_:List AV->List Obj->Option (Prop × AV)
 | [.ptr 0 0],[.box [.imm (.int .u8) b,.int .i64 p,.int .i64 sh,.int .i64 od,.int .i64 e,.bool true]]=>some ((True,.int .i64 e))
 | _,_=>none
theorem Zn_:ze_ Tryz.prog 53 (RoF zQ_).sum:=by
 refine zk_ Tryz.func53 jJ_ (za_ (s:=RoF zE_) zO_ (zg_ _)) fun args objs p v e=>?_
 unfold zQ_ at e
 split at e
 ·rename_i b p sh od e
  cases e
  refine ⟨rfl,fun hw ho hp=>?_⟩
  change List Int at b
  repeat'(intro t ht;first|(cases t<;>first|(cases ht;done)|(try simp only[zi_]at ht))|((first|refine zb_ ht ?_|refine ht ?_ ?_|refine ht.1 ?_ ?_|refine ht ?_)<;>clear ht))
  all_goals first
   | exact True.intro
   | exact ⟨rfl,rfl⟩
 ·cases e
def jl_:IR:=
(sq (kr [0] [oD 2 (.mov (cI 0))])
(sq (sq (.reg [oM 3 0,
oC 4 111 [3]])
(.cond 4
(sq (.reg [oD 2 (.mov (cI 0))])
.ret)
.skip))
(sq (kd [0] [(oM 5 0,[]),
(oD 6 (.nilck 5),[]),
(oA 7 0 6,[]),
(oL 8 7,[]),
(oE 9 8,[]),
(oM 10 0,[0,0,0,0,0]),
(oD 11 (.nilck 10),[1,0,0,0,0]),
(oA 12 1 11,[2,0,0,0,0]),
(oL 13 12,[3,0,0,0,0]),
(oB 14 .sub 9 13,[]),
(oM 2 14,[])])
.ret)))
def K1_:List RD:=[.tmp 2 true none]
theorem jb_:zq_ Tryz.prog Tryz.f108 jl_ K1_=true:=by kernel_rfl
def Zw_:List AV->List Obj->Option (Prop × AV)
 | [.ptr 0 0],[.box [.imm (.int .u8) b,.int .i64 p,.int .i64 sh,.int .i64 od,.int .i64 e,.bool true]]=>some ((0<=p/\p<=b.length,.int .i64 (b.length - p)))
 | _,_=>none
theorem qG_:ze_ Tryz.prog 108 (RoF Zw_).sum:=by
 refine zk_ Tryz.func108 jb_ (za_ (s:=RoF zE_) zO_ (zg_ _)) fun args objs p v e=>?_
 unfold Zw_ at e
 split at e
 ·rename_i b p sh od e
  cases e
  refine ⟨rfl,fun hw ho hp=>?_⟩
  change List Int at b
  have hb:b.length<=maxLen:=(ho _ (List.mem_cons_self ..) (.imm (.int .u8) b) (by simp)).2
  unfold maxLen at hb
  repeat'(intro t ht;first|(cases t<;>first|(cases ht;done)|(try simp only[zi_]at ht))|((first|refine zb_ ht ?_|refine ht ?_ ?_|refine ht.1 ?_ ?_|refine ht ?_)<;>clear ht))
  all_goals first
   | exact True.intro
   | ((try simp only [zo_,zp_,zn_] at*);omega)
   | exact ⟨rfl,rfl⟩
 ·cases e
def Jx_:IR:=
(sq (kr [0] [oD 2 (.mov (cI 0))])
(sq (sq (.reg [oM 3 0,
oC 4 111 [3]])
(.cond 4
(sq (.reg [oD 2 (.mov (cI 0))])
.ret)
.skip))
(sq (kr [0] [oM 5 0,
oD 6 (.nilck 5),
oA 7 1 6,
oL 8 7,
oM 2 8])
.ret)))
def Ju_:List RD:=[.tmp 2 true none]
theorem Jv_:zq_ Tryz.prog Tryz.f90 Jx_ Ju_=true:=by kernel_rfl
def ZJ_:List AV->List Obj->Option (Prop × AV)
 | [.ptr 0 0],[.box [.imm (.int .u8) b,.int .i64 p,.int .i64 sh,.int .i64 od,.int .i64 e,.bool true]]=>some ((True,.int .i64 p))
 | _,_=>none
theorem Qp_:ze_ Tryz.prog 90 (RoF ZJ_).sum:=by
 refine zk_ Tryz.func90 Jv_ (za_ (s:=RoF zE_) zO_ (zg_ _)) fun args objs p v e=>?_
 unfold ZJ_ at e
 split at e
 ·rename_i b p sh od e
  cases e
  refine ⟨rfl,fun hw ho hp=>?_⟩
  change List Int at b
  repeat'(intro t ht;first|(cases t<;>first|(cases ht;done)|(try simp only[zi_]at ht))|((first|refine zb_ ht ?_|refine ht ?_ ?_|refine ht.1 ?_ ?_|refine ht ?_)<;>clear ht))
  all_goals first
   | exact True.intro
   | exact ⟨rfl,rfl⟩
 ·cases e
def xl_ (w b:List Int) (p e:Int):List Int:=if e=0 then XC_ w (b.drop p.toNat) else []
def Wd_ (w b:List Int) (p e:Int):Int:=if e=0 then (if JT_ w (b.drop p.toNat)=1 then p else if JT_ w (b.drop p.toNat)=2 then p else p+kQ_ w) else p
def We_ (w b:List Int) (p sh od e:Int):Int:=if e=0 then (if JT_ w (b.drop p.toNat)=1 then sh else if JT_ w (b.drop p.toNat)=2 then od else 0) else e
def jQ_:IR:=
(sq (kr [0,1] [oD 4 (.mov (.c (.imm (.int .u64) [])))])
(sq (sq (.reg [oM 7 0,
oC 8 53 [7],
oB 9 .neq 8 (cI 0)])
(.cond 9
(sq (.reg [oD 4 (.mov (.c (.imm (.int .u64) [])))])
.ret)
.skip))
(sq (kd [0,1] [(oM 11 1,[]),
(oM 12 0,[0]),
(oD 13 (.nilck 12),[1]),
(oA 14 0 13,[2]),
(oL 15 14,[3]),
(oM 16 0,[0,0,0,0,0]),
(oD 17 (.nilck 16),[1,0,0,0,0]),
(oA 18 1 17,[2,0,0,0,0]),
(oL 19 18,[3,0,0,0,0]),
(oD 20 (.slice 1 15 (some 19) none none),[8]),
(oC 21 140 [11,20],[]),
(oM 10 21,[]),
(oX 22 10 0,[]),
(oX 23 10 1,[0]),
(oM 5 22,[0]),
(oM 6 23,[])])
(sq (sq (kr [0,1,5,6] [oM 24 6])
(.block 0
(sq (.reg [oB 35 .eql 24 (cI 1),
oM 34 35])
(.cond 34
(kr [0,5] [oM 36 0,
oM 37 0,
oD 38 (.nilck 37),
oA 39 2 38,
oL 40 39,
oC 41 110 [36,40]])
(sq (.reg [oB 43 .eql 24 (cI 2),
oM 42 43])
(.cond 42
(kr [0,5] [oM 44 0,
oM 45 0,
oD 46 (.nilck 45),
oA 47 3 46,
oL 48 47,
oC 49 110 [44,48]])
(kd [0,1,5] [(oM 25 0,[]),
(oD 26 (.nilck 25),[]),
(oA 27 1 26,[]),
(oL 28 27,[]),
(oM 29 1,[0,0,0,0]),
(oC 30 141 [29],[1,0,0,0]),
(oB 31 .add 28 30,[]),
(oD 32 (.nilck 25),[]),
(oA 33 1 32,[]),
(oS 1 33 31,[])])))))))
(sq (kr [5] [oM 50 5,
oM 4 50])
.ret)))))
def jA_:List RD:=[.tmp 4 true (some (.int .u64))]
theorem jH_:zq_ Tryz.prog Tryz.f89 jQ_ jA_=true:=by kernel_rfl
def z9_:List AV->List Obj->Option (Prop × AV × List Obj)
 | [.ptr 0 0,.imm (.int .i64) w],[.box [.imm (.int .u8) b,.int .i64 p,.int .i64 sh,.int .i64 od,.int .i64 e,.bool true]]=>some ((0<=p/\p<=b.length/\b.length<=140737488355328,.imm (.int .u64) (xl_ w b p e),[.box [.imm (.int .u8) b,.int .i64 (Wd_ w b p e),.int .i64 sh,.int .i64 od,.int .i64 (We_ w b p sh od e),.bool true]]))
 | _,_=>none
theorem ZO_:ze_ Tryz.prog 89 (RwF z9_).sum:=by
 refine km_ Tryz.func89 jH_ (za_ (s:=RoF zQ_) Zn_ (za_ (s:=RoF Wq_) v7_ (za_ (s:=RwF z1_) ZF_ (za_ (s:=RoF KB_) wg_ (zg_ _))))) fun args objs p v o e=>?_
 unfold z9_ at e
 split at e
 ·rename_i w b p sh od e
  cases e
  refine ⟨rfl,fun hw ho hp=>?_⟩
  change List Int at w
  change List Int at b
  have hz:=xV_ w
  repeat'(intro t ht;first|(cases t<;>first|(cases ht;done)|(try simp only[zi_]at ht))|((first|refine zb_ ht ?_|refine ht ?_ ?_|refine ht.1 ?_ ?_|refine ht ?_)<;>clear ht))
  all_goals first
   | exact True.intro
   | ((try simp only [zo_,zp_,zn_] at*);omega)
   | (unfold xl_ Wd_ We_;simp_all [Zq_];done)
 ·cases e
def wu_ (w:Int) (b:List Int) (p e:Int):Int:=if 1<=w/\w<=8 then (xl_ [w] b p e).getD 0 0 else 0
def jM_ (w:Int) (b:List Int) (p e:Int):Int:=if 1<=w/\w<=8 then Wd_ [w] b p e else p
def Jw_ (w:Int) (b:List Int) (p sh od e:Int):Int:=if 1<=w/\w<=8 then We_ [w] b p sh od e else Zq_ e 10001
def jR_:IR:=
(sq (kr [0,1] [oD 4 (.mov (.c (.int .u64 0)))])
(sq (sq (kr [0,1] [oM 7 1,
oB 8 .lss 7 (cI 1),
oM 9 8,
oF 9 10 (.mov 1),
oF 9 11 (.bin .gtr 10 (cI 8)),
oP 12 9 cT 11])
(.cond 12
(sq (kr [0] [oM 13 0,
oC 14 110 [13,(cI 10001)]])
(sq (.reg [oD 4 (.mov (.c (.int .u64 0)))])
.ret))
.skip))
(sq (kr [0,1] [oM 15 0,
oD 16 (.mkfn 89 [15] []),
oM 5 16])
(sq (sq (kr [1,5] [oM 17 5,
oM 18 1,
oD 19 (.sliceAll (.int .i64) 1 [(0,1,18)]),
oD 20 (.call false 17 [19]),
oM 6 20])
(sq (.reg [oM 21 6,
oE 22 21,
oB 23 .gtr 22 (cI 0)])
(.cond 23
(sq (kr [6] [oM 24 6,
oD 25 (.indexSl 1 24 (cI 0)),
oL 26 25,
oM 4 26])
.ret)
.skip)))
(sq (kr [] [oD 4 (.mov (.c (.int .u64 0)))])
.ret)))))
def jB_:List RD:=[.tmp 4 true none]
theorem jI_:zq_ Tryz.prog Tryz.f85 jR_ jB_=true:=by kernel_rfl
def ZA_:List AV->List Obj->Option (Prop × AV × List Obj)
 | [.ptr 0 0,.int .i64 w],[.box [.imm (.int .u8) b,.int .i64 p,.int .i64 sh,.int .i64 od,.int .i64 e,.bool true]]=>some ((0<=p/\p<=b.length/\b.length<=140737488355328,.int .u64 (wu_ w b p e),[.box [.imm (.int .u8) b,.int .i64 (jM_ w b p e),.int .i64 sh,.int .i64 od,.int .i64 (Jw_ w b p sh od e),.bool true]]))
 | _,_=>none
theorem qY_:ze_ Tryz.prog 85 (RwF ZA_).sum:=by
 refine km_ Tryz.func85 jI_ (za_ (s:=RwF z1_) ZF_ (za_ (s:=RwF z9_) ZO_ (zg_ _))) fun args objs p v o e=>?_
 unfold ZA_ at e
 split at e
 ·rename_i w b p sh od e
  cases e
  refine ⟨rfl,fun hw ho hp=>?_⟩
  change List Int at b
  repeat'(intro t ht;first|(cases t<;>first|(cases ht;done)|(try simp only[zi_]at ht))|((first|refine zb_ ht ?_|refine ht ?_ ?_|refine ht.1 ?_ ?_|refine ht ?_)<;>clear ht))
  all_goals first
   | exact True.intro
   | exact hp
   | ((try simp only [zo_,zp_,zn_] at*);omega)
   | (have hc:1<=w/\w<=8:=by omega
      unfold wu_ jM_ Jw_
      rw [if_pos hc,if_pos hc,if_pos hc]
      first
       | exact ⟨rfl,rfl⟩
       | (have hl:xl_ [w] b p e=[]:=List.eq_nil_of_length_eq_zero (by omega)
          refine ⟨?_,rfl⟩;rw [hl];rfl))
   | (have hc:¬ (1<=w/\w<=8):=by omega
      unfold wu_ jM_ Jw_
      rw [if_neg hc,if_neg hc,if_neg hc]
      exact ⟨rfl,rfl⟩)
 ·cases e
theorem ui_ {e x:Int} (h:x ≠ 0):Zq_ e x ≠ 0:=by unfold Zq_;split<;>assumption
def kj_ (n:Int) (b:List Int) (p sh e:Int):Int:=if n < 0 then Zq_ e 10001 else if b.length - p < n then Zq_ e sh else e
def we_ (n:Int) (b:List Int) (p sh e:Int):List Int:=if kj_ n b p sh e=0 then (b.take (p+n).toNat).drop p.toNat else []
def xD_ (n:Int) (b:List Int) (p sh e:Int):Int:=if kj_ n b p sh e=0 then p+n else p
def jj_:IR:=
(sq (kr [0,1] [oD 4 (.mov (.c (.imm (.int .u8) []))),
oD 5 (.mov cF)])
(sq (sq (.reg [oM 7 1,
oB 8 .lss 7 (cI 0)])
(.cond 8
(.reg [oM 9 0,
oC 10 110 [9,(cI 10001)]])
(sq (kr [0,1] [oM 11 1,
oM 12 0,
oC 13 108 [12],
oB 14 .gtr 11 13,
oM 15 14,
oT 15 16 (.mov 0),
oT 15 17 (.call false (.f 111) [16]),
oT 15 18 (.un .not 17),
oP 19 15 18 cF])
(.cond 19
(kr [0,1] [oM 20 0,
oM 21 0,
oD 22 (.nilck 21),
oA 23 2 22,
oL 24 23,
oC 25 110 [20,24]])
.skip))))
(sq (sq (kr [0,1] [oM 26 0,
oC 27 53 [26],
oB 28 .neq 27 (cI 0)])
(.cond 28
(sq (.reg [oD 4 (.mov (.c (.imm (.int .u8) []))),
oD 5 (.mov cF)])
.ret)
.skip))
(sq (kd [0,1] [(oM 29 0,[]),
(oD 30 (.nilck 29),[]),
(oA 31 0 30,[]),
(oL 32 31,[]),
(oM 33 0,[0,0,0,0]),
(oD 34 (.nilck 33),[1,0,0,0]),
(oA 35 1 34,[2,0,0,0]),
(oL 36 35,[3,0,0,0]),
(oM 37 0,[0,0,0,0,0,0,0,0]),
(oD 38 (.nilck 37),[1,0,0,0,0,0,0,0]),
(oA 39 1 38,[2,0,0,0,0,0,0,0]),
(oL 40 39,[3,0,0,0,0,0,0,0]),
(oM 41 1,[0,0,0,0,0,0,0,0,0,0,0,0]),
(oB 42 .add 40 41,[5,0,0,0,0,0,0,0]),
(oM 43 0,[0,0,0,0,0,0,0,0,0,0,0,0,0,0]),
(oD 44 (.nilck 43),[1,0,0,0,0,0,0,0,0,0,0,0,0,0]),
(oA 45 1 44,[2,0,0,0,0,0,0,0,0,0,0,0,0,0]),
(oL 46 45,[3,0,0,0,0,0,0,0,0,0,0,0,0,0]),
(oM 47 1,[0,0,0,0,0,0,0,0,0,0,0,0,0,0,0,0,0,0]),
(oB 48 .add 46 47,[5,0,0,0,0,0,0,0,0,0,0,0,0,0]),
(oD 49 (.slice 1 32 (some 36) (some 42) (some 48)),[]),
(oM 6 49,[])])
(sq (kr [0,1,6] [oM 50 0,
oD 51 (.nilck 50),
oA 52 1 51,
oL 53 52,
oM 54 1,
oB 55 .add 53 54,
oD 56 (.nilck 50),
oA 57 1 56,
oS 1 57 55])
(sq (kr [6] [oM 58 6,
oM 4 58,
oD 5 (.mov cT)])
.ret))))))
def KZ_:List RD:=[.tmp 4 true (some (.int .u8)),.tmp 5 true none]
theorem K9_:zq_ Tryz.prog Tryz.f139 jj_ KZ_=true:=by kernel_rfl
def Z7_:List AV->List Obj->Option (Prop × AV × List Obj)
 | [.ptr 0 0,.int .i64 n],[.box [.imm (.int .u8) b,.int .i64 p,.int .i64 sh,.int .i64 od,.int .i64 e,.bool true]]=>some ((0<=p/\p<=b.length/\b.length<=140737488355328/\sh ≠ 0,.tup [.imm (.int .u8) (we_ n b p sh e),.bool (decide (kj_ n b p sh e=0))],[.box [.imm (.int .u8) b,.int .i64 (xD_ n b p sh e),.int .i64 sh,.int .i64 od,.int .i64 (kj_ n b p sh e),.bool true]]))
 | _,_=>none
theorem Kc_:ze_ Tryz.prog 139 (RwF Z7_).sum:=by
 refine km_ Tryz.func139 K9_ (za_ (s:=RwF z1_) ZF_ (za_ (s:=RoF Zw_) qG_ (za_ (s:=RoF zE_) zO_ (za_ (s:=RoF zQ_) Zn_ (zg_ _))))) fun args objs p v o e=>?_
 unfold Z7_ at e
 split at e
 ·rename_i n b p sh od e
  cases e
  refine ⟨rfl,fun hw ho hp=>?_⟩
  change List Int at b
  have hf1:Zq_ e 10001 ≠ 0:=ui_ (by decide)
  have hf2:Zq_ e sh ≠ 0:=ui_ hp.2.2.2
  repeat'(intro t ht;first|(cases t<;>first|(cases ht;done)|(try simp only[zi_]at ht))|((first|refine zb_ ht ?_|refine ht ?_ ?_|refine ht.1 ?_ ?_|refine ht ?_)<;>clear ht))
  all_goals first
   | exact True.intro
   | (exfalso;omega)
   | omega
   | ((try simp only [zo_,zp_,zn_] at*);omega)
   | (first
       | (have hE:kj_ n b p sh e=e:=by unfold kj_;rw [if_neg (by assumption),if_neg (by assumption)]
          unfold we_ xD_;rw [hE]
          first
           | (have h0:e=0:=by assumption
              rw [if_pos h0,if_pos h0,decide_eq_true h0];exact ⟨rfl,rfl⟩)
           | (have h0:¬ e=0:=by assumption
              rw [if_neg h0,if_neg h0,decide_eq_false h0];exact ⟨rfl,rfl⟩))
       | (have hE:kj_ n b p sh e=Zq_ e sh:=by unfold kj_;rw [if_neg (by assumption),if_pos (by assumption)]
          unfold we_ xD_;rw [hE,if_neg hf2,if_neg hf2,decide_eq_false hf2];exact ⟨rfl,rfl⟩)
       | (have hE:kj_ n b p sh e=Zq_ e 10001:=by unfold kj_;rw [if_pos (by assumption)]
          unfold we_ xD_;rw [hE,if_neg hf1,if_neg hf1,decide_eq_false hf1];exact ⟨rfl,rfl⟩))
 ·cases e
def Ks_:IR:=
(sq (kr [0,1] [oD 4 (.mov (.c (.imm (.int .u8) [])))])
(sq (kr [0,1] [oM 8 0,
oM 9 1,
oC 10 139 [8,9],
oM 7 10,
oX 11 7 0,
oX 12 7 1,
oM 5 11,
oM 6 12])
(sq (kr [5] [oM 13 5,
oC 14 68 [13],
oM 4 14])
.ret)))
def Kh_:List RD:=[.tmp 4 true (some (.int .u8))]
theorem Kn_:zq_ Tryz.prog Tryz.f88 Ks_ Kh_=true:=by kernel_rfl
def Zo_:List AV->List Obj->Option (Prop × AV × List Obj)
 | [.ptr 0 0,.int .i64 n],[.box [.imm (.int .u8) b,.int .i64 p,.int .i64 sh,.int .i64 od,.int .i64 e,.bool true]]=>some ((0<=p/\p<=b.length/\b.length<=140737488355328/\sh ≠ 0,.imm (.int .u8) (we_ n b p sh e),[.box [.imm (.int .u8) b,.int .i64 (xD_ n b p sh e),.int .i64 sh,.int .i64 od,.int .i64 (kj_ n b p sh e),.bool true]]))
 | _,_=>none
theorem qx_:ze_ Tryz.prog 88 (RwF Zo_).sum:=by
 refine km_ Tryz.func88 Kn_ (za_ (s:=RwF Z7_) Kc_ (za_ (s:=RoF qq_) QD_ (zg_ _))) fun args objs p v o e=>?_
 unfold Zo_ at e
 split at e
 ·rename_i n b p sh od e
  cases e
  refine ⟨rfl,fun hw ho hp=>?_⟩
  change List Int at b
  have hlen:(we_ n b p sh e).length<=140737488355328:=by
   unfold we_;split
   ·rw [List.length_drop,List.length_take];omega
   ·exact Nat.zero_le _
  repeat'(intro t ht;first|(cases t<;>first|(cases ht;done)|(try simp only[zi_]at ht))|((first|refine zb_ ht ?_|refine ht ?_ ?_|refine ht.1 ?_ ?_|refine ht ?_)<;>clear ht))
  all_goals first
   | exact hp
   | exact hlen
   | exact ⟨rfl,rfl⟩
 ·cases e
def jp_:IR:=
(sq (kr [0] [oD 2 (.mov cF)])
(sq (kr [0] [oM 3 0,
oD 4 (.eqp false 3 (.c (.nilp))),
oM 5 4,
oF 5 6 (.mov 0),
oF 5 7 (.nilck 6),
oF 5 8 (.fieldAddr 2 7),
oF 5 9 (.load none 8),
oF 5 10 (.eqn false 9 (.c (.nilm))),
oP 11 5 cT 10,
oM 2 11])
.ret))
def K5_:List RD:=[.tmp 2 true none]
theorem jf_:zq_ Tryz.prog Tryz.f107 jp_ K5_=true:=by kernel_rfl
def z2_:List AV->List Obj->Option (Prop × AV)
 | [.ptr 0 0],[.box [.own 1,.int .i64 room,.mapv 2,.int .i64 e],.row false (.int .u8) l,.map sq (.int .i64) (.int .i64) h]=>some ((True,.bool false))
 | _,_=>none
theorem ZG_:ze_ Tryz.prog 107 (RoF z2_).sum:=by
 refine zk_ Tryz.func107 jf_ (zg_ _) fun args objs p v e=>?_
 unfold z2_ at e
 split at e
 ·rename_i room e l sq h
  cases e
  refine ⟨rfl,fun hw ho hp=>?_⟩
  change List Int at l
  repeat'(intro t ht;first|(cases t<;>first|(cases ht;done)|(try simp only[zi_]at ht))|((first|refine zb_ ht ?_|refine ht ?_ ?_|refine ht.1 ?_ ?_|refine ht ?_)<;>clear ht))
  all_goals exact ⟨rfl,rfl⟩
 ·cases e
def xW_ (n:Int):Int:=if 1000000 < (if 0 > n then 0 else n) then 1000000 else (if 0 > n then 0 else n)
def y6_:IR:=
(sq (kr [0] [oD 2 (.mov (.c (.nilp)))])
(sq (kr [0] [oM 3 0,
oD 4 (.minmax true 3 (cI 0)),
oD 5 (.minmax false 4 (cI 1000000)),
oD 6 (.mkmap (.int .i64) (.int .i64)),
oD 7 (.build [.nils,.int .i64 0,.nilm,.int .i64 0] [(1,1,5),(2,1,6)]),
oD 8 (.boxv 7),
oM 2 8])
.ret))
def yt_:List RD:=[.tmp 2 true none]
theorem yM_:zq_ Tryz.prog Tryz.f48 y6_ yt_=true:=by kernel_rfl
def wR_:List AV->List Obj->Option (Prop × AV × List Obj)
 | [.int .i64 n],[]=>some (True,.ptr 0 0,[.box [.nils,.int .i64 (xW_ n),.mapv 1,.int .i64 0],.map true (.int .i64) (.int .i64) ([])])
 | _,_=>none
def QV_:List AV->List Obj->Option (Prop × AV × List Obj)
 | [.int .i64 n],[]=>some (True,.ptr 0 0,[.box [.own 2,.int .i64 (xW_ n),.mapv 1,.int .i64 0],.map true (.int .i64) (.int .i64) ([]),.row false (.int .u8) ([])])
 | _,_=>none
theorem jz_:ze_ Tryz.prog 48 (RwF QV_).sum:=by
 have h0:ze_ Tryz.prog 48 (RwF wR_).sum:=by
  refine km_ Tryz.func48 yM_ (zg_ _) fun args objs p v o e=>?_
  unfold wR_ at e
  split at e
  ·rename_i n
   cases e
   refine ⟨rfl,fun hw ho hp=>?_⟩
   repeat'(intro t ht;first|(cases t<;>first|(cases ht;done)|(try simp only[zi_]at ht))|((first|refine zb_ ht ?_|refine ht ?_ ?_|refine ht.1 ?_ ?_|refine ht ?_)<;>clear ht))
   all_goals exact ⟨rfl,rfl⟩
  ·cases e
 refine Vu_ (t:=.int .u8) h0 fun args objs p v o e=>?_
 unfold QV_ at e
 split at e
 ·rename_i n
  cases e
  exact ⟨0,[],[.int .i64 (xW_ n),.mapv 1,.int .i64 0],_,rfl,rfl,rfl⟩
 ·cases e
def jq_:IR:=
(sq (kr [0,1] [oM 4 0,
oC 5 107 [4],
oD 6 (.un .not 5),
oM 7 6,
oT 7 8 (.mov 0),
oT 7 9 (.nilck 8),
oT 7 10 (.fieldAddr 3 9),
oT 7 11 (.load none 10),
oT 7 12 (.bin .eql 11 (cI 0)),
oP 13 7 12 cF])
(.cond 13
(kr [0,1] [oM 14 0,
oM 15 1,
oD 16 (.nilck 14),
oA 17 3 16,
oS 1 17 15])
.skip))
def K6_:List RD:=[]
theorem jg_:zq_ Tryz.prog Tryz.f103 jq_ K6_=true:=by kernel_rfl
def zL_:List AV->List Obj->Option (Prop × AV × List Obj)
 | [.ptr 0 0,.int .i64 x],[.box [.own 1,.int .i64 room,.mapv 2,.int .i64 e],.row false (.int .u8) l,.map sq (.int .i64) (.int .i64) h]=>some ((True,.tup [],[.box [.own 1,.int .i64 room,.mapv 2,.int .i64 (Zq_ e x)],.row false (.int .u8) l,.map sq (.int .i64) (.int .i64) h]))
 | _,_=>none
theorem Zc_:ze_ Tryz.prog 103 (RwF zL_).sum:=by
 refine km_ Tryz.func103 jg_ (za_ (s:=RoF z2_) ZG_ (zg_ _)) fun args objs p v o e=>?_
 unfold zL_ at e
 split at e
 ·rename_i x room e l sq h
  cases e
  refine ⟨rfl,fun hw ho hp=>?_⟩
  change List Int at l
  repeat'(intro t ht;first|(cases t<;>first|(cases ht;done)|(try simp only[zi_]at ht))|((first|refine zb_ ht ?_|refine ht ?_ ?_|refine ht.1 ?_ ?_|refine ht ?_)<;>clear ht))
  all_goals first
   | exact True.intro
   | (unfold Zq_;simp_all;done)
 ·cases e
def k2_ (x l:List Int) (room e:Int):Bool:=decide (e=0) && decide ((x.length:Int)<=room - l.length)
def j2_ (x l:List Int) (room e:Int):List Int:=if k2_ x l room e=true then l++x else l
def wI_ (x l:List Int) (room e:Int):Int:=if e=0 then (if (x.length:Int)<=room - l.length then 0 else 10003) else e
def Ku_:IR:=
(.block 0
(sq (kr [0,1] [oM 14 0,
oC 15 107 [14],
oM 16 15,
oF 16 17 (.mov 0),
oF 16 18 (.nilck 17),
oF 16 19 (.fieldAddr 3 18),
oF 16 20 (.load none 19),
oF 16 21 (.bin .neq 20 (cI 0)),
oP 22 16 cT 21,
oM 13 22])
(.cond 13
.skip
(sq (kd [0,1] [(oM 24 1,[]),
(oE 25 24,[]),
(oM 26 0,[0,0]),
(oD 27 (.nilck 26),[1,0]),
(oA 28 1 27,[2,0]),
(oL 29 28,[3,0]),
(oM 30 0,[0,0,0,0,0,0]),
(oD 31 (.nilck 30),[1,0,0,0,0,0]),
(oA 32 0 31,[2,0,0,0,0,0]),
(oL 33 32,[3,0,0,0,0,0]),
(oE 34 33,[4,0,0,0,0,0]),
(oB 35 .sub 29 34,[9,0]),
(oB 36 .gtr 25 35,[]),
(oM 23 36,[])])
(.cond 23
(kr [0] [oM 37 0,
oC 38 103 [37,(cI 10003)]])
(kr [0,1] [oM 4 0,
oM 5 0,
oD 6 (.nilck 5),
oA 7 0 6,
oL 8 7,
oM 9 1,
oD 10 (.append (.int .u8) 1 8 9),
oD 11 (.nilck 4),
oA 12 0 11,
oS 1 12 10]))))))
def Kj_:List RD:=[]
theorem Kp_:zq_ Tryz.prog Tryz.f122 Ku_ Kj_=true:=by kernel_rfl
def q1_:List AV->List Obj->Option (Prop × Res)
 | [.ptr 0 0,.imm (.int .u8) x],[.box [.own 1,.int .i64 room,.mapv 2,.int .i64 e],.row false (.int .u8) l,.map sq (.int .i64) (.int .i64) h]=>some (0<=room/\room<=1000000/\l.length<=1000000/\x.length<=1000000,.br (k2_ x l room e) (.one (.tup []) [.box [.own 3,.int .i64 room,.mapv 2,.int .i64 e],.dead,.map sq (.int .i64) (.int .i64) h,.row false (.int .u8) (j2_ x l room e)]) (.one (.tup []) [.box [.own 1,.int .i64 room,.mapv 2,.int .i64 (wI_ x l room e)],.row false (.int .u8) l,.map sq (.int .i64) (.int .i64) h]))
 | _,_=>none
def zW_:List AV->List Obj->Option (Prop × AV × List Obj)
 | [.ptr 0 0,.imm (.int .u8) x],[.box [.own 1,.int .i64 room,.mapv 2,.int .i64 e],.row false (.int .u8) l,.map sq (.int .i64) (.int .i64) h]=>some (0<=room/\room<=1000000/\l.length<=1000000/\x.length<=1000000,.tup [],[.box [.own 3,.int .i64 room,.mapv 2,.int .i64 (wI_ x l room e)],.dead,.map sq (.int .i64) (.int .i64) h,.row false (.int .u8) (j2_ x l room e)])
 | _,_=>none
theorem kK_:ze_ Tryz.prog 122 (RcF q1_).sum:=by
 refine Vt_ Tryz.func122 Kp_ (za_ (s:=RoF z2_) ZG_ (za_ (s:=RwF zL_) Zc_ (zg_ _))) fun args objs p v e=>?_
 unfold q1_ at e
 split at e
 ·rename_i x room e l sq h
  cases e
  change List Int at x
  change List Int at l
  refine ⟨rfl,fun hw ho hp=>?_⟩
  repeat'(intro t ht;first|(cases t<;>first|(cases ht;done)|(try simp only[zi_]at ht))|((first|refine zb_ ht ?_|refine ht ?_ ?_|refine ht.1 ?_ ?_|refine ht ?_)<;>clear ht))
  all_goals first
   | exact True.intro
   | ((try simp only [zo_,zp_,zn_] at*);omega)
   | (simp only [qo_];omega)
   | (have hb:k2_ x l room e=true:=by unfold k2_;simp only [Bool.and_eq_true,decide_eq_true_eq];omega
      have hbb:j2_ x l room e=l++x:=by unfold j2_;rw [hb];rfl
      rw [Kl_ hb,hbb];exact ⟨rfl,rfl⟩)
   | (have hb:k2_ x l room e=false:=by unfold k2_;simp only [Bool.and_eq_false_iff,decide_eq_false_iff_not];omega
      rw [Km_ hb]
      unfold wI_
      first
       | (rw [if_neg (by assumption)];exact ⟨rfl,rfl⟩)
       | (have h0:e=0:=by assumption
          have h1:¬ (x.length:Int)<=room - l.length:=by omega
          rw [if_pos h0,if_neg h1]
          refine ⟨rfl,?_⟩;unfold Zq_;rw [if_pos h0];rfl))
 ·cases e
theorem ZB_:ze_ Tryz.prog 122 (RwF zW_).sum:=by
 refine xo_ kK_ fun args objs p v o e=>?_
 unfold zW_ at e
 split at e
 ·rename_i x room e l sq h
  cases e
  cases hb:k2_ x l room e with
  | true=>
    have h1:e=0:=by unfold k2_ at hb;simp_all
    have h2:(x.length:Int)<=room - l.length:=by unfold k2_ at hb;simp_all
    refine ⟨_,_,rfl,Kl_ hb,.inl ?_⟩
    unfold wI_;rw [if_pos h1,if_pos h2,h1]
  | false=>
    refine ⟨_,_,rfl,Km_ hb,.inr ⟨0,1,[],[.int .i64 room,.mapv 2,.int .i64 (wI_ x l room e)],.int .u8,l,rfl,rfl,?_⟩⟩
    have hbb:j2_ x l room e=l:=by unfold j2_;rw [hb];rfl
    rw [hbb];rfl
 ·cases e
theorem Xa_:∀ (w xs b r:List Int),(∀ n ∈ w,n ≠ 0/\n<=8/\-64<=n)->kB_ w xs b=some r->(r.length:Int)=b.length+(w.map zR_).sum
 | [],xs,b,r,_,h=>by simp only [kB_,Option.some.injEq] at h;subst h;simp
 | n :: w,xs,b,r,hw,h=>by
   have hn:=hw n (by simp)
   have hw':∀ n ∈ w,n ≠ 0/\n<=8/\-64<=n:=fun m hm=>hw m (by simp [hm])
   simp only [kB_] at h
   split at h
   ·have ih:=Xa_ w _ _ r hw' h
    have hl:=zm_ (n:=0) (w:=0 - n) (by omega)
    rw [List.length_append] at ih
    rw [List.map_cons,List.sum_cons,uA_ (by assumption)];omega
   ·cases xs with
    | nil=>cases h
    | cons x ys=>
      simp only at h
      split at h
      ·cases h
      ·have ih:=Xa_ w _ _ r hw' h
       have hl:=zm_ (n:=x) (w:=n) (by omega)
       rw [List.length_append] at ih
       rw [List.map_cons,List.sum_cons,gr_ (by assumption)];omega
theorem GN_ (w xs:List Int):(Kk_ w xs).length<=4096:=by
 unfold Kk_ wo_
 split
 ·rename_i h
  cases hp:kB_ w xs [] with
  | none=>simp
  | some r=>
    have h1:=Xa_ w xs [] r (ZW_.1 h.1).2 hp
    have h2:=xV_ w
    unfold kQ_ at h2;rw [if_pos h.1] at h2
    simp at h1 ⊢;omega
 ·simp
def JI_ (w xs l:List Int) (room e:Int):List Int:=if JO_ w xs=true then j2_ (Kk_ w xs) l room e else l
def WZ_ (w xs l:List Int) (room e:Int):Int:=if JO_ w xs=true then wI_ (Kk_ w xs) l room e else Zq_ e 10001
def jT_:IR:=
(sq (kr [0,1,2] [oM 9 1,
oM 10 2,
oC 11 149 [9,10],
oM 8 11,
oX 12 8 0,
oX 13 8 1,
oM 6 12,
oM 7 13])
(sq (sq (kr [0,6,7] [oM 14 7,
oD 15 (.un .not 14)])
(.cond 15
(sq (.reg [oM 16 0,
oC 17 103 [16,(cI 10001)]])
.ret)
.skip))
(.reg [oM 18 0,
oM 19 6,
oC 20 122 [18,19]])))
def jD_:List RD:=[]
theorem jK_:zq_ Tryz.prog Tryz.f105 jT_ jD_=true:=by kernel_rfl
def QJ_:List AV->List Obj->Option (Prop × Res)
 | [.ptr 0 0,.imm (.int .i64) w,.imm (.int .u64) xs],[.box [.own 1,.int .i64 room,.mapv 2,.int .i64 e],.row false (.int .u8) l,.map sq (.int .i64) (.int .i64) h]=>some (0<=room/\room<=1000000/\l.length<=1000000,.br (JO_ w xs) (.one (.tup []) [.box [.own 3,.int .i64 room,.mapv 2,.int .i64 (wI_ (Kk_ w xs) l room e)],.dead,.map sq (.int .i64) (.int .i64) h,.row false (.int .u8) (j2_ (Kk_ w xs) l room e)]) (.one (.tup []) [.box [.own 1,.int .i64 room,.mapv 2,.int .i64 (Zq_ e 10001)],.row false (.int .u8) l,.map sq (.int .i64) (.int .i64) h]))
 | _,_=>none
def Za_:List AV->List Obj->Option (Prop × AV × List Obj)
 | [.ptr 0 0,.imm (.int .i64) w,.imm (.int .u64) xs],[.box [.own 1,.int .i64 room,.mapv 2,.int .i64 e],.row false (.int .u8) l,.map sq (.int .i64) (.int .i64) h]=>some (0<=room/\room<=1000000/\l.length<=1000000,.tup [],[.box [.own 3,.int .i64 room,.mapv 2,.int .i64 (WZ_ w xs l room e)],.dead,.map sq (.int .i64) (.int .i64) h,.row false (.int .u8) (JI_ w xs l room e)])
 | _,_=>none
theorem KW_:ze_ Tryz.prog 105 (RcF QJ_).sum:=by
 refine Vt_ Tryz.func105 jK_ (za_ (s:=RoF Wp_) v6_ (za_ (s:=RwF zL_) Zc_ (za_ (s:=RwF zW_) ZB_ (zg_ _)))) fun args objs p v e=>?_
 unfold QJ_ at e
 split at e
 ·rename_i w xs room e l sq h
  cases e
  refine ⟨rfl,fun hw ho hp=>?_⟩
  have hz:=GN_ w xs
  repeat'(intro t ht;first|(cases t<;>first|(cases ht;done)|(try simp only[zi_]at ht))|((first|refine zb_ ht ?_|refine ht ?_ ?_|refine ht.1 ?_ ?_|refine ht ?_)<;>clear ht))
  all_goals first
   | exact True.intro
   | exact ⟨hp.1,hp.2.1,hp.2.2,by omega⟩
   | (rw [Kl_ (by assumption)];exact ⟨rfl,rfl⟩)
   | (rw [Km_ (by assumption)];exact ⟨rfl,rfl⟩)
 ·cases e
theorem ZP_:ze_ Tryz.prog 105 (RwF Za_).sum:=by
 refine xo_ KW_ fun args objs p v o e=>?_
 unfold Za_ at e
 split at e
 ·rename_i w xs room e l sq h
  cases e
  cases hb:JO_ w xs with
  | true=>
    refine ⟨_,_,rfl,Kl_ hb,.inl ?_⟩
    unfold WZ_ JI_;rw [if_pos hb,if_pos hb]
  | false=>
    refine ⟨_,_,rfl,Km_ hb,.inr ⟨0,1,[],[.int .i64 room,.mapv 2,.int .i64 (Zq_ e 10001)],.int .u8,l,rfl,rfl,?_⟩⟩
    unfold WZ_ JI_;rw [hb];rfl
 ·cases e
def kL_ (w:Int):Bool:=decide (1<=w) && decide (w<=8)
def Jy_ (w e:Int):Int:=if kL_ w=true then e else Zq_ e 10001
def jo_:IR:=
(sq (kr [0,1] [oD 4 (.mov cF)])
(sq (kr [0,1] [oM 6 1,
oB 7 .geq 6 (cI 1),
oM 8 7,
oT 8 9 (.mov 1),
oT 8 10 (.bin .leq 9 (cI 8)),
oP 11 8 10 cF,
oM 5 11])
(sq (sq (kr [0,5] [oM 12 5,
oD 13 (.un .not 12)])
(.cond 13
(.reg [oM 14 0,
oC 15 103 [14,(cI 10001)]])
.skip))
(sq (.reg [oM 16 5,
oM 4 16])
.ret))))
def K4_:List RD:=[.tmp 4 true none]
theorem je_:zq_ Tryz.prog Tryz.f193 jo_ K4_=true:=by kernel_rfl
def Z9_:List AV->List Obj->Option (Prop × AV × List Obj)
 | [.ptr 0 0,.int .i64 w],[.box [.own 1,.int .i64 room,.mapv 2,.int .i64 e],.row false (.int .u8) l,.map sq (.int .i64) (.int .i64) h]=>some ((True,.bool (kL_ w),[.box [.own 1,.int .i64 room,.mapv 2,.int .i64 (Jy_ w e)],.row false (.int .u8) l,.map sq (.int .i64) (.int .i64) h]))
 | _,_=>none
theorem Ke_:ze_ Tryz.prog 193 (RwF Z9_).sum:=by
 refine km_ Tryz.func193 je_ (za_ (s:=RwF zL_) Zc_ (zg_ _)) fun args objs p v o e=>?_
 unfold Z9_ at e
 split at e
 ·rename_i w room e l sq h
  cases e
  refine ⟨rfl,fun hw ho hp=>?_⟩
  change List Int at l
  repeat'(intro t ht;first|(cases t<;>first|(cases ht;done)|(try simp only[zi_]at ht))|((first|refine zb_ ht ?_|refine ht ?_ ?_|refine ht.1 ?_ ?_|refine ht ?_)<;>clear ht))
  all_goals first
   | exact True.intro
   | (have hb:kL_ w=true:=by unfold kL_;simp_all
      have h8:decide (w<=8)=true:=decide_eq_true (by assumption)
      unfold Jy_;rw [hb,h8];exact ⟨rfl,rfl⟩)
   | (have hb:kL_ w=false:=by unfold kL_;simp_all
      have h8:decide (w<=8)=false:=decide_eq_false (by assumption)
      unfold Jy_;rw [hb,h8];exact ⟨rfl,rfl⟩)
   | (have hb:kL_ w=false:=by unfold kL_;simp only [Bool.and_eq_false_iff,decide_eq_false_iff_not];omega
      unfold Jy_;rw [hb];exact ⟨rfl,rfl⟩)
 ·cases e
def nmB (w n:Int) (l:List Int) (room e:Int):List Int:=if kL_ w=true then JI_ [w] [n] l room e else l
def nmE (w n:Int) (l:List Int) (room e:Int):Int:=if kL_ w=true then WZ_ [w] [n] l room e else Zq_ e 10001
def jU_:IR:=
(sq (kr [0,1,2] [oM 6 0,
oM 7 1,
oC 8 193 [6,7]])
(.cond 8
(kr [0,1,2] [oM 9 0,
oM 10 1,
oD 11 (.sliceAll (.int .i64) 1 [(0,1,10)]),
oM 12 2,
oD 13 (.sliceAll (.int .u64) 1 [(0,1,12)]),
oC 14 105 [9,11,13]])
.skip))
def jE_:List RD:=[]
theorem jL_:zq_ Tryz.prog Tryz.f161 jU_ jE_=true:=by kernel_rfl
def QK_:List AV->List Obj->Option (Prop × Res)
 | [.ptr 0 0,.int .i64 w,.int .u64 n],[.box [.own 1,.int .i64 room,.mapv 2,.int .i64 e],.row false (.int .u8) l,.map sq (.int .i64) (.int .i64) h]=>some (0<=room/\room<=1000000/\l.length<=1000000,.br (kL_ w) (.one (.tup []) [.box [.own 3,.int .i64 room,.mapv 2,.int .i64 (WZ_ [w] [n] l room (Jy_ w e))],.dead,.map sq (.int .i64) (.int .i64) h,.row false (.int .u8) (JI_ [w] [n] l room (Jy_ w e))]) (.one (.tup []) [.box [.own 1,.int .i64 room,.mapv 2,.int .i64 (Jy_ w e)],.row false (.int .u8) l,.map sq (.int .i64) (.int .i64) h]))
 | _,_=>none
def qg_:List AV->List Obj->Option (Prop × AV × List Obj)
 | [.ptr 0 0,.int .i64 w,.int .u64 n],[.box [.own 1,.int .i64 room,.mapv 2,.int .i64 e],.row false (.int .u8) l,.map sq (.int .i64) (.int .i64) h]=>some (0<=room/\room<=1000000/\l.length<=1000000,.tup [],[.box [.own 3,.int .i64 room,.mapv 2,.int .i64 (nmE w n l room e)],.dead,.map sq (.int .i64) (.int .i64) h,.row false (.int .u8) (nmB w n l room e)])
 | _,_=>none
theorem KX_:ze_ Tryz.prog 161 (RcF QK_).sum:=by
 refine Vt_ Tryz.func161 jL_ (za_ (s:=RwF Z9_) Ke_ (za_ (s:=RwF Za_) ZP_ (zg_ _))) fun args objs p v e=>?_
 unfold QK_ at e
 split at e
 ·rename_i w n room e l sq h
  cases e
  refine ⟨rfl,fun hw ho hp=>?_⟩
  repeat'(intro t ht;first|(cases t<;>first|(cases ht;done)|(try simp only[zi_]at ht))|((first|refine zb_ ht ?_|refine ht ?_ ?_|refine ht.1 ?_ ?_|refine ht ?_)<;>clear ht))
  all_goals first
   | exact True.intro
   | exact hp
   | (rw [Kl_ (by assumption)];exact ⟨rfl,rfl⟩)
   | (rw [Km_ (by assumption)];exact ⟨rfl,rfl⟩)
 ·cases e
theorem KY_:ze_ Tryz.prog 161 (RwF qg_).sum:=by
 refine xo_ KX_ fun args objs p v o e=>?_
 unfold qg_ at e
 split at e
 ·rename_i w n room e l sq h
  cases e
  cases hb:kL_ w with
  | true=>
    refine ⟨_,_,rfl,Kl_ hb,.inl ?_⟩
    unfold nmE nmB Jy_;rw [hb];rfl
  | false=>
    refine ⟨_,_,rfl,Km_ hb,.inr ⟨0,1,[],[.int .i64 room,.mapv 2,.int .i64 (Jy_ w e)],.int .u8,l,rfl,rfl,?_⟩⟩
    unfold nmE nmB Jy_;rw [hb];rfl
 ·cases e
def wE_ (h:List (Int × Int)) (e:Int):Bool:=decide (e=0) && decide (h.length=0)
def Yv_ (l:List Int) (h:List (Int × Int)) (e:Int):List Int:=if wE_ h e=true then l else []
def un_ (h:List (Int × Int)) (e:Int):Int:=if e=0 then (if h.length=0 then 0 else 10001) else e
def jr_:IR:=
(sq (kr [0] [oD 2 (.mov (.c (.imm (.int .u8) []))),
oD 3 (.mov (cI 0))])
(sq (.block 0
(sq (.reg [oM 5 0,
oC 6 107 [5],
oM 4 6])
(.cond 4
(sq (.reg [oD 2 (.mov (.c (.imm (.int .u8) []))),
oD 3 (.mov (cI 10001))])
.ret)
(sq (kr [0] [oM 8 0,
oD 9 (.nilck 8),
oA 10 3 9,
oL 11 10,
oB 12 .neq 11 (cI 0),
oM 7 12])
(.cond 7
(sq (kd [0] [(oM 13 0,[]),
(oD 14 (.nilck 13),[]),
(oA 15 3 14,[]),
(oL 16 15,[]),
(oD 2 (.mov (.c (.imm (.int .u8) []))),[0,0,0,0]),
(oM 3 16,[])])
.ret)
(sq (kr [0] [oM 18 0,
oD 19 (.nilck 18),
oA 20 2 19,
oL 21 20,
oD 22 (.mlen 21),
oB 23 .gtr 22 (cI 0),
oM 17 23])
(.cond 17
(sq (kr [] [oD 2 (.mov (.c (.imm (.int .u8) []))),
oD 3 (.mov (cI 10001))])
.ret)
.skip)))))))
(sq (kr [0] [oM 24 0,
oD 25 (.nilck 24),
oA 26 0 25,
oL 27 26,
oC 28 68 [27],
oM 2 28,
oD 3 (.mov (cI 0))])
.ret)))
def K7_:List RD:=[.tmp 2 true (some (.int .u8)),.tmp 3 true none]
theorem jh_:zq_ Tryz.prog Tryz.f50 jr_ K7_=true:=by kernel_rfl
def QA_:List AV->List Obj->Option (Prop × Res)
 | [.ptr 0 0],[.box [.own 1,.int .i64 room,.mapv 2,.int .i64 e],.row false (.int .u8) l,.map sq (.int .i64) (.int .i64) h]=>some (l.length<=140737488355328/\h.length<=140737488355328,.br (wE_ h e) (.one (.tup [.imm (.int .u8) l,.int .i64 0]) [.box [.own 1,.int .i64 room,.mapv 2,.int .i64 e],.row true (.int .u8) l,.map sq (.int .i64) (.int .i64) h]) (.one (.tup [.imm (.int .u8) [],.int .i64 (un_ h e)]) [.box [.own 1,.int .i64 room,.mapv 2,.int .i64 e],.row false (.int .u8) l,.map sq (.int .i64) (.int .i64) h]))
 | _,_=>none
def Zx_:List AV->List Obj->Option (Prop × AV × List Obj)
 | [.ptr 0 0],[.box [.own 1,.int .i64 room,.mapv 2,.int .i64 e],.row false (.int .u8) l,.map sq (.int .i64) (.int .i64) h]=>some (l.length<=140737488355328/\h.length<=140737488355328,.tup [.imm (.int .u8) (Yv_ l h e),.int .i64 (un_ h e)],[.box [.own 1,.int .i64 room,.mapv 2,.int .i64 e],.dead,.map sq (.int .i64) (.int .i64) h])
 | _,_=>none
theorem k6_:ze_ Tryz.prog 50 (RcF QA_).sum:=by
 refine Vt_ Tryz.func50 jh_ (za_ (s:=RoF z2_) ZG_ (za_ (s:=RoF qq_) QD_ (zg_ _))) fun args objs p v e=>?_
 unfold QA_ at e
 split at e
 ·rename_i room e l sq h
  cases e
  change List (Int × Int) at h
  refine ⟨rfl,fun hw ho hp=>?_⟩
  repeat'(intro t ht;first|(cases t<;>first|(cases ht;done)|(try simp only[zi_]at ht))|((first|refine zb_ ht ?_|refine ht ?_ ?_|refine ht.1 ?_ ?_|refine ht ?_)<;>clear ht))
  all_goals first
   | exact True.intro
   | exact hp.1
   | exact hp.2
   | (have hb:wE_ h e=true:=by unfold wE_;simp only [Bool.and_eq_true,decide_eq_true_eq];omega
      rw [Kl_ hb];exact ⟨rfl,rfl⟩)
   | (have hb:wE_ h e=false:=by unfold wE_;simp only [Bool.and_eq_false_iff,decide_eq_false_iff_not];omega
      rw [Km_ hb]
      unfold un_
      first
       | (rw [if_neg (by assumption)];exact ⟨rfl,rfl⟩)
       | (have h0:e=0:=by assumption
          have h1:¬ h.length=0:=by omega
          rw [if_pos h0,if_neg h1];exact ⟨rfl,rfl⟩))
 ·cases e
theorem qH_:ze_ Tryz.prog 50 (RwF Zx_).sum:=by
 refine Hi_ k6_ fun args objs p v o e=>?_
 unfold Zx_ at e
 split at e
 ·rename_i room e l sq h
  cases e
  change List (Int × Int) at h
  cases hb:wE_ h e with
  | true=>
    have h1:e=0:=by unfold wE_ at hb;simp_all
    have h2:h.length=0:=by unfold wE_ at hb;simp_all
    refine ⟨_,[.box [.own 1,.int .i64 room,.mapv 2,.int .i64 e],.row true (.int .u8) l,.map sq (.int .i64) (.int .i64) h],1,rfl,?_,by simp,rfl⟩
    rw [Kl_ hb];unfold Yv_ un_;rw [if_pos hb,if_pos h1,if_pos h2];rfl
  | false=>
    refine ⟨_,[.box [.own 1,.int .i64 room,.mapv 2,.int .i64 e],.row false (.int .u8) l,.map sq (.int .i64) (.int .i64) h],1,rfl,?_,by simp,rfl⟩
    rw [Km_ hb];unfold Yv_;rw [hb];rfl
 ·cases e
end Go.Eng
