/- Parts of the proof: R4, T1, C1. No condition. -/
import Derived.Test.YteihcoggfaenaaaGreatDoorProg
import Derived.Test.YteihcoggfaenaaaGreatDoorWF10
import Derived.KernelRfl
namespace Go.Eng
open Go.Proofs
set_option linter.unusedVariables false
set_option linter.unusedSimpArgs false
set_option maxRecDepth 100000
set_option maxHeartbeats 1000000
def qQ_:List Int->List Int->List Int->Option (List Int)
 | [],_,b=>some b
 | n :: r,xs,b=>if n < 0 then qQ_ r xs (b++ze_ 0 (0 - n)) else match xs with
   | []=>none
   | x :: ys=>if n < 8/\x.fdiv (2 ^ (min (8*n).toNat 64)) ≠ 0 then none else qQ_ r ys (b++ze_ x n)
def Ka_ (w xs:List Int):Option (List Int):=if z3_ w=true/\zo_ w=xs.length then qQ_ w xs [] else none
def zR_ (w xs:List Int):List Int:=(Ka_ w xs).getD []
def ZM_ (w xs:List Int):Bool:=(Ka_ w xs).isSome
theorem hV_ {w:List Int} (i:Nat):∀ k,K6_ ZW_ w i<=K6_ ZW_ w (i+k)
 | 0=>Int.le_refl _
 | k+1=>by
   have ih:=hV_ (w:=w) i k
   by_cases h:i+k < w.length
   ·rw [show i+(k+1)=(i+k)+1 by omega,ZR_ ZW_ h]
    have:0<=ZW_ (w.getD (i+k) 0):=by unfold ZW_;split<;>omega
    omega
   ·rw [K5_ ZW_ (show w.length<=i+(k+1) by omega)]
    rwa [K5_ ZW_ (show w.length<=i+k by omega)] at ih
theorem zfH_ {w:List Int} {i:Nat} (h:i < w.length) (hp:0 < w.getD i 0):K6_ ZW_ w i+1<=(w.map ZW_).sum:=by
 have h1:=hV_ (w:=w) (i+1) w.length
 rw [ZR_ ZW_ h,K5_ ZW_ (show w.length<=i+1+w.length by omega)] at h1
 have:ZW_ (w.getD i 0)=1:=if_pos hp
 omega
theorem zbt_ {w xs b:List Int} {i k:Nat} (h:i < w.length) (hn:w.getD i 0 < 0):qQ_ (w.drop i) (xs.drop k) b=qQ_ (w.drop (i+1)) (xs.drop k) (b++ze_ 0 (0 - w.getD i 0)):=by
 rw [zz_ h 0];exact if_pos hn
theorem h7_ {w xs b:List Int} {i k:Nat} (h:i < w.length) (hn:¬ w.getD i 0 < 0) (h2:k < xs.length) (h8:w.getD i 0 < 8) (hx:¬ (xs.getD k 0).fdiv (2 ^ (min (8*w.getD i 0).toNat 64))=0):qQ_ (w.drop i) (xs.drop k) b=none:=by
 rw [zz_ h 0,zz_ h2 0]
 show (if w.getD i 0 < 0 then _ else _)=_
 rw [if_neg hn]
 exact if_pos ⟨h8,hx⟩
theorem h6_ {w xs b:List Int} {i k:Nat} (h:i < w.length) (hn:¬ w.getD i 0 < 0) (h2:k < xs.length) (h8:¬ (w.getD i 0 < 8/\(xs.getD k 0).fdiv (2 ^ (min (8*w.getD i 0).toNat 64)) ≠ 0)):qQ_ (w.drop i) (xs.drop k) b=qQ_ (w.drop (i+1)) (xs.drop (k+1)) (b++ze_ (xs.getD k 0) (w.getD i 0)):=by
 rw [zz_ h 0,zz_ h2 0]
 show (if w.getD i 0 < 0 then _ else _)=_
 rw [if_neg hn]
 exact if_neg h8
theorem jg_ {α:Type} {l:List α} {k:Nat} {d:α}:(l.drop k).getD 0 d=l.getD k d:=by
 rw [List.getD_eq_getElem?_getD,List.getElem?_drop,Nat.add_zero,<- List.getD_eq_getElem?_getD]
def zeJ_:IR:=
(sq (kr [0,1] [oD 4 (.mov (.c (.imm (.int .u8) []))),
oD 5 (.mov cF)])
(sq (sq (kr [0,1] [oM 10 0,
oC 11 113 [10],
oD 12 (.un .not 11),
oM 13 12,
oF 13 14 (.mov 0),
oF 13 15 (.call false (.f 114) [14]),
oF 13 16 (.mov 1),
oF 13 17 (.len 16),
oF 13 18 (.bin .neq 15 17),
oP 19 13 cT 18])
(.cond 19
(sq (kr [] [oD 4 (.mov (.c (.imm (.int .u8) []))),
oD 5 (.mov cF)])
.ret)
.skip))
(sq (kr [0,1] [oM 20 0,
oC 21 94 [20],
oD 22 (.mkrow (.int .u8) 1 (0:Int) (cI 0) 21),
oM 6 22])
(sq (sq (.reg [oM 23 0,
oE 24 23,
oD 25 (.mov (cI 0))])
(.block 0
(.loop
(sq (kr [1,6,23,24,25] [oB 26 .lss 25 24])
(sq (.cond 26
.skip
(.exit 0))
(sq (.block 1
(sq (.reg [oI 27 1 23 25,
oL 28 27,
oM 8 28])
(sq (sq (.reg [oM 29 8,
oB 30 .lss 29 (cI 0)])
(.cond 30
(sq (kr [1,6,8,23,24,25] [oM 31 6,
oM 32 8,
oD 33 (.un .neg 32),
oD 34 (.call true (.f 115) [31,(.c (.int .u64 0)),33]),
oM 6 34])
(.exit 1))
.skip))
(sq (kr [1,6,8,23,24,25] [oM 35 1,
oD 36 (.indexSl 1 35 (cI 0)),
oL 37 36,
oM 9 37])
(sq (sq (kr [1,6,8,9,23,24,25] [oM 38 8,
oB 39 .lss 38 (cI 8),
oM 40 39,
oT 40 41 (.mov 9),
oT 40 42 (.mov 8),
oT 40 43 (.bin .mul (cI 8) 42),
oT 40 44 (.bin .shr 41 43),
oT 40 45 (.bin .neq 44 (.c (.int .u64 0))),
oP 46 40 45 cF])
(.cond 46
(sq (kr [] [oD 4 (.mov (.c (.imm (.int .u8) []))),
oD 5 (.mov cF)])
.ret)
.skip))
(kd [1,6,8,9,23,24,25] [(oM 47 6,[]),
(oM 48 9,[0]),
(oM 49 8,[0,0]),
(oD 50 (.call true (.f 115) [47,48,49]),[]),
(oM 51 1,[0,0,0,0]),
(oD 52 (.slice 1 51 (some (cI 1)) none none),[1,0,0,0]),
(oM 6 50,[0,0]),
(oM 1 52,[])]))))))
(kr [1,6,23,24,25] [oB 53 .add 25 (cI 1),
oM 25 53])))))))
(sq (kr [6] [oM 54 6,
oM 4 54,
oD 5 (.mov cT)])
.ret)))))
def zdF_:List RD:=[.tmp 4 true (some (.int .u8)),.tmp 5 true none]
theorem zd8_:zk_ Tryz.prog Tryz.f64 zeJ_ zdF_=true:=by kernel_rfl
def Xq_:List AV->List Obj->Option (Prop × AV)
 | [.imm (.int .i64) w,.imm (.int .u64) xs],[]=>some ((True,.tup [.imm (.int .u8) (zR_ w xs),.bool (ZM_ w xs)]))
 | _,_=>none
theorem v9_:zd_ Tryz.prog 64 (RoF Xq_).sum:=by
 refine zi_ Tryz.func64 zd8_ (za_ (s:=RoF qW_) Qq_ (za_ (s:=RoF QL_) kQ_ (za_ (s:=RoF QG_) QX_ (za_ (s:=RwF vM_) zaK_ (zc_ _))))) fun args objs p v e=>?_
 unfold Xq_ at e
 split at e
 ·rename_i w xs
  cases e
  refine ⟨rfl,fun hw ho hp=>?_⟩
  change List Int at w
  change List Int at xs
  have hx:xs.length<=maxLen:=(hw (.imm (.int .u64) xs) (by simp)).2
  unfold maxLen at hx
  have hz:=W8_ w
  repeat'(intro t ht;first|(cases t<;>first|(cases ht;done)|(try simp only[zg_]at ht))|((first|refine zb_ ht ?_|refine ht ?_ ?_|refine ht.1 ?_ ?_|refine ht ?_)<;>clear ht))
  all_goals first
   | exact True.intro
   | (intro r h1 h2;clear h1;refine h2 ⟨[1,6,23,24,25],Nat × Nat × List Int,(fun a=>a.1<=w.length/\(a.2.2.length:Int)=K6_ zt_ w a.1/\K6_ ZW_ w a.1=a.2.1/\qQ_ w xs []=qQ_ (w.drop a.1) (xs.drop a.2.1) a.2.2),fun a=>[.imm (.int .u64) (xs.drop a.2.1),.own 0,.imm (.int .i64) w,.int .i64 w.length,.int .i64 a.1],fun a=>[.row false (.int .u8) a.2.2],fun a=>w.length - a.1,⟨(0,0,[]),⟨Nat.zero_le _,rfl,rfl,rfl⟩,rfl,rfl⟩,?_⟩;clear h2)
   | ((try simp only [zm_,zn_,zl_] at*);omega)
   | (have hn:¬ (z3_ w=true/\zo_ w=xs.length):=fun h=>by simp_all
      refine ⟨?_,rfl⟩;unfold zR_ ZM_ Ka_;rw [if_neg hn];rfl)
  rintro ⟨i,k,b⟩ ⟨hi,hb,hk,he⟩
  dsimp only at hi hb hk he
  have hr:z3_ w=true:=by assumption
  have hc:zo_ w=xs.length:=by assumption
  have hsum:(w.map ZW_).sum=xs.length:=by unfold zo_ at hc;rwa [if_pos hr] at hc
  have hl:=(Zk_.1 hr).1
  have hs:=yS_ hr i
  have h1:=yR_ hr i
  repeat'(intro t ht;first|(cases t<;>first|(cases ht;done)|(try simp only[zg_]at ht))|((first|refine zb_ ht ?_|refine ht ?_ ?_|refine ht.1 ?_ ?_|refine ht ?_)<;>clear ht))
  all_goals first
   | ((try simp only [zm_,zn_,zl_] at*);omega)
   | (have hge:w.length<=i:=by omega
      rw [List.drop_of_length_le hge] at he
      have hf:Ka_ w xs=some b:=by unfold Ka_;rw [if_pos ⟨hr,hc⟩,he];rfl
      refine ⟨?_,rfl⟩;unfold zR_ ZM_;rw [hf];rfl)
   | skip
  all_goals have hlt:i < w.length:=by omega
  all_goals have hkk:=(Zk_.1 hr).2 _ (zu_ (α:=Int) hlt 0)
  all_goals first
   | ((try simp only [zm_,zn_,zl_] at*);rw [List.length_drop];omega)
   | ((try simp only [zm_,zn_,zl_] at*);omega)
   | (have hn:w.getD i 0 < 0:=by assumption
      have ha:=JL_ hn
      have h0:ZW_ (w.getD i 0)=0:=if_neg (by omega)
      have hbl:=zj_ (n:=0) (w:=0 - w.getD i 0) (by omega)
      refine ⟨(i+1,k,b++ze_ 0 (0 - w.getD i 0)),⟨hlt,?_,?_,?_⟩,by dsimp only;omega,rfl,rfl⟩
      ·rw [ZR_ zt_ hlt,ha];simp only [List.length_append];omega
      ·rw [ZR_ ZW_ hlt,h0];dsimp only;omega
      ·rw [he];exact zbt_ hlt hn)
   | (have hn:¬ w.getD i 0 < 0:=by assumption
      have hlt2:=zfH_ (w:=w) (i:=i) hlt (by omega)
      have h2:k < xs.length:=by omega
      first
       | ((try simp only [zm_,zn_,zl_] at*);rw [List.length_drop];omega)
       | (have h8:w.getD i 0 < 8:=by assumption
          have hx:¬ ((xs.drop k).getD 0 0).fdiv (2 ^ (min (8*w.getD i 0).toNat 64))=0:=by assumption
          rw [jg_] at hx
          have hf:Ka_ w xs=none:=by unfold Ka_;rw [if_pos ⟨hr,hc⟩,he];exact h7_ hlt hn h2 h8 hx
          refine ⟨?_,rfl⟩;unfold zR_ ZM_;rw [hf];rfl)
       | (have h8:¬ (w.getD i 0 < 8/\(xs.getD k 0).fdiv (2 ^ (min (8*w.getD i 0).toNat 64)) ≠ 0):=fun h=>by
           first
            | (exact absurd h.1 (by assumption))
            | (have hx:((xs.drop k).getD 0 0).fdiv (2 ^ (min (8*w.getD i 0).toNat 64))=0:=by assumption
               rw [jg_] at hx
               exact h.2 hx)
          have ha:=Xp_ hn
          have h0:ZW_ (w.getD i 0)=1:=if_pos (by omega)
          have hbl:=zj_ (n:=xs.getD k 0) (w:=w.getD i 0) (by omega)
          refine ⟨(i+1,k+1,b++ze_ (xs.getD k 0) (w.getD i 0)),⟨hlt,?_,?_,?_⟩,by dsimp only;omega,?_,?_⟩
          ·rw [ZR_ zt_ hlt,ha];simp only [List.length_append];omega
          ·rw [ZR_ ZW_ hlt,h0];dsimp only;omega
          ·rw [he];exact h6_ hlt hn h2 h8
          ·dsimp only;rw [<- List.drop_drop];rfl
          ·dsimp only;rw [<- jg_ (l:=xs) (k:=k)];rfl))
 ·cases e
def ZG_:List Int->List Int->List Int->List Int × Int
 | [],_,o=>(o,0)
 | n :: r,b,o=>if (b.length:Int) < zt_ n then ([],1) else if 0 < n then ZG_ r (b.drop (zt_ n).toNat) (o++[Zz_ (b.take (zt_ n).toNat)]) else if Zo_ (b.take (zt_ n).toNat)=true then ZG_ r (b.drop (zt_ n).toNat) o else ([],2)
def ZX_ (w b:List Int):List Int × Int:=if z3_ w=true then ZG_ w b [] else ([],2)
def Zq_ (w b:List Int):List Int:=(ZX_ w b).1
def z7_ (w b:List Int):Int:=(ZX_ w b).2
theorem gr_ {w b o:List Int} {i:Nat} (h:i < w.length) (h1:(b.length:Int) < zt_ (w.getD i 0)):ZG_ (w.drop i) b o=([],1):=by
 rw [zz_ h 0];exact if_pos h1
theorem zcF_ {w b o:List Int} {i:Nat} (h:i < w.length) (h1:¬ (b.length:Int) < zt_ (w.getD i 0)) (h2:0 < w.getD i 0):ZG_ (w.drop i) b o=ZG_ (w.drop (i+1)) (b.drop (zt_ (w.getD i 0)).toNat) (o++[Zz_ (b.take (zt_ (w.getD i 0)).toNat)]):=by
 rw [zz_ h 0]
 show (if (b.length:Int) < zt_ (w.getD i 0) then _ else _)=_
 rw [if_neg h1];exact if_pos h2
theorem Hg_ {w b o:List Int} {i:Nat} (h:i < w.length) (h1:¬ (b.length:Int) < zt_ (w.getD i 0)) (h2:¬ 0 < w.getD i 0) (h3:Zo_ (b.take (zt_ (w.getD i 0)).toNat)=true):ZG_ (w.drop i) b o=ZG_ (w.drop (i+1)) (b.drop (zt_ (w.getD i 0)).toNat) o:=by
 rw [zz_ h 0]
 show (if (b.length:Int) < zt_ (w.getD i 0) then _ else _)=_
 rw [if_neg h1]
 show (if 0 < w.getD i 0 then _ else _)=_
 rw [if_neg h2];exact if_pos h3
theorem zcE_ {w b o:List Int} {i:Nat} (h:i < w.length) (h1:¬ (b.length:Int) < zt_ (w.getD i 0)) (h2:¬ 0 < w.getD i 0) (h3:Zo_ (b.take (zt_ (w.getD i 0)).toNat)=false):ZG_ (w.drop i) b o=([],2):=by
 rw [zz_ h 0]
 show (if (b.length:Int) < zt_ (w.getD i 0) then _ else _)=_
 rw [if_neg h1]
 show (if 0 < w.getD i 0 then _ else _)=_
 rw [if_neg h2];exact if_neg (by rw [h3];simp)
def zeK_:IR:=
(sq (kr [0,1] [oD 4 (.nilrow (.int .u64)),
oD 5 (.mov (cI 0))])
(sq (sq (.reg [oM 10 0,
oC 11 113 [10],
oD 12 (.un .not 11)])
(.cond 12
(sq (.reg [oD 4 (.nilrow (.int .u64)),
oD 5 (.mov (cI 2))])
.ret)
.skip))
(sq (kr [0,1] [oD 6 (.nilrow (.int .u64))])
(sq (sq (.reg [oM 13 0,
oE 14 13,
oD 15 (.mov (cI 0))])
(.block 0
(.loop
(sq (kr [1,6,13,14,15] [oB 16 .lss 15 14])
(sq (.cond 16
.skip
(.exit 0))
(sq (.block 1
(sq (.reg [oI 17 1 13 15,
oL 18 17,
oM 8 18])
(sq (kr [1,6,8,13,14,15] [oM 19 8,
oM 20 8,
oD 21 (.un .neg 20),
oD 22 (.minmax true 19 21),
oM 9 22])
(sq (.block 2
(sq (kr [1,6,8,9,13,14,15] [oM 24 1,
oE 25 24,
oM 26 9,
oB 27 .lss 25 26,
oM 23 27])
(.cond 23
(sq (.reg [oD 4 (.nilrow (.int .u64)),
oD 5 (.mov (cI 1))])
.ret)
(sq (.reg [oM 29 8,
oB 30 .gtr 29 (cI 0),
oM 28 30])
(.cond 28
(kr [1,6,9,13,14,15] [oM 31 6,
oM 32 1,
oM 33 9,
oD 34 (.slice 1 32 none (some 33) none),
oC 35 129 [34],
oD 36 (.sliceAll (.int .u64) 1 [(0,1,35)]),
oD 37 (.append (.int .u64) 8 31 36),
oM 6 37])
(sq (kr [1,6,9,13,14,15] [oM 39 1,
oM 40 9,
oD 41 (.slice 1 39 none (some 40) none),
oC 42 130 [41],
oD 43 (.un .not 42),
oM 38 43])
(.cond 38
(sq (kr [] [oD 4 (.nilrow (.int .u64)),
oD 5 (.mov (cI 2))])
.ret)
.skip)))))))
(kr [1,6,9,13,14,15] [oM 44 1,
oM 45 9,
oD 46 (.slice 1 44 (some 45) none none),
oM 1 46])))))
(kr [1,6,13,14,15] [oB 47 .add 15 (cI 1),
oM 15 47])))))))
(sq (kr [6] [oM 48 6,
oM 4 48,
oD 5 (.mov (cI 0))])
.ret)))))
def zdG_:List RD:=[.tmp 4 true (some (.int .u64)),.tmp 5 true none]
theorem zd9_:zk_ Tryz.prog Tryz.f93 zeK_ zdG_=true:=by kernel_rfl
def vN_:List AV->List Obj->Option (Prop × AV)
 | [.imm (.int .i64) w,.imm (.int .u8) b],[]=>some ((True,.tup [.imm (.int .u64) (Zq_ w b),.int .i64 (z7_ w b)]))
 | _,_=>none
theorem zaL_:zd_ Tryz.prog 93 (RoF vN_).sum:=by
 refine zi_ Tryz.func93 zd9_ (za_ (s:=RoF qW_) Qq_ (za_ (s:=RoF KN_) WW_ (za_ (s:=RoF wG_) yU_ (zc_ _)))) fun args objs p v e=>?_
 unfold vN_ at e
 split at e
 ·rename_i w b
  cases e
  refine ⟨rfl,fun hw ho hp=>?_⟩
  change List Int at w
  change List Int at b
  have hb:b.length<=maxLen:=(hw (.imm (.int .u8) b) (by simp)).2
  unfold maxLen at hb
  repeat'(intro t ht;first|(cases t<;>first|(cases ht;done)|(try simp only[zg_]at ht))|((first|refine zb_ ht ?_|refine ht ?_ ?_|refine ht.1 ?_ ?_|refine ht ?_)<;>clear ht))
  all_goals first
   | exact True.intro
   | (intro r h1 h2;clear h1;refine h2 ⟨[1,6,13,14,15],Nat × List Int × List Int,(fun a=>a.1<=w.length/\a.2.1.length<=b.length/\a.2.2.length<=a.1/\ZG_ w b []=ZG_ (w.drop a.1) a.2.1 a.2.2),fun a=>[.imm (.int .u8) a.2.1,.own 0,.imm (.int .i64) w,.int .i64 w.length,.int .i64 a.1],fun a=>[.row false (.int .u64) a.2.2],fun a=>w.length - a.1,⟨(0,b,[]),⟨Nat.zero_le _,Nat.le_refl _,Nat.zero_le _,rfl⟩,rfl,rfl⟩,?_⟩;clear h2)
   | (have hr:z3_ w=false:=by assumption
      have hf:ZX_ w b=([],2):=by unfold ZX_;rw [hr];rfl
      refine ⟨?_,rfl⟩;unfold Zq_ z7_;rw [hf])
  rintro ⟨i,c,o⟩ ⟨hi,hc,ho,he⟩
  dsimp only at hi hc ho he
  have hr:z3_ w=true:=by assumption
  have hl:=(Zk_.1 hr).1
  repeat'(intro t ht;first|(cases t<;>first|(cases ht;done)|(try simp only[zg_]at ht))|((first|refine zb_ ht ?_|refine ht ?_ ?_|refine ht.1 ?_ ?_|refine ht ?_)<;>clear ht))
  all_goals first
   | ((try simp only [zm_,zn_,zl_] at*);omega)
   | (have hge:w.length<=i:=by omega
      rw [List.drop_of_length_le hge] at he
      have hf:ZX_ w b=(o,0):=by unfold ZX_;rw [if_pos hr,he];rfl
      refine ⟨?_,rfl⟩;unfold Zq_ z7_;rw [hf];done)
   | skip
  all_goals have hlt:i < w.length:=by omega
  all_goals have hkk:=(Zk_.1 hr).2 _ (zu_ (α:=Int) hlt 0)
  all_goals have ha:=wF_ (n:=w.getD i 0)
  all_goals have hA:(if 0 - w.getD i 0 > w.getD i 0 then 0 - w.getD i 0 else w.getD i 0)=zt_ (w.getD i 0):=rfl
  all_goals first
   | exact True.intro
   | ((try simp only [zm_,zn_,zl_] at*);omega)
   | (have h1:(c.length:Int) < zt_ (w.getD i 0):=by assumption
      have hf:ZX_ w b=([],1):=by unfold ZX_;rw [if_pos hr,he];exact gr_ hlt h1
      refine ⟨?_,rfl⟩;unfold Zq_ z7_;rw [hf];done)
   | (have h1:¬ (c.length:Int) < zt_ (w.getD i 0):=by assumption
      first
       | (have h2:¬ 0 < w.getD i 0:=by assumption
          first
           | (have h3:Zo_ (c.take (zt_ (w.getD i 0)).toNat)=true:=by assumption
              refine ⟨(i+1,c.drop (zt_ (w.getD i 0)).toNat,o),⟨hlt,?_,by dsimp only;omega,?_⟩,by dsimp only;omega,rfl,rfl⟩
              ·dsimp only;rw [List.length_drop];omega
              ·rw [he];exact Hg_ hlt h1 h2 h3)
           | (have h3:Zo_ (c.take (zt_ (w.getD i 0)).toNat)=false:=by assumption
              have hf:ZX_ w b=([],2):=by unfold ZX_;rw [if_pos hr,he];exact zcE_ hlt h1 h2 h3
              refine ⟨?_,rfl⟩;unfold Zq_ z7_;rw [hf];done))
       | (have h2:0 < w.getD i 0:=by assumption
          first
           | (show (c.take (zt_ (w.getD i 0)).toNat).length<=8;rw [List.length_take];omega)
           | (simp only [zN_,List.length_append,List.length_cons,List.length_nil];omega)
           | (refine ⟨(i+1,c.drop (zt_ (w.getD i 0)).toNat,o++[Zz_ (c.take (zt_ (w.getD i 0)).toNat)]),⟨hlt,?_,?_,?_⟩,by dsimp only;omega,rfl,rfl⟩
              ·dsimp only;rw [List.length_drop];omega
              ·simp only [List.length_append,List.length_cons,List.length_nil];omega
              ·rw [he];exact zcF_ hlt h1 h2)))
 ·cases e
theorem zh1_ {α:Type} {a b:List α} {d:α} {i:Nat} (h:a.take i=b.take i) (hi:i < a.length) (hl:a.length=b.length) (e:a.getD i d=b.getD i d):a.take (i+1)=b.take (i+1):=by
 have hb:i < b.length:=by omega
 rw [List.getD_eq_getElem?_getD,List.getD_eq_getElem?_getD,List.getElem?_eq_getElem hi,List.getElem?_eq_getElem hb] at e
 rw [List.take_succ_eq_append_getElem hi,List.take_succ_eq_append_getElem hb,h,show a[i]=b[i] from e]
theorem zlh_ {α:Type} {a b:List α} {i:Nat} (h:a.take i=b.take i) (hi:a.length<=i) (hl:a.length=b.length):a=b:=by
 rwa [List.take_of_length_le hi,List.take_of_length_le (by omega)] at h
theorem tkNe {α:Type} {a b:List α} {d:α} {i:Nat} (e:¬ a.getD i d=b.getD i d):a ≠ b:=fun h=>e (by rw [h])
def BY_:IR:=
(sq (kr [0,1] [oD 4 (.mov cF)])
(sq (sq (kr [0,1] [oM 6 0,
oE 7 6,
oM 8 1,
oE 9 8,
oB 10 .neq 7 9])
(.cond 10
(sq (.reg [oD 4 (.mov cF)])
.ret)
.skip))
(sq (sq (kr [0,1] [oD 5 (.mov (cI 0))])
(.block 0
(.loop
(sq (sq (kr [0,1,5] [oM 11 5,
oM 12 0,
oE 13 12,
oB 14 .lss 11 13])
(.cond 14
.skip
(.exit 0)))
(sq (.block 1
(sq (kd [0,1,5] [(oM 17 0,[]),
(oM 18 5,[0]),
(oI 19 1 17 18,[]),
(oL 20 19,[]),
(oM 21 1,[0,0,0,0]),
(oM 22 5,[0,0,0,0,0]),
(oI 23 1 21 22,[2,0,0,0]),
(oL 24 23,[3,0,0,0]),
(oB 25 .neq 20 24,[])])
(.cond 25
(sq (kr [] [oD 4 (.mov cF)])
.ret)
.skip)))
(kr [0,1,5] [oM 15 5,
oB 16 .add 15 (cI 1),
oM 5 16]))))))
(sq (kr [] [oD 4 (.mov cT)])
.ret))))
def by_:List RD:=[.tmp 4 true none]
theorem Bb_:zk_ Tryz.prog Tryz.f13 BY_ by_=true:=by kernel_rfl
def Kp_:List AV->List Obj->Option (Prop × AV)
 | [.imm (.int .u8) a,.imm (.int .u8) b],[]=>some ((True,.bool (decide (a=b))))
 | _,_=>none
theorem j0_:zd_ Tryz.prog 13 (RoF Kp_).sum:=by
 refine zi_ Tryz.func13 Bb_ (zc_ _) fun args objs p v e=>?_
 unfold Kp_ at e
 split at e
 ·rename_i a b
  cases e
  refine ⟨rfl,fun hw ho hp=>?_⟩
  change List Int at a
  change List Int at b
  have hl:a.length<=maxLen:=(hw (.imm (.int .u8) a) (by simp)).2
  unfold maxLen at hl
  repeat'(intro t ht;first|(cases t<;>first|(cases ht;done)|(try simp only[zg_]at ht))|((first|refine zb_ ht ?_|refine ht ?_ ?_|refine ht.1 ?_ ?_|refine ht ?_)<;>clear ht))
  all_goals first
   | (have hne:a ≠ b:=fun h=>(by assumption:¬ (a.length:Int)=b.length) (by rw [h])
      refine ⟨?_,rfl⟩;rw [decide_eq_false hne];done)
   | (intro r h1 h2;clear h1;refine h2 ⟨[0,1,5],Nat,(fun i=>i<=a.length/\a.take i=b.take i),fun i=>[.imm (.int .u8) a,.imm (.int .u8) b,.int .i64 i],fun _=>[],fun i=>a.length - i,⟨0,⟨Nat.zero_le _,rfl⟩,rfl,rfl⟩,?_⟩;clear h2)
  rintro i ⟨hi,he⟩
  have hl2:a.length=b.length:=by omega
  repeat'(intro t ht;first|(cases t<;>first|(cases ht;done)|(try simp only[zg_]at ht))|((first|refine zb_ ht ?_|refine ht ?_ ?_|refine ht.1 ?_ ?_|refine ht ?_)<;>clear ht))
  all_goals first
   | ((try simp only [zm_,zn_,zl_] at*);omega)
   | (have hge:a.length<=i:=by omega
      have e:=zlh_ he hge hl2
      refine ⟨?_,rfl⟩;rw [decide_eq_true e];done)
   | (have hne:a ≠ b:=tkNe (d:=0) (i:=i) (by assumption)
      refine ⟨?_,rfl⟩;rw [decide_eq_false hne];done)
   | (have hlt:i < a.length:=by omega
      exact ⟨i+1,⟨hlt,zh1_ he hlt hl2 (d:=0) (by assumption)⟩,by (try simp only [zm_,zn_,zl_] at*);omega,rfl,rfl⟩)
 ·cases e
def Bo_ (n w:Int) (i:Nat):List Int:=List.replicate (w.toNat - i) 0++(ze_ n w).drop (w.toNat - i)
theorem zg2_ {n w:Int}:Bo_ n w 0=List.replicate w.toNat 0:=by
 unfold Bo_ ze_;rw [List.drop_of_length_le (by rw [jl_];omega)];simp
theorem zir_ {n w:Int} {i:Nat} (h:i<=w.toNat):(Bo_ n w i).length=w.toNat:=by
 unfold Bo_ ze_;rw [List.length_append,List.length_replicate,List.length_drop,jl_];omega
theorem zc5_ {n w:Int} {j:Nat} (h:j < w.toNat):(ze_ n w).getD j 0=kG_ n w j:=by
 unfold ze_ kF_
 rw [List.getD_eq_getElem?_getD,List.getElem?_map,List.getElem?_range h];rfl
theorem zg3_ {n w:Int} {i:Nat} (h:i < w.toNat):(Bo_ n w i).set (w.toNat - 1 - i) (kG_ n w (w.toNat - 1 - i:Nat))=Bo_ n w (i+1):=by
 have h1:w.toNat - i=(w.toNat - (i+1))+1:=by omega
 have hbl:(ze_ n w).length=w.toNat:=by unfold ze_;rw [jl_]
 unfold Bo_
 rw [h1,List.replicate_succ',List.append_assoc,List.set_append_right _ _ (by rw [List.length_replicate];omega),List.length_replicate,show w.toNat - 1 - i - (w.toNat - (i+1))=0 by omega]
 rw [zz_ (l:=ze_ n w) (i:=w.toNat - (i+1)) (by omega) 0,zc5_ (by omega),show w.toNat - (i+1)=w.toNat - 1 - i by omega]
 rfl
def ze3_:IR:=
(sq (kr [0,1] [oD 4 (.mov (.c (.imm (.int .u8) [])))])
(sq (.reg [oM 7 1,
oD 8 (.mkrow (.int .u8) 1 (0:Int) 7 7),
oM 5 8])
(sq (sq (.reg [oD 6 (.mov (cI 0))])
(.block 0
(.loop
(sq (sq (kr [0,1,5,6] [oM 9 6,
oM 10 1,
oB 11 .lss 9 10])
(.cond 11
.skip
(.exit 0)))
(sq (.block 1
(kr [0,1,5,6] [oM 14 5,
oM 15 1,
oB 16 .sub 15 (cI 1),
oM 17 6,
oB 18 .sub 16 17,
oM 19 0,
oM 20 6,
oB 21 .mul (cI 8) 20,
oB 22 .shr 19 21,
oD 23 (.conv .u8 22),
oI 24 1 14 18,
oS 1 24 23]))
(kr [0,1,5,6] [oM 12 6,
oB 13 .add 12 (cI 1),
oM 6 13]))))))
(sq (kr [5] [oM 25 5,
oM 4 25])
.ret))))
def zdZ_:List RD:=[.tmp 4 false none]
theorem zes_:zk_ Tryz.prog Tryz.f88 ze3_ zdZ_=true:=by kernel_rfl
def Qf_:List AV->List Obj->Option (Prop × AV × List Obj)
 | [.int .u64 n,.int .i64 w],[]=>some ((0<=w/\w<=100,.own 0,[.row false (.int .u8) (ze_ n w)]))
 | _,_=>none
theorem qL_:zd_ Tryz.prog 88 (RwF Qf_).sum:=by
 refine qa_ Tryz.func88 zes_ (zc_ _) fun args objs p v o e=>?_
 unfold Qf_ at e
 split at e
 ·rename_i n w
  cases e
  refine ⟨rfl,fun hw ho hp=>?_⟩
  repeat'(intro t ht;first|(cases t<;>first|(cases ht;done)|(try simp only[zg_]at ht))|((first|refine zb_ ht ?_|refine ht ?_ ?_|refine ht.1 ?_ ?_|refine ht ?_)<;>clear ht))
  all_goals first
   | ((try simp only [zm_,zn_,zl_] at*);omega)
   | (intro r h1 h2;clear h1;refine h2 ⟨[0,1,5,6],Nat,(fun i=>(i:Int)<=w),fun i=>[.int .u64 n,.int .i64 w,.own 0,.int .i64 i],fun i=>[.row false (.int .u8) (Bo_ n w i)],fun i=>w.toNat - i,⟨0,hp.1,rfl,by simp only [zg2_]⟩,?_⟩;clear h2)
  intro i hi
  repeat'(intro t ht;first|(cases t<;>first|(cases ht;done)|(try simp only[zg_]at ht))|((first|refine zb_ ht ?_|refine ht ?_ ?_)<;>clear ht)|(refine ht.1 (by simp only[zl_];omega) ?_;clear ht)|(refine ht.2 ?_;clear ht)|(refine ht ?_;clear ht))
  all_goals first
   | omega
   | (simp only [zir_ (show i<=w.toNat by omega)];omega)
   | (have e:w.toNat - i=0:=by omega
      refine ⟨rfl,?_⟩;unfold Bo_;rw [e];rfl)
   | (have hlt:i < w.toNat:=by omega
      refine ⟨i+1,by dsimp only;omega,by dsimp only;omega,rfl,?_⟩
      dsimp only
      rw [<- zg3_ hlt]
      have e1:(w - 1 - (i:Int)).toNat=w.toNat - 1 - i:=by omega
      have e2:kG_ n w ((w.toNat - 1 - i:Nat):Int)=IntKind.u8.wrap (n.fdiv (2 ^ min (8*(i:Int)).toNat IntKind.u64.bits)):=by
       rw [HG_];unfold kG_
       rw [show w - 1 - ((w.toNat - 1 - i:Nat):Int)=i by omega];rfl
      rw [e1,e2])
 ·cases e
def JT_ (b:List Int) (c:Int):Nat->Nat
 | 0=>0
 | k+1=>if b.getD k 0=c then JT_ b c k else k+1
def v5_ (b:List Int) (c:Int):List Int:=b.take (JT_ b c b.length)
def WT_ (b:List Int) (c:Int):List Int:=b.dropWhile fun x=>decide (x=c)
theorem YW_ {b:List Int} {k j:Nat} (h:j < k):(b.take k).getD j 0=b.getD j 0:=by
 rw [List.getD_eq_getElem?_getD,List.getElem?_take,if_pos h,<- List.getD_eq_getElem?_getD]
def wy_:IR:=
(sq (kr [0,1] [oD 4 (.mov (.c (.imm (.int .u8) [])))])
(sq (.block 0
(.loop
(sq (sq (kr [0,1] [oM 5 0,
oE 6 5,
oB 7 .gtr 6 (cI 0),
oM 8 7,
oT 8 9 (.mov 0),
oT 8 10 (.mov 0),
oT 8 11 (.len 10),
oT 8 12 (.bin .sub 11 (cI 1)),
oT 8 13 (.indexSl 1 9 12),
oT 8 14 (.load none 13),
oT 8 15 (.mov 1),
oT 8 16 (.bin .eql 14 15),
oP 17 8 16 cF])
(.cond 17
.skip
(.exit 0)))
(.block 1
(kr [0,1] [oM 18 0,
oM 19 0,
oE 20 19,
oB 21 .sub 20 (cI 1),
oD 22 (.slice 1 18 none (some 21) none),
oM 0 22])))))
(sq (kr [0] [oM 23 0,
oM 4 23])
.ret)))
def we_:List RD:=[.tmp 4 true (some (.int .u8))]
theorem wm_:zk_ Tryz.prog Tryz.f201 wy_ we_=true:=by kernel_rfl
def qF_:List AV->List Obj->Option (Prop × AV)
 | [.imm (.int .u8) b,.int .u8 c],[]=>some ((b.length<=140737488355328,.imm (.int .u8) (v5_ b c)))
 | _,_=>none
theorem Jq_:zd_ Tryz.prog 201 (RoF qF_).sum:=by
 refine zi_ Tryz.func201 wm_ (zc_ _) fun args objs p v e=>?_
 unfold qF_ at e
 split at e
 ·rename_i b c
  cases e
  refine ⟨rfl,fun hw ho hp=>?_⟩
  change List Int at b
  repeat'(intro t ht;first|(cases t<;>first|(cases ht;done)|(try simp only[zg_]at ht))|((first|refine zb_ ht ?_|refine ht ?_ ?_|refine ht.1 ?_ ?_|refine ht ?_)<;>clear ht))
  all_goals first
   | (intro r h1 h2;clear h1;refine h2 ⟨[0,1],Nat,(fun k=>k<=b.length/\JT_ b c b.length=JT_ b c k),fun k=>[.imm (.int .u8) (b.take k),.int .u8 c],fun _=>[],fun k=>k,⟨b.length,⟨Nat.le_refl _,rfl⟩,by simp only [List.take_length],rfl⟩,?_⟩;clear h2)
  rintro k ⟨hk,he⟩
  have hl:(b.take k).length=k:=by rw [List.length_take];omega
  repeat'(intro t ht;first|(cases t<;>first|(cases ht;done)|(try simp only[zg_]at ht))|((first|refine zb_ ht ?_|refine ht ?_ ?_|refine ht.1 ?_ ?_|refine ht ?_)<;>clear ht))
  all_goals first
   | ((try simp only [zm_,zn_,zl_] at*);omega)
   | (have h0:k=0:=by omega
      refine ⟨?_,rfl⟩;unfold v5_;rw [he,h0];rfl)
   | (obtain ⟨j,rfl⟩:∃ j,k=j+1:=⟨k - 1,by omega⟩
      have e:(((b.take (j+1)).length:Int) - 1).toNat=j:=by omega
      first
       | (have hx:¬ (b.take (j+1)).getD (((b.take (j+1)).length:Int) - 1).toNat 0=c:=by assumption
          rw [e,YW_ (Nat.lt_succ_self j)] at hx
          have h1:JT_ b c (j+1)=j+1:=if_neg hx
          refine ⟨?_,rfl⟩;unfold v5_;rw [he,h1])
       | (have hx:(b.take (j+1)).getD (((b.take (j+1)).length:Int) - 1).toNat 0=c:=by assumption
          rw [e,YW_ (Nat.lt_succ_self j)] at hx
          have h1:JT_ b c (j+1)=JT_ b c j:=if_pos hx
          refine ⟨j,⟨by omega,by rw [he,h1]⟩,Nat.lt_succ_self j,?_,rfl⟩
          dsimp only;rw [e,List.take_take,Nat.min_eq_left (Nat.le_succ j)]))
 ·cases e
def WM_:IR:=
(sq (kr [0,1] [oD 4 (.mov (.c (.imm (.int .u8) [])))])
(sq (.block 0
(.loop
(sq (sq (kr [0,1] [oM 5 0,
oE 6 5,
oB 7 .gtr 6 (cI 0),
oM 8 7,
oT 8 9 (.mov 0),
oT 8 10 (.indexSl 1 9 (cI 0)),
oT 8 11 (.load none 10),
oT 8 12 (.mov 1),
oT 8 13 (.bin .eql 11 12),
oP 14 8 13 cF])
(.cond 14
.skip
(.exit 0)))
(.block 1
(kr [0,1] [oM 15 0,
oD 16 (.slice 1 15 (some (cI 1)) none none),
oM 0 16])))))
(sq (sq (kr [0] [oM 17 0,
oE 18 17,
oB 19 .eql 18 (cI 0)])
(.cond 19
(sq (.reg [oD 4 (.mov (.c (.imm (.int .u8) [])))])
.ret)
.skip))
(sq (.reg [oM 20 0,
oM 4 20])
.ret))))
def Wh_:List RD:=[.tmp 4 true (some (.int .u8))]
theorem Wx_:zk_ Tryz.prog Tryz.f200 WM_ Wh_=true:=by kernel_rfl
def q3_:List AV->List Obj->Option (Prop × AV)
 | [.imm (.int .u8) b,.int .u8 c],[]=>some ((b.length<=140737488355328,.imm (.int .u8) (WT_ b c)))
 | _,_=>none
theorem J3_:zd_ Tryz.prog 200 (RoF q3_).sum:=by
 refine zi_ Tryz.func200 Wx_ (zc_ _) fun args objs p v e=>?_
 unfold q3_ at e
 split at e
 ·rename_i b c
  cases e
  refine ⟨rfl,fun hw ho hp=>?_⟩
  change List Int at b
  repeat'(intro t ht;first|(cases t<;>first|(cases ht;done)|(try simp only[zg_]at ht))|((first|refine zb_ ht ?_|refine ht ?_ ?_|refine ht.1 ?_ ?_|refine ht ?_)<;>clear ht))
  all_goals first
   | (intro r h1 h2;clear h1;refine h2 ⟨[0,1],Nat,(fun k=>k<=b.length/\WT_ b c=WT_ (b.drop k) c),fun k=>[.imm (.int .u8) (b.drop k),.int .u8 c],fun _=>[],fun k=>b.length - k,⟨0,⟨Nat.zero_le _,rfl⟩,rfl,rfl⟩,?_⟩;clear h2)
  rintro k ⟨hk,he⟩
  have hl:(b.drop k).length=b.length - k:=List.length_drop
  repeat'(intro t ht;first|(cases t<;>first|(cases ht;done)|(try simp only[zg_]at ht))|((first|refine zb_ ht ?_|refine ht ?_ ?_|refine ht.1 ?_ ?_|refine ht ?_)<;>clear ht))
  all_goals first
   | ((try simp only [zm_,zn_,zl_] at*);omega)
   | (exfalso;omega)
   | (have h0:b.drop k=[]:=List.eq_nil_of_length_eq_zero (by omega)
      refine ⟨?_,rfl⟩;rw [he,h0];rfl)
   | (have hlt:k < b.length:=by omega
      first
       | (have hx:¬ (b.drop k).getD 0 0=c:=by assumption
          rw [jg_] at hx
          have h1:WT_ (b.drop k) c=b.drop k:=by
           unfold WT_;rw [zz_ hlt 0,List.dropWhile_cons_of_neg (by simpa using hx)]
          refine ⟨?_,rfl⟩;rw [he,h1])
       | (have hx:(b.drop k).getD 0 0=c:=by assumption
          rw [jg_] at hx
          have h1:WT_ (b.drop k) c=WT_ (b.drop (k+1)) c:=by
           unfold WT_;rw [zz_ hlt 0,List.dropWhile_cons_of_pos (by simpa using hx)]
          refine ⟨k+1,⟨hlt,by rw [he,h1]⟩,by dsimp only;omega,?_,rfl⟩
          dsimp only;rw [<- List.drop_drop];rfl))
 ·cases e
theorem hU_:∀ (b:List Int),decide ((WT_ (v5_ b 0) 0).length=0)=Zo_ b:=by
 intro b
 have hR:∀ k ≤ b.length,(b.take (JT_ b 0 k)).all (fun c=>decide (c=0))=(b.take k).all fun c=>decide (c=0):=by
  intro k
  induction k with
  | zero=>intro _;rfl
  | succ k ih=>
    intro hk
    unfold JT_
    split
    ·rename_i h
     rw [ih (by omega),List.take_succ_eq_append_getElem (by omega),List.all_append]
     have:b[k]=0:=by rw [List.getD_eq_getElem?_getD,List.getElem?_eq_getElem (by omega)] at h;exact h
     simp [this]
    ·rfl
 have hL:∀ l:List Int,decide ((l.dropWhile fun x=>decide (x=0)).length=0)=l.all fun c=>decide (c=0):=by
  intro l
  induction l with
  | nil=>rfl
  | cons a l ih=>
    by_cases h:a=0
    ·rw [List.dropWhile_cons_of_pos (by simpa using h),ih];simp [h]
    ·rw [List.dropWhile_cons_of_neg (by simpa using h)];simp [h]
 unfold WT_ v5_ Zo_
 rw [hL,hR _ (Nat.le_refl _),List.take_length]
def hH_:IR:=
(sq (kr [0,1] [oD 4 (.mov (.c (.imm (.int .u8) [])))])
(sq (sq (.reg [oM 7 0,
oE 8 7,
oB 9 .eql 8 (cI 0)])
(.cond 9
(sq (.reg [oD 4 (.mov (.c (.imm (.int .u8) [])))])
.ret)
.skip))
(sq (sq (.reg [oM 10 1,
oB 11 .eql 10 (.c (.str []))])
(.cond 11
(sq (kr [0] [oM 12 0,
oM 4 12])
.ret)
.skip))
(sq (sq (kr [0,1] [oM 13 1,
oD 14 (.slen 13),
oB 15 .eql 14 (cI 1),
oM 16 15,
oT 16 17 (.mov 1),
oT 16 18 (.sindex 17 (cI 0)),
oT 16 19 (.bin .lss 18 (.c (.int .u8 128))),
oP 20 16 19 cF])
(.cond 20
(sq (kd [0,1] [(oM 21 0,[]),
(oM 22 1,[0]),
(oD 23 (.sindex 22 (cI 0)),[1]),
(oC 24 201 [21,23],[]),
(oM 25 1,[0,0,0,0]),
(oD 26 (.sindex 25 (cI 0)),[1,0,0,0]),
(oC 27 200 [24,26],[]),
(oM 4 27,[])])
.ret)
.skip))
(sq (sq (kr [0,1] [oM 29 1,
oC 30 202 [29],
oM 28 30,
oX 31 28 0,
oX 32 28 1,
oD 5 (.box [.kb false,.kb false,.kb false,.kb false,.kb false,.kb false,.kb false,.kb false,.kb false,.kb false,.kb false,.kb false,.kb false,.kb false,.kb false,.kb false,.kb false,.kb false,.kb false,.kb false,.kb false,.kb false,.kb false,.kb false,.kb false,.kb false,.kb false,.kb false,.kb false,.kb false,.kb false,.kb false,.kb false,.kb false,.kb false,.kb false,.kb false,.kb false,.kb false,.kb false,.kb false,.kb false,.kb false,.kb false,.kb false,.kb false,.kb false,.kb false,.kb false,.kb false,.kb false,.kb false,.kb false,.kb false,.kb false,.kb false,.kb false,.kb false,.kb false,.kb false,.kb false,.kb false,.kb false,.kb false,.kb false,.kb false,.kb false,.kb false,.kb false,.kb false,.kb false,.kb false,.kb false,.kb false,.kb false,.kb false,.kb false,.kb false,.kb false,.kb false,.kb false,.kb false,.kb false,.kb false,.kb false,.kb false,.kb false,.kb false,.kb false,.kb false,.kb false,.kb false,.kb false,.kb false,.kb false,.kb false,.kb false,.kb false,.kb false,.kb false,.kb false,.kb false,.kb false,.kb false,.kb false,.kb false,.kb false,.kb false,.kb false,.kb false,.kb false,.kb false,.kb false,.kb false,.kb false,.kb false,.kb false,.kb false,.kb false,.kb false,.kb false,.kb false,.kb false,.kb false,.kb false,.kb false,.kb false,.kb false,.kb false,.kb false,.kb false,.kb false,.kb false,.kb false,.kb false,.kb false,.kb false,.kb false,.kb false,.kb false,.kb false,.kb false,.kb false,.kb false,.kb false,.kb false,.kb false,.kb false,.kb false,.kb false,.kb false,.kb false,.kb false,.kb false,.kb false,.kb false,.kb false,.kb false,.kb false,.kb false,.kb false,.kb false,.kb false,.kb false,.kb false,.kb false,.kb false,.kb false,.kb false,.kb false,.kb false,.kb false,.kb false,.kb false,.kb false,.kb false,.kb false,.kb false,.kb false,.kb false,.kb false,.kb false,.kb false,.kb false,.kb false,.kb false,.kb false,.kb false,.kb false,.kb false,.kb false,.kb false,.kb false,.kb false,.kb false,.kb false,.kb false,.kb false,.kb false,.kb false,.kb false,.kb false,.kb false,.kb false,.kb false,.kb false,.kb false,.kb false,.kb false,.kb false,.kb false,.kb false,.kb false,.kb false,.kb false,.kb false,.kb false,.kb false,.kb false,.kb false,.kb false,.kb false,.kb false,.kb false,.kb false,.kb false,.kb false,.kb false,.kb false,.kb false,.kb false,.kb false,.kb false,.kb false,.kb false,.kb false,.kb false,.kb false,.kb false,.kb false,.kb false,.kb false,.kb false,.kb false,.kb false,.kb false,.kb false,.kb false,.kb false,.kb false,.kb false,.kb false,.kb false,.kb false,.kb false,.kb false]),
oS 256 5 31,
oM 6 32])
(sq (kr [0,1,5,6] [oM 33 6])
(.cond 33
(sq (.reg [oM 34 0,
oC 35 204 [34,5],
oC 36 203 [35,5],
oM 4 36])
.ret)
.skip)))
(sq (kr [0,1] [oM 37 0,
oM 38 1,
oC 39 206 [37,38],
oM 40 1,
oC 41 205 [39,40],
oM 4 41])
.ret))))))
def GH_:List RD:=[.tmp 4 true (some (.int .u8))]
theorem hb_:zk_ Tryz.prog Tryz.f189 hH_ GH_=true:=by kernel_rfl
def KW_:List AV->List Obj->Option (Prop × AV)
 | [.imm (.int .u8) b,.str [0]],[]=>some ((b.length<=140737488355328,.imm (.int .u8) (WT_ (v5_ b 0) 0)))
 | _,_=>none
theorem W6_:zd_ Tryz.prog 189 (RoF KW_).sum:=by
 refine zi_ Tryz.func189 hb_ (za_ (s:=RoF qF_) Jq_ (za_ (s:=RoF q3_) J3_ (zc_ _))) fun args objs p v e=>?_
 unfold KW_ at e
 split at e
 ·rename_i b
  cases e
  refine ⟨rfl,fun hw ho hp=>?_⟩
  change List Int at b
  have hl:(v5_ b 0).length<=b.length:=by unfold v5_;rw [List.length_take];omega
  repeat'(intro t ht;first|(cases t<;>first|(cases ht;done)|(try simp only[zg_]at ht))|((first|refine zb_ ht ?_|refine ht ?_ ?_|refine ht.1 ?_ ?_|refine ht ?_)<;>clear ht))
  all_goals first
   | exact hp
   | exact ⟨by decide,by decide⟩
   | exact Nat.le_trans hl hp
   | exact ⟨rfl,rfl⟩
   | (have hb:b=[]:=List.eq_nil_of_length_eq_zero (by omega)
      refine ⟨?_,rfl⟩;rw [hb];rfl)
 ·cases e
def gi_:IR:=
(sq (kr [0] [oD 2 (.mov (.c (.imm (.int .u8) [])))])
(sq (sq (.reg [oM 3 0,
oD 4 (.isnil false 3)])
(.cond 4
(sq (.reg [oD 2 (.mov (.c (.imm (.int .u8) [])))])
.ret)
.skip))
(sq (.reg [oD 5 (.slice0 (.int .u8)),
oM 6 0,
oD 7 (.append (.int .u8) 1 5 6),
oM 2 7])
.ret)))
def Uq_:List RD:=[.tmp 2 true (some (.int .u8))]
theorem UT_:zk_ Tryz.prog Tryz.f67 gi_ Uq_=true:=by kernel_rfl
def qz_:List AV->List Obj->Option (Prop × AV)
 | [.imm (.int .u8) b],[]=>some ((b.length<=140737488355328,.imm (.int .u8) b))
 | _,_=>none
theorem QA_:zd_ Tryz.prog 67 (RoF qz_).sum:=by
 refine zi_ Tryz.func67 UT_ (zc_ _) fun args objs p v e=>?_
 unfold qz_ at e
 split at e
 ·rename_i b
  cases e
  refine ⟨rfl,fun hw ho hp=>?_⟩
  change List Int at b
  repeat'(intro t ht;first|(cases t<;>first|(cases ht;done)|(try simp only[zg_]at ht))|((first|refine zb_ ht ?_|refine ht ?_ ?_|refine ht.1 ?_ ?_|refine ht ?_)<;>clear ht))
  all_goals first
   | (simp only [zN_,List.length_nil,Nat.zero_add,Nat.mul_one];omega)
   | exact ⟨rfl,rfl⟩
   | (have e:b=[]:=by simp_all
      refine ⟨?_,rfl⟩;rw [e])
 ·cases e
def WH_:IR:=
(sq (kr [0] [oD 2 (.mov cF)])
(sq (kr [0] [oM 3 0,
oD 4 (.eqp false 3 (.c (.nilp))),
oM 5 4,
oF 5 6 (.mov 0),
oF 5 7 (.nilck 6),
oF 5 8 (.fieldAddr 5 7),
oF 5 9 (.load none 8),
oF 5 10 (.un .not 9),
oP 11 5 cT 10,
oM 2 11])
.ret))
def Wc_:List RD:=[.tmp 2 true none]
theorem Ws_:zk_ Tryz.prog Tryz.f95 WH_ Wc_=true:=by kernel_rfl
def zZ_:List AV->List Obj->Option (Prop × AV)
 | [.ptr 0 0],[.box [.imm (.int .u8) b,.int .i64 p,.int .i64 sh,.int .i64 od,.int .i64 e,.bool true]]=>some ((True,.bool false))
 | _,_=>none
theorem Zh_:zd_ Tryz.prog 95 (RoF zZ_).sum:=by
 refine zi_ Tryz.func95 Ws_ (zc_ _) fun args objs p v e=>?_
 unfold zZ_ at e
 split at e
 ·rename_i b p sh od e
  cases e
  refine ⟨rfl,fun hw ho hp=>?_⟩
  change List Int at b
  repeat'(intro t ht;first|(cases t<;>first|(cases ht;done)|(try simp only[zg_]at ht))|((first|refine zb_ ht ?_|refine ht ?_ ?_|refine ht.1 ?_ ?_|refine ht ?_)<;>clear ht))
  all_goals exact ⟨rfl,rfl⟩
 ·cases e
def hG_:IR:=
(sq (kr [0,1,2] [oD 6 (.mov (.c (.nilp)))])
(sq (kr [0,1,2] [oM 7 0,
oC 8 67 [7],
oM 9 1,
oM 10 2,
oD 11 (.build [.imm (.int .u8) [],.int .i64 0,.int .i64 0,.int .i64 0,.int .i64 0,.kb false] [(0,1,8),(2,1,9),(3,1,10),(5,1,cT)]),
oD 12 (.boxv 11),
oM 6 12])
.ret))
def GG_:List RD:=[.tmp 6 true none]
theorem ha_:zk_ Tryz.prog Tryz.f41 hG_ GG_=true:=by kernel_rfl
def Z5_:List AV->List Obj->Option (Prop × AV × List Obj)
 | [.imm (.int .u8) b,.int .i64 sh,.int .i64 od],[]=>some ((b.length<=140737488355328,.ptr 0 0,[.box [.imm (.int .u8) b,.int .i64 0,.int .i64 sh,.int .i64 od,.int .i64 0,.bool true]]))
 | _,_=>none
theorem qf_:zd_ Tryz.prog 41 (RwF Z5_).sum:=by
 refine qa_ Tryz.func41 ha_ (za_ (s:=RoF qz_) QA_ (zc_ _)) fun args objs p v o e=>?_
 unfold Z5_ at e
 split at e
 ·rename_i b sh od
  cases e
  refine ⟨rfl,fun hw ho hp=>?_⟩
  change List Int at b
  repeat'(intro t ht;first|(cases t<;>first|(cases ht;done)|(try simp only[zg_]at ht))|((first|refine zb_ ht ?_|refine ht ?_ ?_|refine ht.1 ?_ ?_|refine ht ?_)<;>clear ht))
  all_goals first
   | exact hp
   | exact ⟨rfl,rfl⟩
 ·cases e
def zy_ (e x:Int):Int:=if e=0 then x else e
def WL_:IR:=
(sq (kr [0,1] [oM 4 0,
oC 5 95 [4],
oD 6 (.un .not 5),
oM 7 6,
oT 7 8 (.mov 0),
oT 7 9 (.nilck 8),
oT 7 10 (.fieldAddr 4 9),
oT 7 11 (.load none 10),
oT 7 12 (.bin .eql 11 (cI 0)),
oP 13 7 12 cF])
(.cond 13
(kr [0,1] [oM 14 0,
oM 15 1,
oD 16 (.nilck 14),
oA 17 4 16,
oS 1 17 15])
.skip))
def Wg_:List RD:=[]
theorem Ww_:zk_ Tryz.prog Tryz.f44 WL_ Wg_=true:=by kernel_rfl
def zs_:List AV->List Obj->Option (Prop × AV × List Obj)
 | [.ptr 0 0,.int .i64 x],[.box [.imm (.int .u8) b,.int .i64 p,.int .i64 sh,.int .i64 od,.int .i64 e,.bool true]]=>some ((True,.tup [],[.box [.imm (.int .u8) b,.int .i64 p,.int .i64 sh,.int .i64 od,.int .i64 (zy_ e x),.bool true]]))
 | _,_=>none
theorem zx_:zd_ Tryz.prog 44 (RwF zs_).sum:=by
 refine qa_ Tryz.func44 Ww_ (za_ (s:=RoF zZ_) Zh_ (zc_ _)) fun args objs p v o e=>?_
 unfold zs_ at e
 split at e
 ·rename_i x b p sh od e
  cases e
  refine ⟨rfl,fun hw ho hp=>?_⟩
  change List Int at b
  repeat'(intro t ht;first|(cases t<;>first|(cases ht;done)|(try simp only[zg_]at ht))|((first|refine zb_ ht ?_|refine ht ?_ ?_|refine ht.1 ?_ ?_|refine ht ?_)<;>clear ht))
  all_goals first
   | exact True.intro
   | (unfold zy_;simp_all;done)
 ·cases e
def xy_:IR:=
(sq (kr [0] [oD 2 (.mov (cI 0))])
(sq (sq (.reg [oM 3 0,
oC 4 95 [3]])
(.cond 4
(sq (.reg [oD 2 (.mov (cI 10001))])
.ret)
.skip))
(sq (kr [0] [oM 5 0,
oD 6 (.nilck 5),
oA 7 4 6,
oL 8 7,
oM 2 8])
.ret)))
def xc_:List RD:=[.tmp 2 true none]
theorem xk_:zk_ Tryz.prog Tryz.f43 xy_ xc_=true:=by kernel_rfl
def zq_:List AV->List Obj->Option (Prop × AV)
 | [.ptr 0 0],[.box [.imm (.int .u8) b,.int .i64 p,.int .i64 sh,.int .i64 od,.int .i64 e,.bool true]]=>some ((True,.int .i64 e))
 | _,_=>none
theorem zr_:zd_ Tryz.prog 43 (RoF zq_).sum:=by
 refine zi_ Tryz.func43 xk_ (za_ (s:=RoF zZ_) Zh_ (zc_ _)) fun args objs p v e=>?_
 unfold zq_ at e
 split at e
 ·rename_i b p sh od e
  cases e
  refine ⟨rfl,fun hw ho hp=>?_⟩
  change List Int at b
  repeat'(intro t ht;first|(cases t<;>first|(cases ht;done)|(try simp only[zg_]at ht))|((first|refine zb_ ht ?_|refine ht ?_ ?_|refine ht.1 ?_ ?_|refine ht ?_)<;>clear ht))
  all_goals first
   | exact True.intro
   | exact ⟨rfl,rfl⟩
 ·cases e
def WK_:IR:=
(sq (kr [0] [oD 2 (.mov (cI 0))])
(sq (sq (.reg [oM 3 0,
oC 4 95 [3]])
(.cond 4
(sq (.reg [oD 2 (.mov (cI 0))])
.ret)
.skip))
(sq (kd [0] [(oM 5 0,[]),
(oD 6 (.nilck 5),[]),
(oA 7 0 6,[]),
(oL 8 7,[]),
(oE 9 8,[]),
(oM 10 0,[0,0,0,0,0]),
(oD 11 (.nilck 10),[1,0,0,0,0]),
(oA 12 1 11,[2,0,0,0,0]),
(oL 13 12,[3,0,0,0,0]),
(oB 14 .sub 9 13,[]),
(oM 2 14,[])])
.ret)))
def Wf_:List RD:=[.tmp 2 true none]
theorem Wv_:zk_ Tryz.prog Tryz.f47 WK_ Wf_=true:=by kernel_rfl
def z0_:List AV->List Obj->Option (Prop × AV)
 | [.ptr 0 0],[.box [.imm (.int .u8) b,.int .i64 p,.int .i64 sh,.int .i64 od,.int .i64 e,.bool true]]=>some ((0<=p/\p<=b.length,.int .i64 (b.length - p)))
 | _,_=>none
theorem Zi_:zd_ Tryz.prog 47 (RoF z0_).sum:=by
 refine zi_ Tryz.func47 Wv_ (za_ (s:=RoF zZ_) Zh_ (zc_ _)) fun args objs p v e=>?_
 unfold z0_ at e
 split at e
 ·rename_i b p sh od e
  cases e
  refine ⟨rfl,fun hw ho hp=>?_⟩
  change List Int at b
  have hb:b.length<=maxLen:=(ho _ (List.mem_cons_self ..) (.imm (.int .u8) b) (by simp)).2
  unfold maxLen at hb
  repeat'(intro t ht;first|(cases t<;>first|(cases ht;done)|(try simp only[zg_]at ht))|((first|refine zb_ ht ?_|refine ht ?_ ?_|refine ht.1 ?_ ?_|refine ht ?_)<;>clear ht))
  all_goals first
   | exact True.intro
   | ((try simp only [zm_,zn_,zl_] at*);omega)
   | exact ⟨rfl,rfl⟩
 ·cases e
def XH_:IR:=
(sq (kr [0] [oD 2 (.mov (cI 0))])
(sq (sq (.reg [oM 3 0,
oC 4 95 [3]])
(.cond 4
(sq (.reg [oD 2 (.mov (cI 0))])
.ret)
.skip))
(sq (kr [0] [oM 5 0,
oD 6 (.nilck 5),
oA 7 1 6,
oL 8 7,
oM 2 8])
.ret)))
def XD_:List RD:=[.tmp 2 true none]
theorem XE_:zk_ Tryz.prog Tryz.f133 XH_ XD_=true:=by kernel_rfl
def ZU_:List AV->List Obj->Option (Prop × AV)
 | [.ptr 0 0],[.box [.imm (.int .u8) b,.int .i64 p,.int .i64 sh,.int .i64 od,.int .i64 e,.bool true]]=>some ((True,.int .i64 p))
 | _,_=>none
theorem qM_:zd_ Tryz.prog 133 (RoF ZU_).sum:=by
 refine zi_ Tryz.func133 XE_ (za_ (s:=RoF zZ_) Zh_ (zc_ _)) fun args objs p v e=>?_
 unfold ZU_ at e
 split at e
 ·rename_i b p sh od e
  cases e
  refine ⟨rfl,fun hw ho hp=>?_⟩
  change List Int at b
  repeat'(intro t ht;first|(cases t<;>first|(cases ht;done)|(try simp only[zg_]at ht))|((first|refine zb_ ht ?_|refine ht ?_ ?_|refine ht.1 ?_ ?_|refine ht ?_)<;>clear ht))
  all_goals first
   | exact True.intro
   | exact ⟨rfl,rfl⟩
 ·cases e
def kk_ (w b:List Int) (p e:Int):List Int:=if e=0 then Zq_ w (b.drop p.toNat) else []
def kC_ (w b:List Int) (p e:Int):Int:=if e=0 then (if z7_ w (b.drop p.toNat)=1 then p else if z7_ w (b.drop p.toNat)=2 then p else p+zP_ w) else p
def Ki_ (w b:List Int) (p sh od e:Int):Int:=if e=0 then (if z7_ w (b.drop p.toNat)=1 then sh else if z7_ w (b.drop p.toNat)=2 then od else 0) else e
def xw_:IR:=
(sq (kr [0,1] [oD 4 (.mov (.c (.imm (.int .u64) [])))])
(sq (sq (.reg [oM 7 0,
oC 8 43 [7],
oB 9 .neq 8 (cI 0)])
(.cond 9
(sq (.reg [oD 4 (.mov (.c (.imm (.int .u64) [])))])
.ret)
.skip))
(sq (kd [0,1] [(oM 11 1,[]),
(oM 12 0,[0]),
(oD 13 (.nilck 12),[1]),
(oA 14 0 13,[2]),
(oL 15 14,[3]),
(oM 16 0,[0,0,0,0,0]),
(oD 17 (.nilck 16),[1,0,0,0,0]),
(oA 18 1 17,[2,0,0,0,0]),
(oL 19 18,[3,0,0,0,0]),
(oD 20 (.slice 1 15 (some 19) none none),[8]),
(oC 21 93 [11,20],[]),
(oM 10 21,[]),
(oX 22 10 0,[]),
(oX 23 10 1,[0]),
(oM 5 22,[0]),
(oM 6 23,[])])
(sq (sq (kr [0,1,5,6] [oM 24 6])
(.block 0
(sq (.reg [oB 35 .eql 24 (cI 1),
oM 34 35])
(.cond 34
(kr [0,5] [oM 36 0,
oM 37 0,
oD 38 (.nilck 37),
oA 39 2 38,
oL 40 39,
oC 41 44 [36,40]])
(sq (.reg [oB 43 .eql 24 (cI 2),
oM 42 43])
(.cond 42
(kr [0,5] [oM 44 0,
oM 45 0,
oD 46 (.nilck 45),
oA 47 3 46,
oL 48 47,
oC 49 44 [44,48]])
(kd [0,1,5] [(oM 25 0,[]),
(oD 26 (.nilck 25),[]),
(oA 27 1 26,[]),
(oL 28 27,[]),
(oM 29 1,[0,0,0,0]),
(oC 30 94 [29],[1,0,0,0]),
(oB 31 .add 28 30,[]),
(oD 32 (.nilck 25),[]),
(oA 33 1 32,[]),
(oS 1 33 31,[])])))))))
(sq (kr [5] [oM 50 5,
oM 4 50])
.ret)))))
def xa_:List RD:=[.tmp 4 true (some (.int .u64))]
theorem xi_:zk_ Tryz.prog Tryz.f42 xw_ xa_=true:=by kernel_rfl
def z8_:List AV->List Obj->Option (Prop × AV × List Obj)
 | [.ptr 0 0,.imm (.int .i64) w],[.box [.imm (.int .u8) b,.int .i64 p,.int .i64 sh,.int .i64 od,.int .i64 e,.bool true]]=>some ((0<=p/\p<=b.length/\b.length<=140737488355328,.imm (.int .u64) (kk_ w b p e),[.box [.imm (.int .u8) b,.int .i64 (kC_ w b p e),.int .i64 sh,.int .i64 od,.int .i64 (Ki_ w b p sh od e),.bool true]]))
 | _,_=>none
theorem Zt_:zd_ Tryz.prog 42 (RwF z8_).sum:=by
 refine qa_ Tryz.func42 xi_ (za_ (s:=RoF zq_) zr_ (za_ (s:=RoF vN_) zaL_ (za_ (s:=RwF zs_) zx_ (za_ (s:=RoF QG_) QX_ (zc_ _))))) fun args objs p v o e=>?_
 unfold z8_ at e
 split at e
 ·rename_i w b p sh od e
  cases e
  refine ⟨rfl,fun hw ho hp=>?_⟩
  change List Int at w
  change List Int at b
  have hz:=W8_ w
  repeat'(intro t ht;first|(cases t<;>first|(cases ht;done)|(try simp only[zg_]at ht))|((first|refine zb_ ht ?_|refine ht ?_ ?_|refine ht.1 ?_ ?_|refine ht ?_)<;>clear ht))
  all_goals first
   | exact True.intro
   | ((try simp only [zm_,zn_,zl_] at*);omega)
   | (unfold kk_ kC_ Ki_;simp_all [zy_];done)
 ·cases e
def Yj_ (w:Int) (b:List Int) (p e:Int):Int:=if 1<=w/\w<=8 then (kk_ [w] b p e).getD 0 0 else 0
def xp_ (w:Int) (b:List Int) (p e:Int):Int:=if 1<=w/\w<=8 then kC_ [w] b p e else p
def XF_ (w:Int) (b:List Int) (p sh od e:Int):Int:=if 1<=w/\w<=8 then Ki_ [w] b p sh od e else zy_ e 10001
def xx_:IR:=
(sq (kr [0,1] [oD 4 (.mov (.c (.int .u64 0)))])
(sq (sq (kr [0,1] [oM 7 1,
oB 8 .lss 7 (cI 1),
oM 9 8,
oF 9 10 (.mov 1),
oF 9 11 (.bin .gtr 10 (cI 8)),
oP 12 9 cT 11])
(.cond 12
(sq (kr [0] [oM 13 0,
oC 14 44 [13,(cI 10001)]])
(sq (.reg [oD 4 (.mov (.c (.int .u64 0)))])
.ret))
.skip))
(sq (kr [0,1] [oM 15 0,
oD 16 (.mkfn 42 [15] []),
oM 5 16])
(sq (sq (kr [1,5] [oM 17 5,
oM 18 1,
oD 19 (.sliceAll (.int .i64) 1 [(0,1,18)]),
oD 20 (.call false 17 [19]),
oM 6 20])
(sq (.reg [oM 21 6,
oE 22 21,
oB 23 .gtr 22 (cI 0)])
(.cond 23
(sq (kr [6] [oM 24 6,
oD 25 (.indexSl 1 24 (cI 0)),
oL 26 25,
oM 4 26])
.ret)
.skip)))
(sq (kr [] [oD 4 (.mov (.c (.int .u64 0)))])
.ret)))))
def xb_:List RD:=[.tmp 4 true none]
theorem xj_:zk_ Tryz.prog Tryz.f131 xx_ xb_=true:=by kernel_rfl
def qe_:List AV->List Obj->Option (Prop × AV × List Obj)
 | [.ptr 0 0,.int .i64 w],[.box [.imm (.int .u8) b,.int .i64 p,.int .i64 sh,.int .i64 od,.int .i64 e,.bool true]]=>some ((0<=p/\p<=b.length/\b.length<=140737488355328,.int .u64 (Yj_ w b p e),[.box [.imm (.int .u8) b,.int .i64 (xp_ w b p e),.int .i64 sh,.int .i64 od,.int .i64 (XF_ w b p sh od e),.bool true]]))
 | _,_=>none
theorem km_:zd_ Tryz.prog 131 (RwF qe_).sum:=by
 refine qa_ Tryz.func131 xj_ (za_ (s:=RwF zs_) zx_ (za_ (s:=RwF z8_) Zt_ (zc_ _))) fun args objs p v o e=>?_
 unfold qe_ at e
 split at e
 ·rename_i w b p sh od e
  cases e
  refine ⟨rfl,fun hw ho hp=>?_⟩
  change List Int at b
  repeat'(intro t ht;first|(cases t<;>first|(cases ht;done)|(try simp only[zg_]at ht))|((first|refine zb_ ht ?_|refine ht ?_ ?_|refine ht.1 ?_ ?_|refine ht ?_)<;>clear ht))
  all_goals first
   | exact True.intro
   | exact hp
   | ((try simp only [zm_,zn_,zl_] at*);omega)
   | (have hc:1<=w/\w<=8:=by omega
      unfold Yj_ xp_ XF_
      rw [if_pos hc,if_pos hc,if_pos hc]
      first
       | exact ⟨rfl,rfl⟩
       | (have hl:kk_ [w] b p e=[]:=List.eq_nil_of_length_eq_zero (by omega)
          refine ⟨?_,rfl⟩;rw [hl];rfl))
   | (have hc:¬ (1<=w/\w<=8):=by omega
      unfold Yj_ xp_ XF_
      rw [if_neg hc,if_neg hc,if_neg hc]
      exact ⟨rfl,rfl⟩)
 ·cases e
theorem zcS_ {e x:Int} (h:x ≠ 0):zy_ e x ≠ 0:=by unfold zy_;split<;>assumption
def ZZ_ (n:Int) (b:List Int) (p sh e:Int):Int:=if n < 0 then zy_ e 10001 else if b.length - p < n then zy_ e sh else e
def Qp_ (n:Int) (b:List Int) (p sh e:Int):List Int:=if ZZ_ n b p sh e=0 then (b.take (p+n).toNat).drop p.toNat else []
def jD_ (n:Int) (b:List Int) (p sh e:Int):Int:=if ZZ_ n b p sh e=0 then p+n else p
def WG_:IR:=
(sq (kr [0,1] [oD 4 (.mov (.c (.imm (.int .u8) []))),
oD 5 (.mov cF)])
(sq (sq (.reg [oM 7 1,
oB 8 .lss 7 (cI 0)])
(.cond 8
(.reg [oM 9 0,
oC 10 44 [9,(cI 10001)]])
(sq (kr [0,1] [oM 11 1,
oM 12 0,
oC 13 47 [12],
oB 14 .gtr 11 13,
oM 15 14,
oT 15 16 (.mov 0),
oT 15 17 (.call false (.f 95) [16]),
oT 15 18 (.un .not 17),
oP 19 15 18 cF])
(.cond 19
(kr [0,1] [oM 20 0,
oM 21 0,
oD 22 (.nilck 21),
oA 23 2 22,
oL 24 23,
oC 25 44 [20,24]])
.skip))))
(sq (sq (kr [0,1] [oM 26 0,
oC 27 43 [26],
oB 28 .neq 27 (cI 0)])
(.cond 28
(sq (.reg [oD 4 (.mov (.c (.imm (.int .u8) []))),
oD 5 (.mov cF)])
.ret)
.skip))
(sq (kd [0,1] [(oM 29 0,[]),
(oD 30 (.nilck 29),[]),
(oA 31 0 30,[]),
(oL 32 31,[]),
(oM 33 0,[0,0,0,0]),
(oD 34 (.nilck 33),[1,0,0,0]),
(oA 35 1 34,[2,0,0,0]),
(oL 36 35,[3,0,0,0]),
(oM 37 0,[0,0,0,0,0,0,0,0]),
(oD 38 (.nilck 37),[1,0,0,0,0,0,0,0]),
(oA 39 1 38,[2,0,0,0,0,0,0,0]),
(oL 40 39,[3,0,0,0,0,0,0,0]),
(oM 41 1,[0,0,0,0,0,0,0,0,0,0,0,0]),
(oB 42 .add 40 41,[5,0,0,0,0,0,0,0]),
(oM 43 0,[0,0,0,0,0,0,0,0,0,0,0,0,0,0]),
(oD 44 (.nilck 43),[1,0,0,0,0,0,0,0,0,0,0,0,0,0]),
(oA 45 1 44,[2,0,0,0,0,0,0,0,0,0,0,0,0,0]),
(oL 46 45,[3,0,0,0,0,0,0,0,0,0,0,0,0,0]),
(oM 47 1,[0,0,0,0,0,0,0,0,0,0,0,0,0,0,0,0,0,0]),
(oB 48 .add 46 47,[5,0,0,0,0,0,0,0,0,0,0,0,0,0]),
(oD 49 (.slice 1 32 (some 36) (some 42) (some 48)),[]),
(oM 6 49,[])])
(sq (kr [0,1,6] [oM 50 0,
oD 51 (.nilck 50),
oA 52 1 51,
oL 53 52,
oM 54 1,
oB 55 .add 53 54,
oD 56 (.nilck 50),
oA 57 1 56,
oS 1 57 55])
(sq (kr [6] [oM 58 6,
oM 4 58,
oD 5 (.mov cT)])
.ret))))))
def Wb_:List RD:=[.tmp 4 true (some (.int .u8)),.tmp 5 true none]
theorem Wr_:zk_ Tryz.prog Tryz.f134 WG_ Wb_=true:=by kernel_rfl
def q1_:List AV->List Obj->Option (Prop × AV × List Obj)
 | [.ptr 0 0,.int .i64 n],[.box [.imm (.int .u8) b,.int .i64 p,.int .i64 sh,.int .i64 od,.int .i64 e,.bool true]]=>some ((0<=p/\p<=b.length/\b.length<=140737488355328/\sh ≠ 0,.tup [.imm (.int .u8) (Qp_ n b p sh e),.bool (decide (ZZ_ n b p sh e=0))],[.box [.imm (.int .u8) b,.int .i64 (jD_ n b p sh e),.int .i64 sh,.int .i64 od,.int .i64 (ZZ_ n b p sh e),.bool true]]))
 | _,_=>none
theorem J1_:zd_ Tryz.prog 134 (RwF q1_).sum:=by
 refine qa_ Tryz.func134 Wr_ (za_ (s:=RwF zs_) zx_ (za_ (s:=RoF z0_) Zi_ (za_ (s:=RoF zZ_) Zh_ (za_ (s:=RoF zq_) zr_ (zc_ _))))) fun args objs p v o e=>?_
 unfold q1_ at e
 split at e
 ·rename_i n b p sh od e
  cases e
  refine ⟨rfl,fun hw ho hp=>?_⟩
  change List Int at b
  have hf1:zy_ e 10001 ≠ 0:=zcS_ (by decide)
  have hf2:zy_ e sh ≠ 0:=zcS_ hp.2.2.2
  repeat'(intro t ht;first|(cases t<;>first|(cases ht;done)|(try simp only[zg_]at ht))|((first|refine zb_ ht ?_|refine ht ?_ ?_|refine ht.1 ?_ ?_|refine ht ?_)<;>clear ht))
  all_goals first
   | exact True.intro
   | (exfalso;omega)
   | omega
   | ((try simp only [zm_,zn_,zl_] at*);omega)
   | (first
       | (have hE:ZZ_ n b p sh e=e:=by unfold ZZ_;rw [if_neg (by assumption),if_neg (by assumption)]
          unfold Qp_ jD_;rw [hE]
          first
           | (have h0:e=0:=by assumption
              rw [if_pos h0,if_pos h0,decide_eq_true h0];exact ⟨rfl,rfl⟩)
           | (have h0:¬ e=0:=by assumption
              rw [if_neg h0,if_neg h0,decide_eq_false h0];exact ⟨rfl,rfl⟩))
       | (have hE:ZZ_ n b p sh e=zy_ e sh:=by unfold ZZ_;rw [if_neg (by assumption),if_pos (by assumption)]
          unfold Qp_ jD_;rw [hE,if_neg hf2,if_neg hf2,decide_eq_false hf2];exact ⟨rfl,rfl⟩)
       | (have hE:ZZ_ n b p sh e=zy_ e 10001:=by unfold ZZ_;rw [if_pos (by assumption)]
          unfold Qp_ jD_;rw [hE,if_neg hf1,if_neg hf1,decide_eq_false hf1];exact ⟨rfl,rfl⟩))
 ·cases e
def wx_:IR:=
(sq (kr [0,1] [oD 4 (.mov (.c (.imm (.int .u8) [])))])
(sq (kr [0,1] [oM 8 0,
oM 9 1,
oC 10 134 [8,9],
oM 7 10,
oX 11 7 0,
oX 12 7 1,
oM 5 11,
oM 6 12])
(sq (kr [5] [oM 13 5,
oC 14 67 [13],
oM 4 14])
.ret)))
def wd_:List RD:=[.tmp 4 true (some (.int .u8))]
theorem wl_:zk_ Tryz.prog Tryz.f98 wx_ wd_=true:=by kernel_rfl
def zL_:List AV->List Obj->Option (Prop × AV × List Obj)
 | [.ptr 0 0,.int .i64 n],[.box [.imm (.int .u8) b,.int .i64 p,.int .i64 sh,.int .i64 od,.int .i64 e,.bool true]]=>some ((0<=p/\p<=b.length/\b.length<=140737488355328/\sh ≠ 0,.imm (.int .u8) (Qp_ n b p sh e),[.box [.imm (.int .u8) b,.int .i64 (jD_ n b p sh e),.int .i64 sh,.int .i64 od,.int .i64 (ZZ_ n b p sh e),.bool true]]))
 | _,_=>none
theorem zV_:zd_ Tryz.prog 98 (RwF zL_).sum:=by
 refine qa_ Tryz.func98 wl_ (za_ (s:=RwF q1_) J1_ (za_ (s:=RoF qz_) QA_ (zc_ _))) fun args objs p v o e=>?_
 unfold zL_ at e
 split at e
 ·rename_i n b p sh od e
  cases e
  refine ⟨rfl,fun hw ho hp=>?_⟩
  change List Int at b
  have hlen:(Qp_ n b p sh e).length<=140737488355328:=by
   unfold Qp_;split
   ·rw [List.length_drop,List.length_take];omega
   ·exact Nat.zero_le _
  repeat'(intro t ht;first|(cases t<;>first|(cases ht;done)|(try simp only[zg_]at ht))|((first|refine zb_ ht ?_|refine ht ?_ ?_|refine ht.1 ?_ ?_|refine ht ?_)<;>clear ht))
  all_goals first
   | exact hp
   | exact hlen
   | exact ⟨rfl,rfl⟩
 ·cases e
end Go.Eng
