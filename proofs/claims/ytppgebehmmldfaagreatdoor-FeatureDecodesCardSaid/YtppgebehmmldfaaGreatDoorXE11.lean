/- Parts of the proof: R4, R7, P1, T1, P2, P3. No condition. -/
import Derived.Test.YtppgebehmmldfaaGreatDoorProg
import Derived.Test.YtppgebehmmldfaaGreatDoorXE10
import Derived.KernelRfl
import Derived.Lib.BytesEntry
import Derived.Lib.Walk
import Derived.Laws.Externs
import Derived.Lib.Strings
import Derived.Lib.Slices
namespace Go.Eng
open Go.Proofs
set_option linter.unusedVariables false
set_option linter.unusedSimpArgs false
set_option maxRecDepth 100000
set_option maxHeartbeats 1000000
def Wk_:List Int->List Int->List Int->Option (List Int)
 | [],_,b=>some b
 | n :: r,xs,b=>if n < 0 then Wk_ r xs (b++Zr_ 0 (0 - n)) else match xs with
   | []=>none
   | x :: ys=>if n < 8/\x.fdiv (2 ^ (min (8*n).toNat 64)) ≠ 0 then none else Wk_ r ys (b++Zr_ x n)
def vo_ (w xs:List Int):Option (List Int):=if zZ_ w=true/\wd_ w=xs.length then Wk_ w xs [] else none
def Wj_ (w xs:List Int):List Int:=(vo_ w xs).getD []
def yc_ (w xs:List Int):Bool:=(vo_ w xs).isSome
theorem vM_ {w:List Int} (i:Nat):∀ k,KM_ QB_ w i<=KM_ QB_ w (i+k)
 | 0=>Int.le_refl _
 | k+1=>by
   have ih:=vM_ (w:=w) i k
   by_cases h:i+k < w.length
   ·rw [show i+(k+1)=(i+k)+1 by omega,q5_ QB_ h]
    have:0<=QB_ (w.getD (i+k) 0):=by unfold QB_;split<;>omega
    omega
   ·rw [KL_ QB_ (show w.length<=i+(k+1) by omega)]
    rwa [KL_ QB_ (show w.length<=i+k by omega)] at ih
theorem BQ_ {w:List Int} {i:Nat} (h:i < w.length) (hp:0 < w.getD i 0):KM_ QB_ w i+1<=(w.map QB_).sum:=by
 have h1:=vM_ (w:=w) (i+1) w.length
 rw [q5_ QB_ h,KL_ QB_ (show w.length<=i+1+w.length by omega)] at h1
 have:QB_ (w.getD i 0)=1:=if_pos hp
 omega
theorem bc_ {w xs b:List Int} {i k:Nat} (h:i < w.length) (hn:w.getD i 0 < 0):Wk_ (w.drop i) (xs.drop k) b=Wk_ (w.drop (i+1)) (xs.drop k) (b++Zr_ 0 (0 - w.getD i 0)):=by
 rw [zC_ h 0];exact if_pos hn
theorem h2_ {w xs b:List Int} {i k:Nat} (h:i < w.length) (hn:¬ w.getD i 0 < 0) (h2:k < xs.length) (h8:w.getD i 0 < 8) (hx:¬ (xs.getD k 0).fdiv (2 ^ (min (8*w.getD i 0).toNat 64))=0):Wk_ (w.drop i) (xs.drop k) b=none:=by
 rw [zC_ h 0,zC_ h2 0]
 show (if w.getD i 0 < 0 then _ else _)=_
 rw [if_neg hn]
 exact if_pos ⟨h8,hx⟩
theorem h1_ {w xs b:List Int} {i k:Nat} (h:i < w.length) (hn:¬ w.getD i 0 < 0) (h2:k < xs.length) (h8:¬ (w.getD i 0 < 8/\(xs.getD k 0).fdiv (2 ^ (min (8*w.getD i 0).toNat 64)) ≠ 0)):Wk_ (w.drop i) (xs.drop k) b=Wk_ (w.drop (i+1)) (xs.drop (k+1)) (b++Zr_ (xs.getD k 0) (w.getD i 0)):=by
 rw [zC_ h 0,zC_ h2 0]
 show (if w.getD i 0 < 0 then _ else _)=_
 rw [if_neg hn]
 exact if_neg h8
theorem k5_ {α:Type} {l:List α} {k:Nat} {d:α}:(l.drop k).getD 0 d=l.getD k d:=by
 rw [List.getD_eq_getElem?_getD,List.getElem?_drop,Nat.add_zero,<- List.getD_eq_getElem?_getD]
def Gr_:IR:=
(sq (kr [0,1] [oD 4 (.mov (.c (.imm (.int .u8) []))),
oD 5 (.mov cF)])
(sq (sq (kr [0,1] [oM 10 0,
oC 11 125 [10],
oD 12 (.un .not 11),
oM 13 12,
oF 13 14 (.mov 0),
oF 13 15 (.call false (.f 126) [14]),
oF 13 16 (.mov 1),
oF 13 17 (.len 16),
oF 13 18 (.bin .neq 15 17),
oP 19 13 cT 18])
(.cond 19
(sq (kr [] [oD 4 (.mov (.c (.imm (.int .u8) []))),
oD 5 (.mov cF)])
.ret)
.skip))
(sq (kr [0,1] [oM 20 0,
oC 21 108 [20],
oD 22 (.mkrow (.int .u8) 1 (0:Int) (cI 0) 21),
oM 6 22])
(sq (sq (.reg [oM 23 0,
oE 24 23,
oD 25 (.mov (cI 0))])
(.block 0
(.loop
(sq (kr [1,6,23,24,25] [oB 26 .lss 25 24])
(sq (.cond 26
.skip
(.exit 0))
(sq (.block 1
(sq (.reg [oI 27 1 23 25,
oL 28 27,
oM 8 28])
(sq (sq (.reg [oM 29 8,
oB 30 .lss 29 (cI 0)])
(.cond 30
(sq (kr [1,6,8,23,24,25] [oM 31 6,
oM 32 8,
oD 33 (.un .neg 32),
oD 34 (.call true (.f 127) [31,(.c (.int .u64 0)),33]),
oM 6 34])
(.exit 1))
.skip))
(sq (kr [1,6,8,23,24,25] [oM 35 1,
oD 36 (.indexSl 1 35 (cI 0)),
oL 37 36,
oM 9 37])
(sq (sq (kr [1,6,8,9,23,24,25] [oM 38 8,
oB 39 .lss 38 (cI 8),
oM 40 39,
oT 40 41 (.mov 9),
oT 40 42 (.mov 8),
oT 40 43 (.bin .mul (cI 8) 42),
oT 40 44 (.bin .shr 41 43),
oT 40 45 (.bin .neq 44 (.c (.int .u64 0))),
oP 46 40 45 cF])
(.cond 46
(sq (kr [] [oD 4 (.mov (.c (.imm (.int .u8) []))),
oD 5 (.mov cF)])
.ret)
.skip))
(kd [1,6,8,9,23,24,25] [(oM 47 6,[]),
(oM 48 9,[0]),
(oM 49 8,[0,0]),
(oD 50 (.call true (.f 127) [47,48,49]),[]),
(oM 51 1,[0,0,0,0]),
(oD 52 (.slice 1 51 (some (cI 1)) none none),[1,0,0,0]),
(oM 6 50,[0,0]),
(oM 1 52,[])]))))))
(kr [1,6,23,24,25] [oB 53 .add 25 (cI 1),
oM 25 53])))))))
(sq (kr [6] [oM 54 6,
oM 4 54,
oD 5 (.mov cT)])
.ret)))))
def gT_:List RD:=[.tmp 4 true (some (.int .u8)),.tmp 5 true none]
theorem g3_:zo_ Tryz.prog Tryz.f103 Gr_ gT_=true:=by kernel_rfl
def Xx_:List AV->List Obj->Option (Prop × AV)
 | [.imm (.int .i64) w,.imm (.int .u64) xs],[]=>some ((True,.tup [.imm (.int .u8) (Wj_ w xs),.bool (yc_ w xs)]))
 | _,_=>none
theorem u7_:zf_ Tryz.prog 103 (RoF Xx_).sum:=by
 refine zw_ Tryz.func103 g3_ (zb_ (s:=RoF qj_) qG_ (zb_ (s:=RoF wn_) Y9_ (zb_ (s:=RoF Ka_) je_ (zb_ (s:=RwF Xw_) u6_ (zg_ _))))) fun args objs p v e=>?_
 unfold Xx_ at e
 split at e
 ·rename_i w xs
  cases e
  refine ⟨rfl,fun hw ho hp=>?_⟩
  change List Int at w
  change List Int at xs
  have hx:xs.length<=maxLen:=(hw (.imm (.int .u64) xs) (by simp)).2
  unfold maxLen at hx
  have hz:=JE_ w
  repeat'(intro t ht;first|(cases t<;>first|(cases ht;done)|(try simp only[zh_]at ht))|((first|refine za_ ht ?_|refine ht ?_ ?_|refine ht.1 ?_ ?_|refine ht ?_)<;>clear ht))
  all_goals first
   | exact True.intro
   | (intro r h1 h2;clear h1;refine h2 ⟨[1,6,23,24,25],Nat × Nat × List Int,(fun a=>a.1<=w.length/\(a.2.2.length:Int)=KM_ zx_ w a.1/\KM_ QB_ w a.1=a.2.1/\Wk_ w xs []=Wk_ (w.drop a.1) (xs.drop a.2.1) a.2.2),fun a=>[.imm (.int .u64) (xs.drop a.2.1),.own 0,.imm (.int .i64) w,.int .i64 w.length,.int .i64 a.1],fun a=>[.row false (.int .u8) a.2.2],fun a=>w.length - a.1,⟨(0,0,[]),⟨Nat.zero_le _,rfl,rfl,rfl⟩,rfl,rfl⟩,?_⟩;clear h2)
   | ((try simp only [zH_,zJ_,zl_] at*);omega)
   | (have hn:¬ (zZ_ w=true/\wd_ w=xs.length):=fun h=>by simp_all
      refine ⟨?_,rfl⟩;unfold Wj_ yc_ vo_;rw [if_neg hn];rfl)
  rintro ⟨i,k,b⟩ ⟨hi,hb,hk,he⟩
  dsimp only at hi hb hk he
  have hr:zZ_ w=true:=by assumption
  have hc:wd_ w=xs.length:=by assumption
  have hsum:(w.map QB_).sum=xs.length:=by unfold wd_ at hc;rwa [if_pos hr] at hc
  have hl:=(Zp_.1 hr).1
  have hs:=yP_ hr i
  have h1:=u4_ hr i
  repeat'(intro t ht;first|(cases t<;>first|(cases ht;done)|(try simp only[zh_]at ht))|((first|refine za_ ht ?_|refine ht ?_ ?_|refine ht.1 ?_ ?_|refine ht ?_)<;>clear ht))
  all_goals first
   | ((try simp only [zH_,zJ_,zl_] at*);omega)
   | (have hge:w.length<=i:=by omega
      rw [List.drop_of_length_le hge] at he
      have hf:vo_ w xs=some b:=by unfold vo_;rw [if_pos ⟨hr,hc⟩,he];rfl
      refine ⟨?_,rfl⟩;unfold Wj_ yc_;rw [hf];rfl)
   | skip
  all_goals have hlt:i < w.length:=by omega
  all_goals have hkk:=(Zp_.1 hr).2 _ (zv_ (α:=Int) hlt 0)
  all_goals first
   | ((try simp only [zH_,zJ_,zl_] at*);rw [List.length_drop];omega)
   | ((try simp only [zH_,zJ_,zl_] at*);omega)
   | (have hn:w.getD i 0 < 0:=by assumption
      have ha:=wk_ hn
      have h0:QB_ (w.getD i 0)=0:=if_neg (by omega)
      have hbl:=QU_ (n:=0) (w:=0 - w.getD i 0) (by omega)
      refine ⟨(i+1,k,b++Zr_ 0 (0 - w.getD i 0)),⟨hlt,?_,?_,?_⟩,by dsimp only;omega,rfl,rfl⟩
      ·rw [q5_ zx_ hlt,ha];simp only [List.length_append];omega
      ·rw [q5_ QB_ hlt,h0];dsimp only;omega
      ·rw [he];exact bc_ hlt hn)
   | (have hn:¬ w.getD i 0 < 0:=by assumption
      have hlt2:=BQ_ (w:=w) (i:=i) hlt (by omega)
      have h2:k < xs.length:=by omega
      first
       | ((try simp only [zH_,zJ_,zl_] at*);rw [List.length_drop];omega)
       | (have h8:w.getD i 0 < 8:=by assumption
          have hx:¬ ((xs.drop k).getD 0 0).fdiv (2 ^ (min (8*w.getD i 0).toNat 64))=0:=by assumption
          rw [k5_] at hx
          have hf:vo_ w xs=none:=by unfold vo_;rw [if_pos ⟨hr,hc⟩,he];exact h2_ hlt hn h2 h8 hx
          refine ⟨?_,rfl⟩;unfold Wj_ yc_;rw [hf];rfl)
       | (have h8:¬ (w.getD i 0 < 8/\(xs.getD k 0).fdiv (2 ^ (min (8*w.getD i 0).toNat 64)) ≠ 0):=fun h=>by
           first
            | (exact absurd h.1 (by assumption))
            | (have hx:((xs.drop k).getD 0 0).fdiv (2 ^ (min (8*w.getD i 0).toNat 64))=0:=by assumption
               rw [k5_] at hx
               exact h.2 hx)
          have ha:=yI_ hn
          have h0:QB_ (w.getD i 0)=1:=if_pos (by omega)
          have hbl:=QU_ (n:=xs.getD k 0) (w:=w.getD i 0) (by omega)
          refine ⟨(i+1,k+1,b++Zr_ (xs.getD k 0) (w.getD i 0)),⟨hlt,?_,?_,?_⟩,by dsimp only;omega,?_,?_⟩
          ·rw [q5_ zx_ hlt,ha];simp only [List.length_append];omega
          ·rw [q5_ QB_ hlt,h0];dsimp only;omega
          ·rw [he];exact h1_ hlt hn h2 h8
          ·dsimp only;rw [<- List.drop_drop];rfl
          ·dsimp only;rw [<- k5_ (l:=xs) (k:=k)];rfl))
 ·cases e
def QD_:List Int->List Int->List Int->List Int × Int
 | [],_,o=>(o,0)
 | n :: r,b,o=>if (b.length:Int) < zx_ n then ([],1) else if 0 < n then QD_ r (b.drop (zx_ n).toNat) (o++[ze_ (b.take (zx_ n).toNat)]) else if zK_ (b.take (zx_ n).toNat)=true then QD_ r (b.drop (zx_ n).toNat) o else ([],2)
def ZZ_ (w b:List Int):List Int × Int:=if zZ_ w=true then QD_ w b [] else ([],2)
def ZB_ (w b:List Int):List Int:=(ZZ_ w b).1
def qh_ (w b:List Int):Int:=(ZZ_ w b).2
theorem Ww_ {w b o:List Int} {i:Nat} (h:i < w.length) (h1:(b.length:Int) < zx_ (w.getD i 0)):QD_ (w.drop i) b o=([],1):=by
 rw [zC_ h 0];exact if_pos h1
theorem Yz_ {w b o:List Int} {i:Nat} (h:i < w.length) (h1:¬ (b.length:Int) < zx_ (w.getD i 0)) (h2:0 < w.getD i 0):QD_ (w.drop i) b o=QD_ (w.drop (i+1)) (b.drop (zx_ (w.getD i 0)).toNat) (o++[ze_ (b.take (zx_ (w.getD i 0)).toNat)]):=by
 rw [zC_ h 0]
 show (if (b.length:Int) < zx_ (w.getD i 0) then _ else _)=_
 rw [if_neg h1];exact if_pos h2
theorem Xg_ {w b o:List Int} {i:Nat} (h:i < w.length) (h1:¬ (b.length:Int) < zx_ (w.getD i 0)) (h2:¬ 0 < w.getD i 0) (h3:zK_ (b.take (zx_ (w.getD i 0)).toNat)=true):QD_ (w.drop i) b o=QD_ (w.drop (i+1)) (b.drop (zx_ (w.getD i 0)).toNat) o:=by
 rw [zC_ h 0]
 show (if (b.length:Int) < zx_ (w.getD i 0) then _ else _)=_
 rw [if_neg h1]
 show (if 0 < w.getD i 0 then _ else _)=_
 rw [if_neg h2];exact if_pos h3
theorem Yy_ {w b o:List Int} {i:Nat} (h:i < w.length) (h1:¬ (b.length:Int) < zx_ (w.getD i 0)) (h2:¬ 0 < w.getD i 0) (h3:zK_ (b.take (zx_ (w.getD i 0)).toNat)=false):QD_ (w.drop i) b o=([],2):=by
 rw [zC_ h 0]
 show (if (b.length:Int) < zx_ (w.getD i 0) then _ else _)=_
 rw [if_neg h1]
 show (if 0 < w.getD i 0 then _ else _)=_
 rw [if_neg h2];exact if_neg (by rw [h3];simp)
def Gs_:IR:=
(sq (kr [0,1] [oD 4 (.nilrow (.int .u64)),
oD 5 (.mov (cI 0))])
(sq (sq (.reg [oM 10 0,
oC 11 125 [10],
oD 12 (.un .not 11)])
(.cond 12
(sq (.reg [oD 4 (.nilrow (.int .u64)),
oD 5 (.mov (cI 2))])
.ret)
.skip))
(sq (kr [0,1] [oD 6 (.nilrow (.int .u64))])
(sq (sq (.reg [oM 13 0,
oE 14 13,
oD 15 (.mov (cI 0))])
(.block 0
(.loop
(sq (kr [1,6,13,14,15] [oB 16 .lss 15 14])
(sq (.cond 16
.skip
(.exit 0))
(sq (.block 1
(sq (.reg [oI 17 1 13 15,
oL 18 17,
oM 8 18])
(sq (kr [1,6,8,13,14,15] [oM 19 8,
oM 20 8,
oD 21 (.un .neg 20),
oD 22 (.minmax true 19 21),
oM 9 22])
(sq (.block 2
(sq (kr [1,6,8,9,13,14,15] [oM 24 1,
oE 25 24,
oM 26 9,
oB 27 .lss 25 26,
oM 23 27])
(.cond 23
(sq (.reg [oD 4 (.nilrow (.int .u64)),
oD 5 (.mov (cI 1))])
.ret)
(sq (.reg [oM 29 8,
oB 30 .gtr 29 (cI 0),
oM 28 30])
(.cond 28
(kr [1,6,9,13,14,15] [oM 31 6,
oM 32 1,
oM 33 9,
oD 34 (.slice 1 32 none (some 33) none),
oC 35 128 [34],
oD 36 (.sliceAll (.int .u64) 1 [(0,1,35)]),
oD 37 (.append (.int .u64) 8 31 36),
oM 6 37])
(sq (kr [1,6,9,13,14,15] [oM 39 1,
oM 40 9,
oD 41 (.slice 1 39 none (some 40) none),
oC 42 129 [41],
oD 43 (.un .not 42),
oM 38 43])
(.cond 38
(sq (kr [] [oD 4 (.nilrow (.int .u64)),
oD 5 (.mov (cI 2))])
.ret)
.skip)))))))
(kr [1,6,9,13,14,15] [oM 44 1,
oM 45 9,
oD 46 (.slice 1 44 (some 45) none none),
oM 1 46])))))
(kr [1,6,13,14,15] [oB 47 .add 15 (cI 1),
oM 15 47])))))))
(sq (kr [6] [oM 48 6,
oM 4 48,
oD 5 (.mov (cI 0))])
.ret)))))
def gU_:List RD:=[.tmp 4 true (some (.int .u64)),.tmp 5 true none]
theorem g4_:zo_ Tryz.prog Tryz.f107 Gs_ gU_=true:=by kernel_rfl
def Xy_:List AV->List Obj->Option (Prop × AV)
 | [.imm (.int .i64) w,.imm (.int .u8) b],[]=>some ((True,.tup [.imm (.int .u64) (ZB_ w b),.int .i64 (qh_ w b)]))
 | _,_=>none
theorem u8_:zf_ Tryz.prog 107 (RoF Xy_).sum:=by
 refine zw_ Tryz.func107 g4_ (zb_ (s:=RoF qj_) qG_ (zb_ (s:=RoF kT_) JC_ (zb_ (s:=RoF jO_) WT_ (zg_ _)))) fun args objs p v e=>?_
 unfold Xy_ at e
 split at e
 ·rename_i w b
  cases e
  refine ⟨rfl,fun hw ho hp=>?_⟩
  change List Int at w
  change List Int at b
  have hb:b.length<=maxLen:=(hw (.imm (.int .u8) b) (by simp)).2
  unfold maxLen at hb
  repeat'(intro t ht;first|(cases t<;>first|(cases ht;done)|(try simp only[zh_]at ht))|((first|refine za_ ht ?_|refine ht ?_ ?_|refine ht.1 ?_ ?_|refine ht ?_)<;>clear ht))
  all_goals first
   | exact True.intro
   | (intro r h1 h2;clear h1;refine h2 ⟨[1,6,13,14,15],Nat × List Int × List Int,(fun a=>a.1<=w.length/\a.2.1.length<=b.length/\a.2.2.length<=a.1/\QD_ w b []=QD_ (w.drop a.1) a.2.1 a.2.2),fun a=>[.imm (.int .u8) a.2.1,.own 0,.imm (.int .i64) w,.int .i64 w.length,.int .i64 a.1],fun a=>[.row false (.int .u64) a.2.2],fun a=>w.length - a.1,⟨(0,b,[]),⟨Nat.zero_le _,Nat.le_refl _,Nat.zero_le _,rfl⟩,rfl,rfl⟩,?_⟩;clear h2)
   | (have hr:zZ_ w=false:=by assumption
      have hf:ZZ_ w b=([],2):=by unfold ZZ_;rw [hr];rfl
      refine ⟨?_,rfl⟩;unfold ZB_ qh_;rw [hf])
  rintro ⟨i,c,o⟩ ⟨hi,hc,ho,he⟩
  dsimp only at hi hc ho he
  have hr:zZ_ w=true:=by assumption
  have hl:=(Zp_.1 hr).1
  repeat'(intro t ht;first|(cases t<;>first|(cases ht;done)|(try simp only[zh_]at ht))|((first|refine za_ ht ?_|refine ht ?_ ?_|refine ht.1 ?_ ?_|refine ht ?_)<;>clear ht))
  all_goals first
   | ((try simp only [zH_,zJ_,zl_] at*);omega)
   | (have hge:w.length<=i:=by omega
      rw [List.drop_of_length_le hge] at he
      have hf:ZZ_ w b=(o,0):=by unfold ZZ_;rw [if_pos hr,he];rfl
      refine ⟨?_,rfl⟩;unfold ZB_ qh_;rw [hf];done)
   | skip
  all_goals have hlt:i < w.length:=by omega
  all_goals have hkk:=(Zp_.1 hr).2 _ (zv_ (α:=Int) hlt 0)
  all_goals have ha:=wO_ (n:=w.getD i 0)
  all_goals have hA:(if 0 - w.getD i 0 > w.getD i 0 then 0 - w.getD i 0 else w.getD i 0)=zx_ (w.getD i 0):=rfl
  all_goals first
   | exact True.intro
   | ((try simp only [zH_,zJ_,zl_] at*);omega)
   | (have h1:(c.length:Int) < zx_ (w.getD i 0):=by assumption
      have hf:ZZ_ w b=([],1):=by unfold ZZ_;rw [if_pos hr,he];exact Ww_ hlt h1
      refine ⟨?_,rfl⟩;unfold ZB_ qh_;rw [hf];done)
   | (have h1:¬ (c.length:Int) < zx_ (w.getD i 0):=by assumption
      first
       | (have h2:¬ 0 < w.getD i 0:=by assumption
          first
           | (have h3:zK_ (c.take (zx_ (w.getD i 0)).toNat)=true:=by assumption
              refine ⟨(i+1,c.drop (zx_ (w.getD i 0)).toNat,o),⟨hlt,?_,by dsimp only;omega,?_⟩,by dsimp only;omega,rfl,rfl⟩
              ·dsimp only;rw [List.length_drop];omega
              ·rw [he];exact Xg_ hlt h1 h2 h3)
           | (have h3:zK_ (c.take (zx_ (w.getD i 0)).toNat)=false:=by assumption
              have hf:ZZ_ w b=([],2):=by unfold ZZ_;rw [if_pos hr,he];exact Yy_ hlt h1 h2 h3
              refine ⟨?_,rfl⟩;unfold ZB_ qh_;rw [hf];done))
       | (have h2:0 < w.getD i 0:=by assumption
          first
           | (show (c.take (zx_ (w.getD i 0)).toNat).length<=8;rw [List.length_take];omega)
           | (simp only [k8_,List.length_append,List.length_cons,List.length_nil];omega)
           | (refine ⟨(i+1,c.drop (zx_ (w.getD i 0)).toNat,o++[ze_ (c.take (zx_ (w.getD i 0)).toNat)]),⟨hlt,?_,?_,?_⟩,by dsimp only;omega,rfl,rfl⟩
              ·dsimp only;rw [List.length_drop];omega
              ·simp only [List.length_append,List.length_cons,List.length_nil];omega
              ·rw [he];exact Yz_ hlt h1 h2)))
 ·cases e
theorem yO_ {α:Type} {a b:List α} {d:α} {i:Nat} (h:a.take i=b.take i) (hi:i < a.length) (hl:a.length=b.length) (e:a.getD i d=b.getD i d):a.take (i+1)=b.take (i+1):=by
 have hb:i < b.length:=by omega
 rw [List.getD_eq_getElem?_getD,List.getD_eq_getElem?_getD,List.getElem?_eq_getElem hi,List.getElem?_eq_getElem hb] at e
 rw [List.take_succ_eq_append_getElem hi,List.take_succ_eq_append_getElem hb,h,show a[i]=b[i] from e]
theorem u1_ {α:Type} {a b:List α} {i:Nat} (h:a.take i=b.take i) (hi:a.length<=i) (hl:a.length=b.length):a=b:=by
 rwa [List.take_of_length_le hi,List.take_of_length_le (by omega)] at h
theorem HT_ {α:Type} {a b:List α} {d:α} {i:Nat} (e:¬ a.getD i d=b.getD i d):a ≠ b:=fun h=>e (by rw [h])
def uy_:IR:=
(sq (kr [0,1] [oD 4 (.mov cF)])
(sq (sq (kr [0,1] [oM 6 0,
oE 7 6,
oM 8 1,
oE 9 8,
oB 10 .neq 7 9])
(.cond 10
(sq (.reg [oD 4 (.mov cF)])
.ret)
.skip))
(sq (sq (kr [0,1] [oD 5 (.mov (cI 0))])
(.block 0
(.loop
(sq (sq (kr [0,1,5] [oM 11 5,
oM 12 0,
oE 13 12,
oB 14 .lss 11 13])
(.cond 14
.skip
(.exit 0)))
(sq (.block 1
(sq (kd [0,1,5] [(oM 17 0,[]),
(oM 18 5,[0]),
(oI 19 1 17 18,[]),
(oL 20 19,[]),
(oM 21 1,[0,0,0,0]),
(oM 22 5,[0,0,0,0,0]),
(oI 23 1 21 22,[2,0,0,0]),
(oL 24 23,[3,0,0,0]),
(oB 25 .neq 20 24,[])])
(.cond 25
(sq (kr [] [oD 4 (.mov cF)])
.ret)
.skip)))
(kr [0,1,5] [oM 15 5,
oB 16 .add 15 (cI 1),
oM 5 16]))))))
(sq (kr [] [oD 4 (.mov cT)])
.ret))))
def V0_:List RD:=[.tmp 4 true none]
theorem uf_:zo_ Tryz.prog Tryz.f25 uy_ V0_=true:=by kernel_rfl
def Ku_:List AV->List Obj->Option (Prop × AV)
 | [.imm (.int .u8) a,.imm (.int .u8) b],[]=>some ((True,.bool (decide (a=b))))
 | _,_=>none
theorem w1_:zf_ Tryz.prog 25 (RoF Ku_).sum:=by
 refine zw_ Tryz.func25 uf_ (zg_ _) fun args objs p v e=>?_
 unfold Ku_ at e
 split at e
 ·rename_i a b
  cases e
  refine ⟨rfl,fun hw ho hp=>?_⟩
  change List Int at a
  change List Int at b
  have hl:a.length<=maxLen:=(hw (.imm (.int .u8) a) (by simp)).2
  unfold maxLen at hl
  repeat'(intro t ht;first|(cases t<;>first|(cases ht;done)|(try simp only[zh_]at ht))|((first|refine za_ ht ?_|refine ht ?_ ?_|refine ht.1 ?_ ?_|refine ht ?_)<;>clear ht))
  all_goals first
   | (have hne:a ≠ b:=fun h=>(by assumption:¬ (a.length:Int)=b.length) (by rw [h])
      refine ⟨?_,rfl⟩;rw [decide_eq_false hne];done)
   | (intro r h1 h2;clear h1;refine h2 ⟨[0,1,5],Nat,(fun i=>i<=a.length/\a.take i=b.take i),fun i=>[.imm (.int .u8) a,.imm (.int .u8) b,.int .i64 i],fun _=>[],fun i=>a.length - i,⟨0,⟨Nat.zero_le _,rfl⟩,rfl,rfl⟩,?_⟩;clear h2)
  rintro i ⟨hi,he⟩
  have hl2:a.length=b.length:=by omega
  repeat'(intro t ht;first|(cases t<;>first|(cases ht;done)|(try simp only[zh_]at ht))|((first|refine za_ ht ?_|refine ht ?_ ?_|refine ht.1 ?_ ?_|refine ht ?_)<;>clear ht))
  all_goals first
   | ((try simp only [zH_,zJ_,zl_] at*);omega)
   | (have hge:a.length<=i:=by omega
      have e:=u1_ he hge hl2
      refine ⟨?_,rfl⟩;rw [decide_eq_true e];done)
   | (have hne:a ≠ b:=HT_ (d:=0) (i:=i) (by assumption)
      refine ⟨?_,rfl⟩;rw [decide_eq_false hne];done)
   | (have hlt:i < a.length:=by omega
      exact ⟨i+1,⟨hlt,yO_ he hlt hl2 (d:=0) (by assumption)⟩,by (try simp only [zH_,zJ_,zl_] at*);omega,rfl,rfl⟩)
 ·cases e
def uw_:IR:=
(sq (kr [0] [oD 2 (.mov (.c (.int .u64 0)))])
(sq (.reg [oD 3 (.mov (.c (.int .u64 0)))])
(sq (sq (.reg [oD 4 (.mov (cI 0))])
(.block 0
(.loop
(sq (sq (kr [0,3,4] [oM 5 4,
oM 6 0,
oE 7 6,
oB 8 .lss 5 7])
(.cond 8
.skip
(.exit 0)))
(sq (.block 1
(kr [0,3,4] [oM 11 3,
oB 12 .mul 11 (.c (.int .u64 256)),
oM 13 0,
oM 14 4,
oI 15 1 13 14,
oL 16 15,
oD 17 (.conv .u64 16),
oB 18 .add 12 17,
oM 3 18]))
(kr [0,3,4] [oM 9 4,
oB 10 .add 9 (cI 1),
oM 4 10]))))))
(sq (kr [3] [oM 19 3,
oM 2 19])
.ret))))
def VY_:List RD:=[.tmp 2 true none]
theorem ud_:zo_ Tryz.prog Tryz.f31 uw_ VY_=true:=by kernel_rfl
def q9_:List AV->List Obj->Option (Prop × AV)
 | [.imm (.int .u8) b],[]=>some ((b.length<=8,.int .u64 (ze_ b)))
 | _,_=>none
theorem Q0_:zf_ Tryz.prog 31 (RoF q9_).sum:=by
 refine zw_ Tryz.func31 ud_ (zg_ _) fun args objs p v e=>?_
 unfold q9_ at e
 split at e
 ·rename_i b
  cases e
  refine ⟨rfl,fun hw ho hp=>?_⟩
  change List Int at b
  have hb:∀ x ∈ (b:List Int),(0:Int)<=x/\x<=255:=fun x hx=>(hw (.imm (.int .u8) b) (by simp)).1 x hx
  repeat'(intro t ht;first|(cases t<;>first|(cases ht;done)|(try simp only[zh_]at ht))|((first|refine za_ ht ?_|refine ht ?_ ?_|refine ht.1 ?_ ?_|refine ht ?_)<;>clear ht))
  all_goals first
   | (intro r h1 h2;clear h1;refine h2 ⟨[0,3,4],Nat,(fun i=>i<=b.length),fun i=>[.imm (.int .u8) b,.int .u64 (xa_ b i),.int .i64 i],fun _=>[],fun i=>b.length - i,⟨0,Nat.zero_le _,rfl,rfl⟩,?_⟩;clear h2)
  intro i hi
  repeat'(intro t ht;first|(cases t<;>first|(cases ht;done)|(try simp only[zh_]at ht))|((first|refine za_ ht ?_|refine ht ?_ ?_|refine ht.1 ?_ ?_|refine ht ?_)<;>clear ht))
  all_goals first
   | ((try simp only [zH_,zJ_,zl_] at*);omega)
   | (have hge:b.length<=i:=by omega
      refine ⟨?_,rfl⟩;rw [UG_ hge];done)
   | (have hlt:i < b.length:=by omega
      have hk:=hb _ (zv_ (α:=Int) hlt 0)
      have hn:=hj_ hb i (by omega)
      first
       | ((try simp only [zH_,zJ_,zl_] at*);omega)
       | (refine ⟨i+1,hlt,by (try simp only [zH_,zJ_,zl_] at*);omega,?_,rfl⟩
          dsimp only
          rw [v0_ hlt];rfl))
 ·cases e
def ux_:IR:=
(sq (kr [0] [oD 2 (.mov cF)])
(sq (sq (.reg [oD 3 (.mov (cI 0))])
(.block 0
(.loop
(sq (sq (kr [0,3] [oM 4 3,
oM 5 0,
oE 6 5,
oB 7 .lss 4 6])
(.cond 7
.skip
(.exit 0)))
(sq (.block 1
(sq (kr [0,3] [oM 10 0,
oM 11 3,
oI 12 1 10 11,
oL 13 12,
oB 14 .eql 13 (cI 0),
oM 15 14,
oF 15 16 (.mov 0),
oF 15 17 (.mov 3),
oF 15 18 (.indexSl 1 16 17),
oF 15 19 (.load none 18),
oF 15 20 (.bin .gtr 19 (cI 8)),
oP 21 15 cT 20,
oM 22 21,
oF 22 23 (.mov 0),
oF 22 24 (.mov 3),
oF 22 25 (.indexSl 1 23 24),
oF 22 26 (.load none 25),
oF 22 27 (.bin .lss 26 (cI (-64))),
oP 28 22 cT 27])
(.cond 28
(sq (kr [] [oD 2 (.mov cF)])
.ret)
.skip)))
(kr [0,3] [oM 8 3,
oB 9 .add 8 (cI 1),
oM 3 9]))))))
(sq (kr [0] [oM 29 0,
oE 30 29,
oB 31 .leq 30 (cI 64),
oM 2 31])
.ret)))
def VZ_:List RD:=[.tmp 2 true none]
theorem ue_:zo_ Tryz.prog Tryz.f57 ux_ VZ_=true:=by kernel_rfl
def ws_:List AV->List Obj->Option (Prop × AV)
 | [.imm (.int .i64) w],[]=>some ((True,.bool (zZ_ w)))
 | _,_=>none
theorem ve_:zf_ Tryz.prog 57 (RoF ws_).sum:=by
 refine zw_ Tryz.func57 ue_ (zg_ _) fun args objs p v e=>?_
 unfold ws_ at e
 split at e
 ·rename_i w
  cases e
  refine ⟨rfl,fun hw ho hp=>?_⟩
  change List Int at w
  have hl:w.length<=maxLen:=(hw (.imm (.int .i64) w) (by simp)).2
  unfold maxLen at hl
  repeat'(intro t ht;first|(cases t<;>first|(cases ht;done)|(try simp only[zh_]at ht))|((first|refine za_ ht ?_|refine ht ?_ ?_|refine ht.1 ?_ ?_|refine ht ?_)<;>clear ht))
  all_goals (intro r h1 h2;clear h1;refine h2 ⟨[0,3],Nat,(fun i=>i<=w.length/\w.all okW=(w.drop i).all okW),fun i=>[.imm (.int .i64) w,.int .i64 i],fun _=>[],fun i=>w.length - i,⟨0,⟨Nat.zero_le _,rfl⟩,rfl,rfl⟩,?_⟩;clear h2)
  rintro i ⟨hi,he⟩
  repeat'(intro t ht;first|(cases t<;>first|(cases ht;done)|(try simp only[zh_]at ht))|((first|refine za_ ht ?_|refine ht ?_ ?_|refine ht.1 ?_ ?_|refine ht ?_)<;>clear ht))
  all_goals first
   | ((try simp only [zH_,zJ_,zl_] at*);omega)
   | (have hge:w.length<=i:=by omega
      rw [List.drop_of_length_le hge] at he
      refine ⟨?_,rfl⟩;unfold zZ_;rw [he,List.all_nil,Bool.and_true]
      congr 2;exact propext (by omega))
   | (have hlt:i < w.length:=by omega
      rw [zC_ hlt 0,List.all_cons] at he
      first
       | (have hk:okW (w.getD i 0)=false:=za5_.2 (by omega)
          refine ⟨?_,rfl⟩;unfold zZ_;rw [he,hk];simp;done)
       | (have hk:okW (w.getD i 0)=true:=hg_.2 (by omega)
          rw [hk,Bool.true_and] at he
          exact ⟨i+1,⟨hlt,he⟩,by (try simp only [zH_,zJ_,zl_] at*);omega,rfl,rfl⟩))
 ·cases e
theorem HY_ {α:Type} (b:List α) (p:Nat) {n:Int} (h:0<=n):(b.take ((p:Int)+n).toNat).drop p=(b.drop p).take n.toNat:=by
 have e:((p:Int)+n).toNat=p+n.toNat:=by omega
 rw [e,List.drop_take];congr 1;omega
theorem w8_ {b:List Int} {p k:Nat} (h:k < b.length) (hz:zK_ ((b.drop p).take (k - p))=true) (hp:p<=k) (e:b.getD k 0=0):zK_ ((b.drop p).take (k+1 - p))=true:=by
 have hk:k - p < (b.drop p).length:=by rw [List.length_drop];omega
 rw [show k+1 - p=(k - p)+1 by omega,List.take_succ_eq_append_getElem hk]
 unfold zK_ at hz ⊢
 rw [List.all_append,hz,Bool.true_and,List.getElem_drop]
 have:b[p+(k - p)]'(by omega)=b.getD k 0:=by
  rw [List.getD_eq_getElem?_getD,List.getElem?_eq_getElem h,Option.getD_some];congr 1;omega
 rw [List.all_cons,List.all_nil,this,e];rfl
theorem xE_ {b:List Int} {p k n:Nat} (h:k < b.length) (hp:p<=k) (hk:k < p+n) (e:¬ b.getD k 0=0):zK_ ((b.drop p).take n)=false:=by
 unfold zK_
 rw [List.all_eq_false]
 refine ⟨b.getD k 0,?_,by simpa using e⟩
 rw [List.mem_take_iff_getElem]
 refine ⟨k - p,by rw [List.length_drop];omega,?_⟩
 rw [List.getElem_drop,List.getD_eq_getElem?_getD,List.getElem?_eq_getElem h,Option.getD_some]
 congr 1;omega
def Gv_:IR:=
(sq (kr [0,1] [oD 4 (.nilrow (.int .u64)),
oD 5 (.mov (cI 0))])
(sq (sq (.reg [oM 11 0,
oC 12 57 [11],
oD 13 (.un .not 12)])
(.cond 13
(sq (.reg [oD 4 (.nilrow (.int .u64)),
oD 5 (.mov (cI 2))])
.ret)
.skip))
(sq (kr [0,1] [oD 6 (.nilrow (.int .u64))])
(sq (.reg [oD 7 (.mov (cI 0))])
(sq (sq (.reg [oD 8 (.mov (cI 0))])
(.block 0
(.loop
(sq (sq (kr [0,1,6,7,8] [oM 14 8,
oM 15 0,
oE 16 15,
oB 17 .lss 14 16])
(.cond 17
.skip
(.exit 0)))
(sq (.block 1
(sq (kr [0,1,6,7,8] [oM 20 0,
oM 21 8,
oI 22 1 20 21,
oL 23 22,
oM 9 23])
(sq (sq (.reg [oM 24 9,
oB 25 .lss 24 (cI 0)])
(.cond 25
(kr [0,1,6,7,8,9] [oM 26 9,
oD 27 (.un .neg 26),
oM 9 27])
.skip))
(sq (sq (kr [0,1,6,7,8,9] [oM 28 1,
oE 29 28,
oM 30 7,
oB 31 .sub 29 30,
oM 32 9,
oB 33 .lss 31 32])
(.cond 33
(sq (kr [] [oD 4 (.nilrow (.int .u64)),
oD 5 (.mov (cI 1))])
.ret)
.skip))
(sq (sq (kr [0,1,6,7,8,9] [oM 34 0,
oM 35 8,
oI 36 1 34 35,
oL 37 36,
oB 38 .gtr 37 (cI 0)])
(.cond 38
(kr [0,1,6,7,8,9] [oM 39 6,
oM 40 1,
oM 41 7,
oM 42 7,
oM 43 9,
oB 44 .add 42 43,
oD 45 (.slice 1 40 (some 41) (some 44) none),
oC 46 31 [45],
oD 47 (.sliceAll (.int .u64) 1 [(0,1,46)]),
oD 48 (.append (.int .u64) 8 39 47),
oM 6 48])
.skip))
(sq (sq (kr [0,1,6,7,8,9] [oM 49 7,
oM 10 49])
(.block 2
(.loop
(sq (sq (kr [0,1,6,7,8,9,10] [oM 50 10,
oM 51 7,
oM 52 9,
oB 53 .add 51 52,
oB 54 .lss 50 53,
oM 55 54,
oT 55 56 (.mov 0),
oT 55 57 (.mov 8),
oT 55 58 (.indexSl 1 56 57),
oT 55 59 (.load none 58),
oT 55 60 (.bin .lss 59 (cI 0)),
oP 61 55 60 cF])
(.cond 61
.skip
(.exit 2)))
(sq (.block 3
(sq (kr [0,1,6,7,8,9,10] [oM 64 1,
oM 65 10,
oI 66 1 64 65,
oL 67 66,
oB 68 .neq 67 (.c (.int .u8 0))])
(.cond 68
(sq (.reg [oD 4 (.nilrow (.int .u64)),
oD 5 (.mov (cI 2))])
.ret)
.skip)))
(kr [0,1,6,7,8,9,10] [oM 62 10,
oB 63 .add 62 (cI 1),
oM 10 63]))))))
(kr [0,1,6,7,8,9] [oM 69 7,
oM 70 9,
oB 71 .add 69 70,
oM 7 71])))))))
(kr [0,1,6,7,8] [oM 18 8,
oB 19 .add 18 (cI 1),
oM 8 19]))))))
(sq (kr [6] [oM 72 6,
oM 4 72,
oD 5 (.mov (cI 0))])
.ret))))))
def gX_:List RD:=[.tmp 4 true (some (.int .u64)),.tmp 5 true none]
theorem g7_:zo_ Tryz.prog Tryz.f33 Gv_ gX_=true:=by kernel_rfl
def XB_:List AV->List Obj->Option (Prop × AV)
 | [.imm (.int .i64) w,.imm (.int .u8) b],[]=>some ((True,.tup [.imm (.int .u64) (ZB_ w b),.int .i64 (qh_ w b)]))
 | _,_=>none
theorem Ub_:zf_ Tryz.prog 33 (RoF XB_).sum:=by
 refine zw_ Tryz.func33 g7_ (zb_ (s:=RoF ws_) ve_ (zb_ (s:=RoF q9_) Q0_ (zg_ _))) fun args objs p v e=>?_
 unfold XB_ at e
 split at e
 ·rename_i w b
  cases e
  refine ⟨rfl,fun hw ho hp=>?_⟩
  change List Int at w
  change List Int at b
  have hb:b.length<=maxLen:=(hw (.imm (.int .u8) b) (by simp)).2
  unfold maxLen at hb
  repeat'(intro t ht;first|(cases t<;>first|(cases ht;done)|(try simp only[zh_]at ht))|((first|refine za_ ht ?_|refine ht ?_ ?_|refine ht.1 ?_ ?_|refine ht ?_)<;>clear ht))
  all_goals first
   | exact True.intro
   | (intro r h1 h2;clear h1;refine h2 ⟨[0,1,6,7,8],Nat × Nat × List Int,(fun a=>a.1<=w.length/\a.2.1<=b.length/\a.2.2.length<=a.1/\QD_ w b []=QD_ (w.drop a.1) (b.drop a.2.1) a.2.2),fun a=>[.imm (.int .i64) w,.imm (.int .u8) b,.own 0,.int .i64 a.2.1,.int .i64 a.1],fun a=>[.row false (.int .u64) a.2.2],fun a=>w.length - a.1,⟨(0,0,[]),⟨Nat.zero_le _,Nat.zero_le _,Nat.zero_le _,rfl⟩,rfl,rfl⟩,?_⟩;clear h2)
   | (have hr:zZ_ w=false:=by assumption
      have hf:ZZ_ w b=([],2):=by unfold ZZ_;rw [hr];rfl
      refine ⟨?_,rfl⟩;unfold ZB_ qh_;rw [hf])
  rintro ⟨i,p,o⟩ ⟨hi,hp,ho,he⟩
  dsimp only at hi hp ho he
  have hr:zZ_ w=true:=by assumption
  have hl:=(Zp_.1 hr).1
  have hdl:(b.drop p).length=b.length - p:=List.length_drop
  repeat'(intro t ht;first|(cases t<;>first|(cases ht;done)|(try simp only[zh_]at ht;try(exfalso;first|contradiction|omega)))|((first|refine za_ ht ?_|refine ht ?_ ?_|refine ht.1 ?_ ?_|refine ht ?_)<;>clear ht))
  all_goals first
   | ((try simp only [zH_,zJ_,zl_] at*);omega)
   | (have hge:w.length<=i:=by omega
      rw [List.drop_of_length_le hge] at he
      have hf:ZZ_ w b=(o,0):=by unfold ZZ_;rw [if_pos hr,he];rfl
      refine ⟨?_,rfl⟩;unfold ZB_ qh_;rw [hf];done)
   | skip
  all_goals have hlt:i < w.length:=by omega
  all_goals have hkk:=(Zp_.1 hr).2 _ (zv_ (α:=Int) hlt 0)
  all_goals have ha:=wO_ (n:=w.getD i 0)
  all_goals dsimp only
  all_goals first
   | exact True.intro
   | ((try simp only [zH_,zJ_,zl_] at*);omega)
   | (simp only [List.length_drop,List.length_take];(try simp only [zH_,zJ_,zl_] at*);omega)
   | (simp only [k8_,List.length_append,List.length_cons,List.length_nil];omega)
   | (have h1:((b.drop p).length:Int) < zx_ (w.getD i 0):=by rw [hdl];omega
      have hf:ZZ_ w b=([],1):=by unfold ZZ_;rw [if_pos hr,he];exact Ww_ hlt h1
      refine ⟨?_,rfl⟩;unfold ZB_ qh_;rw [hf];done)
   | (have h2:0 < w.getD i 0:=by assumption
      (intro r h1 h2;refine h1 ⟨1,?_⟩;clear h1 h2))
   | (have h2:w.getD i 0 < 0:=by assumption
      (intro r h1 h2;clear h1;refine h2 ⟨[0,1,6,7,8,9,10],Nat,(fun k=>p<=k/\(k:Int)<=p - w.getD i 0/\zK_ ((b.drop p).take (k - p))=true),fun k=>[.imm (.int .i64) w,.imm (.int .u8) b,.own 0,.int .i64 p,.int .i64 i,.int .i64 (0 - w.getD i 0),.int .i64 k],fun _=>[.row false (.int .u64) o],fun k=>b.length - k,⟨p,⟨Nat.le_refl _,by omega,by rw [Nat.sub_self];rfl⟩,rfl,rfl⟩,?_⟩;clear h2);rintro k ⟨hk1,hk2,hk3⟩)
  all_goals repeat'(intro t ht;first|(cases t<;>first|(cases ht;done)|(try simp only[zh_]at ht;try(exfalso;first|contradiction|omega)))|((first|refine za_ ht ?_|refine ht ?_ ?_|refine ht.1 ?_ ?_|refine ht ?_)<;>clear ht))
  all_goals (try dsimp only)
  all_goals first
   | exact True.intro
   | ((try simp only [zH_,zJ_,zl_] at*);omega)
   | (have h2:0 < w.getD i 0:=by assumption
      have h1:¬ ((b.drop p).length:Int) < zx_ (w.getD i 0):=by rw [hdl];omega
      have hab:zx_ (w.getD i 0)=w.getD i 0:=yI_ (by omega)
      have hsl:=HY_ b p (n:=w.getD i 0) (by omega)
      refine ⟨(i+1,p+(zx_ (w.getD i 0)).toNat,o++[ze_ ((b.drop p).take (zx_ (w.getD i 0)).toNat)]),⟨hlt,?_,?_,?_⟩,?_,?_,?_⟩
      ·dsimp only;omega
      ·simp only [List.length_append,List.length_cons,List.length_nil];omega
      ·dsimp only;rw [he,Yz_ hlt h1 h2,List.drop_drop]
      ·dsimp only;omega
      ·have:((p+(zx_ (w.getD i 0)).toNat:Nat):Int)=p+w.getD i 0:=by rw [hab];omega
       simp only [this];rfl
      ·simp only [hab,<- hsl];rfl)
   | (have hz:b.getD k 0=0:=by assumption
      exact ⟨k+1,⟨by omega,by omega,w8_ (by omega) hk3 hk1 hz⟩,by omega,rfl,rfl⟩)
   | (have hz:¬ b.getD k 0=0:=by assumption
      have h2:¬ 0 < w.getD i 0:=by assumption
      have hab:zx_ (w.getD i 0)=-w.getD i 0:=wk_ (by omega)
      have h1:¬ ((b.drop p).length:Int) < zx_ (w.getD i 0):=by rw [hdl];omega
      have h3:zK_ ((b.drop p).take (zx_ (w.getD i 0)).toNat)=false:=xE_ (by omega) hk1 (by omega) hz
      have hf:ZZ_ w b=([],2):=by unfold ZZ_;rw [if_pos hr,he];exact Yy_ hlt h1 h2 h3
      refine ⟨?_,rfl⟩;unfold ZB_ qh_;rw [hf];done)
   | (have h2:¬ 0 < w.getD i 0:=by assumption
      have hab:zx_ (w.getD i 0)=-w.getD i 0:=wk_ (by omega)
      have h1:¬ ((b.drop p).length:Int) < zx_ (w.getD i 0):=by rw [hdl];omega
      have hke:k - p=(zx_ (w.getD i 0)).toNat:=by omega
      rw [hke] at hk3
      refine ⟨(i+1,p+(zx_ (w.getD i 0)).toNat,o),⟨hlt,?_,?_,?_⟩,?_,?_,rfl⟩
      ·dsimp only;omega
      ·dsimp only;omega
      ·dsimp only;rw [he,Xg_ hlt h1 h2 hk3,List.drop_drop]
      ·dsimp only;omega
      ·have:((p+(zx_ (w.getD i 0)).toNat:Nat):Int)=p+(0 - w.getD i 0):=by rw [hab];omega
       simp only [this];rfl)
 ·cases e
abbrev P8:=Int × Int × Int × Int × Int × Int × Int × Int × Unit
abbrev PV:=Int × Int × List Int × P8 × Unit
instance:DecidableEq (Int × Int × Int × Int × Unit):=inferInstance
instance:DecidableEq P8:=inferInstance
instance:DecidableEq PV:=inferInstance
theorem Bz_ {α:Type} {f:α->Bool} {l:List α} {i:Nat} {d:α} (h:i < l.length) (ht:(l.take i).all f=true) (hd:f (l.getD i d)=true):(l.take (i+1)).all f=true:=by
 rw [List.take_succ_eq_append_getElem h,List.all_append,ht,Bool.true_and,List.all_cons,List.all_nil,Bool.and_true]
 rwa [List.getD_eq_getElem?_getD,List.getElem?_eq_getElem h] at hd
theorem zaO_ {α:Type} {f:α->Bool} {l:List α} {i:Nat} (h:l.length<=i) (ht:(l.take i).all f=true):l.all f=true:=by
 rwa [List.take_of_length_le h] at ht
theorem zb0_ {α:Type} {f:α->Bool} {l:List α} {i:Nat} {d:α} (h:i < l.length) (hd:f (l.getD i d)=false):l.all f=false:=by
 rw [List.all_eq_false]
 refine ⟨l.getD i d,zv_ h d,?_⟩
 rw [hd];decide
def okc (lo c:Int):Bool:=decide (lo<=c) && decide (c<=126)
theorem zcl_ {lo c:Int}:okc lo c=true ↔ lo<=c/\c<=126:=by unfold okc;simp
theorem hf_ {lo c:Int}:okc lo c=false ↔ (c < lo\/126 < c):=by unfold okc;simp;omega
def x6_ (lo:Int):List Int->Int->Int
 | [],_=>-1
 | c :: r,i=>if okc lo c=true then x6_ lo r (i+1) else i
theorem zad_ {lo:Int} {s:List Int} {p:Nat} (h:p < s.length) (hk:okc lo (s.getD p 0)=true):x6_ lo (s.drop p) p=x6_ lo (s.drop (p+1)) ((p+1:Nat):Int):=by
 rw [zC_ h 0];exact if_pos hk
theorem zae_ {lo:Int} {s:List Int} {p:Nat} (h:p < s.length) (hk:okc lo (s.getD p 0)=false):x6_ lo (s.drop p) p=p:=by
 rw [zC_ h 0];exact if_neg (by rw [hk];decide)
theorem bp_ {lo:Int} {s:List Int} {p:Nat} (h:s.length<=p):x6_ lo (s.drop p) p=-1:=by
 rw [List.drop_of_length_le h];rfl
theorem UE_ {lo:Int}:∀ (s:List Int) (i:Int),0<=i->(0<=x6_ lo s i ↔ s.all (okc lo)=false)
 | [],i,h=>by simp [x6_]
 | c :: r,i,h=>by
   unfold x6_
   cases hk:okc lo c with
   | true=>
     rw [if_pos rfl,UE_ r (i+1) (by omega),List.all_cons,hk,Bool.true_and]
   | false=>
     rw [if_neg (by decide),List.all_cons,hk,Bool.false_and]
     simp [h]
theorem H2_ {s:List Int} {p:Nat} (h:(s.getD p 0).toNat < 128):kE_ s p=((s.getD p 0).toNat,1):=by
 unfold kE_;simp only [Nat.add_zero];rw [if_pos (by omega)]
theorem H3_ {s:List Int} {p:Nat} (h:¬ (s.getD p 0).toNat < 128):128<=(kE_ s p).1:=by
 unfold kE_;simp only [Nat.add_zero];rw [if_neg (by omega)]
 have e:128<=Utf8.runeError:=by decide
 repeat' (first | split | assumption)
 all_goals (try simp only [Bool.and_eq_true,decide_eq_true_eq,beq_iff_eq] at*)
 all_goals omega
theorem H1_ {lo:Int} {s:List Int} {p:Nat} (hx:0<=s.getD p 0):okc lo (kE_ s p).1=okc lo (s.getD p 0)/\(okc lo (s.getD p 0)=true->(kE_ s p).2=1):=by
 by_cases h:(s.getD p 0).toNat < 128
 ·rw [H2_ h]
  have e:((s.getD p 0).toNat:Int)=s.getD p 0:=by omega
  dsimp only;rw [e];exact ⟨rfl,fun _=>rfl⟩
 ·have h1:=H3_ h
  have h2:okc lo (kE_ s p).1=false:=hf_.2 (by omega)
  have h3:okc lo (s.getD p 0)=false:=hf_.2 (by omega)
  rw [h2,h3];exact ⟨rfl,fun h=>by cases h⟩
def Wv_:IR:=
(sq (kr [0] [oD 2 (.mov cF)])
(sq (kr [0] [oM 3 0,
oB 4 .leq 3 (.c (.int .i32 32)),
oM 5 4,
oF 5 6 (.mov 0),
oF 5 7 (.bin .gtr 6 (.c (.int .i32 126))),
oP 8 5 cT 7,
oM 2 8])
.ret))
def Wh_:List RD:=[.tmp 2 true none]
theorem Wn_:zo_ Tryz.prog Tryz.f101 Wv_ Wh_=true:=by kernel_rfl
def qa_:List AV->List Obj->Option (Prop × AV)
 | [.int .i32 c],[]=>some ((True,.bool (!okc 33 c)))
 | _,_=>none
theorem kC_:zf_ Tryz.prog 101 (RoF qa_).sum:=by
 refine zw_ Tryz.func101 Wn_ (zg_ _) fun args objs p v e=>?_
 unfold qa_ at e
 split at e
 ·rename_i c
  cases e
  refine ⟨rfl,fun hw ho hp=>?_⟩
  repeat'(intro t ht;first|(cases t<;>first|(cases ht;done)|(try simp only[zh_]at ht))|((first|refine za_ ht ?_|refine ht ?_ ?_|refine ht.1 ?_ ?_|refine ht ?_)<;>clear ht))
  all_goals first
   | (have h:okc 33 c=false:=hf_.2 (by omega)
      refine ⟨?_,rfl⟩;rw [h];rfl)
   | (refine ⟨?_,rfl⟩;unfold okc;rw [decide_eq_true (show (33:Int)<=c by omega),Bool.true_and];congr 1;rw [<- decide_not];congr 1;exact propext (by omega))
 ·cases e
def J0_:IR:=
(sq (kr [0,1,2] [oD 6 (.mov (cI 0))])
(sq (sq (.reg [oM 9 0,
oD 10 (.rngs 9)])
(.block 0
(.loop
(sq (kr [1,2,10] [oD 11 (.nxts 10),
oX 12 11 0])
(sq (.cond 12
.skip
(.exit 0))
(.block 1
(sq (.reg [oX 13 11 1,
oX 14 11 2,
oM 7 13,
oM 8 14])
(sq (kr [1,2,7,8,10] [oM 15 1,
oM 16 8,
oD 17 (.call false 15 [16]),
oM 18 2,
oD 19 (.eqb false 17 18)])
(.cond 19
(sq (.reg [oM 20 7,
oM 6 20])
.ret)
.skip)))))))))
(sq (kr [] [oD 6 (.mov (cI (-1)))])
.ret)))
def JG_:List RD:=[.tmp 6 true none]
theorem JO_:zo_ Tryz.prog Tryz.f140 J0_ JG_=true:=by kernel_rfl
def qA_:List AV->List Obj->Option (Prop × AV)
 | [.str s,.fn 101 [] [],.bool t],[]=>some ((t=true,.int .i64 (x6_ 33 s 0)))
 | _,_=>none
theorem jW_:zf_ Tryz.prog 140 (RoF qA_).sum:=by
 refine zw_ Tryz.func140 JO_ (zb_ (s:=RoF qa_) kC_ (zg_ _)) fun args objs p v e=>?_
 unfold qA_ at e
 split at e
 ·rename_i s t
  cases e
  refine ⟨rfl,fun hw ho hp=>?_⟩
  obtain ⟨hb,hl⟩:(∀ x ∈ s,0<=x/\x<=255)/\s.length<=maxLen:=hw (.str s) (by simp)
  subst hp
  unfold maxLen at hl
  clear hw ho
  repeat'(intro t ht;first|(cases t<;>first|(cases ht;done)|(try simp only[zh_]at ht))|((first|refine za_ ht ?_|refine ht ?_ ?_|refine ht.1 ?_ ?_|refine ht ?_)<;>clear ht))
  all_goals first
   | (intro r h1 h2;clear h1;refine h2 ⟨[1,2,10],Nat,(fun p=>p<=s.length/\x6_ 33 s 0=x6_ 33 (s.drop p) p),fun p=>[.fn 101 [] [],.bool true,.ptr 0 0],fun p=>[.iter s p],fun p=>s.length - p,⟨0,⟨Nat.zero_le _,rfl⟩,rfl,rfl⟩,?_⟩;clear h2)
  rintro p ⟨hp,he⟩
  repeat'(intro t ht;first|(cases t<;>first|(cases ht;done)|(try simp only[zh_]at ht;try(exfalso;first|contradiction|omega)))|((first|refine za_ ht ?_|refine ht ?_ ?_|refine ht.1 ?_ ?_|refine ht ?_)<;>clear ht))
  all_goals first
   | exact True.intro
   | (refine ⟨?_,rfl⟩;rw [he,bp_ (by omega)];done)
   | (obtain ⟨k1,k2⟩:=H1_ (lo:=33) (hb _ (zv_ (α:=Int) (l:=s) (j:=p) (by omega) 0)).1
      cases hk:okc 33 (s.getD p 0) with
      | true=>
        rw [k1,hk] at ht
        first
         | (exfalso;revert ht;decide)
         | (refine ⟨p+1,⟨by omega,?_⟩,by dsimp only;omega,rfl,by rw [k2 hk]⟩
            rw [he];exact zad_ (by omega) hk)
      | false=>
        rw [k1,hk] at ht
        first
         | (exfalso;revert ht;decide)
         | (refine ⟨?_,rfl⟩;rw [he,zae_ (by omega) hk]))
 ·cases e
def J1_:IR:=
(sq (kr [0,1] [oD 4 (.mov (cI 0))])
(sq (.reg [oM 5 0,
oM 6 1,
oC 7 140 [5,6,cT],
oM 4 7])
.ret))
def JH_:List RD:=[.tmp 4 true none]
theorem JP_:zo_ Tryz.prog Tryz.f124 J1_ JH_=true:=by kernel_rfl
def qB_:List AV->List Obj->Option (Prop × AV)
 | [.str s,.fn 101 [] []],[]=>some ((True,.int .i64 (x6_ 33 s 0)))
 | _,_=>none
theorem jX_:zf_ Tryz.prog 124 (RoF qB_).sum:=by
 refine zw_ Tryz.func124 JP_ (zb_ (s:=RoF qA_) jW_ (zg_ _)) fun args objs p v e=>?_
 unfold qB_ at e
 split at e
 ·rename_i s
  cases e
  refine ⟨rfl,fun hw ho hp=>?_⟩
  repeat'(intro t ht;first|(cases t<;>first|(cases ht;done)|(try simp only[zh_]at ht;try(exfalso;first|contradiction|omega)))|((first|refine za_ ht ?_|refine ht ?_ ?_|refine ht.1 ?_ ?_|refine ht ?_)<;>clear ht))
  all_goals first
   | exact True.intro
   | exact ⟨rfl,rfl⟩
   | exact rfl
 ·cases e
def KX_:IR:=
(sq (kr [0,1] [oD 4 (.mov cF)])
(sq (kr [0,1] [oM 5 0,
oM 6 1,
oC 7 124 [5,6],
oB 8 .geq 7 (cI 0),
oM 4 8])
.ret))
def KS_:List RD:=[.tmp 4 true none]
theorem KU_:zo_ Tryz.prog Tryz.f102 KX_ KS_=true:=by kernel_rfl
def ZL_:List AV->List Obj->Option (Prop × AV)
 | [.str s,.fn 101 [] []],[]=>some ((True,.bool (!(s.all (okc 33)))))
 | _,_=>none
theorem Kw_:zf_ Tryz.prog 102 (RoF ZL_).sum:=by
 refine zw_ Tryz.func102 KU_ (zb_ (s:=RoF qB_) jX_ (zg_ _)) fun args objs p v e=>?_
 unfold ZL_ at e
 split at e
 ·rename_i s
  cases e
  refine ⟨rfl,fun hw ho hp=>?_⟩
  have h:=UE_ (lo:=33) s 0 (by omega)
  have h2:decide (0<=x6_ 33 s 0)=!(s.all (okc 33)):=by
   cases hk:s.all (okc 33) with
   | true=>exact decide_eq_false (fun h'=>by rw [h.1 h'] at hk;cases hk)
   | false=>exact decide_eq_true (h.2 hk)
  repeat'(intro t ht;first|(cases t<;>first|(cases ht;done)|(try simp only[zh_]at ht;try(exfalso;first|contradiction|omega)))|((first|refine za_ ht ?_|refine ht ?_ ?_|refine ht.1 ?_ ?_|refine ht ?_)<;>clear ht))
  all_goals first
   | exact True.intro
   | exact ⟨congrArg AV.bool h2,rfl⟩
 ·cases e
def jd_ (b:List Int) (c:Int):Nat->Nat
 | 0=>0
 | k+1=>if b.getD k 0=c then jd_ b c k else k+1
def Q7_ (b:List Int) (c:Int):List Int:=b.take (jd_ b c b.length)
def q4_ (b:List Int) (c:Int):List Int:=b.dropWhile fun x=>decide (x=c)
theorem vL_ {b:List Int} {k j:Nat} (h:j < k):(b.take k).getD j 0=b.getD j 0:=by
 rw [List.getD_eq_getElem?_getD,List.getElem?_take,if_pos h,<- List.getD_eq_getElem?_getD]
def jG_:IR:=
(sq (kr [0,1] [oD 4 (.mov (.c (.imm (.int .u8) [])))])
(sq (.block 0
(.loop
(sq (sq (kr [0,1] [oM 5 0,
oE 6 5,
oB 7 .gtr 6 (cI 0),
oM 8 7,
oT 8 9 (.mov 0),
oT 8 10 (.mov 0),
oT 8 11 (.len 10),
oT 8 12 (.bin .sub 11 (cI 1)),
oT 8 13 (.indexSl 1 9 12),
oT 8 14 (.load none 13),
oT 8 15 (.mov 1),
oT 8 16 (.bin .eql 14 15),
oP 17 8 16 cF])
(.cond 17
.skip
(.exit 0)))
(.block 1
(kr [0,1] [oM 18 0,
oM 19 0,
oE 20 19,
oB 21 .sub 20 (cI 1),
oD 22 (.slice 1 18 none (some 21) none),
oM 0 22])))))
(sq (kr [0] [oM 23 0,
oM 4 23])
.ret)))
def jq_:List RD:=[.tmp 4 true (some (.int .u8))]
theorem jv_:zo_ Tryz.prog Tryz.f111 jG_ jq_=true:=by kernel_rfl
def Z2_:List AV->List Obj->Option (Prop × AV)
 | [.imm (.int .u8) b,.int .u8 c],[]=>some ((b.length<=140737488355328,.imm (.int .u8) (Q7_ b c)))
 | _,_=>none
theorem KQ_:zf_ Tryz.prog 111 (RoF Z2_).sum:=by
 refine zw_ Tryz.func111 jv_ (zg_ _) fun args objs p v e=>?_
 unfold Z2_ at e
 split at e
 ·rename_i b c
  cases e
  refine ⟨rfl,fun hw ho hp=>?_⟩
  change List Int at b
  repeat'(intro t ht;first|(cases t<;>first|(cases ht;done)|(try simp only[zh_]at ht))|((first|refine za_ ht ?_|refine ht ?_ ?_|refine ht.1 ?_ ?_|refine ht ?_)<;>clear ht))
  all_goals first
   | (intro r h1 h2;clear h1;refine h2 ⟨[0,1],Nat,(fun k=>k<=b.length/\jd_ b c b.length=jd_ b c k),fun k=>[.imm (.int .u8) (b.take k),.int .u8 c],fun _=>[],fun k=>k,⟨b.length,⟨Nat.le_refl _,rfl⟩,by simp only [List.take_length],rfl⟩,?_⟩;clear h2)
  rintro k ⟨hk,he⟩
  have hl:(b.take k).length=k:=by rw [List.length_take];omega
  repeat'(intro t ht;first|(cases t<;>first|(cases ht;done)|(try simp only[zh_]at ht))|((first|refine za_ ht ?_|refine ht ?_ ?_|refine ht.1 ?_ ?_|refine ht ?_)<;>clear ht))
  all_goals first
   | ((try simp only [zH_,zJ_,zl_] at*);omega)
   | (have h0:k=0:=by omega
      refine ⟨?_,rfl⟩;unfold Q7_;rw [he,h0];rfl)
   | (obtain ⟨j,rfl⟩:∃ j,k=j+1:=⟨k - 1,by omega⟩
      have e:(((b.take (j+1)).length:Int) - 1).toNat=j:=by omega
      first
       | (have hx:¬ (b.take (j+1)).getD (((b.take (j+1)).length:Int) - 1).toNat 0=c:=by assumption
          rw [e,vL_ (Nat.lt_succ_self j)] at hx
          have h1:jd_ b c (j+1)=j+1:=if_neg hx
          refine ⟨?_,rfl⟩;unfold Q7_;rw [he,h1])
       | (have hx:(b.take (j+1)).getD (((b.take (j+1)).length:Int) - 1).toNat 0=c:=by assumption
          rw [e,vL_ (Nat.lt_succ_self j)] at hx
          have h1:jd_ b c (j+1)=jd_ b c j:=if_pos hx
          refine ⟨j,⟨by omega,by rw [he,h1]⟩,Nat.lt_succ_self j,?_,rfl⟩
          dsimp only;rw [e,List.take_take,Nat.min_eq_left (Nat.le_succ j)]))
 ·cases e
def Jt_:IR:=
(sq (kr [0,1] [oD 4 (.mov (.c (.imm (.int .u8) [])))])
(sq (.block 0
(.loop
(sq (sq (kr [0,1] [oM 5 0,
oE 6 5,
oB 7 .gtr 6 (cI 0),
oM 8 7,
oT 8 9 (.mov 0),
oT 8 10 (.indexSl 1 9 (cI 0)),
oT 8 11 (.load none 10),
oT 8 12 (.mov 1),
oT 8 13 (.bin .eql 11 12),
oP 14 8 13 cF])
(.cond 14
.skip
(.exit 0)))
(.block 1
(kr [0,1] [oM 15 0,
oD 16 (.slice 1 15 (some (cI 1)) none none),
oM 0 16])))))
(sq (sq (kr [0] [oM 17 0,
oE 18 17,
oB 19 .eql 18 (cI 0)])
(.cond 19
(sq (.reg [oD 4 (.mov (.c (.imm (.int .u8) [])))])
.ret)
.skip))
(sq (.reg [oM 20 0,
oM 4 20])
.ret))))
def j5_:List RD:=[.tmp 4 true (some (.int .u8))]
theorem Jh_:zo_ Tryz.prog Tryz.f110 Jt_ j5_=true:=by kernel_rfl
def qn_:List AV->List Obj->Option (Prop × AV)
 | [.imm (.int .u8) b,.int .u8 c],[]=>some ((b.length<=140737488355328,.imm (.int .u8) (q4_ b c)))
 | _,_=>none
theorem ji_:zf_ Tryz.prog 110 (RoF qn_).sum:=by
 refine zw_ Tryz.func110 Jh_ (zg_ _) fun args objs p v e=>?_
 unfold qn_ at e
 split at e
 ·rename_i b c
  cases e
  refine ⟨rfl,fun hw ho hp=>?_⟩
  change List Int at b
  repeat'(intro t ht;first|(cases t<;>first|(cases ht;done)|(try simp only[zh_]at ht))|((first|refine za_ ht ?_|refine ht ?_ ?_|refine ht.1 ?_ ?_|refine ht ?_)<;>clear ht))
  all_goals first
   | (intro r h1 h2;clear h1;refine h2 ⟨[0,1],Nat,(fun k=>k<=b.length/\q4_ b c=q4_ (b.drop k) c),fun k=>[.imm (.int .u8) (b.drop k),.int .u8 c],fun _=>[],fun k=>b.length - k,⟨0,⟨Nat.zero_le _,rfl⟩,rfl,rfl⟩,?_⟩;clear h2)
  rintro k ⟨hk,he⟩
  have hl:(b.drop k).length=b.length - k:=List.length_drop
  repeat'(intro t ht;first|(cases t<;>first|(cases ht;done)|(try simp only[zh_]at ht))|((first|refine za_ ht ?_|refine ht ?_ ?_|refine ht.1 ?_ ?_|refine ht ?_)<;>clear ht))
  all_goals first
   | ((try simp only [zH_,zJ_,zl_] at*);omega)
   | (exfalso;omega)
   | (have h0:b.drop k=[]:=List.eq_nil_of_length_eq_zero (by omega)
      refine ⟨?_,rfl⟩;rw [he,h0];rfl)
   | (have hlt:k < b.length:=by omega
      first
       | (have hx:¬ (b.drop k).getD 0 0=c:=by assumption
          rw [k5_] at hx
          have h1:q4_ (b.drop k) c=b.drop k:=by
           unfold q4_;rw [zC_ hlt 0,List.dropWhile_cons_of_neg (by simpa using hx)]
          refine ⟨?_,rfl⟩;rw [he,h1])
       | (have hx:(b.drop k).getD 0 0=c:=by assumption
          rw [k5_] at hx
          have h1:q4_ (b.drop k) c=q4_ (b.drop (k+1)) c:=by
           unfold q4_;rw [zC_ hlt 0,List.dropWhile_cons_of_pos (by simpa using hx)]
          refine ⟨k+1,⟨hlt,by rw [he,h1]⟩,by dsimp only;omega,?_,rfl⟩
          dsimp only;rw [<- List.drop_drop];rfl))
 ·cases e
theorem hQ_:∀ (b:List Int),decide ((q4_ (Q7_ b 0) 0).length=0)=zK_ b:=by
 intro b
 have hR:∀ k ≤ b.length,(b.take (jd_ b 0 k)).all (fun c=>decide (c=0))=(b.take k).all fun c=>decide (c=0):=by
  intro k
  induction k with
  | zero=>intro _;rfl
  | succ k ih=>
    intro hk
    unfold jd_
    split
    ·rename_i h
     rw [ih (by omega),List.take_succ_eq_append_getElem (by omega),List.all_append]
     have:b[k]=0:=by rw [List.getD_eq_getElem?_getD,List.getElem?_eq_getElem (by omega)] at h;exact h
     simp [this]
    ·rfl
 have hL:∀ l:List Int,decide ((l.dropWhile fun x=>decide (x=0)).length=0)=l.all fun c=>decide (c=0):=by
  intro l
  induction l with
  | nil=>rfl
  | cons a l ih=>
    by_cases h:a=0
    ·rw [List.dropWhile_cons_of_pos (by simpa using h),ih];simp [h]
    ·rw [List.dropWhile_cons_of_neg (by simpa using h)];simp [h]
 unfold q4_ Q7_ zK_
 rw [hL,hR _ (Nat.le_refl _),List.take_length]
def vC_:IR:=
(sq (kr [0,1] [oD 4 (.mov (.c (.imm (.int .u8) [])))])
(sq (sq (.reg [oM 7 0,
oE 8 7,
oB 9 .eql 8 (cI 0)])
(.cond 9
(sq (.reg [oD 4 (.mov (.c (.imm (.int .u8) [])))])
.ret)
.skip))
(sq (sq (.reg [oM 10 1,
oB 11 .eql 10 (.c (.str []))])
(.cond 11
(sq (kr [0] [oM 12 0,
oM 4 12])
.ret)
.skip))
(sq (sq (kr [0,1] [oM 13 1,
oD 14 (.slen 13),
oB 15 .eql 14 (cI 1),
oM 16 15,
oT 16 17 (.mov 1),
oT 16 18 (.sindex 17 (cI 0)),
oT 16 19 (.bin .lss 18 (.c (.int .u8 128))),
oP 20 16 19 cF])
(.cond 20
(sq (kd [0,1] [(oM 21 0,[]),
(oM 22 1,[0]),
(oD 23 (.sindex 22 (cI 0)),[1]),
(oC 24 111 [21,23],[]),
(oM 25 1,[0,0,0,0]),
(oD 26 (.sindex 25 (cI 0)),[1,0,0,0]),
(oC 27 110 [24,26],[]),
(oM 4 27,[])])
.ret)
.skip))
(sq (sq (kr [0,1] [oM 29 1,
oC 30 112 [29],
oM 28 30,
oX 31 28 0,
oX 32 28 1,
oD 5 (.box [.kb false,.kb false,.kb false,.kb false,.kb false,.kb false,.kb false,.kb false,.kb false,.kb false,.kb false,.kb false,.kb false,.kb false,.kb false,.kb false,.kb false,.kb false,.kb false,.kb false,.kb false,.kb false,.kb false,.kb false,.kb false,.kb false,.kb false,.kb false,.kb false,.kb false,.kb false,.kb false,.kb false,.kb false,.kb false,.kb false,.kb false,.kb false,.kb false,.kb false,.kb false,.kb false,.kb false,.kb false,.kb false,.kb false,.kb false,.kb false,.kb false,.kb false,.kb false,.kb false,.kb false,.kb false,.kb false,.kb false,.kb false,.kb false,.kb false,.kb false,.kb false,.kb false,.kb false,.kb false,.kb false,.kb false,.kb false,.kb false,.kb false,.kb false,.kb false,.kb false,.kb false,.kb false,.kb false,.kb false,.kb false,.kb false,.kb false,.kb false,.kb false,.kb false,.kb false,.kb false,.kb false,.kb false,.kb false,.kb false,.kb false,.kb false,.kb false,.kb false,.kb false,.kb false,.kb false,.kb false,.kb false,.kb false,.kb false,.kb false,.kb false,.kb false,.kb false,.kb false,.kb false,.kb false,.kb false,.kb false,.kb false,.kb false,.kb false,.kb false,.kb false,.kb false,.kb false,.kb false,.kb false,.kb false,.kb false,.kb false,.kb false,.kb false,.kb false,.kb false,.kb false,.kb false,.kb false,.kb false,.kb false,.kb false,.kb false,.kb false,.kb false,.kb false,.kb false,.kb false,.kb false,.kb false,.kb false,.kb false,.kb false,.kb false,.kb false,.kb false,.kb false,.kb false,.kb false,.kb false,.kb false,.kb false,.kb false,.kb false,.kb false,.kb false,.kb false,.kb false,.kb false,.kb false,.kb false,.kb false,.kb false,.kb false,.kb false,.kb false,.kb false,.kb false,.kb false,.kb false,.kb false,.kb false,.kb false,.kb false,.kb false,.kb false,.kb false,.kb false,.kb false,.kb false,.kb false,.kb false,.kb false,.kb false,.kb false,.kb false,.kb false,.kb false,.kb false,.kb false,.kb false,.kb false,.kb false,.kb false,.kb false,.kb false,.kb false,.kb false,.kb false,.kb false,.kb false,.kb false,.kb false,.kb false,.kb false,.kb false,.kb false,.kb false,.kb false,.kb false,.kb false,.kb false,.kb false,.kb false,.kb false,.kb false,.kb false,.kb false,.kb false,.kb false,.kb false,.kb false,.kb false,.kb false,.kb false,.kb false,.kb false,.kb false,.kb false,.kb false,.kb false,.kb false,.kb false,.kb false,.kb false,.kb false,.kb false,.kb false,.kb false,.kb false,.kb false,.kb false,.kb false,.kb false,.kb false,.kb false,.kb false,.kb false,.kb false,.kb false,.kb false,.kb false,.kb false,.kb false,.kb false,.kb false,.kb false,.kb false]),
oS 256 5 31,
oM 6 32])
(sq (kr [0,1,5,6] [oM 33 6])
(.cond 33
(sq (.reg [oM 34 0,
oC 35 114 [34,5],
oC 36 113 [35,5],
oM 4 36])
.ret)
.skip)))
(sq (kr [0,1] [oM 37 0,
oM 38 1,
oC 39 116 [37,38],
oM 40 1,
oC 41 115 [39,40],
oM 4 41])
.ret))))))
def vm_:List RD:=[.tmp 4 true (some (.int .u8))]
theorem vu_:zo_ Tryz.prog Tryz.f83 vC_ vm_=true:=by kernel_rfl
def jR_:List AV->List Obj->Option (Prop × AV)
 | [.imm (.int .u8) b,.str [0]],[]=>some ((b.length<=140737488355328,.imm (.int .u8) (q4_ (Q7_ b 0) 0)))
 | _,_=>none
theorem yU_:zf_ Tryz.prog 83 (RoF jR_).sum:=by
 refine zw_ Tryz.func83 vu_ (zb_ (s:=RoF Z2_) KQ_ (zb_ (s:=RoF qn_) ji_ (zg_ _))) fun args objs p v e=>?_
 unfold jR_ at e
 split at e
 ·rename_i b
  cases e
  refine ⟨rfl,fun hw ho hp=>?_⟩
  change List Int at b
  have hl:(Q7_ b 0).length<=b.length:=by unfold Q7_;rw [List.length_take];omega
  repeat'(intro t ht;first|(cases t<;>first|(cases ht;done)|(try simp only[zh_]at ht))|((first|refine za_ ht ?_|refine ht ?_ ?_|refine ht.1 ?_ ?_|refine ht ?_)<;>clear ht))
  all_goals first
   | exact hp
   | exact ⟨by decide,by decide⟩
   | exact Nat.le_trans hl hp
   | exact ⟨rfl,rfl⟩
   | (have hb:b=[]:=List.eq_nil_of_length_eq_zero (by omega)
      refine ⟨?_,rfl⟩;rw [hb];rfl)
 ·cases e
def ZY_ (c:Int):List Int->Int->Int
 | [],_=>-1
 | b :: l,i=>if b=c then i else ZY_ c l (i+1)
theorem Bs_ {b c:Int} (hb:0<=b/\b<=255) (hc:0<=c/\c<=255):(UInt8.ofNat b.toNat == c.toNat.toUInt8)=decide (b=c):=by
 rw [Bool.eq_iff_iff,beq_iff_eq,decide_eq_true_eq]
 constructor
 ·intro h
  have h2:=congrArg UInt8.toNat h
  rw [UInt8.toNat_ofNat',Nat.toUInt8,UInt8.toNat_ofNat',Nat.mod_eq_of_lt (by omega),Nat.mod_eq_of_lt (by omega)] at h2
  omega
 ·rintro rfl;rfl
theorem hv_ {c:Int} (hc:0<=c/\c<=255):∀ (xs:List Int) (i:Int),(∀ x ∈ xs,0<=x/\x<=255)->0<=i->
 (Go.Lib.indexByte (Go.Lib.bytesOf xs) c.toNat.toUInt8=-1/\ZY_ c xs i=-1)\/(0<=Go.Lib.indexByte (Go.Lib.bytesOf xs) c.toNat.toUInt8/\ZY_ c xs i=i+Go.Lib.indexByte (Go.Lib.bytesOf xs) c.toNat.toUInt8)
 | [],i,_,_=>.inl ⟨rfl,rfl⟩
 | b :: l,i,h,h0=>by
   have ih:=hv_ hc l (i+1) (fun x hx=>h x (List.mem_cons_of_mem _ hx)) (by omega)
   have e:=Bs_ (h b (List.mem_cons_self ..)) hc
   have e0:Go.Lib.bytesOf (b :: l)=UInt8.ofNat b.toNat :: Go.Lib.bytesOf l:=rfl
   rw [e0]
   unfold Go.Lib.indexByte ZY_
   rw [e]
   by_cases hbc:b=c
   ·rw [if_pos hbc,decide_eq_true hbc];simp
   ·rw [if_neg hbc,decide_eq_false hbc]
    simp only [Bool.false_eq_true,if_false]
    rcases ih with ⟨h1,h2⟩ | ⟨h1,h2⟩
    ·left;rw [h1,h2];exact ⟨rfl,rfl⟩
    ·right
     have:(Go.Lib.indexByte (Go.Lib.bytesOf l) c.toNat.toUInt8 == -1)=false:=by rw [beq_eq_false_iff_ne];omega
     rw [this,h2];simp only [Bool.false_eq_true,if_false];omega
theorem Hn_ {c:Int} (hc:0<=c/\c<=255) {xs:List Int} (h:∀ x ∈ xs,0<=x/\x<=255):Go.Lib.indexByte (Go.Lib.bytesOf xs) c.toNat.toUInt8=ZY_ c xs 0:=by
 rcases hv_ hc xs 0 h (Int.le_refl _) with ⟨h1,h2⟩ | ⟨h1,h2⟩<;>rw [h2]<;>omega
theorem yD_ {c:Int}:∀ (xs:List Int) (i:Int),0<=i->-1<=ZY_ c xs i/\ZY_ c xs i < i+xs.length\/ZY_ c xs i=-1
 | [],i,_=>.inr rfl
 | b :: l,i,h=>by
   unfold ZY_
   split
   ·left;simp only [List.length_cons];omega
   ·rcases yD_ (c:=c) l (i+1) (by omega) with h1 | h1
    ·left;simp only [List.length_cons];omega
    ·exact .inr h1
theorem zav_ {P:Program} {w:World} {ao:Option Addr} {n c:Nat} {xs:List Int} (cv:Int) (hl:(Extern.Bytes.bytesOf (.slice ao n c)).run P w=.ok ⟨(Go.Lib.bytesOf xs).toArray⟩ w):
 (Extern.BytealgIndexByte.indexByte #[.slice ao n c,.int .u8 cv]).run P w=.ok (.int .i64 (Go.Lib.indexByte (Go.Lib.bytesOf xs) cv.toNat.toUInt8)) w:=by
 have hs:=Go.Lib.run_indexByteString (P:=P) ⟨(Go.Lib.bytesOf xs).toArray⟩ cv w
 change Sem.run P (do
  let b <- Extern.Bytes.bytesOf (.slice ao n c)
  let c <- Extern.Bytes.asByte (.int .u8 cv)
  match (List.range b.size).find? fun i=>b[i]! == c with
  | some i=>pure (goInt i)
  | none=>pure (goInt (-1))) w=_
 change Sem.run P (do
  let b <- Extern.Bytes.bytesOf (.string ⟨(Go.Lib.bytesOf xs).toArray⟩)
  let c <- Extern.Bytes.asByte (.int .u8 cv)
  match (List.range b.size).find? fun i=>b[i]! == c with
  | some i=>pure (goInt i)
  | none=>pure (goInt (-1))) w=_ at hs
 rw [Sem.run_bind,hl]
 exact hs
theorem bS_ {P:Program} {I:Nat->Prop} {w:World} {ao:Option Addr} {n c:Nat} {xs:List Int} (h:RS I w (.int .u8) xs ao n c):
 (Extern.Bytes.bytesOf (.slice ao n c)).run P w=.ok ⟨(Go.Lib.bytesOf xs).toArray⟩ w:=by
 obtain ⟨h1,h2,h3,h4⟩:=h
 change List Int at xs
 cases ao with
 | none=>
   have:xs=[]:=by
    cases xs with
    | nil=>rfl
    | cons a l=>obtain ⟨b,o,e,_⟩:=h4 (by rw [h1];simp);cases e
   subst this;rfl
 | some a=>
   have hl:=Go.Lib.run_loadBytesX (P:=P) w xs a .empty (fun j x hj=>by
    have hjl:j < xs.length:=(List.getElem?_eq_some_iff.1 hj).1
    obtain ⟨b,o,e,_,h5⟩:=h4 (by omega)
    cases e
    obtain ⟨es,h6,h7⟩:=h5 j hjl
    simp only [RC] at h6
    obtain ⟨rfl,_⟩:=h6
    have h8:=h7 0 (by simp)
    have e:(⟨b,o,none⟩:Addr).add j=⟨b,o+j*(Ty.int .u8).size+0,none⟩:=by
     show _=(⟨b,o+j*1+0,none⟩:Addr)
     unfold Addr.add;split<;>simp_all
    rw [e,h8]
    have:xs[j]?=some xs[j]:=List.getElem?_eq_getElem hjl
    rw [this] at hj;cases hj;rfl)
   show (Extern.Bytes.loadBytes a n .empty).run P w=_
   rw [h1,hl]
   have he:(ByteArray.empty.data++(Go.Lib.bytesOf xs).toArray)=(Go.Lib.bytesOf xs).toArray:=by
    show (#[]:Array UInt8)++_=_
    simp
   rw [he]
def Qw_:List AV->List Obj->Option (Prop × AV)
 | [.imm (.int .u8) s,.int .u8 c],[]=>some (True,.int .i64 (ZY_ c s 0))
 | _,_=>none
theorem wY_ {I:Nat->Prop} {xs:List Int} {ao:Option Addr} {n cap:Nat} {c:Int} {w:World} (h:RS I w (.int .u8) xs ao n cap):
 Calls Tryz.prog 130 #[.slice ao n cap,.int .u8 c] w fun e w'=>e=.returned (.int .i64 (Go.Lib.indexByte (Go.Lib.bytesOf xs) c.toNat.toUInt8))/\w'=w:=by
 have hr:=zav_ (P:=Tryz.prog) c (bS_ h)
 go_enter Tryz.func130,Tryz.ntmps130
 go_wp2
 rw [run_callFunc_extern Tryz.func141 (by kernel_rfl) (by kernel_rfl) (by kernel_rfl) (e:=Extern.BytealgIndexByte.indexByte) (by kernel_rfl),hr]
 simp only [Result.andThen]
 rw [Oper.upon_value]
 go_wp2
 go_ret
 exact ⟨rfl,rfl⟩
theorem wT_:zf_ Tryz.prog 130 (RoF Qw_).sum:=by
 refine ⟨⟨_,Tryz.func130,by kernel_rfl,by kernel_rfl⟩,H6_ _,fun {I w m args cargs objs K} hH hA hu hS=>?_⟩
 simp only [RoF,SumK.sum] at hS
 split at hS
 ·rename_i p v e
  obtain ⟨hp,hk⟩:=zk_ hS
  have hwf:=yJ_ hA
  unfold Qw_ at e
  split at e
  ·rename_i s c
   cases e
   obtain ⟨l⟩:=cargs
   match l,hA with
   | [a,b],hA=>
     obtain ⟨h1,h2,_⟩:=hA
     obtain ⟨ao,n,cap,rfl,hs⟩:∃ ao len cap,a=.slice ao len cap/\RS I w (.int .u8) s ao len cap:=h1
     obtain ⟨rfl,hc⟩:b=.int .u8 c/\inK .u8 c:=h2
     have hb:∀ x ∈ (s:List Int),(0:Int)<=x/\x<=255:=fun x hx=>(hwf (.imm (.int .u8) s) (by simp)).1 x hx
     have hsl:List.length (α:=Int) s<=maxLen:=(hwf (.imm (.int .u8) s) (by simp)).2
     refine (wY_ hs).mono ?_
     rintro e w' ⟨rfl,rfl⟩
     rw [Hn_ hc hb]
     have hle:=yD_ (c:=c) s 0 (Int.le_refl _)
     unfold maxLen at hsl
     exact ⟨_,_,_,I,m,rfl,hk,⟨⟨rfl,by unfold inK;rw [zao_,zap_];change List Int at s;omega⟩,hH,Evo.refl _ _ _,hu,Nat.le_refl _,Fr.refl _ _,fun b h=>.inl h,fun i o b h1 h2 h3=>.inr ⟨i,o,h1,h2,fun h=>h,h3⟩⟩⟩
  ·cases e
 ·exact hS.elim
def Yq_:IR:=
(sq (kr [0,1] [oD 4 (.mov (cI 0))])
(sq (.reg [oM 20 1,
oE 21 20,
oM 5 21])
(sq (.block 0
(sq (.reg [oM 23 5,
oB 24 .eql 23 (cI 0),
oM 22 24])
(.cond 22
(sq (kr [] [oD 4 (.mov (cI 0))])
.ret)
(sq (kr [0,1,5] [oM 26 5,
oB 27 .eql 26 (cI 1),
oM 25 27])
(.cond 25
(sq (kr [0,1] [oM 28 0,
oM 29 1,
oD 30 (.indexSl 1 29 (cI 0)),
oL 31 30,
oC 32 130 [28,31],
oM 4 32])
.ret)
(sq (kr [0,1,5] [oM 34 5,
oM 35 0,
oE 36 35,
oB 37 .eql 34 36,
oM 33 37])
(.cond 33
(sq (sq (.reg [oM 38 1,
oM 39 0,
oC 40 79 [38,39]])
(.cond 40
(sq (kr [] [oD 4 (.mov (cI 0))])
.ret)
.skip))
(sq (kr [] [oD 4 (.mov (cI (-1)))])
.ret))
(sq (kr [0,1,5] [oM 42 5,
oM 43 0,
oE 44 43,
oB 45 .gtr 42 44,
oM 41 45])
(.cond 41
(sq (.reg [oD 4 (.mov (cI (-1)))])
.ret)
(sq (.reg [oM 47 5,
oD 48 (.bad),
oB 49 .leq 47 48,
oM 46 49])
(.cond 46
(sq (sq (kr [0,1,5] [oM 50 0,
oE 51 50,
oB 52 .leq 51 (cI 64)])
(.cond 52
(sq (.reg [oM 53 0,
oM 54 1,
oC 55 131 [53,54],
oM 4 55])
.ret)
.skip))
(sq (kr [0,1,5] [oM 56 1,
oD 57 (.indexSl 1 56 (cI 0)),
oL 58 57,
oM 6 58])
(sq (.reg [oM 59 1,
oD 60 (.indexSl 1 59 (cI 1)),
oL 61 60,
oM 7 61])
(sq (kr [0,1,5,6,7] [oD 8 (.mov (cI 0))])
(sq (kr [0,1,5,6,7,8] [oM 62 0,
oE 63 62,
oM 64 5,
oB 65 .sub 63 64,
oB 66 .add 65 (cI 1),
oM 9 66])
(sq (.reg [oD 10 (.mov (cI 0))])
(sq (.block 1
(.loop
(sq (sq (kr [0,1,5,6,7,8,9,10] [oM 67 8,
oM 68 9,
oB 69 .lss 67 68])
(.cond 69
.skip
(.exit 1)))
(.block 2
(sq (sq (kr [0,1,5,6,7,8,9,10] [oM 70 0,
oM 71 8,
oI 72 1 70 71,
oL 73 72,
oM 74 6,
oB 75 .neq 73 74])
(.cond 75
(sq (kr [0,1,5,6,7,8,9,10] [oM 76 0,
oM 77 8,
oB 78 .add 77 (cI 1),
oM 79 9,
oD 80 (.slice 1 76 (some 78) (some 79) none),
oM 81 6,
oC 82 130 [80,81],
oM 11 82])
(sq (sq (kr [0,1,5,6,7,8,9,10,11] [oM 83 11,
oB 84 .lss 83 (cI 0)])
(.cond 84
(sq (.reg [oD 4 (.mov (cI (-1)))])
.ret)
.skip))
(kr [0,1,5,6,7,8,9,10,11] [oM 85 8,
oM 86 11,
oB 87 .add 86 (cI 1),
oB 88 .add 85 87,
oM 8 88])))
.skip))
(sq (sq (kr [0,1,5,6,7,8,9,10] [oM 89 0,
oM 90 8,
oB 91 .add 90 (cI 1),
oI 92 1 89 91,
oL 93 92,
oM 94 7,
oB 95 .eql 93 94,
oM 96 95,
oT 96 97 (.mov 0),
oT 96 98 (.mov 8),
oT 96 99 (.mov 8),
oT 96 100 (.mov 5),
oT 96 101 (.bin .add 99 100),
oT 96 102 (.slice 1 97 (some 98) (some 101) none),
oT 96 103 (.mov 1),
oT 96 104 (.call false (.f 79) [102,103]),
oP 105 96 104 cF])
(.cond 105
(sq (kr [8] [oM 106 8,
oM 4 106])
.ret)
.skip))
(sq (kr [0,1,5,6,7,8,9,10] [oM 107 10,
oB 108 .add 107 (cI 1),
oM 10 108])
(sq (.reg [oM 109 8,
oB 110 .add 109 (cI 1),
oM 8 110])
(sq (.reg [oM 111 10,
oM 112 8,
oC 113 132 [112],
oB 114 .gtr 111 113])
(.cond 114
(sq (kr [0,1,8] [oM 115 0,
oM 116 8,
oD 117 (.slice 1 115 (some 116) none none),
oM 118 1,
oC 119 131 [117,118],
oM 12 119])
(sq (sq (.reg [oM 120 12,
oB 121 .geq 120 (cI 0)])
(.cond 121
(sq (kr [8,12] [oM 122 12,
oM 123 8,
oB 124 .add 122 123,
oM 4 124])
.ret)
.skip))
(sq (kr [] [oD 4 (.mov (cI (-1)))])
.ret)))
.skip))))))))))
(sq (kr [] [oD 4 (.mov (cI (-1)))])
.ret))))))))
.skip)))))))))))
(sq (kr [0,1,5] [oM 125 1,
oD 126 (.indexSl 1 125 (cI 0)),
oL 127 126,
oM 13 127])
(sq (.reg [oM 128 1,
oD 129 (.indexSl 1 128 (cI 1)),
oL 130 129,
oM 14 130])
(sq (kr [0,1,5,13,14] [oD 15 (.mov (cI 0))])
(sq (.reg [oD 16 (.mov (cI 0))])
(sq (kr [0,1,5,13,14,15,16] [oM 131 0,
oE 132 131,
oM 133 5,
oB 134 .sub 132 133,
oB 135 .add 134 (cI 1),
oM 17 135])
(sq (.block 3
(.loop
(sq (sq (kr [0,1,5,13,14,15,16,17] [oM 136 15,
oM 137 17,
oB 138 .lss 136 137])
(.cond 138
.skip
(.exit 3)))
(.block 4
(sq (sq (kr [0,1,5,13,14,15,16,17] [oM 139 0,
oM 140 15,
oI 141 1 139 140,
oL 142 141,
oM 143 13,
oB 144 .neq 142 143])
(.cond 144
(sq (kr [0,1,5,13,14,15,16,17] [oM 145 0,
oM 146 15,
oB 147 .add 146 (cI 1),
oM 148 17,
oD 149 (.slice 1 145 (some 147) (some 148) none),
oM 150 13,
oC 151 130 [149,150],
oM 18 151])
(sq (sq (kr [0,1,5,13,14,15,16,17,18] [oM 152 18,
oB 153 .lss 152 (cI 0)])
(.cond 153
(.exit 3)
.skip))
(kr [0,1,5,13,14,15,16,17,18] [oM 154 15,
oM 155 18,
oB 156 .add 155 (cI 1),
oB 157 .add 154 156,
oM 15 157])))
.skip))
(sq (sq (kr [0,1,5,13,14,15,16,17] [oM 158 0,
oM 159 15,
oB 160 .add 159 (cI 1),
oI 161 1 158 160,
oL 162 161,
oM 163 14,
oB 164 .eql 162 163,
oM 165 164,
oT 165 166 (.mov 0),
oT 165 167 (.mov 15),
oT 165 168 (.mov 15),
oT 165 169 (.mov 5),
oT 165 170 (.bin .add 168 169),
oT 165 171 (.slice 1 166 (some 167) (some 170) none),
oT 165 172 (.mov 1),
oT 165 173 (.call false (.f 79) [171,172]),
oP 174 165 173 cF])
(.cond 174
(sq (kr [15] [oM 175 15,
oM 4 175])
.ret)
.skip))
(sq (kr [0,1,5,13,14,15,16,17] [oM 176 15,
oB 177 .add 176 (cI 1),
oM 15 177])
(sq (.reg [oM 178 16,
oB 179 .add 178 (cI 1),
oM 16 179])
(sq (kr [0,1,5,13,14,15,16,17] [oM 180 16,
oM 181 15,
oB 182 .shr 181 (.c (.int .u64 4)),
oB 183 .add (cI 4) 182,
oB 184 .geq 180 183,
oM 185 184,
oT 185 186 (.mov 15),
oT 185 187 (.mov 17),
oT 185 188 (.bin .lss 186 187),
oP 189 185 188 cF])
(.cond 189
(sq (kr [0,1,15] [oM 190 0,
oM 191 15,
oD 192 (.slice 1 190 (some 191) none none),
oM 193 1,
oC 194 133 [192,193],
oM 19 194])
(sq (sq (.reg [oM 195 19,
oB 196 .lss 195 (cI 0)])
(.cond 196
(sq (kr [] [oD 4 (.mov (cI (-1)))])
.ret)
.skip))
(sq (kr [15,19] [oM 197 15,
oM 198 19,
oB 199 .add 197 198,
oM 4 199])
.ret)))
.skip))))))))))
(sq (kr [] [oD 4 (.mov (cI (-1)))])
.ret))))))))))
def y2_:List RD:=[.tmp 4 true none]
theorem Ye_:zo_ Tryz.prog Tryz.f109 Yq_ y2_=true:=by kernel_rfl
def KI_:List AV->List Obj->Option (Prop × AV)
 | [.imm (.int .u8) s,.imm (.int .u8) t],[]=>some ((t.length=1,.int .i64 (ZY_ (t.getD 0 0) s 0)))
 | _,_=>none
theorem X4_:zf_ Tryz.prog 109 (RoF KI_).sum:=by
 refine zw_ Tryz.func109 Ye_ (zb_ (s:=RoF Qw_) wT_ (zg_ _)) fun args objs p v e=>?_
 unfold KI_ at e
 split at e
 ·rename_i s t
  cases e
  refine ⟨rfl,fun hw ho hp=>?_⟩
  change List Int at s
  change List Int at t
  have hi:((0:Int)).toNat=0:=rfl
  repeat'(intro t ht;first|(cases t<;>first|(cases ht;done)|(try simp only[zh_]at ht;try(exfalso;first|contradiction|omega)))|((first|refine za_ ht ?_|refine ht ?_ ?_|refine ht.1 ?_ ?_|refine ht ?_)<;>clear ht))
  all_goals first
   | exact True.intro
   | exact ⟨rfl,rfl⟩
   | ((try simp only [zH_,zJ_,zl_] at*);omega)
 ·cases e
def ctB (s:List Int) (c:Int):List Int:=if 0<=ZY_ c s 0 then s.take (ZY_ c s 0).toNat else s
def ctR (s:List Int) (c:Int):List Int:=if 0<=ZY_ c s 0 then s.drop (ZY_ c s 0+1).toNat else []
def ctK (s:List Int) (c:Int):Bool:=decide (0<=ZY_ c s 0)
def uz_:IR:=
(sq (kr [0,1] [oD 4 (.mov (.c (.imm (.int .u8) []))),
oD 5 (.mov (.c (.imm (.int .u8) []))),
oD 6 (.mov cF)])
(sq (sq (.reg [oM 8 0,
oM 9 1,
oC 10 109 [8,9],
oM 7 10])
(sq (kr [0,1,7] [oM 11 7,
oB 12 .geq 11 (cI 0)])
(.cond 12
(sq (kd [0,1,7] [(oM 13 0,[]),
(oM 14 7,[0]),
(oD 15 (.slice 1 13 none (some 14) none),[]),
(oM 16 0,[0,0,0]),
(oM 17 7,[0,0,0,0]),
(oM 18 1,[0,0,0,0,0]),
(oE 19 18,[1,0,0,0,0]),
(oB 20 .add 17 19,[3,0,0,0]),
(oD 21 (.slice 1 16 (some 20) none none),[5,0,0]),
(oM 4 15,[0,0,0,0,0,0]),
(oM 5 21,[]),
(oD 6 (.mov cT),[])])
.ret)
.skip)))
(sq (kr [0] [oM 22 0,
oM 4 22,
oD 5 (.mov (.c (.imm (.int .u8) []))),
oD 6 (.mov cF)])
.ret)))
def V1_:List RD:=[.tmp 4 true (some (.int .u8)),.tmp 5 true (some (.int .u8)),.tmp 6 true none]
theorem ug_:zo_ Tryz.prog Tryz.f82 uz_ V1_=true:=by kernel_rfl
def wt_:List AV->List Obj->Option (Prop × AV)
 | [.imm (.int .u8) s,.imm (.int .u8) t],[]=>some ((t.length=1,.tup [.imm (.int .u8) (ctB s (t.getD 0 0)),.imm (.int .u8) (ctR s (t.getD 0 0)),.bool (ctK s (t.getD 0 0))]))
 | _,_=>none
theorem vf_:zf_ Tryz.prog 82 (RoF wt_).sum:=by
 refine zw_ Tryz.func82 ug_ (zb_ (s:=RoF KI_) X4_ (zg_ _)) fun args objs p v e=>?_
 unfold wt_ at e
 split at e
 ·rename_i s t
  cases e
  refine ⟨rfl,fun hw ho hp=>?_⟩
  change List Int at s
  change List Int at t
  have hl:s.length<=maxLen:=(hw (.imm (.int .u8) s) (by simp)).2
  unfold maxLen at hl
  clear hw ho
  have h:=yD_ (c:=t.getD 0 0) s 0 (Int.le_refl _)
  repeat'(intro t ht;first|(cases t<;>first|(cases ht;done)|(try simp only[zh_]at ht;try(exfalso;first|contradiction|omega)))|((first|refine za_ ht ?_|refine ht ?_ ?_|refine ht.1 ?_ ?_|refine ht ?_)<;>clear ht))
  all_goals first
   | exact True.intro
   | exact hp
   | ((try simp only [zH_,zJ_,zl_] at*);omega)
   | (refine ⟨?_,rfl⟩;unfold ctB ctR ctK;rw [if_pos (by assumption),if_pos (by assumption),decide_eq_true (by assumption),hp];rfl)
   | (refine ⟨?_,rfl⟩;unfold ctB ctR ctK;rw [if_neg (by assumption),if_neg (by assumption),decide_eq_false (by assumption)];done)
 ·cases e
end Go.Eng
