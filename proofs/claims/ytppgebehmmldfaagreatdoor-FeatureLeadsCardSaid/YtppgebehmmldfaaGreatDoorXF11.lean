/- Parts of the proof: R4, R7, P1, T1, P2, P3. No condition. -/
import Derived.Test.YtppgebehmmldfaaGreatDoorProg
import Derived.Test.YtppgebehmmldfaaGreatDoorXF10
import Derived.KernelRfl
import Derived.Lib.BytesEntry
import Derived.Lib.Walk
import Derived.Laws.Externs
import Derived.Lib.Strings
import Derived.Lib.Slices
namespace Go.Eng
open Go.Proofs
set_option linter.unusedVariables false
set_option linter.unusedSimpArgs false
set_option maxRecDepth 100000
set_option maxHeartbeats 1000000
def KO_:List Int->List Int->List Int->Option (List Int)
 | [],_,b=>some b
 | n :: r,xs,b=>if n < 0 then KO_ r xs (b++zq_ 0 (0 - n)) else match xs with
   | []=>none
   | x :: ys=>if n < 8/\x.fdiv (2 ^ (min (8*n).toNat 64)) ≠ 0 then none else KO_ r ys (b++zq_ x n)
def KN_ (w xs:List Int):Option (List Int):=if zL_ w=true/\Z4_ w=xs.length then KO_ w xs [] else none
def Kr_ (w xs:List Int):List Int:=(KN_ w xs).getD []
def Kq_ (w xs:List Int):Bool:=(KN_ w xs).isSome
theorem v8_ {w:List Int} (i:Nat):∀ k,k7_ ZQ_ w i<=k7_ ZQ_ w (i+k)
 | 0=>Int.le_refl _
 | k+1=>by
   have ih:=v8_ (w:=w) i k
   by_cases h:i+k < w.length
   ·rw [show i+(k+1)=(i+k)+1 by omega,Zs_ ZQ_ h]
    have:0<=ZQ_ (w.getD (i+k) 0):=by unfold ZQ_;split<;>omega
    omega
   ·rw [k6_ ZQ_ (show w.length<=i+(k+1) by omega)]
    rwa [k6_ ZQ_ (show w.length<=i+k by omega)] at ih
theorem hQ_ {w:List Int} {i:Nat} (h:i < w.length) (hp:0 < w.getD i 0):k7_ ZQ_ w i+1<=(w.map ZQ_).sum:=by
 have h1:=v8_ (w:=w) (i+1) w.length
 rw [Zs_ ZQ_ h,k6_ ZQ_ (show w.length<=i+1+w.length by omega)] at h1
 have:ZQ_ (w.getD i 0)=1:=if_pos hp
 omega
theorem UY_ {w xs b:List Int} {i k:Nat} (h:i < w.length) (hn:w.getD i 0 < 0):KO_ (w.drop i) (xs.drop k) b=KO_ (w.drop (i+1)) (xs.drop k) (b++zq_ 0 (0 - w.getD i 0)):=by
 rw [zK_ h 0];exact if_pos hn
theorem Vj_ {w xs b:List Int} {i k:Nat} (h:i < w.length) (hn:¬ w.getD i 0 < 0) (h2:k < xs.length) (h8:w.getD i 0 < 8) (hx:¬ (xs.getD k 0).fdiv (2 ^ (min (8*w.getD i 0).toNat 64))=0):KO_ (w.drop i) (xs.drop k) b=none:=by
 rw [zK_ h 0,zK_ h2 0]
 show (if w.getD i 0 < 0 then _ else _)=_
 rw [if_neg hn]
 exact if_pos ⟨h8,hx⟩
theorem Vi_ {w xs b:List Int} {i k:Nat} (h:i < w.length) (hn:¬ w.getD i 0 < 0) (h2:k < xs.length) (h8:¬ (w.getD i 0 < 8/\(xs.getD k 0).fdiv (2 ^ (min (8*w.getD i 0).toNat 64)) ≠ 0)):KO_ (w.drop i) (xs.drop k) b=KO_ (w.drop (i+1)) (xs.drop (k+1)) (b++zq_ (xs.getD k 0) (w.getD i 0)):=by
 rw [zK_ h 0,zK_ h2 0]
 show (if w.getD i 0 < 0 then _ else _)=_
 rw [if_neg hn]
 exact if_neg h8
theorem Kb_ {α:Type} {l:List α} {k:Nat} {d:α}:(l.drop k).getD 0 d=l.getD k d:=by
 rw [List.getD_eq_getElem?_getD,List.getElem?_drop,Nat.add_zero,<- List.getD_eq_getElem?_getD]
def hc_:IR:=
(sq (kr [0,1] [oD 4 (.mov (.c (.imm (.int .u8) []))),
oD 5 (.mov cF)])
(sq (sq (kr [0,1] [oM 10 0,
oC 11 125 [10],
oD 12 (.un .not 11),
oM 13 12,
oF 13 14 (.mov 0),
oF 13 15 (.call false (.f 126) [14]),
oF 13 16 (.mov 1),
oF 13 17 (.len 16),
oF 13 18 (.bin .neq 15 17),
oP 19 13 cT 18])
(.cond 19
(sq (kr [] [oD 4 (.mov (.c (.imm (.int .u8) []))),
oD 5 (.mov cF)])
.ret)
.skip))
(sq (kr [0,1] [oM 20 0,
oC 21 108 [20],
oD 22 (.mkrow (.int .u8) 1 (0:Int) (cI 0) 21),
oM 6 22])
(sq (sq (.reg [oM 23 0,
oE 24 23,
oD 25 (.mov (cI 0))])
(.block 0
(.loop
(sq (kr [1,6,23,24,25] [oB 26 .lss 25 24])
(sq (.cond 26
.skip
(.exit 0))
(sq (.block 1
(sq (.reg [oI 27 1 23 25,
oL 28 27,
oM 8 28])
(sq (sq (.reg [oM 29 8,
oB 30 .lss 29 (cI 0)])
(.cond 30
(sq (kr [1,6,8,23,24,25] [oM 31 6,
oM 32 8,
oD 33 (.un .neg 32),
oD 34 (.call true (.f 127) [31,(.c (.int .u64 0)),33]),
oM 6 34])
(.exit 1))
.skip))
(sq (kr [1,6,8,23,24,25] [oM 35 1,
oD 36 (.indexSl 1 35 (cI 0)),
oL 37 36,
oM 9 37])
(sq (sq (kr [1,6,8,9,23,24,25] [oM 38 8,
oB 39 .lss 38 (cI 8),
oM 40 39,
oT 40 41 (.mov 9),
oT 40 42 (.mov 8),
oT 40 43 (.bin .mul (cI 8) 42),
oT 40 44 (.bin .shr 41 43),
oT 40 45 (.bin .neq 44 (.c (.int .u64 0))),
oP 46 40 45 cF])
(.cond 46
(sq (kr [] [oD 4 (.mov (.c (.imm (.int .u8) []))),
oD 5 (.mov cF)])
.ret)
.skip))
(kd [1,6,8,9,23,24,25] [(oM 47 6,[]),
(oM 48 9,[0]),
(oM 49 8,[0,0]),
(oD 50 (.call true (.f 127) [47,48,49]),[]),
(oM 51 1,[0,0,0,0]),
(oD 52 (.slice 1 51 (some (cI 1)) none none),[1,0,0,0]),
(oM 6 50,[0,0]),
(oM 1 52,[])]))))))
(kr [1,6,23,24,25] [oB 53 .add 25 (cI 1),
oM 25 53])))))))
(sq (kr [6] [oM 54 6,
oM 4 54,
oD 5 (.mov cT)])
.ret)))))
def Gy_:List RD:=[.tmp 4 true (some (.int .u8)),.tmp 5 true none]
theorem GL_:zo_ Tryz.prog Tryz.f103 hc_ Gy_=true:=by kernel_rfl
def XR_:List AV->List Obj->Option (Prop × AV)
 | [.imm (.int .i64) w,.imm (.int .u64) xs],[]=>some ((True,.tup [.imm (.int .u8) (Kr_ w xs),.bool (Kq_ w xs)]))
 | _,_=>none
theorem UH_:ze_ Tryz.prog 103 (RoF XR_).sum:=by
 refine zs_ Tryz.func103 GL_ (za_ (s:=RoF qm_) qJ_ (za_ (s:=RoF wD_) vu_ (za_ (s:=RoF Ki_) jp_ (za_ (s:=RwF XQ_) UG_ (zd_ _))))) fun args objs p v e=>?_
 unfold XR_ at e
 split at e
 ·rename_i w xs
  cases e
  refine ⟨rfl,fun hw ho hp=>?_⟩
  change List Int at w
  change List Int at xs
  have hx:xs.length<=maxLen:=(hw (.imm (.int .u64) xs) (by simp)).2
  unfold maxLen at hx
  have hz:=JU_ w
  repeat'(intro t ht;first|(cases t<;>first|(cases ht;done)|(try simp only[zg_]at ht))|((first|refine zb_ ht ?_|refine ht ?_ ?_|refine ht.1 ?_ ?_|refine ht ?_)<;>clear ht))
  all_goals first
   | exact True.intro
   | (intro r h1 h2;clear h1;refine h2 ⟨[1,6,23,24,25],Nat × Nat × List Int,(fun a=>a.1<=w.length/\(a.2.2.length:Int)=k7_ zD_ w a.1/\k7_ ZQ_ w a.1=a.2.1/\KO_ w xs []=KO_ (w.drop a.1) (xs.drop a.2.1) a.2.2),fun a=>[.imm (.int .u64) (xs.drop a.2.1),.own 0,.imm (.int .i64) w,.int .i64 w.length,.int .i64 a.1],fun a=>[.row false (.int .u8) a.2.2],fun a=>w.length - a.1,⟨(0,0,[]),⟨Nat.zero_le _,rfl,rfl,rfl⟩,rfl,rfl⟩,?_⟩;clear h2)
   | ((try simp only [zF_,zG_,zk_] at*);omega)
   | (have hn:¬ (zL_ w=true/\Z4_ w=xs.length):=fun h=>by simp_all
      refine ⟨?_,rfl⟩;unfold Kr_ Kq_ KN_;rw [if_neg hn];rfl)
  rintro ⟨i,k,b⟩ ⟨hi,hb,hk,he⟩
  dsimp only at hi hb hk he
  have hr:zL_ w=true:=by assumption
  have hc:Z4_ w=xs.length:=by assumption
  have hsum:(w.map ZQ_).sum=xs.length:=by unfold Z4_ at hc;rwa [if_pos hr] at hc
  have hl:=(Zf_.1 hr).1
  have hs:=W8_ hr i
  have h1:=W7_ hr i
  repeat'(intro t ht;first|(cases t<;>first|(cases ht;done)|(try simp only[zg_]at ht))|((first|refine zb_ ht ?_|refine ht ?_ ?_|refine ht.1 ?_ ?_|refine ht ?_)<;>clear ht))
  all_goals first
   | ((try simp only [zF_,zG_,zk_] at*);omega)
   | (have hge:w.length<=i:=by omega
      rw [List.drop_of_length_le hge] at he
      have hf:KN_ w xs=some b:=by unfold KN_;rw [if_pos ⟨hr,hc⟩,he];rfl
      refine ⟨?_,rfl⟩;unfold Kr_ Kq_;rw [hf];rfl)
   | skip
  all_goals have hlt:i < w.length:=by omega
  all_goals have hkk:=(Zf_.1 hr).2 _ (zn_ (α:=Int) hlt 0)
  all_goals first
   | ((try simp only [zF_,zG_,zk_] at*);rw [List.length_drop];omega)
   | ((try simp only [zF_,zG_,zk_] at*);omega)
   | (have hn:w.getD i 0 < 0:=by assumption
      have ha:=xP_ hn
      have h0:ZQ_ (w.getD i 0)=0:=if_neg (by omega)
      have hbl:=Zd_ (n:=0) (w:=0 - w.getD i 0) (by omega)
      refine ⟨(i+1,k,b++zq_ 0 (0 - w.getD i 0)),⟨hlt,?_,?_,?_⟩,by dsimp only;omega,rfl,rfl⟩
      ·rw [Zs_ zD_ hlt,ha];simp only [List.length_append];omega
      ·rw [Zs_ ZQ_ hlt,h0];dsimp only;omega
      ·rw [he];exact UY_ hlt hn)
   | (have hn:¬ w.getD i 0 < 0:=by assumption
      have hlt2:=hQ_ (w:=w) (i:=i) hlt (by omega)
      have h2:k < xs.length:=by omega
      first
       | ((try simp only [zF_,zG_,zk_] at*);rw [List.length_drop];omega)
       | (have h8:w.getD i 0 < 8:=by assumption
          have hx:¬ ((xs.drop k).getD 0 0).fdiv (2 ^ (min (8*w.getD i 0).toNat 64))=0:=by assumption
          rw [Kb_] at hx
          have hf:KN_ w xs=none:=by unfold KN_;rw [if_pos ⟨hr,hc⟩,he];exact Vj_ hlt hn h2 h8 hx
          refine ⟨?_,rfl⟩;unfold Kr_ Kq_;rw [hf];rfl)
       | (have h8:¬ (w.getD i 0 < 8/\(xs.getD k 0).fdiv (2 ^ (min (8*w.getD i 0).toNat 64)) ≠ 0):=fun h=>by
           first
            | (exact absurd h.1 (by assumption))
            | (have hx:((xs.drop k).getD 0 0).fdiv (2 ^ (min (8*w.getD i 0).toNat 64))=0:=by assumption
               rw [Kb_] at hx
               exact h.2 hx)
          have ha:=y0_ hn
          have h0:ZQ_ (w.getD i 0)=1:=if_pos (by omega)
          have hbl:=Zd_ (n:=xs.getD k 0) (w:=w.getD i 0) (by omega)
          refine ⟨(i+1,k+1,b++zq_ (xs.getD k 0) (w.getD i 0)),⟨hlt,?_,?_,?_⟩,by dsimp only;omega,?_,?_⟩
          ·rw [Zs_ zD_ hlt,ha];simp only [List.length_append];omega
          ·rw [Zs_ ZQ_ hlt,h0];dsimp only;omega
          ·rw [he];exact Vi_ hlt hn h2 h8
          ·dsimp only;rw [<- List.drop_drop];rfl
          ·dsimp only;rw [<- Kb_ (l:=xs) (k:=k)];rfl))
 ·cases e
def kA_:List Int->List Int->List Int->List Int × Int
 | [],_,o=>(o,0)
 | n :: r,b,o=>if (b.length:Int) < zD_ n then ([],1) else if 0 < n then kA_ r (b.drop (zD_ n).toNat) (o++[Zy_ (b.take (zD_ n).toNat)]) else if qg_ (b.take (zD_ n).toNat)=true then kA_ r (b.drop (zD_ n).toNat) o else ([],2)
def QH_ (w b:List Int):List Int × Int:=if zL_ w=true then kA_ w b [] else ([],2)
def Wj_ (w b:List Int):List Int:=(QH_ w b).1
def QY_ (w b:List Int):Int:=(QH_ w b).2
theorem YV_ {w b o:List Int} {i:Nat} (h:i < w.length) (h1:(b.length:Int) < zD_ (w.getD i 0)):kA_ (w.drop i) b o=([],1):=by
 rw [zK_ h 0];exact if_pos h1
theorem gJ_ {w b o:List Int} {i:Nat} (h:i < w.length) (h1:¬ (b.length:Int) < zD_ (w.getD i 0)) (h2:0 < w.getD i 0):kA_ (w.drop i) b o=kA_ (w.drop (i+1)) (b.drop (zD_ (w.getD i 0)).toNat) (o++[Zy_ (b.take (zD_ (w.getD i 0)).toNat)]):=by
 rw [zK_ h 0]
 show (if (b.length:Int) < zD_ (w.getD i 0) then _ else _)=_
 rw [if_neg h1];exact if_pos h2
theorem Vx_ {w b o:List Int} {i:Nat} (h:i < w.length) (h1:¬ (b.length:Int) < zD_ (w.getD i 0)) (h2:¬ 0 < w.getD i 0) (h3:qg_ (b.take (zD_ (w.getD i 0)).toNat)=true):kA_ (w.drop i) b o=kA_ (w.drop (i+1)) (b.drop (zD_ (w.getD i 0)).toNat) o:=by
 rw [zK_ h 0]
 show (if (b.length:Int) < zD_ (w.getD i 0) then _ else _)=_
 rw [if_neg h1]
 show (if 0 < w.getD i 0 then _ else _)=_
 rw [if_neg h2];exact if_pos h3
theorem gI_ {w b o:List Int} {i:Nat} (h:i < w.length) (h1:¬ (b.length:Int) < zD_ (w.getD i 0)) (h2:¬ 0 < w.getD i 0) (h3:qg_ (b.take (zD_ (w.getD i 0)).toNat)=false):kA_ (w.drop i) b o=([],2):=by
 rw [zK_ h 0]
 show (if (b.length:Int) < zD_ (w.getD i 0) then _ else _)=_
 rw [if_neg h1]
 show (if 0 < w.getD i 0 then _ else _)=_
 rw [if_neg h2];exact if_neg (by rw [h3];simp)
def hd_:IR:=
(sq (kr [0,1] [oD 4 (.nilrow (.int .u64)),
oD 5 (.mov (cI 0))])
(sq (sq (.reg [oM 10 0,
oC 11 125 [10],
oD 12 (.un .not 11)])
(.cond 12
(sq (.reg [oD 4 (.nilrow (.int .u64)),
oD 5 (.mov (cI 2))])
.ret)
.skip))
(sq (kr [0,1] [oD 6 (.nilrow (.int .u64))])
(sq (sq (.reg [oM 13 0,
oE 14 13,
oD 15 (.mov (cI 0))])
(.block 0
(.loop
(sq (kr [1,6,13,14,15] [oB 16 .lss 15 14])
(sq (.cond 16
.skip
(.exit 0))
(sq (.block 1
(sq (.reg [oI 17 1 13 15,
oL 18 17,
oM 8 18])
(sq (kr [1,6,8,13,14,15] [oM 19 8,
oM 20 8,
oD 21 (.un .neg 20),
oD 22 (.minmax true 19 21),
oM 9 22])
(sq (.block 2
(sq (kr [1,6,8,9,13,14,15] [oM 24 1,
oE 25 24,
oM 26 9,
oB 27 .lss 25 26,
oM 23 27])
(.cond 23
(sq (.reg [oD 4 (.nilrow (.int .u64)),
oD 5 (.mov (cI 1))])
.ret)
(sq (.reg [oM 29 8,
oB 30 .gtr 29 (cI 0),
oM 28 30])
(.cond 28
(kr [1,6,9,13,14,15] [oM 31 6,
oM 32 1,
oM 33 9,
oD 34 (.slice 1 32 none (some 33) none),
oC 35 128 [34],
oD 36 (.sliceAll (.int .u64) 1 [(0,1,35)]),
oD 37 (.append (.int .u64) 8 31 36),
oM 6 37])
(sq (kr [1,6,9,13,14,15] [oM 39 1,
oM 40 9,
oD 41 (.slice 1 39 none (some 40) none),
oC 42 129 [41],
oD 43 (.un .not 42),
oM 38 43])
(.cond 38
(sq (kr [] [oD 4 (.nilrow (.int .u64)),
oD 5 (.mov (cI 2))])
.ret)
.skip)))))))
(kr [1,6,9,13,14,15] [oM 44 1,
oM 45 9,
oD 46 (.slice 1 44 (some 45) none none),
oM 1 46])))))
(kr [1,6,13,14,15] [oB 47 .add 15 (cI 1),
oM 15 47])))))))
(sq (kr [6] [oM 48 6,
oM 4 48,
oD 5 (.mov (cI 0))])
.ret)))))
def Gz_:List RD:=[.tmp 4 true (some (.int .u64)),.tmp 5 true none]
theorem GM_:zo_ Tryz.prog Tryz.f107 hd_ Gz_=true:=by kernel_rfl
def XS_:List AV->List Obj->Option (Prop × AV)
 | [.imm (.int .i64) w,.imm (.int .u8) b],[]=>some ((True,.tup [.imm (.int .u64) (Wj_ w b),.int .i64 (QY_ w b)]))
 | _,_=>none
theorem UI_:ze_ Tryz.prog 107 (RoF XS_).sum:=by
 refine zs_ Tryz.func107 GM_ (za_ (s:=RoF qm_) qJ_ (za_ (s:=RoF kY_) JP_ (za_ (s:=RoF jY_) xa_ (zd_ _)))) fun args objs p v e=>?_
 unfold XS_ at e
 split at e
 ·rename_i w b
  cases e
  refine ⟨rfl,fun hw ho hp=>?_⟩
  change List Int at w
  change List Int at b
  have hb:b.length<=maxLen:=(hw (.imm (.int .u8) b) (by simp)).2
  unfold maxLen at hb
  repeat'(intro t ht;first|(cases t<;>first|(cases ht;done)|(try simp only[zg_]at ht))|((first|refine zb_ ht ?_|refine ht ?_ ?_|refine ht.1 ?_ ?_|refine ht ?_)<;>clear ht))
  all_goals first
   | exact True.intro
   | (intro r h1 h2;clear h1;refine h2 ⟨[1,6,13,14,15],Nat × List Int × List Int,(fun a=>a.1<=w.length/\a.2.1.length<=b.length/\a.2.2.length<=a.1/\kA_ w b []=kA_ (w.drop a.1) a.2.1 a.2.2),fun a=>[.imm (.int .u8) a.2.1,.own 0,.imm (.int .i64) w,.int .i64 w.length,.int .i64 a.1],fun a=>[.row false (.int .u64) a.2.2],fun a=>w.length - a.1,⟨(0,b,[]),⟨Nat.zero_le _,Nat.le_refl _,Nat.zero_le _,rfl⟩,rfl,rfl⟩,?_⟩;clear h2)
   | (have hr:zL_ w=false:=by assumption
      have hf:QH_ w b=([],2):=by unfold QH_;rw [hr];rfl
      refine ⟨?_,rfl⟩;unfold Wj_ QY_;rw [hf])
  rintro ⟨i,c,o⟩ ⟨hi,hc,ho,he⟩
  dsimp only at hi hc ho he
  have hr:zL_ w=true:=by assumption
  have hl:=(Zf_.1 hr).1
  repeat'(intro t ht;first|(cases t<;>first|(cases ht;done)|(try simp only[zg_]at ht))|((first|refine zb_ ht ?_|refine ht ?_ ?_|refine ht.1 ?_ ?_|refine ht ?_)<;>clear ht))
  all_goals first
   | ((try simp only [zF_,zG_,zk_] at*);omega)
   | (have hge:w.length<=i:=by omega
      rw [List.drop_of_length_le hge] at he
      have hf:QH_ w b=(o,0):=by unfold QH_;rw [if_pos hr,he];rfl
      refine ⟨?_,rfl⟩;unfold Wj_ QY_;rw [hf];done)
   | skip
  all_goals have hlt:i < w.length:=by omega
  all_goals have hkk:=(Zf_.1 hr).2 _ (zn_ (α:=Int) hlt 0)
  all_goals have ha:=xQ_ (n:=w.getD i 0)
  all_goals have hA:(if 0 - w.getD i 0 > w.getD i 0 then 0 - w.getD i 0 else w.getD i 0)=zD_ (w.getD i 0):=rfl
  all_goals first
   | exact True.intro
   | ((try simp only [zF_,zG_,zk_] at*);omega)
   | (have h1:(c.length:Int) < zD_ (w.getD i 0):=by assumption
      have hf:QH_ w b=([],1):=by unfold QH_;rw [if_pos hr,he];exact YV_ hlt h1
      refine ⟨?_,rfl⟩;unfold Wj_ QY_;rw [hf];done)
   | (have h1:¬ (c.length:Int) < zD_ (w.getD i 0):=by assumption
      first
       | (have h2:¬ 0 < w.getD i 0:=by assumption
          first
           | (have h3:qg_ (c.take (zD_ (w.getD i 0)).toNat)=true:=by assumption
              refine ⟨(i+1,c.drop (zD_ (w.getD i 0)).toNat,o),⟨hlt,?_,by dsimp only;omega,?_⟩,by dsimp only;omega,rfl,rfl⟩
              ·dsimp only;rw [List.length_drop];omega
              ·rw [he];exact Vx_ hlt h1 h2 h3)
           | (have h3:qg_ (c.take (zD_ (w.getD i 0)).toNat)=false:=by assumption
              have hf:QH_ w b=([],2):=by unfold QH_;rw [if_pos hr,he];exact gI_ hlt h1 h2 h3
              refine ⟨?_,rfl⟩;unfold Wj_ QY_;rw [hf];done))
       | (have h2:0 < w.getD i 0:=by assumption
          first
           | (show (c.take (zD_ (w.getD i 0)).toNat).length<=8;rw [List.length_take];omega)
           | (simp only [Ke_,List.length_append,List.length_cons,List.length_nil];omega)
           | (refine ⟨(i+1,c.drop (zD_ (w.getD i 0)).toNat,o++[Zy_ (c.take (zD_ (w.getD i 0)).toNat)]),⟨hlt,?_,?_,?_⟩,by dsimp only;omega,rfl,rfl⟩
              ·dsimp only;rw [List.length_drop];omega
              ·simp only [List.length_append,List.length_cons,List.length_nil];omega
              ·rw [he];exact gJ_ hlt h1 h2)))
 ·cases e
theorem bF_ {α:Type} {a b:List α} {d:α} {i:Nat} (h:a.take i=b.take i) (hi:i < a.length) (hl:a.length=b.length) (e:a.getD i d=b.getD i d):a.take (i+1)=b.take (i+1):=by
 have hb:i < b.length:=by omega
 rw [List.getD_eq_getElem?_getD,List.getD_eq_getElem?_getD,List.getElem?_eq_getElem hi,List.getElem?_eq_getElem hb] at e
 rw [List.take_succ_eq_append_getElem hi,List.take_succ_eq_append_getElem hb,h,show a[i]=b[i] from e]
theorem zb3_ {α:Type} {a b:List α} {i:Nat} (h:a.take i=b.take i) (hi:a.length<=i) (hl:a.length=b.length):a=b:=by
 rwa [List.take_of_length_le hi,List.take_of_length_le (by omega)] at h
theorem tkNe {α:Type} {a b:List α} {d:α} {i:Nat} (e:¬ a.getD i d=b.getD i d):a ≠ b:=fun h=>e (by rw [h])
def u7_:IR:=
(sq (kr [0,1] [oD 4 (.mov cF)])
(sq (sq (kr [0,1] [oM 6 0,
oE 7 6,
oM 8 1,
oE 9 8,
oB 10 .neq 7 9])
(.cond 10
(sq (.reg [oD 4 (.mov cF)])
.ret)
.skip))
(sq (sq (kr [0,1] [oD 5 (.mov (cI 0))])
(.block 0
(.loop
(sq (sq (kr [0,1,5] [oM 11 5,
oM 12 0,
oE 13 12,
oB 14 .lss 11 13])
(.cond 14
.skip
(.exit 0)))
(sq (.block 1
(sq (kd [0,1,5] [(oM 17 0,[]),
(oM 18 5,[0]),
(oI 19 1 17 18,[]),
(oL 20 19,[]),
(oM 21 1,[0,0,0,0]),
(oM 22 5,[0,0,0,0,0]),
(oI 23 1 21 22,[2,0,0,0]),
(oL 24 23,[3,0,0,0]),
(oB 25 .neq 20 24,[])])
(.cond 25
(sq (kr [] [oD 4 (.mov cF)])
.ret)
.skip)))
(kr [0,1,5] [oM 15 5,
oB 16 .add 15 (cI 1),
oM 5 16]))))))
(sq (kr [] [oD 4 (.mov cT)])
.ret))))
def um_:List RD:=[.tmp 4 true none]
theorem uF_:zo_ Tryz.prog Tryz.f25 u7_ um_=true:=by kernel_rfl
def KH_:List AV->List Obj->Option (Prop × AV)
 | [.imm (.int .u8) a,.imm (.int .u8) b],[]=>some ((True,.bool (decide (a=b))))
 | _,_=>none
theorem Wn_:ze_ Tryz.prog 25 (RoF KH_).sum:=by
 refine zs_ Tryz.func25 uF_ (zd_ _) fun args objs p v e=>?_
 unfold KH_ at e
 split at e
 ·rename_i a b
  cases e
  refine ⟨rfl,fun hw ho hp=>?_⟩
  change List Int at a
  change List Int at b
  have hl:a.length<=maxLen:=(hw (.imm (.int .u8) a) (by simp)).2
  unfold maxLen at hl
  repeat'(intro t ht;first|(cases t<;>first|(cases ht;done)|(try simp only[zg_]at ht))|((first|refine zb_ ht ?_|refine ht ?_ ?_|refine ht.1 ?_ ?_|refine ht ?_)<;>clear ht))
  all_goals first
   | (have hne:a ≠ b:=fun h=>(by assumption:¬ (a.length:Int)=b.length) (by rw [h])
      refine ⟨?_,rfl⟩;rw [decide_eq_false hne];done)
   | (intro r h1 h2;clear h1;refine h2 ⟨[0,1,5],Nat,(fun i=>i<=a.length/\a.take i=b.take i),fun i=>[.imm (.int .u8) a,.imm (.int .u8) b,.int .i64 i],fun _=>[],fun i=>a.length - i,⟨0,⟨Nat.zero_le _,rfl⟩,rfl,rfl⟩,?_⟩;clear h2)
  rintro i ⟨hi,he⟩
  have hl2:a.length=b.length:=by omega
  repeat'(intro t ht;first|(cases t<;>first|(cases ht;done)|(try simp only[zg_]at ht))|((first|refine zb_ ht ?_|refine ht ?_ ?_|refine ht.1 ?_ ?_|refine ht ?_)<;>clear ht))
  all_goals first
   | ((try simp only [zF_,zG_,zk_] at*);omega)
   | (have hge:a.length<=i:=by omega
      have e:=zb3_ he hge hl2
      refine ⟨?_,rfl⟩;rw [decide_eq_true e];done)
   | (have hne:a ≠ b:=tkNe (d:=0) (i:=i) (by assumption)
      refine ⟨?_,rfl⟩;rw [decide_eq_false hne];done)
   | (have hlt:i < a.length:=by omega
      exact ⟨i+1,⟨hlt,bF_ he hlt hl2 (d:=0) (by assumption)⟩,by (try simp only [zF_,zG_,zk_] at*);omega,rfl,rfl⟩)
 ·cases e
def uK_ (n w:Int) (i:Nat):List Int:=List.replicate (w.toNat - i) 0++(zq_ n w).drop (w.toNat - i)
theorem HW_ {n w:Int}:uK_ n w 0=List.replicate w.toNat 0:=by
 unfold uK_ zq_;rw [List.drop_of_length_le (by rw [Kg_];omega)];simp
theorem Bb_ {n w:Int} {i:Nat} (h:i<=w.toNat):(uK_ n w i).length=w.toNat:=by
 unfold uK_ zq_;rw [List.length_append,List.length_replicate,List.length_drop,Kg_];omega
theorem g4_ {n w:Int} {j:Nat} (h:j < w.toNat):(zq_ n w).getD j 0=Q3_ n w j:=by
 unfold zq_ Q2_
 rw [List.getD_eq_getElem?_getD,List.getElem?_map,List.getElem?_range h];rfl
theorem HX_ {n w:Int} {i:Nat} (h:i < w.toNat):(uK_ n w i).set (w.toNat - 1 - i) (Q3_ n w (w.toNat - 1 - i:Nat))=uK_ n w (i+1):=by
 have h1:w.toNat - i=(w.toNat - (i+1))+1:=by omega
 have hbl:(zq_ n w).length=w.toNat:=by unfold zq_;rw [Kg_]
 unfold uK_
 rw [h1,List.replicate_succ',List.append_assoc,List.set_append_right _ _ (by rw [List.length_replicate];omega),List.length_replicate,show w.toNat - 1 - i - (w.toNat - (i+1))=0 by omega]
 rw [zK_ (l:=zq_ n w) (i:=w.toNat - (i+1)) (by omega) 0,g4_ (by omega),show w.toNat - (i+1)=w.toNat - 1 - i by omega]
 rfl
def hh_:IR:=
(sq (kr [0,1] [oD 4 (.mov (.c (.imm (.int .u8) [])))])
(sq (.reg [oM 7 1,
oD 8 (.mkrow (.int .u8) 1 (0:Int) 7 7),
oM 5 8])
(sq (sq (.reg [oD 6 (.mov (cI 0))])
(.block 0
(.loop
(sq (sq (kr [0,1,5,6] [oM 9 6,
oM 10 1,
oB 11 .lss 9 10])
(.cond 11
.skip
(.exit 0)))
(sq (.block 1
(kr [0,1,5,6] [oM 14 5,
oM 15 1,
oB 16 .sub 15 (cI 1),
oM 17 6,
oB 18 .sub 16 17,
oM 19 0,
oM 20 6,
oB 21 .mul (cI 8) 20,
oB 22 .shr 19 21,
oD 23 (.conv .u8 22),
oI 24 1 14 18,
oS 1 24 23]))
(kr [0,1,5,6] [oM 12 6,
oB 13 .add 12 (cI 1),
oM 6 13]))))))
(sq (kr [5] [oM 25 5,
oM 4 25])
.ret))))
def GD_:List RD:=[.tmp 4 false none]
theorem GQ_:zo_ Tryz.prog Tryz.f104 hh_ GD_=true:=by kernel_rfl
def ji_:List AV->List Obj->Option (Prop × AV × List Obj)
 | [.int .u64 n,.int .i64 w],[]=>some ((0<=w/\w<=100,.own 0,[.row false (.int .u8) (zq_ n w)]))
 | _,_=>none
theorem JR_:ze_ Tryz.prog 104 (RwF ji_).sum:=by
 refine ZJ_ Tryz.func104 GQ_ (zd_ _) fun args objs p v o e=>?_
 unfold ji_ at e
 split at e
 ·rename_i n w
  cases e
  refine ⟨rfl,fun hw ho hp=>?_⟩
  repeat'(intro t ht;first|(cases t<;>first|(cases ht;done)|(try simp only[zg_]at ht))|((first|refine zb_ ht ?_|refine ht ?_ ?_|refine ht.1 ?_ ?_|refine ht ?_)<;>clear ht))
  all_goals first
   | ((try simp only [zF_,zG_,zk_] at*);omega)
   | (intro r h1 h2;clear h1;refine h2 ⟨[0,1,5,6],Nat,(fun i=>(i:Int)<=w),fun i=>[.int .u64 n,.int .i64 w,.own 0,.int .i64 i],fun i=>[.row false (.int .u8) (uK_ n w i)],fun i=>w.toNat - i,⟨0,hp.1,rfl,by simp only [HW_]⟩,?_⟩;clear h2)
  intro i hi
  repeat'(intro t ht;first|(cases t<;>first|(cases ht;done)|(try simp only[zg_]at ht))|((first|refine zb_ ht ?_|refine ht ?_ ?_)<;>clear ht)|(refine ht.1 (by simp only[zk_];omega) ?_;clear ht)|(refine ht.2 ?_;clear ht)|(refine ht ?_;clear ht))
  all_goals first
   | omega
   | (simp only [Bb_ (show i<=w.toNat by omega)];omega)
   | (have e:w.toNat - i=0:=by omega
      refine ⟨rfl,?_⟩;unfold uK_;rw [e];rfl)
   | (have hlt:i < w.toNat:=by omega
      refine ⟨i+1,by dsimp only;omega,by dsimp only;omega,rfl,?_⟩
      dsimp only
      rw [<- HX_ hlt]
      have e1:(w - 1 - (i:Int)).toNat=w.toNat - 1 - i:=by omega
      have e2:Q3_ n w ((w.toNat - 1 - i:Nat):Int)=IntKind.u8.wrap (n.fdiv (2 ^ min (8*(i:Int)).toNat IntKind.u64.bits)):=by
       rw [wQ_];unfold Q3_
       rw [show w - 1 - ((w.toNat - 1 - i:Nat):Int)=i by omega];rfl
      rw [e1,e2])
 ·cases e
def u4_:IR:=
(sq (kr [0] [oD 2 (.mov cF)])
(sq (sq (.reg [oD 3 (.mov (cI 0))])
(.block 0
(.loop
(sq (sq (kr [0,3] [oM 4 3,
oM 5 0,
oE 6 5,
oB 7 .lss 4 6])
(.cond 7
.skip
(.exit 0)))
(sq (.block 1
(sq (kr [0,3] [oM 10 0,
oM 11 3,
oI 12 1 10 11,
oL 13 12,
oB 14 .eql 13 (cI 0),
oM 15 14,
oF 15 16 (.mov 0),
oF 15 17 (.mov 3),
oF 15 18 (.indexSl 1 16 17),
oF 15 19 (.load none 18),
oF 15 20 (.bin .gtr 19 (cI 8)),
oP 21 15 cT 20,
oM 22 21,
oF 22 23 (.mov 0),
oF 22 24 (.mov 3),
oF 22 25 (.indexSl 1 23 24),
oF 22 26 (.load none 25),
oF 22 27 (.bin .lss 26 (cI (-64))),
oP 28 22 cT 27])
(.cond 28
(sq (kr [] [oD 2 (.mov cF)])
.ret)
.skip)))
(kr [0,3] [oM 8 3,
oB 9 .add 8 (cI 1),
oM 3 9]))))))
(sq (kr [0] [oM 29 0,
oE 30 29,
oB 31 .leq 30 (cI 64),
oM 2 31])
.ret)))
def uj_:List RD:=[.tmp 2 true none]
theorem uC_:zo_ Tryz.prog Tryz.f57 u4_ uj_=true:=by kernel_rfl
def KG_:List AV->List Obj->Option (Prop × AV)
 | [.imm (.int .i64) w],[]=>some ((True,.bool (zL_ w)))
 | _,_=>none
theorem Wm_:ze_ Tryz.prog 57 (RoF KG_).sum:=by
 refine zs_ Tryz.func57 uC_ (zd_ _) fun args objs p v e=>?_
 unfold KG_ at e
 split at e
 ·rename_i w
  cases e
  refine ⟨rfl,fun hw ho hp=>?_⟩
  change List Int at w
  have hl:w.length<=maxLen:=(hw (.imm (.int .i64) w) (by simp)).2
  unfold maxLen at hl
  repeat'(intro t ht;first|(cases t<;>first|(cases ht;done)|(try simp only[zg_]at ht))|((first|refine zb_ ht ?_|refine ht ?_ ?_|refine ht.1 ?_ ?_|refine ht ?_)<;>clear ht))
  all_goals (intro r h1 h2;clear h1;refine h2 ⟨[0,3],Nat,(fun i=>i<=w.length/\w.all okW=(w.drop i).all okW),fun i=>[.imm (.int .i64) w,.int .i64 i],fun _=>[],fun i=>w.length - i,⟨0,⟨Nat.zero_le _,rfl⟩,rfl,rfl⟩,?_⟩;clear h2)
  rintro i ⟨hi,he⟩
  repeat'(intro t ht;first|(cases t<;>first|(cases ht;done)|(try simp only[zg_]at ht))|((first|refine zb_ ht ?_|refine ht ?_ ?_|refine ht.1 ?_ ?_|refine ht ?_)<;>clear ht))
  all_goals first
   | ((try simp only [zF_,zG_,zk_] at*);omega)
   | (have hge:w.length<=i:=by omega
      rw [List.drop_of_length_le hge] at he
      refine ⟨?_,rfl⟩;unfold zL_;rw [he,List.all_nil,Bool.and_true]
      congr 2;exact propext (by omega))
   | (have hlt:i < w.length:=by omega
      rw [zK_ hlt 0,List.all_cons] at he
      first
       | (have hk:okW (w.getD i 0)=false:=zb8_.2 (by omega)
          refine ⟨?_,rfl⟩;unfold zL_;rw [he,hk];simp;done)
       | (have hk:okW (w.getD i 0)=true:=h3_.2 (by omega)
          rw [hk,Bool.true_and] at he
          exact ⟨i+1,⟨hlt,he⟩,by (try simp only [zF_,zG_,zk_] at*);omega,rfl,rfl⟩))
 ·cases e
def u6_:IR:=
(sq (kr [0] [oD 2 (.mov (cI 0))])
(sq (.reg [oD 3 (.mov (cI 0))])
(sq (sq (.reg [oD 4 (.mov (cI 0))])
(.block 0
(.loop
(sq (sq (kr [0,3,4] [oM 5 4,
oM 6 0,
oE 7 6,
oB 8 .lss 5 7,
oM 9 8,
oT 9 10 (.mov 0),
oT 9 11 (.call false (.f 57) [10]),
oP 12 9 11 cF])
(.cond 12
.skip
(.exit 0)))
(sq (.block 1
(sq (kr [0,3,4] [oM 15 0,
oM 16 4,
oI 17 1 15 16,
oL 18 17,
oB 19 .gtr 18 (cI 0)])
(.cond 19
(.reg [oM 20 3,
oB 21 .add 20 (cI 1),
oM 3 21])
.skip)))
(kr [0,3,4] [oM 13 4,
oB 14 .add 13 (cI 1),
oM 4 14]))))))
(sq (kr [3] [oM 22 3,
oM 2 22])
.ret))))
def ul_:List RD:=[.tmp 2 true none]
theorem uE_:zo_ Tryz.prog Tryz.f105 u6_ ul_=true:=by kernel_rfl
def wJ_:List AV->List Obj->Option (Prop × AV)
 | [.imm (.int .i64) w],[]=>some ((True,.int .i64 (Z4_ w)))
 | _,_=>none
theorem vA_:ze_ Tryz.prog 105 (RoF wJ_).sum:=by
 refine zs_ Tryz.func105 uE_ (za_ (s:=RoF KG_) Wm_ (zd_ _)) fun args objs p v e=>?_
 unfold wJ_ at e
 split at e
 ·rename_i w
  cases e
  refine ⟨rfl,fun hw ho hp=>?_⟩
  change List Int at w
  repeat'(intro t ht;first|(cases t<;>first|(cases ht;done)|(try simp only[zg_]at ht))|((first|refine zb_ ht ?_|refine ht ?_ ?_|refine ht.1 ?_ ?_|refine ht ?_)<;>clear ht))
  all_goals first
   | (intro r h1 h2;clear h1;refine h2 ⟨[0,3,4],Nat,(fun i=>i<=w.length/\(zL_ w=false->i=0)),fun i=>[.imm (.int .i64) w,.int .i64 (k7_ ZQ_ w i),.int .i64 i],fun _=>[],fun i=>w.length - i,⟨0,⟨Nat.zero_le _,fun _=>rfl⟩,rfl,rfl⟩,?_⟩;clear h2)
  rintro i ⟨hi,hz⟩
  repeat'(intro t ht;first|(cases t<;>first|(cases ht;done)|(try simp only[zg_]at ht))|((first|refine zb_ ht ?_|refine ht ?_ ?_|refine ht.1 ?_ ?_|refine ht ?_)<;>clear ht))
  all_goals first
   | exact True.intro
   | ((try simp only [zF_,zG_,zk_] at*);omega)
   | (have hge:w.length<=i:=by omega
      refine ⟨?_,rfl⟩;unfold Z4_;rw [k6_ ZQ_ hge]
      cases hr:zL_ w with
      | true=>rfl
      | false=>have h0:=hz hr;have:w=[]:=List.length_eq_zero_iff.1 (by omega);subst this;rfl)
   | (have hr:zL_ w=false:=by assumption
      have h0:=hz hr;subst h0
      refine ⟨?_,rfl⟩;unfold Z4_;rw [hr];rfl)
   | (have hr:zL_ w=true:=by assumption
      have hl:=(Zf_.1 hr).1
      have hlt:i < w.length:=by omega
      have hs:=W7_ hr i
      first
       | ((try simp only [zF_,zG_,zk_] at*);omega)
       | (refine ⟨i+1,⟨hlt,fun h=>by rw [hr] at h;cases h⟩,by (try simp only [zF_,zG_,zk_] at*);omega,?_,rfl⟩
          dsimp only
          rw [Zs_ ZQ_ hlt]
          first
           | (have e:ZQ_ (w.getD i 0)=1:=if_pos (by assumption)
              rw [e];rfl)
           | (have e:ZQ_ (w.getD i 0)=0:=if_neg (by assumption)
              rw [e,Int.add_zero];rfl)))
 ·cases e
theorem zaG_:∀ k:Nat,k<=7->∀ x:Int,0<=x->(x < (2 ^ (8*k):Nat) ↔ x.fdiv (2 ^ (8*k))=0)
 | k,_,x,hx=>by
   have hp:(0:Int) < 2 ^ (8*k):=Int.pow_pos (by decide)
   have e:((2 ^ (8*k):Nat):Int)=2 ^ (8*k):=by push_cast;rfl
   rw [e,Int.fdiv_eq_ediv_of_nonneg _ (Int.le_of_lt hp)]
   constructor
   ·intro h;exact Int.ediv_eq_zero_of_lt hx h
   ·intro h
    have:=Int.lt_ediv_add_one_mul_self x hp
    rw [h] at this;omega
def yb_ (x n:Int):Bool:=decide (n=8) || decide (x.fdiv (2 ^ (min (8*n).toNat 64))=0)
theorem zbx_ {x:Int} (hx:0<=x):∀ k:Nat,1<=k->k<=7->decide (x < 1*2 ^ min (8*(k:Int)).toNat IntKind.u64.bits)=yb_ x k
 | k,h1,h7=>by
   have e:min (8*(k:Int)).toNat IntKind.u64.bits=8*k:=by
    have:IntKind.u64.bits=64:=rfl
    rw [this];omega
   have e':min (8*(k:Int)).toNat 64=8*k:=by omega
   unfold yb_
   rw [e,e',decide_eq_false (show ¬ (k:Int)=8 by omega),Bool.false_or,Int.one_mul]
   rw [decide_eq_decide]
   have:=zaG_ k h7 x hx
   push_cast at this
   exact this
def gB_:IR:=
(sq (kr [0,1] [oD 4 (.mov cF)])
(sq (kr [0,1] [oM 5 1,
oB 6 .eql 5 (cI 8),
oM 7 6,
oF 7 8 (.mov 0),
oF 7 9 (.mov 1),
oF 7 10 (.bin .mul (cI 8) 9),
oF 7 11 (.bin .shl (.c (.int .u64 1)) 10),
oF 7 12 (.bin .lss 8 11),
oP 13 7 cT 12,
oM 4 13])
.ret))
def UV_:List RD:=[.tmp 4 true none]
theorem gc_:zo_ Tryz.prog Tryz.f106 gB_ UV_=true:=by kernel_rfl
def WZ_:List AV->List Obj->Option (Prop × AV)
 | [.int .u64 x,.int .i64 n],[]=>some ((1<=n/\n<=8,.bool (yb_ x n)))
 | _,_=>none
theorem V7_:ze_ Tryz.prog 106 (RoF WZ_).sum:=by
 refine zs_ Tryz.func106 gc_ (zd_ _) fun args objs p v e=>?_
 unfold WZ_ at e
 split at e
 ·rename_i x n
  cases e
  refine ⟨rfl,fun hw ho hp=>?_⟩
  have hx:IntKind.u64.min<=x/\x<=IntKind.u64.max:=hw (.int .u64 x) (by simp)
  have hx0:0<=x:=hx.1
  obtain ⟨h1,h8⟩:=hp
  obtain ⟨k,rfl⟩:=Int.eq_ofNat_of_zero_le (show 0<=n by omega)
  repeat'(intro t ht;first|(cases t<;>first|(cases ht;done)|(try simp only[zg_]at ht))|((first|refine zb_ ht ?_|refine ht ?_ ?_|refine ht.1 ?_ ?_|refine ht ?_)<;>clear ht))
  all_goals first
   | exact True.intro
   | ((try simp only [zF_,zG_,zk_] at*);omega)
   | (refine ⟨?_,rfl⟩;unfold yb_;rw [decide_eq_true (by assumption)];rfl)
   | (have hk:k=1\/k=2\/k=3\/k=4\/k=5\/k=6\/k=7:=by omega
      rcases hk with rfl | rfl | rfl | rfl | rfl | rfl | rfl<;>decide)
   | (refine ⟨?_,rfl⟩;rw [<- zbx_ hx0 k (by omega) (by omega)])
 ·cases e
theorem bc_ {x n:Int}:yb_ x n=false->n<=8->(n < 8/\x.fdiv (2 ^ (min (8*n).toNat 64)) ≠ 0):=fun h h8=>by
 unfold yb_ at h
 simp only [Bool.or_eq_false_iff,decide_eq_false_iff_not] at h
 exact ⟨by omega,h.2⟩
theorem BS_ {x n:Int}:yb_ x n=true->¬ (n < 8/\x.fdiv (2 ^ (min (8*n).toNat 64)) ≠ 0):=fun h k=>by
 unfold yb_ at h
 simp only [Bool.or_eq_true,decide_eq_true_eq] at h
 rcases h with h | h
 ·omega
 ·exact k.2 h
theorem g2_ (w:Int):List.replicate w.toNat 0=zq_ 0 w:=by
 have:∀ j:Nat,Q3_ 0 w j=0:=fun j=>by unfold Q3_;rw [Int.zero_fdiv];rfl
 unfold zq_ Q2_
 simp only [this,List.map_const',List.length_range]
abbrev P8:=Int × Int × Int × Int × Int × Int × Int × Int × Unit
abbrev PV:=Int × Int × List Int × P8 × Unit
instance:DecidableEq (Int × Int × Int × Int × Unit):=inferInstance
instance:DecidableEq P8:=inferInstance
instance:DecidableEq PV:=inferInstance
theorem vk_ {α:Type} {f:α->Bool} {l:List α} {i:Nat} {d:α} (h:i < l.length) (ht:(l.take i).all f=true) (hd:f (l.getD i d)=true):(l.take (i+1)).all f=true:=by
 rw [List.take_succ_eq_append_getElem h,List.all_append,ht,Bool.true_and,List.all_cons,List.all_nil,Bool.and_true]
 rwa [List.getD_eq_getElem?_getD,List.getElem?_eq_getElem h] at hd
theorem Uu_ {α:Type} {f:α->Bool} {l:List α} {i:Nat} (h:l.length<=i) (ht:(l.take i).all f=true):l.all f=true:=by
 rwa [List.take_of_length_le h] at ht
theorem Ut_ {α:Type} {f:α->Bool} {l:List α} {i:Nat} {d:α} (h:i < l.length) (hd:f (l.getD i d)=false):l.all f=false:=by
 rw [List.all_eq_false]
 refine ⟨l.getD i d,zn_ h d,?_⟩
 rw [hd];decide
def okc (lo c:Int):Bool:=decide (lo<=c) && decide (c<=126)
theorem zdn_ {lo c:Int}:okc lo c=true ↔ lo<=c/\c<=126:=by unfold okc;simp
theorem h2_ {lo c:Int}:okc lo c=false ↔ (c < lo\/126 < c):=by unfold okc;simp;omega
def Xp_ (lo:Int):List Int->Int->Int
 | [],_=>-1
 | c :: r,i=>if okc lo c=true then Xp_ lo r (i+1) else i
theorem za3_ {lo:Int} {s:List Int} {p:Nat} (h:p < s.length) (hk:okc lo (s.getD p 0)=true):Xp_ lo (s.drop p) p=Xp_ lo (s.drop (p+1)) ((p+1:Nat):Int):=by
 rw [zK_ h 0];exact if_pos hk
theorem za4_ {lo:Int} {s:List Int} {p:Nat} (h:p < s.length) (hk:okc lo (s.getD p 0)=false):Xp_ lo (s.drop p) p=p:=by
 rw [zK_ h 0];exact if_neg (by rw [hk];decide)
theorem b7_ {lo:Int} {s:List Int} {p:Nat} (h:s.length<=p):Xp_ lo (s.drop p) p=-1:=by
 rw [List.drop_of_length_le h];rfl
theorem ge_ {lo:Int}:∀ (s:List Int) (i:Int),0<=i->(0<=Xp_ lo s i ↔ s.all (okc lo)=false)
 | [],i,h=>by simp [Xp_]
 | c :: r,i,h=>by
   unfold Xp_
   cases hk:okc lo c with
   | true=>
     rw [if_pos rfl,ge_ r (i+1) (by omega),List.all_cons,hk,Bool.true_and]
   | false=>
     rw [if_neg (by decide),List.all_cons,hk,Bool.false_and]
     simp [h]
theorem bO_ {s:List Int} {p:Nat} (h:(s.getD p 0).toNat < 128):kJ_ s p=((s.getD p 0).toNat,1):=by
 unfold kJ_;simp only [Nat.add_zero];rw [if_pos (by omega)]
theorem bP_ {s:List Int} {p:Nat} (h:¬ (s.getD p 0).toNat < 128):128<=(kJ_ s p).1:=by
 unfold kJ_;simp only [Nat.add_zero];rw [if_neg (by omega)]
 have e:128<=Utf8.runeError:=by decide
 repeat' (first | split | assumption)
 all_goals (try simp only [Bool.and_eq_true,decide_eq_true_eq,beq_iff_eq] at*)
 all_goals omega
theorem bN_ {lo:Int} {s:List Int} {p:Nat} (hx:0<=s.getD p 0):okc lo (kJ_ s p).1=okc lo (s.getD p 0)/\(okc lo (s.getD p 0)=true->(kJ_ s p).2=1):=by
 by_cases h:(s.getD p 0).toNat < 128
 ·rw [bO_ h]
  have e:((s.getD p 0).toNat:Int)=s.getD p 0:=by omega
  dsimp only;rw [e];exact ⟨rfl,fun _=>rfl⟩
 ·have h1:=bP_ h
  have h2:okc lo (kJ_ s p).1=false:=h2_.2 (by omega)
  have h3:okc lo (s.getD p 0)=false:=h2_.2 (by omega)
  rw [h2,h3];exact ⟨rfl,fun h=>by cases h⟩
def WO_:IR:=
(sq (kr [0] [oD 2 (.mov cF)])
(sq (kr [0] [oM 3 0,
oB 4 .leq 3 (.c (.int .i32 32)),
oM 5 4,
oF 5 6 (.mov 0),
oF 5 7 (.bin .gtr 6 (.c (.int .i32 126))),
oP 8 5 cT 7,
oM 2 8])
.ret))
def WD_:List RD:=[.tmp 2 true none]
theorem WH_:zo_ Tryz.prog Tryz.f101 WO_ WD_=true:=by kernel_rfl
def qe_:List AV->List Obj->Option (Prop × AV)
 | [.int .i32 c],[]=>some ((True,.bool (!okc 33 c)))
 | _,_=>none
theorem kI_:ze_ Tryz.prog 101 (RoF qe_).sum:=by
 refine zs_ Tryz.func101 WH_ (zd_ _) fun args objs p v e=>?_
 unfold qe_ at e
 split at e
 ·rename_i c
  cases e
  refine ⟨rfl,fun hw ho hp=>?_⟩
  repeat'(intro t ht;first|(cases t<;>first|(cases ht;done)|(try simp only[zg_]at ht))|((first|refine zb_ ht ?_|refine ht ?_ ?_|refine ht.1 ?_ ?_|refine ht ?_)<;>clear ht))
  all_goals first
   | (have h:okc 33 c=false:=h2_.2 (by omega)
      refine ⟨?_,rfl⟩;rw [h];rfl)
   | (refine ⟨?_,rfl⟩;unfold okc;rw [decide_eq_true (show (33:Int)<=c by omega),Bool.true_and];congr 1;rw [<- decide_not];congr 1;exact propext (by omega))
 ·cases e
def wi_:IR:=
(sq (kr [0,1,2] [oD 6 (.mov (cI 0))])
(sq (sq (.reg [oM 9 0,
oD 10 (.rngs 9)])
(.block 0
(.loop
(sq (kr [1,2,10] [oD 11 (.nxts 10),
oX 12 11 0])
(sq (.cond 12
.skip
(.exit 0))
(.block 1
(sq (.reg [oX 13 11 1,
oX 14 11 2,
oM 7 13,
oM 8 14])
(sq (kr [1,2,7,8,10] [oM 15 1,
oM 16 8,
oD 17 (.call false 15 [16]),
oM 18 2,
oD 19 (.eqb false 17 18)])
(.cond 19
(sq (.reg [oM 20 7,
oM 6 20])
.ret)
.skip)))))))))
(sq (kr [] [oD 6 (.mov (cI (-1)))])
.ret)))
def JW_:List RD:=[.tmp 6 true none]
theorem J6_:zo_ Tryz.prog Tryz.f140 wi_ JW_=true:=by kernel_rfl
def qD_:List AV->List Obj->Option (Prop × AV)
 | [.str s,.fn 101 [] [],.bool t],[]=>some ((t=true,.int .i64 (Xp_ 33 s 0)))
 | _,_=>none
theorem j9_:ze_ Tryz.prog 140 (RoF qD_).sum:=by
 refine zs_ Tryz.func140 J6_ (za_ (s:=RoF qe_) kI_ (zd_ _)) fun args objs p v e=>?_
 unfold qD_ at e
 split at e
 ·rename_i s t
  cases e
  refine ⟨rfl,fun hw ho hp=>?_⟩
  obtain ⟨hb,hl⟩:(∀ x ∈ s,0<=x/\x<=255)/\s.length<=maxLen:=hw (.str s) (by simp)
  subst hp
  unfold maxLen at hl
  clear hw ho
  repeat'(intro t ht;first|(cases t<;>first|(cases ht;done)|(try simp only[zg_]at ht))|((first|refine zb_ ht ?_|refine ht ?_ ?_|refine ht.1 ?_ ?_|refine ht ?_)<;>clear ht))
  all_goals first
   | (intro r h1 h2;clear h1;refine h2 ⟨[1,2,10],Nat,(fun p=>p<=s.length/\Xp_ 33 s 0=Xp_ 33 (s.drop p) p),fun p=>[.fn 101 [] [],.bool true,.ptr 0 0],fun p=>[.iter s p],fun p=>s.length - p,⟨0,⟨Nat.zero_le _,rfl⟩,rfl,rfl⟩,?_⟩;clear h2)
  rintro p ⟨hp,he⟩
  repeat'(intro t ht;first|(cases t<;>first|(cases ht;done)|(try simp only[zg_]at ht;try(exfalso;first|contradiction|omega)))|((first|refine zb_ ht ?_|refine ht ?_ ?_|refine ht.1 ?_ ?_|refine ht ?_)<;>clear ht))
  all_goals first
   | exact True.intro
   | (refine ⟨?_,rfl⟩;rw [he,b7_ (by omega)];done)
   | (obtain ⟨k1,k2⟩:=bN_ (lo:=33) (hb _ (zn_ (α:=Int) (l:=s) (j:=p) (by omega) 0)).1
      cases hk:okc 33 (s.getD p 0) with
      | true=>
        rw [k1,hk] at ht
        first
         | (exfalso;revert ht;decide)
         | (refine ⟨p+1,⟨by omega,?_⟩,by dsimp only;omega,rfl,by rw [k2 hk]⟩
            rw [he];exact za3_ (by omega) hk)
      | false=>
        rw [k1,hk] at ht
        first
         | (exfalso;revert ht;decide)
         | (refine ⟨?_,rfl⟩;rw [he,za4_ (by omega) hk]))
 ·cases e
def wj_:IR:=
(sq (kr [0,1] [oD 4 (.mov (cI 0))])
(sq (.reg [oM 5 0,
oM 6 1,
oC 7 140 [5,6,cT],
oM 4 7])
.ret))
def JX_:List RD:=[.tmp 4 true none]
theorem J7_:zo_ Tryz.prog Tryz.f124 wj_ JX_=true:=by kernel_rfl
def qE_:List AV->List Obj->Option (Prop × AV)
 | [.str s,.fn 101 [] []],[]=>some ((True,.int .i64 (Xp_ 33 s 0)))
 | _,_=>none
theorem Ja_:ze_ Tryz.prog 124 (RoF qE_).sum:=by
 refine zs_ Tryz.func124 J7_ (za_ (s:=RoF qD_) j9_ (zd_ _)) fun args objs p v e=>?_
 unfold qE_ at e
 split at e
 ·rename_i s
  cases e
  refine ⟨rfl,fun hw ho hp=>?_⟩
  repeat'(intro t ht;first|(cases t<;>first|(cases ht;done)|(try simp only[zg_]at ht;try(exfalso;first|contradiction|omega)))|((first|refine zb_ ht ?_|refine ht ?_ ?_|refine ht.1 ?_ ?_|refine ht ?_)<;>clear ht))
  all_goals first
   | exact True.intro
   | exact ⟨rfl,rfl⟩
   | exact rfl
 ·cases e
def K9_:IR:=
(sq (kr [0,1] [oD 4 (.mov cF)])
(sq (kr [0,1] [oM 5 0,
oM 6 1,
oC 7 124 [5,6],
oB 8 .geq 7 (cI 0),
oM 4 8])
.ret))
def K4_:List RD:=[.tmp 4 true none]
theorem K6_:zo_ Tryz.prog Tryz.f102 K9_ K4_=true:=by kernel_rfl
def ZR_:List AV->List Obj->Option (Prop × AV)
 | [.str s,.fn 101 [] []],[]=>some ((True,.bool (!(s.all (okc 33)))))
 | _,_=>none
theorem KJ_:ze_ Tryz.prog 102 (RoF ZR_).sum:=by
 refine zs_ Tryz.func102 K6_ (za_ (s:=RoF qE_) Ja_ (zd_ _)) fun args objs p v e=>?_
 unfold ZR_ at e
 split at e
 ·rename_i s
  cases e
  refine ⟨rfl,fun hw ho hp=>?_⟩
  have h:=ge_ (lo:=33) s 0 (by omega)
  have h2:decide (0<=Xp_ 33 s 0)=!(s.all (okc 33)):=by
   cases hk:s.all (okc 33) with
   | true=>exact decide_eq_false (fun h'=>by rw [h.1 h'] at hk;cases hk)
   | false=>exact decide_eq_true (h.2 hk)
  repeat'(intro t ht;first|(cases t<;>first|(cases ht;done)|(try simp only[zg_]at ht;try(exfalso;first|contradiction|omega)))|((first|refine zb_ ht ?_|refine ht ?_ ?_|refine ht.1 ?_ ?_|refine ht ?_)<;>clear ht))
  all_goals first
   | exact True.intro
   | exact ⟨congrArg AV.bool h2,rfl⟩
 ·cases e
def Ww_ (b:List Int) (c:Int):Nat->Nat
 | 0=>0
 | k+1=>if b.getD k 0=c then Ww_ b c k else k+1
def k5_ (b:List Int) (c:Int):List Int:=b.take (Ww_ b c b.length)
def QI_ (b:List Int) (c:Int):List Int:=b.dropWhile fun x=>decide (x=c)
theorem v7_ {b:List Int} {k j:Nat} (h:j < k):(b.take k).getD j 0=b.getD j 0:=by
 rw [List.getD_eq_getElem?_getD,List.getElem?_take,if_pos h,<- List.getD_eq_getElem?_getD]
def jQ_:IR:=
(sq (kr [0,1] [oD 4 (.mov (.c (.imm (.int .u8) [])))])
(sq (.block 0
(.loop
(sq (sq (kr [0,1] [oM 5 0,
oE 6 5,
oB 7 .gtr 6 (cI 0),
oM 8 7,
oT 8 9 (.mov 0),
oT 8 10 (.mov 0),
oT 8 11 (.len 10),
oT 8 12 (.bin .sub 11 (cI 1)),
oT 8 13 (.indexSl 1 9 12),
oT 8 14 (.load none 13),
oT 8 15 (.mov 1),
oT 8 16 (.bin .eql 14 15),
oP 17 8 16 cF])
(.cond 17
.skip
(.exit 0)))
(.block 1
(kr [0,1] [oM 18 0,
oM 19 0,
oE 20 19,
oB 21 .sub 20 (cI 1),
oD 22 (.slice 1 18 none (some 21) none),
oM 0 22])))))
(sq (kr [0] [oM 23 0,
oM 4 23])
.ret)))
def jB_:List RD:=[.tmp 4 true (some (.int .u8))]
theorem jG_:zo_ Tryz.prog Tryz.f111 jQ_ jB_=true:=by kernel_rfl
def Z7_:List AV->List Obj->Option (Prop × AV)
 | [.imm (.int .u8) b,.int .u8 c],[]=>some ((b.length<=140737488355328,.imm (.int .u8) (k5_ b c)))
 | _,_=>none
theorem K2_:ze_ Tryz.prog 111 (RoF Z7_).sum:=by
 refine zs_ Tryz.func111 jG_ (zd_ _) fun args objs p v e=>?_
 unfold Z7_ at e
 split at e
 ·rename_i b c
  cases e
  refine ⟨rfl,fun hw ho hp=>?_⟩
  change List Int at b
  repeat'(intro t ht;first|(cases t<;>first|(cases ht;done)|(try simp only[zg_]at ht))|((first|refine zb_ ht ?_|refine ht ?_ ?_|refine ht.1 ?_ ?_|refine ht ?_)<;>clear ht))
  all_goals first
   | (intro r h1 h2;clear h1;refine h2 ⟨[0,1],Nat,(fun k=>k<=b.length/\Ww_ b c b.length=Ww_ b c k),fun k=>[.imm (.int .u8) (b.take k),.int .u8 c],fun _=>[],fun k=>k,⟨b.length,⟨Nat.le_refl _,rfl⟩,by simp only [List.take_length],rfl⟩,?_⟩;clear h2)
  rintro k ⟨hk,he⟩
  have hl:(b.take k).length=k:=by rw [List.length_take];omega
  repeat'(intro t ht;first|(cases t<;>first|(cases ht;done)|(try simp only[zg_]at ht))|((first|refine zb_ ht ?_|refine ht ?_ ?_|refine ht.1 ?_ ?_|refine ht ?_)<;>clear ht))
  all_goals first
   | ((try simp only [zF_,zG_,zk_] at*);omega)
   | (have h0:k=0:=by omega
      refine ⟨?_,rfl⟩;unfold k5_;rw [he,h0];rfl)
   | (obtain ⟨j,rfl⟩:∃ j,k=j+1:=⟨k - 1,by omega⟩
      have e:(((b.take (j+1)).length:Int) - 1).toNat=j:=by omega
      first
       | (have hx:¬ (b.take (j+1)).getD (((b.take (j+1)).length:Int) - 1).toNat 0=c:=by assumption
          rw [e,v7_ (Nat.lt_succ_self j)] at hx
          have h1:Ww_ b c (j+1)=j+1:=if_neg hx
          refine ⟨?_,rfl⟩;unfold k5_;rw [he,h1])
       | (have hx:(b.take (j+1)).getD (((b.take (j+1)).length:Int) - 1).toNat 0=c:=by assumption
          rw [e,v7_ (Nat.lt_succ_self j)] at hx
          have h1:Ww_ b c (j+1)=Ww_ b c j:=if_pos hx
          refine ⟨j,⟨by omega,by rw [he,h1]⟩,Nat.lt_succ_self j,?_,rfl⟩
          dsimp only;rw [e,List.take_take,Nat.min_eq_left (Nat.le_succ j)]))
 ·cases e
def JH_:IR:=
(sq (kr [0,1] [oD 4 (.mov (.c (.imm (.int .u8) [])))])
(sq (.block 0
(.loop
(sq (sq (kr [0,1] [oM 5 0,
oE 6 5,
oB 7 .gtr 6 (cI 0),
oM 8 7,
oT 8 9 (.mov 0),
oT 8 10 (.indexSl 1 9 (cI 0)),
oT 8 11 (.load none 10),
oT 8 12 (.mov 1),
oT 8 13 (.bin .eql 11 12),
oP 14 8 13 cF])
(.cond 14
.skip
(.exit 0)))
(.block 1
(kr [0,1] [oM 15 0,
oD 16 (.slice 1 15 (some (cI 1)) none none),
oM 0 16])))))
(sq (sq (kr [0] [oM 17 0,
oE 18 17,
oB 19 .eql 18 (cI 0)])
(.cond 19
(sq (.reg [oD 4 (.mov (.c (.imm (.int .u8) [])))])
.ret)
.skip))
(sq (.reg [oM 20 0,
oM 4 20])
.ret))))
def Ji_:List RD:=[.tmp 4 true (some (.int .u8))]
theorem Jv_:zo_ Tryz.prog Tryz.f110 JH_ Ji_=true:=by kernel_rfl
def qq_:List AV->List Obj->Option (Prop × AV)
 | [.imm (.int .u8) b,.int .u8 c],[]=>some ((b.length<=140737488355328,.imm (.int .u8) (QI_ b c)))
 | _,_=>none
theorem jt_:ze_ Tryz.prog 110 (RoF qq_).sum:=by
 refine zs_ Tryz.func110 Jv_ (zd_ _) fun args objs p v e=>?_
 unfold qq_ at e
 split at e
 ·rename_i b c
  cases e
  refine ⟨rfl,fun hw ho hp=>?_⟩
  change List Int at b
  repeat'(intro t ht;first|(cases t<;>first|(cases ht;done)|(try simp only[zg_]at ht))|((first|refine zb_ ht ?_|refine ht ?_ ?_|refine ht.1 ?_ ?_|refine ht ?_)<;>clear ht))
  all_goals first
   | (intro r h1 h2;clear h1;refine h2 ⟨[0,1],Nat,(fun k=>k<=b.length/\QI_ b c=QI_ (b.drop k) c),fun k=>[.imm (.int .u8) (b.drop k),.int .u8 c],fun _=>[],fun k=>b.length - k,⟨0,⟨Nat.zero_le _,rfl⟩,rfl,rfl⟩,?_⟩;clear h2)
  rintro k ⟨hk,he⟩
  have hl:(b.drop k).length=b.length - k:=List.length_drop
  repeat'(intro t ht;first|(cases t<;>first|(cases ht;done)|(try simp only[zg_]at ht))|((first|refine zb_ ht ?_|refine ht ?_ ?_|refine ht.1 ?_ ?_|refine ht ?_)<;>clear ht))
  all_goals first
   | ((try simp only [zF_,zG_,zk_] at*);omega)
   | (exfalso;omega)
   | (have h0:b.drop k=[]:=List.eq_nil_of_length_eq_zero (by omega)
      refine ⟨?_,rfl⟩;rw [he,h0];rfl)
   | (have hlt:k < b.length:=by omega
      first
       | (have hx:¬ (b.drop k).getD 0 0=c:=by assumption
          rw [Kb_] at hx
          have h1:QI_ (b.drop k) c=b.drop k:=by
           unfold QI_;rw [zK_ hlt 0,List.dropWhile_cons_of_neg (by simpa using hx)]
          refine ⟨?_,rfl⟩;rw [he,h1])
       | (have hx:(b.drop k).getD 0 0=c:=by assumption
          rw [Kb_] at hx
          have h1:QI_ (b.drop k) c=QI_ (b.drop (k+1)) c:=by
           unfold QI_;rw [zK_ hlt 0,List.dropWhile_cons_of_pos (by simpa using hx)]
          refine ⟨k+1,⟨hlt,by rw [he,h1]⟩,by dsimp only;omega,?_,rfl⟩
          dsimp only;rw [<- List.drop_drop];rfl))
 ·cases e
def vY_:IR:=
(sq (kr [0,1] [oD 4 (.mov (.c (.imm (.int .u8) [])))])
(sq (sq (.reg [oM 7 0,
oE 8 7,
oB 9 .eql 8 (cI 0)])
(.cond 9
(sq (.reg [oD 4 (.mov (.c (.imm (.int .u8) [])))])
.ret)
.skip))
(sq (sq (.reg [oM 10 1,
oB 11 .eql 10 (.c (.str []))])
(.cond 11
(sq (kr [0] [oM 12 0,
oM 4 12])
.ret)
.skip))
(sq (sq (kr [0,1] [oM 13 1,
oD 14 (.slen 13),
oB 15 .eql 14 (cI 1),
oM 16 15,
oT 16 17 (.mov 1),
oT 16 18 (.sindex 17 (cI 0)),
oT 16 19 (.bin .lss 18 (.c (.int .u8 128))),
oP 20 16 19 cF])
(.cond 20
(sq (kd [0,1] [(oM 21 0,[]),
(oM 22 1,[0]),
(oD 23 (.sindex 22 (cI 0)),[1]),
(oC 24 111 [21,23],[]),
(oM 25 1,[0,0,0,0]),
(oD 26 (.sindex 25 (cI 0)),[1,0,0,0]),
(oC 27 110 [24,26],[]),
(oM 4 27,[])])
.ret)
.skip))
(sq (sq (kr [0,1] [oM 29 1,
oC 30 112 [29],
oM 28 30,
oX 31 28 0,
oX 32 28 1,
oD 5 (.box [.kb false,.kb false,.kb false,.kb false,.kb false,.kb false,.kb false,.kb false,.kb false,.kb false,.kb false,.kb false,.kb false,.kb false,.kb false,.kb false,.kb false,.kb false,.kb false,.kb false,.kb false,.kb false,.kb false,.kb false,.kb false,.kb false,.kb false,.kb false,.kb false,.kb false,.kb false,.kb false,.kb false,.kb false,.kb false,.kb false,.kb false,.kb false,.kb false,.kb false,.kb false,.kb false,.kb false,.kb false,.kb false,.kb false,.kb false,.kb false,.kb false,.kb false,.kb false,.kb false,.kb false,.kb false,.kb false,.kb false,.kb false,.kb false,.kb false,.kb false,.kb false,.kb false,.kb false,.kb false,.kb false,.kb false,.kb false,.kb false,.kb false,.kb false,.kb false,.kb false,.kb false,.kb false,.kb false,.kb false,.kb false,.kb false,.kb false,.kb false,.kb false,.kb false,.kb false,.kb false,.kb false,.kb false,.kb false,.kb false,.kb false,.kb false,.kb false,.kb false,.kb false,.kb false,.kb false,.kb false,.kb false,.kb false,.kb false,.kb false,.kb false,.kb false,.kb false,.kb false,.kb false,.kb false,.kb false,.kb false,.kb false,.kb false,.kb false,.kb false,.kb false,.kb false,.kb false,.kb false,.kb false,.kb false,.kb false,.kb false,.kb false,.kb false,.kb false,.kb false,.kb false,.kb false,.kb false,.kb false,.kb false,.kb false,.kb false,.kb false,.kb false,.kb false,.kb false,.kb false,.kb false,.kb false,.kb false,.kb false,.kb false,.kb false,.kb false,.kb false,.kb false,.kb false,.kb false,.kb false,.kb false,.kb false,.kb false,.kb false,.kb false,.kb false,.kb false,.kb false,.kb false,.kb false,.kb false,.kb false,.kb false,.kb false,.kb false,.kb false,.kb false,.kb false,.kb false,.kb false,.kb false,.kb false,.kb false,.kb false,.kb false,.kb false,.kb false,.kb false,.kb false,.kb false,.kb false,.kb false,.kb false,.kb false,.kb false,.kb false,.kb false,.kb false,.kb false,.kb false,.kb false,.kb false,.kb false,.kb false,.kb false,.kb false,.kb false,.kb false,.kb false,.kb false,.kb false,.kb false,.kb false,.kb false,.kb false,.kb false,.kb false,.kb false,.kb false,.kb false,.kb false,.kb false,.kb false,.kb false,.kb false,.kb false,.kb false,.kb false,.kb false,.kb false,.kb false,.kb false,.kb false,.kb false,.kb false,.kb false,.kb false,.kb false,.kb false,.kb false,.kb false,.kb false,.kb false,.kb false,.kb false,.kb false,.kb false,.kb false,.kb false,.kb false,.kb false,.kb false,.kb false,.kb false,.kb false,.kb false,.kb false,.kb false,.kb false,.kb false,.kb false,.kb false,.kb false,.kb false,.kb false,.kb false,.kb false,.kb false]),
oS 256 5 31,
oM 6 32])
(sq (kr [0,1,5,6] [oM 33 6])
(.cond 33
(sq (.reg [oM 34 0,
oC 35 114 [34,5],
oC 36 113 [35,5],
oM 4 36])
.ret)
.skip)))
(sq (kr [0,1] [oM 37 0,
oM 38 1,
oC 39 116 [37,38],
oM 40 1,
oC 41 115 [39,40],
oM 4 41])
.ret))))))
def vJ_:List RD:=[.tmp 4 true (some (.int .u8))]
theorem vQ_:zo_ Tryz.prog Tryz.f83 vY_ vJ_=true:=by kernel_rfl
def j3_:List AV->List Obj->Option (Prop × AV)
 | [.imm (.int .u8) b,.str [0]],[]=>some ((b.length<=140737488355328,.imm (.int .u8) (QI_ (k5_ b 0) 0)))
 | _,_=>none
theorem Yc_:ze_ Tryz.prog 83 (RoF j3_).sum:=by
 refine zs_ Tryz.func83 vQ_ (za_ (s:=RoF Z7_) K2_ (za_ (s:=RoF qq_) jt_ (zd_ _))) fun args objs p v e=>?_
 unfold j3_ at e
 split at e
 ·rename_i b
  cases e
  refine ⟨rfl,fun hw ho hp=>?_⟩
  change List Int at b
  have hl:(k5_ b 0).length<=b.length:=by unfold k5_;rw [List.length_take];omega
  repeat'(intro t ht;first|(cases t<;>first|(cases ht;done)|(try simp only[zg_]at ht))|((first|refine zb_ ht ?_|refine ht ?_ ?_|refine ht.1 ?_ ?_|refine ht ?_)<;>clear ht))
  all_goals first
   | exact hp
   | exact ⟨by decide,by decide⟩
   | exact Nat.le_trans hl hp
   | exact ⟨rfl,rfl⟩
   | (have hb:b=[]:=List.eq_nil_of_length_eq_zero (by omega)
      refine ⟨?_,rfl⟩;rw [hb];rfl)
 ·cases e
def Wi_ (c:Int):List Int->Int->Int
 | [],_=>-1
 | b :: l,i=>if b=c then i else Wi_ c l (i+1)
theorem zah_ {b c:Int} (hb:0<=b/\b<=255) (hc:0<=c/\c<=255):(UInt8.ofNat b.toNat == c.toNat.toUInt8)=decide (b=c):=by
 rw [Bool.eq_iff_iff,beq_iff_eq,decide_eq_true_eq]
 constructor
 ·intro h
  have h2:=congrArg UInt8.toNat h
  rw [UInt8.toNat_ofNat',Nat.toUInt8,UInt8.toNat_ofNat',Nat.mod_eq_of_lt (by omega),Nat.mod_eq_of_lt (by omega)] at h2
  omega
 ·rintro rfl;rfl
theorem Hl_ {c:Int} (hc:0<=c/\c<=255):∀ (xs:List Int) (i:Int),(∀ x ∈ xs,0<=x/\x<=255)->0<=i->
 (Go.Lib.indexByte (Go.Lib.bytesOf xs) c.toNat.toUInt8=-1/\Wi_ c xs i=-1)\/(0<=Go.Lib.indexByte (Go.Lib.bytesOf xs) c.toNat.toUInt8/\Wi_ c xs i=i+Go.Lib.indexByte (Go.Lib.bytesOf xs) c.toNat.toUInt8)
 | [],i,_,_=>.inl ⟨rfl,rfl⟩
 | b :: l,i,h,h0=>by
   have ih:=Hl_ hc l (i+1) (fun x hx=>h x (List.mem_cons_of_mem _ hx)) (by omega)
   have e:=zah_ (h b (List.mem_cons_self ..)) hc
   have e0:Go.Lib.bytesOf (b :: l)=UInt8.ofNat b.toNat :: Go.Lib.bytesOf l:=rfl
   rw [e0]
   unfold Go.Lib.indexByte Wi_
   rw [e]
   by_cases hbc:b=c
   ·rw [if_pos hbc,decide_eq_true hbc];simp
   ·rw [if_neg hbc,decide_eq_false hbc]
    simp only [Bool.false_eq_true,if_false]
    rcases ih with ⟨h1,h2⟩ | ⟨h1,h2⟩
    ·left;rw [h1,h2];exact ⟨rfl,rfl⟩
    ·right
     have:(Go.Lib.indexByte (Go.Lib.bytesOf l) c.toNat.toUInt8 == -1)=false:=by rw [beq_eq_false_iff_ne];omega
     rw [this,h2];simp only [Bool.false_eq_true,if_false];omega
theorem H8_ {c:Int} (hc:0<=c/\c<=255) {xs:List Int} (h:∀ x ∈ xs,0<=x/\x<=255):Go.Lib.indexByte (Go.Lib.bytesOf xs) c.toNat.toUInt8=Wi_ c xs 0:=by
 rcases Hl_ hc xs 0 h (Int.le_refl _) with ⟨h1,h2⟩ | ⟨h1,h2⟩<;>rw [h2]<;>omega
theorem Ua_ {c:Int}:∀ (xs:List Int) (i:Int),0<=i->-1<=Wi_ c xs i/\Wi_ c xs i < i+xs.length\/Wi_ c xs i=-1
 | [],i,_=>.inr rfl
 | b :: l,i,h=>by
   unfold Wi_
   split
   ·left;simp only [List.length_cons];omega
   ·rcases Ua_ (c:=c) l (i+1) (by omega) with h1 | h1
    ·left;simp only [List.length_cons];omega
    ·exact .inr h1
theorem zbr_ {P:Program} {w:World} {ao:Option Addr} {n c:Nat} {xs:List Int} (cv:Int) (hl:(Extern.Bytes.bytesOf (.slice ao n c)).run P w=.ok ⟨(Go.Lib.bytesOf xs).toArray⟩ w):
 (Extern.BytealgIndexByte.indexByte #[.slice ao n c,.int .u8 cv]).run P w=.ok (.int .i64 (Go.Lib.indexByte (Go.Lib.bytesOf xs) cv.toNat.toUInt8)) w:=by
 have hs:=Go.Lib.run_indexByteString (P:=P) ⟨(Go.Lib.bytesOf xs).toArray⟩ cv w
 change Sem.run P (do
  let b <- Extern.Bytes.bytesOf (.slice ao n c)
  let c <- Extern.Bytes.asByte (.int .u8 cv)
  match (List.range b.size).find? fun i=>b[i]! == c with
  | some i=>pure (goInt i)
  | none=>pure (goInt (-1))) w=_
 change Sem.run P (do
  let b <- Extern.Bytes.bytesOf (.string ⟨(Go.Lib.bytesOf xs).toArray⟩)
  let c <- Extern.Bytes.asByte (.int .u8 cv)
  match (List.range b.size).find? fun i=>b[i]! == c with
  | some i=>pure (goInt i)
  | none=>pure (goInt (-1))) w=_ at hs
 rw [Sem.run_bind,hl]
 exact hs
theorem BC_ {P:Program} {I:Nat->Prop} {w:World} {ao:Option Addr} {n c:Nat} {xs:List Int} (h:RS I w (.int .u8) xs ao n c):
 (Extern.Bytes.bytesOf (.slice ao n c)).run P w=.ok ⟨(Go.Lib.bytesOf xs).toArray⟩ w:=by
 obtain ⟨h1,h2,h3,h4⟩:=h
 change List Int at xs
 cases ao with
 | none=>
   have:xs=[]:=by
    cases xs with
    | nil=>rfl
    | cons a l=>obtain ⟨b,o,e,_⟩:=h4 (by rw [h1];simp);cases e
   subst this;rfl
 | some a=>
   have hl:=Go.Lib.run_loadBytesX (P:=P) w xs a .empty (fun j x hj=>by
    have hjl:j < xs.length:=(List.getElem?_eq_some_iff.1 hj).1
    obtain ⟨b,o,e,_,h5⟩:=h4 (by omega)
    cases e
    obtain ⟨es,h6,h7⟩:=h5 j hjl
    simp only [RC] at h6
    obtain ⟨rfl,_⟩:=h6
    have h8:=h7 0 (by simp)
    have e:(⟨b,o,none⟩:Addr).add j=⟨b,o+j*(Ty.int .u8).size+0,none⟩:=by
     show _=(⟨b,o+j*1+0,none⟩:Addr)
     unfold Addr.add;split<;>simp_all
    rw [e,h8]
    have:xs[j]?=some xs[j]:=List.getElem?_eq_getElem hjl
    rw [this] at hj;cases hj;rfl)
   show (Extern.Bytes.loadBytes a n .empty).run P w=_
   rw [h1,hl]
   have he:(ByteArray.empty.data++(Go.Lib.bytesOf xs).toArray)=(Go.Lib.bytesOf xs).toArray:=by
    show (#[]:Array UInt8)++_=_
    simp
   rw [he]
def QC_:List AV->List Obj->Option (Prop × AV)
 | [.imm (.int .u8) s,.int .u8 c],[]=>some (True,.int .i64 (Wi_ c s 0))
 | _,_=>none
theorem Wk_ {I:Nat->Prop} {xs:List Int} {ao:Option Addr} {n cap:Nat} {c:Int} {w:World} (h:RS I w (.int .u8) xs ao n cap):
 Calls Tryz.prog 130 #[.slice ao n cap,.int .u8 c] w fun e w'=>e=.returned (.int .i64 (Go.Lib.indexByte (Go.Lib.bytesOf xs) c.toNat.toUInt8))/\w'=w:=by
 have hr:=zbr_ (P:=Tryz.prog) c (BC_ h)
 go_enter Tryz.func130,Tryz.ntmps130
 go_wp2
 rw [run_callFunc_extern Tryz.func141 (by kernel_rfl) (by kernel_rfl) (by kernel_rfl) (e:=Extern.BytealgIndexByte.indexByte) (by kernel_rfl),hr]
 simp only [Result.andThen]
 rw [Oper.upon_value]
 go_wp2
 go_ret
 exact ⟨rfl,rfl⟩
theorem Wa_:ze_ Tryz.prog 130 (RoF QC_).sum:=by
 refine ⟨⟨_,Tryz.func130,by kernel_rfl,by kernel_rfl⟩,bS_ _,fun {I w m args cargs objs K} hH hA hu hS=>?_⟩
 simp only [RoF,SumK.sum] at hS
 split at hS
 ·rename_i p v e
  obtain ⟨hp,hk⟩:=zj_ hS
  have hwf:=y1_ hA
  unfold QC_ at e
  split at e
  ·rename_i s c
   cases e
   obtain ⟨l⟩:=cargs
   match l,hA with
   | [a,b],hA=>
     obtain ⟨h1,h2,_⟩:=hA
     obtain ⟨ao,n,cap,rfl,hs⟩:∃ ao len cap,a=.slice ao len cap/\RS I w (.int .u8) s ao len cap:=h1
     obtain ⟨rfl,hc⟩:b=.int .u8 c/\inK .u8 c:=h2
     have hb:∀ x ∈ (s:List Int),(0:Int)<=x/\x<=255:=fun x hx=>(hwf (.imm (.int .u8) s) (by simp)).1 x hx
     have hsl:List.length (α:=Int) s<=maxLen:=(hwf (.imm (.int .u8) s) (by simp)).2
     refine (Wk_ hs).mono ?_
     rintro e w' ⟨rfl,rfl⟩
     rw [H8_ hc hb]
     have hle:=Ua_ (c:=c) s 0 (Int.le_refl _)
     unfold maxLen at hsl
     exact ⟨_,_,_,I,m,rfl,hk,⟨⟨rfl,by unfold inK;rw [zbf_,zbg_];change List Int at s;omega⟩,hH,Evo.refl _ _ _,hu,Nat.le_refl _,Fr.refl _ _,fun b h=>.inl h,fun i o b h1 h2 h3=>.inr ⟨i,o,h1,h2,fun h=>h,h3⟩⟩⟩
  ·cases e
 ·exact hS.elim
def YO_:IR:=
(sq (kr [0,1] [oD 4 (.mov (cI 0))])
(sq (.reg [oM 20 1,
oE 21 20,
oM 5 21])
(sq (.block 0
(sq (.reg [oM 23 5,
oB 24 .eql 23 (cI 0),
oM 22 24])
(.cond 22
(sq (kr [] [oD 4 (.mov (cI 0))])
.ret)
(sq (kr [0,1,5] [oM 26 5,
oB 27 .eql 26 (cI 1),
oM 25 27])
(.cond 25
(sq (kr [0,1] [oM 28 0,
oM 29 1,
oD 30 (.indexSl 1 29 (cI 0)),
oL 31 30,
oC 32 130 [28,31],
oM 4 32])
.ret)
(sq (kr [0,1,5] [oM 34 5,
oM 35 0,
oE 36 35,
oB 37 .eql 34 36,
oM 33 37])
(.cond 33
(sq (sq (.reg [oM 38 1,
oM 39 0,
oC 40 79 [38,39]])
(.cond 40
(sq (kr [] [oD 4 (.mov (cI 0))])
.ret)
.skip))
(sq (kr [] [oD 4 (.mov (cI (-1)))])
.ret))
(sq (kr [0,1,5] [oM 42 5,
oM 43 0,
oE 44 43,
oB 45 .gtr 42 44,
oM 41 45])
(.cond 41
(sq (.reg [oD 4 (.mov (cI (-1)))])
.ret)
(sq (.reg [oM 47 5,
oD 48 (.bad),
oB 49 .leq 47 48,
oM 46 49])
(.cond 46
(sq (sq (kr [0,1,5] [oM 50 0,
oE 51 50,
oB 52 .leq 51 (cI 64)])
(.cond 52
(sq (.reg [oM 53 0,
oM 54 1,
oC 55 131 [53,54],
oM 4 55])
.ret)
.skip))
(sq (kr [0,1,5] [oM 56 1,
oD 57 (.indexSl 1 56 (cI 0)),
oL 58 57,
oM 6 58])
(sq (.reg [oM 59 1,
oD 60 (.indexSl 1 59 (cI 1)),
oL 61 60,
oM 7 61])
(sq (kr [0,1,5,6,7] [oD 8 (.mov (cI 0))])
(sq (kr [0,1,5,6,7,8] [oM 62 0,
oE 63 62,
oM 64 5,
oB 65 .sub 63 64,
oB 66 .add 65 (cI 1),
oM 9 66])
(sq (.reg [oD 10 (.mov (cI 0))])
(sq (.block 1
(.loop
(sq (sq (kr [0,1,5,6,7,8,9,10] [oM 67 8,
oM 68 9,
oB 69 .lss 67 68])
(.cond 69
.skip
(.exit 1)))
(.block 2
(sq (sq (kr [0,1,5,6,7,8,9,10] [oM 70 0,
oM 71 8,
oI 72 1 70 71,
oL 73 72,
oM 74 6,
oB 75 .neq 73 74])
(.cond 75
(sq (kr [0,1,5,6,7,8,9,10] [oM 76 0,
oM 77 8,
oB 78 .add 77 (cI 1),
oM 79 9,
oD 80 (.slice 1 76 (some 78) (some 79) none),
oM 81 6,
oC 82 130 [80,81],
oM 11 82])
(sq (sq (kr [0,1,5,6,7,8,9,10,11] [oM 83 11,
oB 84 .lss 83 (cI 0)])
(.cond 84
(sq (.reg [oD 4 (.mov (cI (-1)))])
.ret)
.skip))
(kr [0,1,5,6,7,8,9,10,11] [oM 85 8,
oM 86 11,
oB 87 .add 86 (cI 1),
oB 88 .add 85 87,
oM 8 88])))
.skip))
(sq (sq (kr [0,1,5,6,7,8,9,10] [oM 89 0,
oM 90 8,
oB 91 .add 90 (cI 1),
oI 92 1 89 91,
oL 93 92,
oM 94 7,
oB 95 .eql 93 94,
oM 96 95,
oT 96 97 (.mov 0),
oT 96 98 (.mov 8),
oT 96 99 (.mov 8),
oT 96 100 (.mov 5),
oT 96 101 (.bin .add 99 100),
oT 96 102 (.slice 1 97 (some 98) (some 101) none),
oT 96 103 (.mov 1),
oT 96 104 (.call false (.f 79) [102,103]),
oP 105 96 104 cF])
(.cond 105
(sq (kr [8] [oM 106 8,
oM 4 106])
.ret)
.skip))
(sq (kr [0,1,5,6,7,8,9,10] [oM 107 10,
oB 108 .add 107 (cI 1),
oM 10 108])
(sq (.reg [oM 109 8,
oB 110 .add 109 (cI 1),
oM 8 110])
(sq (.reg [oM 111 10,
oM 112 8,
oC 113 132 [112],
oB 114 .gtr 111 113])
(.cond 114
(sq (kr [0,1,8] [oM 115 0,
oM 116 8,
oD 117 (.slice 1 115 (some 116) none none),
oM 118 1,
oC 119 131 [117,118],
oM 12 119])
(sq (sq (.reg [oM 120 12,
oB 121 .geq 120 (cI 0)])
(.cond 121
(sq (kr [8,12] [oM 122 12,
oM 123 8,
oB 124 .add 122 123,
oM 4 124])
.ret)
.skip))
(sq (kr [] [oD 4 (.mov (cI (-1)))])
.ret)))
.skip))))))))))
(sq (kr [] [oD 4 (.mov (cI (-1)))])
.ret))))))))
.skip)))))))))))
(sq (kr [0,1,5] [oM 125 1,
oD 126 (.indexSl 1 125 (cI 0)),
oL 127 126,
oM 13 127])
(sq (.reg [oM 128 1,
oD 129 (.indexSl 1 128 (cI 1)),
oL 130 129,
oM 14 130])
(sq (kr [0,1,5,13,14] [oD 15 (.mov (cI 0))])
(sq (.reg [oD 16 (.mov (cI 0))])
(sq (kr [0,1,5,13,14,15,16] [oM 131 0,
oE 132 131,
oM 133 5,
oB 134 .sub 132 133,
oB 135 .add 134 (cI 1),
oM 17 135])
(sq (.block 3
(.loop
(sq (sq (kr [0,1,5,13,14,15,16,17] [oM 136 15,
oM 137 17,
oB 138 .lss 136 137])
(.cond 138
.skip
(.exit 3)))
(.block 4
(sq (sq (kr [0,1,5,13,14,15,16,17] [oM 139 0,
oM 140 15,
oI 141 1 139 140,
oL 142 141,
oM 143 13,
oB 144 .neq 142 143])
(.cond 144
(sq (kr [0,1,5,13,14,15,16,17] [oM 145 0,
oM 146 15,
oB 147 .add 146 (cI 1),
oM 148 17,
oD 149 (.slice 1 145 (some 147) (some 148) none),
oM 150 13,
oC 151 130 [149,150],
oM 18 151])
(sq (sq (kr [0,1,5,13,14,15,16,17,18] [oM 152 18,
oB 153 .lss 152 (cI 0)])
(.cond 153
(.exit 3)
.skip))
(kr [0,1,5,13,14,15,16,17,18] [oM 154 15,
oM 155 18,
oB 156 .add 155 (cI 1),
oB 157 .add 154 156,
oM 15 157])))
.skip))
(sq (sq (kr [0,1,5,13,14,15,16,17] [oM 158 0,
oM 159 15,
oB 160 .add 159 (cI 1),
oI 161 1 158 160,
oL 162 161,
oM 163 14,
oB 164 .eql 162 163,
oM 165 164,
oT 165 166 (.mov 0),
oT 165 167 (.mov 15),
oT 165 168 (.mov 15),
oT 165 169 (.mov 5),
oT 165 170 (.bin .add 168 169),
oT 165 171 (.slice 1 166 (some 167) (some 170) none),
oT 165 172 (.mov 1),
oT 165 173 (.call false (.f 79) [171,172]),
oP 174 165 173 cF])
(.cond 174
(sq (kr [15] [oM 175 15,
oM 4 175])
.ret)
.skip))
(sq (kr [0,1,5,13,14,15,16,17] [oM 176 15,
oB 177 .add 176 (cI 1),
oM 15 177])
(sq (.reg [oM 178 16,
oB 179 .add 178 (cI 1),
oM 16 179])
(sq (kr [0,1,5,13,14,15,16,17] [oM 180 16,
oM 181 15,
oB 182 .shr 181 (.c (.int .u64 4)),
oB 183 .add (cI 4) 182,
oB 184 .geq 180 183,
oM 185 184,
oT 185 186 (.mov 15),
oT 185 187 (.mov 17),
oT 185 188 (.bin .lss 186 187),
oP 189 185 188 cF])
(.cond 189
(sq (kr [0,1,15] [oM 190 0,
oM 191 15,
oD 192 (.slice 1 190 (some 191) none none),
oM 193 1,
oC 194 133 [192,193],
oM 19 194])
(sq (sq (.reg [oM 195 19,
oB 196 .lss 195 (cI 0)])
(.cond 196
(sq (kr [] [oD 4 (.mov (cI (-1)))])
.ret)
.skip))
(sq (kr [15,19] [oM 197 15,
oM 198 19,
oB 199 .add 197 198,
oM 4 199])
.ret)))
.skip))))))))))
(sq (kr [] [oD 4 (.mov (cI (-1)))])
.ret))))))))))
def Yk_:List RD:=[.tmp 4 true none]
theorem Yy_:zo_ Tryz.prog Tryz.f109 YO_ Yk_=true:=by kernel_rfl
def KX_:List AV->List Obj->Option (Prop × AV)
 | [.imm (.int .u8) s,.imm (.int .u8) t],[]=>some ((t.length=1,.int .i64 (Wi_ (t.getD 0 0) s 0)))
 | _,_=>none
theorem yq_:ze_ Tryz.prog 109 (RoF KX_).sum:=by
 refine zs_ Tryz.func109 Yy_ (za_ (s:=RoF QC_) Wa_ (zd_ _)) fun args objs p v e=>?_
 unfold KX_ at e
 split at e
 ·rename_i s t
  cases e
  refine ⟨rfl,fun hw ho hp=>?_⟩
  change List Int at s
  change List Int at t
  have hi:((0:Int)).toNat=0:=rfl
  repeat'(intro t ht;first|(cases t<;>first|(cases ht;done)|(try simp only[zg_]at ht;try(exfalso;first|contradiction|omega)))|((first|refine zb_ ht ?_|refine ht ?_ ?_|refine ht.1 ?_ ?_|refine ht ?_)<;>clear ht))
  all_goals first
   | exact True.intro
   | exact ⟨rfl,rfl⟩
   | ((try simp only [zF_,zG_,zk_] at*);omega)
 ·cases e
def ctB (s:List Int) (c:Int):List Int:=if 0<=Wi_ c s 0 then s.take (Wi_ c s 0).toNat else s
def ctR (s:List Int) (c:Int):List Int:=if 0<=Wi_ c s 0 then s.drop (Wi_ c s 0+1).toNat else []
def ctK (s:List Int) (c:Int):Bool:=decide (0<=Wi_ c s 0)
def u9_:IR:=
(sq (kr [0,1] [oD 4 (.mov (.c (.imm (.int .u8) []))),
oD 5 (.mov (.c (.imm (.int .u8) []))),
oD 6 (.mov cF)])
(sq (sq (.reg [oM 8 0,
oM 9 1,
oC 10 109 [8,9],
oM 7 10])
(sq (kr [0,1,7] [oM 11 7,
oB 12 .geq 11 (cI 0)])
(.cond 12
(sq (kd [0,1,7] [(oM 13 0,[]),
(oM 14 7,[0]),
(oD 15 (.slice 1 13 none (some 14) none),[]),
(oM 16 0,[0,0,0]),
(oM 17 7,[0,0,0,0]),
(oM 18 1,[0,0,0,0,0]),
(oE 19 18,[1,0,0,0,0]),
(oB 20 .add 17 19,[3,0,0,0]),
(oD 21 (.slice 1 16 (some 20) none none),[5,0,0]),
(oM 4 15,[0,0,0,0,0,0]),
(oM 5 21,[]),
(oD 6 (.mov cT),[])])
.ret)
.skip)))
(sq (kr [0] [oM 22 0,
oM 4 22,
oD 5 (.mov (.c (.imm (.int .u8) []))),
oD 6 (.mov cF)])
.ret)))
def uo_:List RD:=[.tmp 4 true (some (.int .u8)),.tmp 5 true (some (.int .u8)),.tmp 6 true none]
theorem uH_:zo_ Tryz.prog Tryz.f82 u9_ uo_=true:=by kernel_rfl
def wL_:List AV->List Obj->Option (Prop × AV)
 | [.imm (.int .u8) s,.imm (.int .u8) t],[]=>some ((t.length=1,.tup [.imm (.int .u8) (ctB s (t.getD 0 0)),.imm (.int .u8) (ctR s (t.getD 0 0)),.bool (ctK s (t.getD 0 0))]))
 | _,_=>none
theorem vC_:ze_ Tryz.prog 82 (RoF wL_).sum:=by
 refine zs_ Tryz.func82 uH_ (za_ (s:=RoF KX_) yq_ (zd_ _)) fun args objs p v e=>?_
 unfold wL_ at e
 split at e
 ·rename_i s t
  cases e
  refine ⟨rfl,fun hw ho hp=>?_⟩
  change List Int at s
  change List Int at t
  have hl:s.length<=maxLen:=(hw (.imm (.int .u8) s) (by simp)).2
  unfold maxLen at hl
  clear hw ho
  have h:=Ua_ (c:=t.getD 0 0) s 0 (Int.le_refl _)
  repeat'(intro t ht;first|(cases t<;>first|(cases ht;done)|(try simp only[zg_]at ht;try(exfalso;first|contradiction|omega)))|((first|refine zb_ ht ?_|refine ht ?_ ?_|refine ht.1 ?_ ?_|refine ht ?_)<;>clear ht))
  all_goals first
   | exact True.intro
   | exact hp
   | ((try simp only [zF_,zG_,zk_] at*);omega)
   | (refine ⟨?_,rfl⟩;unfold ctB ctR ctK;rw [if_pos (by assumption),if_pos (by assumption),decide_eq_true (by assumption),hp];rfl)
   | (refine ⟨?_,rfl⟩;unfold ctB ctR ctK;rw [if_neg (by assumption),if_neg (by assumption),decide_eq_false (by assumption)];done)
 ·cases e
end Go.Eng
