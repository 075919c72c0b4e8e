/- Parts of the proof: O7, OA, OE, OI, M1. No condition. -/
import Derived.Test.YtimkdohmkfjfaaaGreatDoorProg
import Derived.Test.YtimkdohmkfjfaaaGreatDoorXH10
import Derived.KernelRfl
import Derived.Test.YtimkdohmkfjfaaaGreatDoorXH12
namespace Go.Eng
open Go.Proofs
set_option linter.unusedVariables false
set_option linter.unusedSimpArgs false
set_option maxRecDepth 100000
set_option maxHeartbeats 1000000
theorem hs_ (b:List Int):Q3_ [2,1,1] b=if b.length < 4 then ([],1) else ([Z2_ (b.take 2),b.getD 2 0,b.getD 3 0],0):=by
 have hr:Zr_ [2,1,1]=true:=by decide
 have a2:zR_ 2=2:=by decide
 have a1:zR_ 1=1:=by decide
 unfold Q3_
 rw [if_pos hr]
 unfold Kv_;unfold Kv_;unfold Kv_;unfold Kv_
 rw [a2,a1]
 by_cases h2:b.length < 2
 ·rw [if_pos (by omega),if_pos (by omega)]
 ·rw [if_neg (by omega),if_pos (by decide)]
  by_cases h3:b.length < 3
  ·rw [if_pos (by rw [List.length_drop];omega),if_pos (by omega)]
  ·rw [if_neg (by rw [List.length_drop];omega),if_pos (by decide)]
   by_cases h4:b.length < 4
   ·rw [if_pos (by rw [List.length_drop,List.length_drop];omega),if_pos (by omega)]
   ·rw [if_neg (by rw [List.length_drop,List.length_drop];omega),if_pos (by decide),if_neg h4]
    obtain _ | ⟨x,_ | ⟨y,_ | ⟨z,_ | ⟨w,r⟩⟩⟩⟩:=b
    all_goals simp at h4
    simp [Z2_]
theorem Bv_ (b:List Int):Q3_ [4] b=if b.length < 4 then ([],1) else ([Z2_ (b.take 4)],0):=by
 have hr:Zr_ [4]=true:=by decide
 have a4:zR_ 4=4:=by decide
 unfold Q3_
 rw [if_pos hr]
 unfold Kv_;unfold Kv_
 rw [a4]
 by_cases h4:b.length < 4
 ·rw [if_pos (by omega),if_pos h4]
 ·rw [if_neg (by omega),if_pos (by decide),if_neg h4];rfl
def zs_ (b:List Int):Int:=Z2_ (b.take 2)
def zF_ (b:List Int):Int:=(b.getD 2 0).tdiv 2
def Zv_ (b:List Int):Bool:=decide ((b.getD 2 0).tmod 2=1)
def q9_ (b:List Int):Int:=if zs_ b=65535 then Z2_ ((b.drop 4).take 4) else 0
def QF_ (b:List Int):Int:=if zs_ b=65535 then 8 else 4
def z3_ (b:List Int):Int:=Xo_ (Zv_ b) (zV_ (zs_ b)) (Z0_ (zs_ b) (zF_ b)) (b.getD 3 0)
def ki_ (b:List Int):Bool:=wx_ (Zv_ b) (zV_ (zs_ b)) (Z0_ (zs_ b) (zF_ b)) (b.getD 3 0)
def Z5_ (b:List Int):List Int:=(b.take (QF_ b+z3_ b).toNat).drop (QF_ b).toNat
def ZT_ (b:List Int):List Int:=if Zv_ b=true then (b.take (QF_ b+z3_ b+z3_ b).toNat).drop (QF_ b+z3_ b).toNat else []
def Zp_ (b:List Int):Int:=QF_ b+z3_ b+if Zv_ b=true then z3_ b else 0
def zC_ (b:List Int):Int:=if b.length < 4 then 1026 else if kC_ (zs_ b) (zF_ b)=false then 1031 else if Zv_ b=true/\Z1_ (zs_ b) (zF_ b)=false then 1033 else if ki_ b=false\/(b.length:Int) - 4 < b.getD 3 0 then 1026 else QZ_ (zF_ b) (Zv_ b) (Z5_ b) (ZT_ b) (qN_ (zs_ b) (zF_ b)) (zV_ (zs_ b))
def z8_ (b:List Int) (x:Int):Int:=if zC_ b=0 then x else 0
def ZH_ (b:List Int) (l:List Int):List Int:=if zC_ b=0 then l else []
theorem By_ {b:List Int} {sh od:Int} (h:4<=b.length):xl_ [2,1,1] b 0 0=[zs_ b,b.getD 2 0,b.getD 3 0]/\Wd_ [2,1,1] b 0 0=4/\We_ [2,1,1] b 0 sh od 0=0:=by
 have e:Q3_ [2,1,1] (b.drop (0:Int).toNat)=([Z2_ (b.take 2),b.getD 2 0,b.getD 3 0],0):=by
  rw [show (0:Int).toNat=0 from rfl,List.drop_zero,hs_,if_neg (by omega)]
 have es:kQ_ [2,1,1]=4:=by decide
 unfold xl_ Wd_ We_ XC_ JT_
 rw [e,es];exact ⟨rfl,rfl,rfl⟩
theorem Bz_ {b:List Int} {sh od:Int} (h:b.length < 4):xl_ [2,1,1] b 0 0=[]/\Wd_ [2,1,1] b 0 0=0/\We_ [2,1,1] b 0 sh od 0=sh:=by
 have e:Q3_ [2,1,1] (b.drop (0:Int).toNat)=([],1):=by
  rw [show (0:Int).toNat=0 from rfl,List.drop_zero,hs_,if_pos (by omega)]
 unfold xl_ Wd_ We_ XC_ JT_
 rw [e];exact ⟨rfl,rfl,rfl⟩
theorem b3_ {b:List Int} {p sh od:Int} (hp:0<=p) (h:p+4<=b.length):wu_ 4 b p 0=Z2_ ((b.drop p.toNat).take 4)/\jM_ 4 b p 0=p+4/\Jw_ 4 b p sh od 0=0:=by
 have e:Q3_ [4] (b.drop p.toNat)=([Z2_ ((b.drop p.toNat).take 4)],0):=by
  rw [Bv_,if_neg (by rw [List.length_drop];omega)]
 have es:kQ_ [4]=4:=by decide
 unfold wu_ jM_ Jw_ xl_ Wd_ We_ XC_ JT_
 rw [e,es];exact ⟨rfl,rfl,rfl⟩
theorem Ka_ {n p sh:Int} {b:List Int} (hn:0<=n) (h:p+n<=b.length):we_ n b p sh 0=(b.take (p+n).toNat).drop p.toNat/\xD_ n b p sh 0=p+n/\kj_ n b p sh 0=0:=by
 have e:kj_ n b p sh 0=0:=by unfold kj_;rw [if_neg (by omega),if_neg (by omega)]
 unfold we_ xD_;rw [e];exact ⟨rfl,rfl,rfl⟩
theorem wH_ {b:List Int} (hb:∀ x ∈ b,0<=x/\x<=255) (i:Nat):0<=b.getD i 0/\b.getD i 0<=255:=by
 by_cases h:i < b.length
 ·exact hb _ (Zs_ (α:=Int) h 0)
 ·rw [List.getD_eq_getElem?_getD,List.getElem?_eq_none (by omega)];decide
theorem bm_ {b:List Int} (hb:∀ x ∈ b,0<=x/\x<=255):0<=zs_ b/\zs_ b<=65535:=by
 have:=xr_ (b.take 2) fun x hx=>hb x (List.mem_of_mem_take hx)
 have h2:∀ k ≤ 2,(256:Int) ^ k<=65536:=by decide
 have:=h2 (b.take 2).length (by rw [List.length_take];omega)
 unfold zs_;omega
theorem gl_ {b:List Int} (hn:0<=b.getD 3 0) (hof:0<=Z0_ (zs_ b) (zF_ b)) (hk:ki_ b=true):0<=z3_ b/\Zp_ b=4+b.getD 3 0/\z3_ b<=Z0_ (zs_ b) (zF_ b):=by
 unfold ki_ wx_ at hk
 unfold Zp_ z3_ Xo_ QF_
 by_cases hc:zs_ b=65535
 ·have he:zV_ (zs_ b)=true:=decide_eq_true hc
  rw [he] at hk ⊢
  rw [if_pos hc]
  rw [if_pos rfl] at hk ⊢
  simp only [Bool.and_eq_true,decide_eq_true_eq] at hk
  obtain ⟨⟨k1,k2⟩,k3⟩:=hk
  cases hh:Zv_ b with
  | true=>
    rw [hh] at k2 k3
    simp only [if_true] at k2 k3 ⊢
    rw [wd_ k1] at k2;rw [Qh_ k1] at k3 ⊢;omega
  | false=>
    rw [hh] at k2 k3
    simp only [if_false,Bool.false_eq_true] at k2 k3 ⊢
    rw [Qh_ k1] at k3 ⊢;omega
 ·have he:zV_ (zs_ b)=false:=decide_eq_false hc
  rw [he] at hk ⊢
  rw [if_neg hc]
  simp only [if_false,Bool.false_eq_true,decide_eq_true_eq] at hk ⊢
  cases hh:Zv_ b with
  | true=>rw [hh] at hk;simp only [if_true] at hk ⊢;omega
  | false=>rw [hh] at hk;simp only [if_false,Bool.false_eq_true] at hk ⊢;omega
theorem HM_ {b:List Int} (hq:0<=b.getD 2 0/\b.getD 2 0<=255):0<=zF_ b/\zF_ b<=127:=by
 unfold zF_;rw [Qh_ hq.1];omega
theorem Ze_ {b:List Int} {p n:Int} (hp:0<=p) (hn:0<=n) (h:p+n<=b.length):((((b.take (p+n).toNat).drop p.toNat).length:Nat):Int)=n:=by
 rw [List.length_drop,List.length_take];omega
theorem kX_ {b:List Int} (h4:¬ b.length < 4) (hok:kC_ (zs_ b) (zF_ b)=true) (hm:Zv_ b=true->Z1_ (zs_ b) (zF_ b)=true) (hk:ki_ b=true) (hl:¬ (b.length:Int) - 4 < b.getD 3 0):zC_ b=QZ_ (zF_ b) (Zv_ b) (Z5_ b) (ZT_ b) (qN_ (zs_ b) (zF_ b)) (zV_ (zs_ b)):=by
 unfold zC_
 rw [if_neg h4,if_neg (by rw [hok];decide),if_neg (fun h=>by rw [hm h.1] at h;exact absurd h.2 (by decide)),if_neg (fun h=>h.elim (by rw [hk];decide) hl)]
def yQ_:IR:=
(sq (kr [0] [oD 2 (.box [.int .i64 0,.int .i64 0,.kb false,.int .u64 0,.imm (.int .u8) [],.imm (.int .u8) []]),
oD 3 (.mov (cI 0)),
oD 4 (.mov (cI 0))])
(sq (.reg [oM 14 0,
oC 15 51 [14,(cI 1026),(cI 1026)],
oM 5 15])
(sq (.reg [oM 16 5,
oD 17 (.sliceAll (.int .i64) 3 [(0,1,(cI 2)),(1,1,(cI 1)),(2,1,(cI 1))]),
oC 18 89 [16,17],
oM 6 18])
(sq (sq (kr [2,5,6] [oM 19 6,
oE 20 19,
oB 21 .eql 20 (cI 0)])
(.cond 21
(sq (kr [2,5] [oD 22 (.build [.int .i64 0,.int .i64 0,.kb false,.int .u64 0,.imm (.int .u8) [],.imm (.int .u8) []] []),
oM 23 5,
oC 24 53 [23],
oS 6 2 22,
oD 3 (.mov (cI 0)),
oM 4 24])
.ret)
.skip))
(sq (kd [2,5,6] [(oM 25 6,[]),
(oD 26 (.indexSl 1 25 (cI 0)),[]),
(oL 27 26,[]),
(oD 28 (.conv .i64 27),[]),
(oM 29 6,[0,0,0,0]),
(oD 30 (.indexSl 1 29 (cI 1)),[1,0,0,0]),
(oL 31 30,[2,0,0,0]),
(oB 32 .quo 31 (.c (.int .u64 2)),[3,0,0,0]),
(oD 33 (.conv .i64 32),[4,0,0,0]),
(oM 34 6,[0,0,0,0,0,0,0,0,0]),
(oD 35 (.indexSl 1 34 (cI 1)),[1,0,0,0,0,0,0,0,0]),
(oL 36 35,[2,0,0,0,0,0,0,0,0]),
(oB 37 .rem 36 (.c (.int .u64 2)),[3,0,0,0,0,0,0,0,0]),
(oB 38 .eql 37 (.c (.int .u64 1)),[4,0,0,0,0,0,0,0,0]),
(oD 39 (.build [.int .i64 0,.int .i64 0,.kb false,.int .u64 0,.imm (.int .u8) [],.imm (.int .u8) []] [(0,1,28),(1,1,33),(2,1,38)]),[]),
(oD 7 (.box [.int .i64 0,.int .i64 0,.kb false,.int .u64 0,.imm (.int .u8) [],.imm (.int .u8) []]),[0,0,0,0,0,0,0,0,0,0,0,0,0,0,0]),
(oS 6 7 39,[])])
(sq (kr [2,5,6,7] [oK 41 6 7,
oC 42 143 [41],
oM 40 42,
oX 43 40 0,
oX 44 40 1,
oD 8 (.box [.int .i64 0,.int .i64 0,.kb false,.kb false]),
oS 4 8 43,
oM 9 44])
(sq (kd [2,5,6,7,8,9] [(oK 46 6 7,[]),
(oK 47 4 8,[0]),
(oM 48 6,[0,0]),
(oD 49 (.indexSl 1 48 (cI 2)),[1,0]),
(oL 50 49,[2,0]),
(oD 51 (.conv .i64 50),[3,0]),
(oC 52 194 [46,47,51],[]),
(oM 45 52,[]),
(oX 53 45 0,[]),
(oX 54 45 1,[0]),
(oM 10 53,[0]),
(oM 11 54,[])])
(sq (.block 0
(sq (kr [2,5,6,7,8,9,10,11] [oM 56 9,
oD 57 (.un .not 56),
oM 55 57])
(.cond 55
(sq (.reg [oD 58 (.build [.int .i64 0,.int .i64 0,.kb false,.int .u64 0,.imm (.int .u8) [],.imm (.int .u8) []] []),
oS 6 2 58,
oD 3 (.mov (cI 0)),
oD 4 (.mov (cI 1031))])
.ret)
(sq (kr [2,5,6,7,8,10,11] [oA 60 2 7,
oL 61 60,
oM 62 61,
oT 62 63 (.fieldAddr 2 8),
oT 62 64 (.load none 63),
oT 62 65 (.un .not 64),
oP 66 62 65 cF,
oM 59 66])
(.cond 59
(sq (kr [2] [oD 67 (.build [.int .i64 0,.int .i64 0,.kb false,.int .u64 0,.imm (.int .u8) [],.imm (.int .u8) []] []),
oS 6 2 67,
oD 3 (.mov (cI 0)),
oD 4 (.mov (cI 1033))])
.ret)
(sq (kd [2,5,6,7,8,10,11] [(oM 69 11,[]),
(oD 70 (.un .not 69),[]),
(oM 71 70,[]),
(oF 71 72 (.mov 5),[]),
(oF 71 73 (.call false (.f 108) [72]),[]),
(oF 71 74 (.mov 6),[0,0]),
(oF 71 75 (.indexSl 1 74 (cI 2)),[1,0]),
(oF 71 76 (.load none 75),[2,0]),
(oF 71 77 (.conv .i64 76),[3,0]),
(oF 71 78 (.bin .lss 73 77),[]),
(oP 79 71 cT 78,[]),
(oM 68 79,[])])
(.cond 68
(sq (kr [2] [oD 80 (.build [.int .i64 0,.int .i64 0,.kb false,.int .u64 0,.imm (.int .u8) [],.imm (.int .u8) []] []),
oS 6 2 80,
oD 3 (.mov (cI 0)),
oD 4 (.mov (cI 1026))])
.ret)
(sq (kr [2,5,7,8,10] [oA 82 3 8,
oL 83 82,
oM 81 83])
(.cond 81
(.reg [oM 84 5,
oC 85 85 [84,(cI 4)],
oA 86 3 7,
oS 1 86 85])
.skip)))))))))
(sq (kr [2,5,7,8,10] [oM 87 5,
oD 88 (.mkfn 88 [87] []),
oM 12 88])
(sq (.reg [oM 89 12,
oM 90 10,
oD 91 (.call false 89 [90]),
oA 92 4 7,
oS 1 92 91])
(sq (sq (kr [2,5,7,8,10,12] [oA 93 2 7,
oL 94 93])
(.cond 94
(.reg [oM 95 12,
oM 96 10,
oD 97 (.call false 95 [96]),
oA 98 5 7,
oS 1 98 97])
.skip))
(sq (sq (kr [2,5,7,8] [oK 99 6 7,
oK 100 4 8,
oC 101 144 [99,100],
oM 13 101])
(sq (.reg [oM 102 13,
oB 103 .neq 102 (cI 0)])
(.cond 103
(sq (kr [2,13] [oD 104 (.build [.int .i64 0,.int .i64 0,.kb false,.int .u64 0,.imm (.int .u8) [],.imm (.int .u8) []] []),
oM 105 13,
oS 6 2 104,
oD 3 (.mov (cI 0)),
oM 4 105])
.ret)
.skip)))
(sq (kd [2,5,7] [(oK 106 6 7,[]),
(oM 107 5,[0]),
(oC 108 90 [107],[1]),
(oS 6 2 106,[]),
(oM 3 108,[]),
(oD 4 (.mov (cI 0)),[])])
.ret)))))))))))))
def yd_:List RD:=[.cell 2 (some 6) true [],.tmp 3 true none,.tmp 4 true none]
theorem yw_:zq_ Tryz.prog Tryz.f163 yQ_ yd_=true:=by kernel_rfl
def KG_:List AV->List Obj->Option (Prop × AV)
 | [.imm (.int .u8) b],[]=>some ((b.length<=140737488355328,.tup [.agg [.int .i64 (z8_ b (zs_ b)),.int .i64 (z8_ b (zF_ b)),.bool ((if zC_ b=0 then Zv_ b else false)),.int .u64 (z8_ b (q9_ b)),.imm (.int .u8) (ZH_ b (Z5_ b)),.imm (.int .u8) (ZH_ b (ZT_ b))],.int .i64 (z8_ b (Zp_ b)),.int .i64 (zC_ b)]))
 | _,_=>none
theorem xL_:ze_ Tryz.prog 163 (RoF KG_).sum:=by
 refine zk_ Tryz.func163 yw_ (za_ (s:=RwF QU_) jy_ (za_ (s:=RwF z9_) ZO_ (za_ (s:=RoF zQ_) Zn_ (za_ (s:=RoF wK_) xJ_ (za_ (s:=RoF J5_) YX_ (za_ (s:=RoF Zw_) qG_ (za_ (s:=RwF ZA_) qY_ (za_ (s:=RwF Zo_) qx_ (za_ (s:=RoF kv_) JA_ (za_ (s:=RoF ZJ_) Qp_ (zg_ _))))))))))) fun args objs p v e=>?_
 unfold KG_ at e
 split at e
 ·rename_i b
  cases e
  refine ⟨rfl,fun hw ho hp=>?_⟩
  change List Int at b
  have hb:∀ x ∈ b,0<=x/\x<=255:=fun x hx=>(hw (.imm (.int .u8) b) (by simp)).1 x hx
  by_cases h4:b.length < 4
  ·obtain ⟨hL,hP,hE⟩:=Bz_ (sh:=1026) (od:=1026) h4
   have hd:zC_ b=1026:=by unfold zC_;rw [if_pos h4]
   repeat'(intro t ht;first|(cases t<;>first|(cases ht;done)|(try simp only[zi_]at ht))|((first|refine zb_ ht ?_|refine ht ?_ ?_|refine ht.1 ?_ ?_|refine ht ?_)<;>clear ht))
   all_goals (try simp only [hL,hP,hE] at*)
   all_goals first
    | exact hp
    | exact absurd rfl ‹¬ ((([]:List Int).length:Int)=0)›
    | ((try simp only [zo_,zp_,zn_] at*);omega)
    | (simp only [z8_,ZH_,hd];exact ⟨rfl,by first | rfl | exact True.intro⟩)
  ·obtain ⟨hL,hP,hE⟩:=By_ (b:=b) (sh:=1026) (od:=1026) (by omega)
   have hC:=bm_ hb
   have hq:=wH_ hb 2
   have hn:=wH_ hb 3
   have hFl:=HM_ hq
   have hof:=Ym_ (zs_ b) (zF_ b)
   have g0:∀ d,[zs_ b,b.getD 2 0,b.getD 3 0].getD (Int.toNat 0) d=zs_ b:=fun _=>rfl
   have g1:∀ d,[zs_ b,b.getD 2 0,b.getD 3 0].getD (Int.toNat 1) d=b.getD 2 0:=fun _=>rfl
   have g2:∀ d,[zs_ b,b.getD 2 0,b.getD 3 0].getD (Int.toNat 2) d=b.getD 3 0:=fun _=>rfl
   have gl:((([zs_ b,b.getD 2 0,b.getD 3 0]).length:Nat):Int)=3:=rfl
   have hF:(b.getD 2 0).tdiv 2=zF_ b:=rfl
   have hH:((b.getD 2 0).tmod 2=1)=(Zv_ b=true):=propext ⟨fun h=>decide_eq_true h,fun h=>of_decide_eq_true h⟩
   have hS:Xo_ (Zv_ b) (zV_ (zs_ b)) (Z0_ (zs_ b) (zF_ b)) (b.getD 3 0)=z3_ b:=rfl
   have hK:wx_ (Zv_ b) (zV_ (zs_ b)) (Z0_ (zs_ b) (zF_ b)) (b.getD 3 0)=ki_ b:=rfl
   by_cases hs:ki_ b=true/\¬ (b.length:Int) - 4 < b.getD 3 0
   ·obtain ⟨hd1,hd2,hd3⟩:=gl_ hn.1 hof.1 hs.1
    by_cases hx:zs_ b=65535
    ·have hx':zV_ (zs_ b)=true:=decide_eq_true hx
     have h8:(8:Int)<=b.length:=by
      have h:=hs.1
      unfold ki_ wx_ at h
      rw [hx',if_pos rfl] at h
      simp only [Bool.and_eq_true,decide_eq_true_eq] at h
      omega
     cases hh:Zv_ b with
     | true=>
       have hd2':Zp_ b=QF_ b+z3_ b+z3_ b:=by unfold Zp_;rw [hh];rfl
       have hA:QF_ b=8:=if_pos hx
       obtain ⟨hN1,hN2,hN3⟩:=b3_ (b:=b) (p:=4) (sh:=1026) (od:=1026) (by decide) (by omega)
       have hX:q9_ b=Z2_ ((b.drop (4:Int).toNat).take 4):=if_pos hx
       simp only [show (4:Int)+4=8 from rfl] at hN2
       obtain ⟨hT1,hT2,hT3⟩:=Ka_ (n:=z3_ b) (p:=8) (sh:=1026) (b:=b) hd1 (by omega)
       have hV:(b.take (8+z3_ b).toNat).drop (8:Int).toNat=Z5_ b:=by unfold Z5_;rw [hA]
       have hVl:=Ze_ (b:=b) (p:=8) (n:=z3_ b) (by decide) hd1 (by omega)
       rw [hV] at hT1 hVl
       obtain ⟨hU1,hU2,hU3⟩:=Ka_ (n:=z3_ b) (p:=8+z3_ b) (sh:=1026) (b:=b) hd1 (by omega)
       have hM:(b.take (8+z3_ b+z3_ b).toNat).drop (8+z3_ b).toNat=ZT_ b:=by unfold ZT_;rw [hh,hA];rfl
       have hMl:=Ze_ (b:=b) (p:=8+z3_ b) (n:=z3_ b) (by omega) hd1 (by omega)
       rw [hM] at hU1 hMl
       have hNN:8+z3_ b+z3_ b=Zp_ b:=by omega
       have hdw:kC_ (zs_ b) (zF_ b)=true->Z1_ (zs_ b) (zF_ b)=true->zC_ b=QZ_ (zF_ b) true (Z5_ b) (ZT_ b) (qN_ (zs_ b) (zF_ b)) true:=fun h1 h3=>by rw [kX_ h4 h1 (fun h2=>h3) hs.1 hs.2,hh,hx']
       have hdm:Zv_ b=true->Z1_ (zs_ b) (zF_ b)=false->kC_ (zs_ b) (zF_ b)=true->zC_ b=1033:=fun h1 h2 h3=>by unfold zC_;rw [if_neg h4,h3,h1,h2];rfl
       rw [hh] at hdm
       obtain ⟨c1,hc1⟩:∃ p:Prop,p=(ki_ b=true):=⟨_,rfl⟩
       repeat'(intro t ht;first|(cases t<;>first|(cases ht;done)|(try simp only[zi_]at ht))|((first|refine zb_ ht ?_|refine ht ?_ ?_|refine ht.1 ?_ ?_|refine ht ?_)<;>clear ht))
       all_goals (try simp only [hL,hP,hE,g0,g1,g2,gl,hF,hH,hS,hK,Bool.decide_eq_true] at*)
       all_goals (try simp only [hh,hx',hT1,hT2,hT3,hNN,Bool.false_eq_true,not_false_eq_true,not_true_eq_false,reduceCtorEq,hN1,hN2,hN3,hU1,hU2,hU3] at*)
       all_goals first
        | exact hp
        | exact (by decide)
        | omega
        | ((try simp only [zo_,zp_,zn_] at*);omega)
        | (refine ⟨fun h=>?_,?_,?_,?_⟩<;>first | omega | (simp only [List.length_nil];omega) | (cases h;done))
        | exact absurd hs.1 (by rw [‹ki_ b=false›];decide)
        | (have h0:zC_ b=1031:=by unfold zC_;rw [if_neg h4,if_pos (by assumption)]
           simp only [z8_,ZH_,h0];exact ⟨rfl,by first | rfl | exact True.intro⟩)
        | (have h0:zC_ b=1033:=hdm (by first | rfl | exact True.intro) (by assumption) (by assumption)
           simp only [z8_,ZH_,h0];exact ⟨rfl,by first | rfl | exact True.intro⟩)
        | (have hd:=hdw (by assumption) (by assumption)
           first
            | (have h0:zC_ b=0:=hd.trans (by assumption)
               refine ⟨?_,by first | rfl | exact True.intro⟩;first | (simp only [z8_,ZH_,if_pos h0,h0,ite_self,hX];done) | (simp only [z8_,ZH_,if_pos h0,h0,ite_self,hX];rfl))
            | (have h0:¬ zC_ b=0:=by rw [hd];assumption
               refine ⟨?_,by first | rfl | exact True.intro⟩;simp only [z8_,ZH_,if_neg h0,ite_self];rw [hd]))
     | false=>
       have hd2':Zp_ b=QF_ b+z3_ b:=by unfold Zp_;rw [hh];simp
       have hA:QF_ b=8:=if_pos hx
       obtain ⟨hN1,hN2,hN3⟩:=b3_ (b:=b) (p:=4) (sh:=1026) (od:=1026) (by decide) (by omega)
       have hX:q9_ b=Z2_ ((b.drop (4:Int).toNat).take 4):=if_pos hx
       simp only [show (4:Int)+4=8 from rfl] at hN2
       obtain ⟨hT1,hT2,hT3⟩:=Ka_ (n:=z3_ b) (p:=8) (sh:=1026) (b:=b) hd1 (by omega)
       have hV:(b.take (8+z3_ b).toNat).drop (8:Int).toNat=Z5_ b:=by unfold Z5_;rw [hA]
       have hVl:=Ze_ (b:=b) (p:=8) (n:=z3_ b) (by decide) hd1 (by omega)
       rw [hV] at hT1 hVl
       have hM:ZT_ b=[]:=by unfold ZT_;rw [hh];rfl
       have hMl:(((ZT_ b).length:Nat):Int)=0:=by rw [hM];rfl
       have hNN:8+z3_ b=Zp_ b:=by omega
       have hdw:kC_ (zs_ b) (zF_ b)=true->zC_ b=QZ_ (zF_ b) false (Z5_ b) [] (qN_ (zs_ b) (zF_ b)) true:=fun h1=>by rw [kX_ h4 h1 (fun h2=>absurd h2 (by rw [hh];decide)) hs.1 hs.2,hh,hx',hM]
       have hdm:Zv_ b=true->Z1_ (zs_ b) (zF_ b)=false->kC_ (zs_ b) (zF_ b)=true->zC_ b=1033:=fun h1 h2 h3=>by unfold zC_;rw [if_neg h4,h3,h1,h2];rfl
       rw [hh] at hdm
       obtain ⟨c1,hc1⟩:∃ p:Prop,p=(ki_ b=true):=⟨_,rfl⟩
       repeat'(intro t ht;first|(cases t<;>first|(cases ht;done)|(try simp only[zi_]at ht))|((first|refine zb_ ht ?_|refine ht ?_ ?_|refine ht.1 ?_ ?_|refine ht ?_)<;>clear ht))
       all_goals (try simp only [hL,hP,hE,g0,g1,g2,gl,hF,hH,hS,hK,Bool.decide_eq_true] at*)
       all_goals (try simp only [hh,hx',hT1,hT2,hT3,hNN,Bool.false_eq_true,not_false_eq_true,not_true_eq_false,reduceCtorEq,hN1,hN2,hN3] at*)
       all_goals first
        | exact hp
        | exact (by decide)
        | omega
        | ((try simp only [zo_,zp_,zn_] at*);omega)
        | (refine ⟨fun h=>?_,?_,?_,?_⟩<;>first | omega | (simp only [List.length_nil];omega) | (cases h;done))
        | exact absurd hs.1 (by rw [‹ki_ b=false›];decide)
        | (have h0:zC_ b=1031:=by unfold zC_;rw [if_neg h4,if_pos (by assumption)]
           simp only [z8_,ZH_,h0];exact ⟨rfl,by first | rfl | exact True.intro⟩)
        | (have h0:zC_ b=1033:=hdm (by first | rfl | exact True.intro) (by assumption) (by assumption)
           simp only [z8_,ZH_,h0];exact ⟨rfl,by first | rfl | exact True.intro⟩)
        | (have hd:=hdw (by assumption)
           first
            | (have h0:zC_ b=0:=hd.trans (by assumption)
               refine ⟨?_,by first | rfl | exact True.intro⟩;first | (simp only [z8_,ZH_,if_pos h0,h0,ite_self,hM,hX];done) | (simp only [z8_,ZH_,if_pos h0,h0,ite_self,hM,hX];rfl))
            | (have h0:¬ zC_ b=0:=by rw [hd];assumption
               refine ⟨?_,by first | rfl | exact True.intro⟩;simp only [z8_,ZH_,if_neg h0,ite_self];rw [hd]))
    ·have hx':zV_ (zs_ b)=false:=decide_eq_false hx
     cases hh:Zv_ b with
     | true=>
       have hd2':Zp_ b=QF_ b+z3_ b+z3_ b:=by unfold Zp_;rw [hh];rfl
       have hA:QF_ b=4:=if_neg hx
       have hX:q9_ b=0:=if_neg hx
       obtain ⟨hT1,hT2,hT3⟩:=Ka_ (n:=z3_ b) (p:=4) (sh:=1026) (b:=b) hd1 (by omega)
       have hV:(b.take (4+z3_ b).toNat).drop (4:Int).toNat=Z5_ b:=by unfold Z5_;rw [hA]
       have hVl:=Ze_ (b:=b) (p:=4) (n:=z3_ b) (by decide) hd1 (by omega)
       rw [hV] at hT1 hVl
       obtain ⟨hU1,hU2,hU3⟩:=Ka_ (n:=z3_ b) (p:=4+z3_ b) (sh:=1026) (b:=b) hd1 (by omega)
       have hM:(b.take (4+z3_ b+z3_ b).toNat).drop (4+z3_ b).toNat=ZT_ b:=by unfold ZT_;rw [hh,hA];rfl
       have hMl:=Ze_ (b:=b) (p:=4+z3_ b) (n:=z3_ b) (by omega) hd1 (by omega)
       rw [hM] at hU1 hMl
       have hNN:4+z3_ b+z3_ b=Zp_ b:=by omega
       have hdw:kC_ (zs_ b) (zF_ b)=true->Z1_ (zs_ b) (zF_ b)=true->zC_ b=QZ_ (zF_ b) true (Z5_ b) (ZT_ b) (qN_ (zs_ b) (zF_ b)) false:=fun h1 h3=>by rw [kX_ h4 h1 (fun h2=>h3) hs.1 hs.2,hh,hx']
       have hdm:Zv_ b=true->Z1_ (zs_ b) (zF_ b)=false->kC_ (zs_ b) (zF_ b)=true->zC_ b=1033:=fun h1 h2 h3=>by unfold zC_;rw [if_neg h4,h3,h1,h2];rfl
       rw [hh] at hdm
       obtain ⟨c1,hc1⟩:∃ p:Prop,p=(ki_ b=true):=⟨_,rfl⟩
       repeat'(intro t ht;first|(cases t<;>first|(cases ht;done)|(try simp only[zi_]at ht))|((first|refine zb_ ht ?_|refine ht ?_ ?_|refine ht.1 ?_ ?_|refine ht ?_)<;>clear ht))
       all_goals (try simp only [hL,hP,hE,g0,g1,g2,gl,hF,hH,hS,hK,Bool.decide_eq_true] at*)
       all_goals (try simp only [hh,hx',hT1,hT2,hT3,hNN,Bool.false_eq_true,not_false_eq_true,not_true_eq_false,reduceCtorEq,hU1,hU2,hU3] at*)
       all_goals first
        | exact hp
        | exact (by decide)
        | omega
        | ((try simp only [zo_,zp_,zn_] at*);omega)
        | (refine ⟨fun h=>?_,?_,?_,?_⟩<;>first | omega | (simp only [List.length_nil];omega) | (cases h;done))
        | exact absurd hs.1 (by rw [‹ki_ b=false›];decide)
        | (have h0:zC_ b=1031:=by unfold zC_;rw [if_neg h4,if_pos (by assumption)]
           simp only [z8_,ZH_,h0];exact ⟨rfl,by first | rfl | exact True.intro⟩)
        | (have h0:zC_ b=1033:=hdm (by first | rfl | exact True.intro) (by assumption) (by assumption)
           simp only [z8_,ZH_,h0];exact ⟨rfl,by first | rfl | exact True.intro⟩)
        | (have hd:=hdw (by assumption) (by assumption)
           first
            | (have h0:zC_ b=0:=hd.trans (by assumption)
               refine ⟨?_,by first | rfl | exact True.intro⟩;first | (simp only [z8_,ZH_,if_pos h0,h0,ite_self,hX];done) | (simp only [z8_,ZH_,if_pos h0,h0,ite_self,hX];rfl))
            | (have h0:¬ zC_ b=0:=by rw [hd];assumption
               refine ⟨?_,by first | rfl | exact True.intro⟩;simp only [z8_,ZH_,if_neg h0,ite_self];rw [hd]))
     | false=>
       have hd2':Zp_ b=QF_ b+z3_ b:=by unfold Zp_;rw [hh];simp
       have hA:QF_ b=4:=if_neg hx
       have hX:q9_ b=0:=if_neg hx
       obtain ⟨hT1,hT2,hT3⟩:=Ka_ (n:=z3_ b) (p:=4) (sh:=1026) (b:=b) hd1 (by omega)
       have hV:(b.take (4+z3_ b).toNat).drop (4:Int).toNat=Z5_ b:=by unfold Z5_;rw [hA]
       have hVl:=Ze_ (b:=b) (p:=4) (n:=z3_ b) (by decide) hd1 (by omega)
       rw [hV] at hT1 hVl
       have hM:ZT_ b=[]:=by unfold ZT_;rw [hh];rfl
       have hMl:(((ZT_ b).length:Nat):Int)=0:=by rw [hM];rfl
       have hNN:4+z3_ b=Zp_ b:=by omega
       have hdw:kC_ (zs_ b) (zF_ b)=true->zC_ b=QZ_ (zF_ b) false (Z5_ b) [] (qN_ (zs_ b) (zF_ b)) false:=fun h1=>by rw [kX_ h4 h1 (fun h2=>absurd h2 (by rw [hh];decide)) hs.1 hs.2,hh,hx',hM]
       have hdm:Zv_ b=true->Z1_ (zs_ b) (zF_ b)=false->kC_ (zs_ b) (zF_ b)=true->zC_ b=1033:=fun h1 h2 h3=>by unfold zC_;rw [if_neg h4,h3,h1,h2];rfl
       rw [hh] at hdm
       obtain ⟨c1,hc1⟩:∃ p:Prop,p=(ki_ b=true):=⟨_,rfl⟩
       repeat'(intro t ht;first|(cases t<;>first|(cases ht;done)|(try simp only[zi_]at ht))|((first|refine zb_ ht ?_|refine ht ?_ ?_|refine ht.1 ?_ ?_|refine ht ?_)<;>clear ht))
       all_goals (try simp only [hL,hP,hE,g0,g1,g2,gl,hF,hH,hS,hK,Bool.decide_eq_true] at*)
       all_goals (try simp only [hh,hx',hT1,hT2,hT3,hNN,Bool.false_eq_true,not_false_eq_true,not_true_eq_false,reduceCtorEq] at*)
       all_goals first
        | exact hp
        | exact (by decide)
        | omega
        | ((try simp only [zo_,zp_,zn_] at*);omega)
        | (refine ⟨fun h=>?_,?_,?_,?_⟩<;>first | omega | (simp only [List.length_nil];omega) | (cases h;done))
        | exact absurd hs.1 (by rw [‹ki_ b=false›];decide)
        | (have h0:zC_ b=1031:=by unfold zC_;rw [if_neg h4,if_pos (by assumption)]
           simp only [z8_,ZH_,h0];exact ⟨rfl,by first | rfl | exact True.intro⟩)
        | (have h0:zC_ b=1033:=hdm (by first | rfl | exact True.intro) (by assumption) (by assumption)
           simp only [z8_,ZH_,h0];exact ⟨rfl,by first | rfl | exact True.intro⟩)
        | (have hd:=hdw (by assumption)
           first
            | (have h0:zC_ b=0:=hd.trans (by assumption)
               refine ⟨?_,by first | rfl | exact True.intro⟩;first | (simp only [z8_,ZH_,if_pos h0,h0,ite_self,hM,hX];done) | (simp only [z8_,ZH_,if_pos h0,h0,ite_self,hM,hX];rfl))
            | (have h0:¬ zC_ b=0:=by rw [hd];assumption
               refine ⟨?_,by first | rfl | exact True.intro⟩;simp only [z8_,ZH_,if_neg h0,ite_self];rw [hd]))
   ·have hs':ki_ b=false\/(b.length:Int) - 4 < b.getD 3 0:=by
     cases hk:ki_ b with
     | false=>exact .inl rfl
     | true=>exact .inr (Decidable.by_contra fun h=>hs ⟨hk,h⟩)
    have hd3:kC_ (zs_ b) (zF_ b)=true->(Zv_ b=true->Z1_ (zs_ b) (zF_ b)=true)->zC_ b=1026:=fun h1 h2=>by
     unfold zC_
     rw [if_neg h4,if_neg (by rw [h1];decide),if_neg (fun h=>by rw [h2 h.1] at h;exact absurd h.2 (by decide)),if_pos hs']
    repeat'(intro t ht;first|(cases t<;>first|(cases ht;done)|(try simp only[zi_]at ht))|((first|refine zb_ ht ?_|refine ht ?_ ?_|refine ht.1 ?_ ?_|refine ht ?_)<;>clear ht))
    all_goals (try simp only [hL,hP,hE,g0,g1,g2,gl,hF,hH,hS,hK,Bool.decide_eq_true] at*)
    all_goals first
     | exact hp
     | exact (by decide)
     | exact absurd ⟨by assumption,by assumption⟩ hs
     | omega
     | ((try simp only [zo_,zp_,zn_] at*);omega)
     | (have h0:zC_ b=1031:=by unfold zC_;rw [if_neg h4,if_pos (by assumption)]
        simp only [z8_,ZH_,h0];exact ⟨rfl,by first | rfl | exact True.intro⟩)
     | (have h0:zC_ b=1033:=by unfold zC_;rw [if_neg h4,if_neg (by simp_all;done),if_pos ⟨by assumption,by assumption⟩]
        simp only [z8_,ZH_,h0];exact ⟨rfl,by first | rfl | exact True.intro⟩)
     | (have h0:zC_ b=1026:=hd3 (by assumption) (fun h=>by first | assumption | exact absurd h (by assumption))
        simp only [z8_,ZH_,h0];exact ⟨rfl,by first | rfl | exact True.intro⟩)
 ·cases e
def vB_:IR:=
(sq (kr [0,1] [oD 2 (.boxv 0),
oD 3 (.boxv 1),
oD 4 (.mov cF)])
(sq (kr [2,3] [oA 5 0 2,
oL 6 5,
oA 7 0 3,
oL 8 7,
oB 9 .eql 6 8,
oM 10 9,
oT 10 11 (.fieldAddr 1 2),
oT 10 12 (.load none 11),
oT 10 13 (.fieldAddr 1 3),
oT 10 14 (.load none 13),
oT 10 15 (.bin .eql 12 14),
oP 16 10 15 cF,
oM 17 16,
oT 17 18 (.fieldAddr 3 2),
oT 17 19 (.load none 18),
oT 17 20 (.fieldAddr 3 3),
oT 17 21 (.load none 20),
oT 17 22 (.bin .eql 19 21),
oP 23 17 22 cF,
oM 4 23])
.ret))
def Y7_:List RD:=[.tmp 4 true none]
theorem vi_:zq_ Tryz.prog Tryz.f96 vB_ Y7_=true:=by kernel_rfl
def j9_:List AV->List Obj->Option (Prop × AV)
 | [.agg [.int .i64 c,.int .i64 f,.bool h,.int .u64 x,.imm (.int .u8) v,.imm (.int .u8) m],.agg [.int .i64 c',.int .i64 f',.bool h',.int .u64 x',.imm (.int .u8) v',.imm (.int .u8) m']],[]=>some ((True,.bool (decide (c=c') && decide (f=f') && decide (x=x'))))
 | _,_=>none
theorem X7_:ze_ Tryz.prog 96 (RoF j9_).sum:=by
 refine zk_ Tryz.func96 vi_ (zg_ _) fun args objs p v e=>?_
 unfold j9_ at e
 split at e
 ·rename_i c f h x v m c' f' h' x' v' m'
  cases e
  refine ⟨rfl,fun hw ho hp=>?_⟩
  change List Int at v
  change List Int at m
  change List Int at v'
  change List Int at m'
  repeat'(intro t ht;first|(cases t<;>first|(cases ht;done)|(try simp only[zi_]at ht))|((first|refine zb_ ht ?_|refine ht ?_ ?_|refine ht.1 ?_ ?_|refine ht ?_)<;>clear ht))
  all_goals first
   | exact True.intro
   | (simp_all;done)
 ·cases e
def KT_ (c f:Int) (h:Bool) (x:Int) (v m:List Int) (c' f':Int) (h':Bool) (x':Int) (v' m':List Int):Bool:=decide (c=c') && decide (f=f') && decide (x=x') && (h == h') && decide (v=v') && decide (m=m')
theorem gG_ (c f:Int) (h:Bool) (x:Int) (v m:List Int):KT_ c f h x v m c f h x v m=true:=by unfold KT_;simp
def V0_:IR:=
(sq (kr [0,1] [oD 2 (.boxv 0),
oD 3 (.boxv 1),
oD 4 (.mov cF)])
(sq (kr [2,3] [oK 5 6 2,
oK 6 6 3,
oC 7 96 [5,6],
oM 8 7,
oT 8 9 (.fieldAddr 2 2),
oT 8 10 (.load none 9),
oT 8 11 (.fieldAddr 2 3),
oT 8 12 (.load none 11),
oT 8 13 (.eqb false 10 12),
oP 14 8 13 cF,
oM 15 14,
oT 15 16 (.fieldAddr 4 2),
oT 15 17 (.load none 16),
oT 15 18 (.fieldAddr 4 3),
oT 15 19 (.load none 18),
oT 15 20 (.call false (.f 20) [17,19]),
oP 21 15 20 cF,
oM 22 21,
oT 22 23 (.fieldAddr 5 2),
oT 22 24 (.load none 23),
oT 22 25 (.fieldAddr 5 3),
oT 22 26 (.load none 25),
oT 22 27 (.call false (.f 20) [24,26]),
oP 28 22 27 cF,
oM 4 28])
.ret))
def Vi_:List RD:=[.tmp 4 true none]
theorem VA_:zq_ Tryz.prog Tryz.f43 V0_ Vi_=true:=by kernel_rfl
def J3_:List AV->List Obj->Option (Prop × AV)
 | [.agg [.int .i64 c,.int .i64 f,.bool h,.int .u64 x,.imm (.int .u8) v,.imm (.int .u8) m],.agg [.int .i64 c',.int .i64 f',.bool h',.int .u64 x',.imm (.int .u8) v',.imm (.int .u8) m']],[]=>some ((True,.bool (KT_ c f h x v m c' f' h' x' v' m')))
 | _,_=>none
theorem YV_:ze_ Tryz.prog 43 (RoF J3_).sum:=by
 refine zk_ Tryz.func43 VA_ (za_ (s:=RoF j9_) X7_ (za_ (s:=RoF ku_) Jz_ (zg_ _))) fun args objs p v e=>?_
 unfold J3_ at e
 split at e
 ·rename_i c f h x v m c' f' h' x' v' m'
  cases e
  refine ⟨rfl,fun hw ho hp=>?_⟩
  change List Int at v
  change List Int at m
  change List Int at v'
  change List Int at m'
  repeat'(intro t ht;first|(cases t<;>first|(cases ht;done)|(try simp only[zi_]at ht))|((first|refine zb_ ht ?_|refine ht ?_ ?_|refine ht.1 ?_ ?_|refine ht ?_)<;>clear ht))
  all_goals first
   | exact True.intro
   | (refine ⟨?_,rfl⟩;unfold KT_;simp_all;done)
   | (refine ⟨?_,rfl⟩;unfold KT_;cases h<;>cases h'<;>simp_all;done)
   | (refine ⟨?_,rfl⟩;unfold KT_;rcases ‹(¬c=c'\/¬f=f')\/¬x=x'› with (h1 | h1) | h1<;>rw [decide_eq_false h1]<;>simp)
 ·cases e
def Um_:IR:=
(sq (kr [0] [oD 1 (.boxv 0),
oD 2 (.mov cF)])
(sq (kr [1] [oA 3 4 1,
oL 4 3,
oE 5 4,
oB 6 .leq 5 (cI 300),
oM 7 6,
oT 7 8 (.fieldAddr 5 1),
oT 7 9 (.load none 8),
oT 7 10 (.len 9),
oT 7 11 (.bin .leq 10 (cI 300)),
oP 12 7 11 cF,
oM 2 12])
.ret))
def uZ_:List RD:=[.tmp 2 true none]
theorem u5_:zq_ Tryz.prog Tryz.f37 Um_ uZ_=true:=by kernel_rfl
def Ws_:List AV->List Obj->Option (Prop × AV)
 | [.agg [.int .i64 c,.int .i64 f,.bool h,.int .u64 x,.imm (.int .u8) v,.imm (.int .u8) m]],[]=>some ((True,.bool (decide (v.length<=300) && decide (m.length<=300))))
 | _,_=>none
theorem v9_:ze_ Tryz.prog 37 (RoF Ws_).sum:=by
 refine zk_ Tryz.func37 u5_ (zg_ _) fun args objs p v e=>?_
 unfold Ws_ at e
 split at e
 ·rename_i c f h x v m
  cases e
  refine ⟨rfl,fun hw ho hp=>?_⟩
  change List Int at v
  change List Int at m
  repeat'(intro t ht;first|(cases t<;>first|(cases ht;done)|(try simp only[zi_]at ht))|((first|refine zb_ ht ?_|refine ht ?_ ?_|refine ht.1 ?_ ?_|refine ht ?_)<;>clear ht))
  all_goals first
   | exact True.intro
   | (simp_all;done)
   | (have e:decide (v.length<=300)=false:=decide_eq_false (by omega)
      rw [e];exact ⟨rfl,rfl⟩)
   | (have e:decide (v.length<=300)=true:=decide_eq_true (by omega)
      rw [e];refine ⟨?_,rfl⟩;rw [Bool.true_and];congr 1;rw [Bool.eq_iff_iff];simp only [decide_eq_true_eq];omega)
 ·cases e
theorem zu (x:Int) (h0:0<=x):x.fdiv (2 ^ (min (Int.toNat 32) IntKind.u64.bits))=0 ↔ x < 4294967296:=by
 rw [show (2:Int) ^ (min (Int.toNat 32) IntKind.u64.bits)=4294967296 from by decide,Int.fdiv_eq_ediv_of_nonneg _ (by decide)];omega
theorem bg_ {n:Int} (h:0<=n/\n<=255):zf_ n 1=[n]:=by
 show [(n.fdiv (2 ^ (min (8*((1:Int) - 1 - ((0:Nat):Int))).toNat 64))) % 256]=[n]
 rw [show (min (8*((1:Int) - 1 - ((0:Nat):Int))).toNat 64)=0 from by decide,Int.pow_zero,Int.fdiv_one]
 congr 1;omega
theorem ZV_ {c f:Int} {h:Bool} {x:Int} {v m:List Int} (hr:z0_ c f h x v m=true):0<=f/\f<=127/\(c=65535\/c=32768)/\(v.length:Int)<=100/\(m.length:Int)<=100/\0<=zS_ c v m/\zS_ c v m<=204/\zS_ c v m=(j4_ c x v m).length:=by
 obtain ⟨r1,r2,r3,r4,_⟩:=kT_ hr
 have hof:=Ym_ c f
 have hm:(m.length:Int)<=100:=by cases h;have:=r3 rfl;omega;have:=r2 rfl;omega
 have hb:zS_ c v m=(j4_ c x v m).length:=by
  have l4:=zm_ (n:=x) (w:=4) (by decide)
  unfold zS_ j4_
  split
  ·rw [List.length_append,List.length_append];omega
  ·rw [List.length_append,List.length_append,List.length_nil];omega
 have h0:0<=zS_ c v m/\zS_ c v m<=204:=by unfold zS_;split<;>omega
 have hcf:0<=f/\f<=127/\(c=65535\/c=32768):=by
  unfold kC_ at r4
  split at r4
  ·simp at r4;omega
  ·simp at r4;have:=QI_.1 r4.1;omega
 exact ⟨hcf.1,hcf.2.1,hcf.2.2,by omega,hm,h0.1,h0.2,hb⟩
theorem gj_ {c f:Int} {h:Bool} {x:Int} {v m:List Int} (hr:z0_ c f h x v m=true):XI_ c f h x v m=qt_ c f h x v m:=by
 obtain ⟨n1,n2,n3,n4,n5,n6,n7,n8⟩:=ZV_ hr
 unfold XI_ gi_ qt_
 rw [bg_ (n:=2*f+if h=true then 1 else 0) (by split<;>omega),bg_ (n:=zS_ c v m) (by omega),n8]
 unfold j4_
 simp only [List.append_assoc,List.cons_append,List.nil_append]
theorem GC_ {c f:Int} {h:Bool} {x:Int} {v m:List Int}:kl_ c f h x v m=((if z0_ c f h x v m=true then qt_ c f h x v m else []).length:Int):=by
 unfold kl_
 split
 ·rename_i hr
  obtain ⟨n1,n2,n3,n4,n5,n6,n7,n8⟩:=ZV_ hr
  have l2:=zm_ (n:=c) (w:=2) (by decide)
  unfold qt_
  rw [n8]
  simp only [List.length_append,List.length_cons,List.length_nil];omega
 ·rfl
def L1:List Int:=[128,0,10,2,8,0,7]
def L2:List Int:=[128,0,11,4,8,0,8,0]
theorem s1:zC_ L1=0/\z8_ L1 (zs_ L1)=32768/\z8_ L1 (zF_ L1)=5/\Zv_ L1=false/\z8_ L1 (q9_ L1)=0/\ZH_ L1 (Z5_ L1)=[8,0]/\ZH_ L1 (ZT_ L1)=[]/\z8_ L1 (Zp_ L1)=6/\zC_ L2=1033:=by decide+kernel
theorem s2:z0_ 32768 5 false 0 [8,0] []=true/\XI_ 32768 5 false 0 [8,0] []=[128,0,10,2,8,0]:=by decide+kernel
def Xx_:IR:=
(sq (kr [0,1] [oD 4 (.mov cF)])
(sq (kr [0,1] [oM 5 0,
oD 6 (.b2s 5),
oM 7 1,
oD 8 (.b2s 7),
oB 9 .eql 6 8,
oM 4 9])
.ret))
def x4_:List RD:=[.tmp 4 true none]
theorem Xi_:zq_ Tryz.prog Tryz.f71 Xx_ x4_=true:=by kernel_rfl
def kI_:List AV->List Obj->Option (Prop × AV)
 | [.imm (.int .u8) a,.imm (.int .u8) b],[]=>some ((True,.bool (decide (a=b))))
 | _,_=>none
theorem WY_:ze_ Tryz.prog 71 (RoF kI_).sum:=by
 refine zk_ Tryz.func71 Xi_ (zg_ _) fun args objs p v e=>?_
 unfold kI_ at e
 split at e
 ·rename_i a b
  cases e
  refine ⟨rfl,fun hw ho hp=>?_⟩
  change List Int at a
  change List Int at b
  repeat'(intro t ht;first|(cases t<;>first|(cases ht;done)|(try simp only[zi_]at ht))|((first|refine zb_ ht ?_|refine ht ?_ ?_|refine ht.1 ?_ ?_|refine ht ?_)<;>clear ht))
  all_goals first
   | exact True.intro
   | exact ⟨rfl,rfl⟩
 ·cases e
def vG_:IR:=
(sq (kr [0,1] [oD 2 (.boxv 0),
oD 3 (.boxv 1),
oD 4 (.mov cF)])
(sq (kr [2,3] [oA 5 0 2,
oL 6 5,
oA 7 0 3,
oL 8 7,
oB 9 .eql 6 8,
oM 10 9,
oT 10 11 (.fieldAddr 1 2),
oT 10 12 (.load none 11),
oT 10 13 (.fieldAddr 1 3),
oT 10 14 (.load none 13),
oT 10 15 (.bin .eql 12 14),
oP 16 10 15 cF,
oM 17 16,
oT 17 18 (.fieldAddr 3 2),
oT 17 19 (.load none 18),
oT 17 20 (.fieldAddr 3 3),
oT 17 21 (.load none 20),
oT 17 22 (.bin .eql 19 21),
oP 23 17 22 cF,
oM 4 23])
.ret))
def vc_:List RD:=[.tmp 4 true none]
theorem vn_:zq_ Tryz.prog Tryz.f97 vG_ vc_=true:=by kernel_rfl
def kw_:List AV->List Obj->Option (Prop × AV)
 | [.agg [.int .i64 c,.int .i64 f,.bool h,.int .u64 x,.imm (.int .u8) v,.imm (.int .u8) m],.agg [.int .i64 c',.int .i64 f',.bool h',.int .u64 x',.imm (.int .u8) v',.imm (.int .u8) m']],[]=>some ((True,.bool (decide (c=c') && decide (f=f') && decide (x=x'))))
 | _,_=>none
theorem JB_:ze_ Tryz.prog 97 (RoF kw_).sum:=by
 refine zk_ Tryz.func97 vn_ (zg_ _) fun args objs p v e=>?_
 unfold kw_ at e
 split at e
 ·rename_i c f h x v m c' f' h' x' v' m'
  cases e
  refine ⟨rfl,fun hw ho hp=>?_⟩
  change List Int at v
  change List Int at m
  change List Int at v'
  change List Int at m'
  repeat'(intro t ht;first|(cases t<;>first|(cases ht;done)|(try simp only[zi_]at ht))|((first|refine zb_ ht ?_|refine ht ?_ ?_|refine ht.1 ?_ ?_|refine ht ?_)<;>clear ht))
  all_goals first
   | exact True.intro
   | (simp_all;done)
 ·cases e
def V5_:IR:=
(sq (kr [0,1] [oD 2 (.boxv 0),
oD 3 (.boxv 1),
oD 4 (.mov cF)])
(sq (kr [2,3] [oK 5 6 2,
oK 6 6 3,
oC 7 97 [5,6],
oM 8 7,
oT 8 9 (.fieldAddr 2 2),
oT 8 10 (.load none 9),
oT 8 11 (.fieldAddr 2 3),
oT 8 12 (.load none 11),
oT 8 13 (.eqb false 10 12),
oP 14 8 13 cF,
oM 15 14,
oT 15 16 (.fieldAddr 4 2),
oT 15 17 (.load none 16),
oT 15 18 (.fieldAddr 4 3),
oT 15 19 (.load none 18),
oT 15 20 (.call false (.f 71) [17,19]),
oP 21 15 20 cF,
oM 22 21,
oT 22 23 (.fieldAddr 5 2),
oT 22 24 (.load none 23),
oT 22 25 (.fieldAddr 5 3),
oT 22 26 (.load none 25),
oT 22 27 (.call false (.f 71) [24,26]),
oP 28 22 27 cF,
oM 4 28])
.ret))
def Vn_:List RD:=[.tmp 4 true none]
theorem VF_:zq_ Tryz.prog Tryz.f45 V5_ Vn_=true:=by kernel_rfl
def KE_:List AV->List Obj->Option (Prop × AV)
 | [.agg [.int .i64 c,.int .i64 f,.bool h,.int .u64 x,.imm (.int .u8) v,.imm (.int .u8) m],.agg [.int .i64 c',.int .i64 f',.bool h',.int .u64 x',.imm (.int .u8) v',.imm (.int .u8) m']],[]=>some ((True,.bool (KT_ c f h x v m c' f' h' x' v' m')))
 | _,_=>none
theorem wj_:ze_ Tryz.prog 45 (RoF KE_).sum:=by
 refine zk_ Tryz.func45 VF_ (za_ (s:=RoF kw_) JB_ (za_ (s:=RoF kI_) WY_ (zg_ _))) fun args objs p v e=>?_
 unfold KE_ at e
 split at e
 ·rename_i c f h x v m c' f' h' x' v' m'
  cases e
  refine ⟨rfl,fun hw ho hp=>?_⟩
  change List Int at v
  change List Int at m
  change List Int at v'
  change List Int at m'
  repeat'(intro t ht;first|(cases t<;>first|(cases ht;done)|(try simp only[zi_]at ht))|((first|refine zb_ ht ?_|refine ht ?_ ?_|refine ht.1 ?_ ?_|refine ht ?_)<;>clear ht))
  all_goals first
   | exact True.intro
   | (refine ⟨?_,rfl⟩;unfold KT_;simp_all;done)
   | (refine ⟨?_,rfl⟩;unfold KT_;cases h<;>cases h'<;>simp_all;done)
   | (refine ⟨?_,rfl⟩;unfold KT_;rcases ‹(¬c=c'\/¬f=f')\/¬x=x'› with (h1 | h1) | h1<;>rw [decide_eq_false h1]<;>simp)
 ·cases e
def V6_:IR:=
(sq (kr [0] [oD 1 (.boxv 0),
oD 2 (.box [.int .i64 0,.int .i64 0,.kb false,.int .u64 0,.imm (.int .u8) [],.imm (.int .u8) []])])
(sq (kr [1,2] [oA 5 4 1,
oL 6 5,
oE 7 6,
oA 8 5 1,
oL 9 8,
oE 10 9,
oB 11 .add 7 10,
oD 12 (.mkrow (.int .u8) 1 (0:Int) 11 11),
oM 3 12])
(sq (kr [1,2,3] [oM 13 3,
oA 14 4 1,
oL 15 14,
oD 16 (.copy (.int .u8) 13 15),
oM 4 16])
(sq (kd [1,2,3,4] [(oM 17 3,[]),
(oM 18 4,[0]),
(oD 19 (.slice 1 17 (some 18) none none),[]),
(oA 20 5 1,[0,0,0]),
(oL 21 20,[1,0,0]),
(oD 22 (.copy (.int .u8) 19 21),[])])
(sq (kd [1,2,3,4] [(oM 23 3,[]),
(oM 24 4,[0]),
(oM 25 4,[0,0]),
(oD 26 (.slice 1 23 none (some 24) (some 25)),[]),
(oM 27 3,[0,0,0,0]),
(oM 28 4,[0,0,0,0,0]),
(oD 29 (.slice 1 27 (some 28) none none),[2,0,0,0]),
(oA 30 4 1,[0,0,0]),
(oS 1 30 26,[1,0,0]),
(oA 31 5 1,[]),
(oS 1 31 29,[])])
(sq (kr [1,2] [oK 32 6 1,
oS 6 2 32])
.ret))))))
def Vo_:List RD:=[.cell 2 (some 6) false []]
theorem VG_:zq_ Tryz.prog Tryz.f42 V6_ Vo_=true:=by kernel_rfl
def J6_:List AV->List Obj->Option (Prop × AV × List Obj)
 | [.agg [.int .i64 c,.int .i64 f,.bool h,.int .u64 x,.imm (.int .u8) v,.imm (.int .u8) m]],[]=>some ((v.length<=100000/\m.length<=100000,.agg [.int .i64 c,.int .i64 f,.bool h,.int .u64 x,.view 0 0 v.length,.view 0 v.length m.length],[.row false (.int .u8) (v++m)]))
 | _,_=>none
theorem YY_:ze_ Tryz.prog 42 (RwF J6_).sum:=by
 refine km_ Tryz.func42 VG_ (zg_ _) fun args objs p v o e=>?_
 unfold J6_ at e
 split at e
 ·rename_i c f h x v m
  cases e
  refine ⟨rfl,fun hw ho hp=>?_⟩
  change List Int at v
  change List Int at m
  have k1:((v.length:Int)+m.length).toNat=v.length+m.length:=by omega
  have k2:(List.replicate (v.length+m.length) (0:Int)).length=v.length+m.length:=List.length_replicate
  have k3:v.take (v.length+m.length)=v:=List.take_of_length_le (by omega)
  have k4:(List.replicate (v.length+m.length) (0:Int)).drop v.length=List.replicate m.length 0:=by rw [List.drop_replicate];congr 1;omega
  have k5:min v.length (v.length+m.length)=v.length:=Nat.min_eq_left (by omega)
  have k6:(v++List.replicate m.length (0:Int)).length=v.length+m.length:=by simp
  have k7:(((v.length+m.length:Nat):Int) - (v.length:Int)).toNat=m.length:=by omega
  have k8:(v++List.replicate m.length (0:Int)).take v.length=v:=List.take_left
  have k9:m.take m.length=m:=List.take_length
  have k10:min m.length m.length=m.length:=Nat.min_self _
  have k11:(v++List.replicate m.length (0:Int)).drop (v.length+m.length)=[]:=List.drop_of_length_le (by simp)
  have k12:(v++m).length=v.length+m.length:=List.length_append
  have k13:((v.length:Int) - 0).toNat=v.length:=by omega
  repeat'(intro t ht;first|(cases t<;>first|(cases ht;done)|(try simp only[zi_]at ht))|((first|refine zb_ ht ?_|refine ht ?_ ?_|refine ht.1 ?_ ?_|refine ht ?_)<;>clear ht))
  all_goals first
   | exact True.intro
   | (simp only [qo_,k1,k2,k3,k4,k5,k6,k7,k8,k9,k10,k11,k12,k13,List.append_nil,Int.toNat_natCast];first | omega | exact ⟨rfl,by first | rfl | exact True.intro⟩ | (refine ⟨?_,?_,?_,?_⟩<;>first | exact True.intro | omega))
   | omega
   | ((try simp only [zo_,zp_,zn_] at*);omega)
   | exact ⟨rfl,by first | rfl | exact True.intro⟩
 ·cases e
def kh_ {α:Type} (p:α->Bool):List α->Int->Int
 | [],_=>-1
 | o :: r,i=>if p o=true then i else kh_ p r (i+1)
theorem jW_ {α:Type} {p:α->Bool} {l:List α} {i:Nat} (h:l.length<=i):kh_ p (l.drop i) i=-1:=by
 rw [List.drop_of_length_le h];rfl
theorem wA_ {α:Type} {p:α->Bool} {l:List α} {i:Nat} {d:α} (h:i < l.length) (hk:p (l.getD i d)=true):kh_ p (l.drop i) i=i:=by
 rw [zv_ h d];exact if_pos hk
theorem wz_ {α:Type} {p:α->Bool} {l:List α} {i:Nat} {d:α} (h:i < l.length) (hk:p (l.getD i d)=false):kh_ p (l.drop i) i=kh_ p (l.drop (i+1)) ((i+1:Nat):Int):=by
 rw [zv_ h d];exact if_neg (by rw [hk];decide)
theorem kW_ {α:Type} {p:α->Bool}:∀ (l:List α) (i:Int),0<=i->decide (0<=kh_ p l i)=l.any p
 | [],i,h=>rfl
 | o :: r,i,h=>by
   unfold kh_
   rw [List.any_cons]
   cases hk:p o with
   | true=>rw [if_pos rfl,decide_eq_true h];rfl
   | false=>rw [if_neg (by decide),kW_ r (i+1) (by omega)];rfl
def nzB (c:Int):Bool:=decide (c ≠ 0)
abbrev OV:=Int × Int × Bool × Int × List Int × List Int × Unit
instance:DecidableEq (Int × List Int × List Int × Unit):=inferInstance
instance:DecidableEq OV:=inferInstance
def u6_ (b:List Int):Int:=b.foldl (fun n c=>qp_ .or .u64 (IntKind.u64.wrap (n*2 ^ min (Int.toNat 8) IntKind.u64.bits)) (IntKind.u64.wrap c)) 0
theorem gO_ {b:List Int} {i:Nat} (h:i < b.length):u6_ (b.take (i+1))=qp_ .or .u64 (IntKind.u64.wrap (u6_ (b.take i)*2 ^ min (Int.toNat 8) IntKind.u64.bits)) (IntKind.u64.wrap (b.getD i 0)):=by
 unfold u6_
 rw [List.take_succ_eq_append_getElem h,List.foldl_append,List.getD_eq_getElem?_getD,List.getElem?_eq_getElem h];rfl
def Xu_:IR:=
(sq (kr [0,1] [oD 4 (.mov (.c (.int .u64 0))),
oD 5 (.mov cF)])
(sq (sq (.reg [oM 8 0,
oE 9 8,
oD 10 (.mov (cI 0))])
(.block 0
(.loop
(sq (kr [0,1,4,8,9,10] [oB 11 .lss 10 9])
(sq (.cond 11
.skip
(.exit 0))
(sq (.block 1
(sq (.reg [oI 12 1 8 10,
oL 13 12,
oM 7 13])
(kr [0,1,4,7,8,9,10] [oM 14 4,
oB 15 .shl 14 (.c (.int .u64 8)),
oM 16 7,
oD 17 (.conv .u64 16),
oB 18 .or 15 17,
oM 4 18])))
(kr [0,1,4,8,9,10] [oB 19 .add 10 (cI 1),
oM 10 19])))))))
(sq (kr [0,1,4] [oM 20 4,
oM 21 0,
oE 22 21,
oM 23 1,
oB 24 .eql 22 23,
oM 4 20,
oM 5 24])
.ret)))
def x1_:List RD:=[.tmp 4 true none,.tmp 5 true none]
theorem Xf_:zq_ Tryz.prog Tryz.f202 Xu_ x1_=true:=by kernel_rfl
def kH_:List AV->List Obj->Option (Prop × AV)
 | [.imm (.int .u8) b,.int .i64 z],[]=>some ((True,.tup [.int .u64 (u6_ b),.bool (decide ((b.length:Int)=z))]))
 | _,_=>none
theorem WX_:ze_ Tryz.prog 202 (RoF kH_).sum:=by
 refine zk_ Tryz.func202 Xf_ (zg_ _) fun args objs p v e=>?_
 unfold kH_ at e
 split at e
 ·rename_i b z
  cases e
  refine ⟨rfl,fun hw ho hp=>?_⟩
  change List Int at b
  have hl:b.length<=maxLen:=(hw (.imm (.int .u8) b) (by simp)).2
  unfold maxLen at hl
  clear hw ho
  repeat'(intro t ht;first|(cases t<;>first|(cases ht;done)|(try simp only[zi_]at ht))|((first|refine zb_ ht ?_|refine ht ?_ ?_|refine ht.1 ?_ ?_|refine ht ?_)<;>clear ht))
  all_goals first
   | (intro r h1 h2;clear h1;refine h2 ⟨[0,1,4,8,9,10],Nat,(fun i=>i<=b.length),fun i=>[.imm (.int .u8) b,.int .i64 z,.int .u64 (u6_ (b.take i)),.imm (.int .u8) b,.int .i64 b.length,.int .i64 i],fun _=>[],fun i=>b.length - i,⟨0,Nat.zero_le _,rfl,rfl⟩,?_⟩;clear h2)
  intro i hi
  repeat'(intro t ht;first|(cases t<;>first|(cases ht;done)|(try simp only[zi_]at ht))|((first|refine zb_ ht ?_|refine ht ?_ ?_)<;>clear ht)|(refine ht.1 (by simp only[zn_];omega) ?_;clear ht)|(refine ht.2 ?_;clear ht)|(refine ht ?_;clear ht))
  all_goals first
   | exact True.intro
   | ((try simp only [zo_,zp_,zn_] at*);omega)
   | (have hge:b.length<=i:=by omega
      rw [List.take_of_length_le hge];exact ⟨rfl,rfl⟩)
   | exact (by decide)
   | (refine ⟨i+1,by omega,by dsimp only;omega,?_,rfl⟩
      dsimp only
      rw [gO_ (by omega)];rfl)
 ·cases e
def xd_:IR:=
(sq (kr [0] [oD 2 (.mov cF)])
(sq (.reg [oM 3 0,
oB 4 .neq 3 (.c (.int .u8 0)),
oM 2 4])
.ret))
def W0_:List RD:=[.tmp 2 true none]
theorem W6_:zq_ Tryz.prog Tryz.f201 xd_ W0_=true:=by kernel_rfl
def Z6_:List AV->List Obj->Option (Prop × AV)
 | [.int .u8 b],[]=>some ((True,.bool (nzB b)))
 | _,_=>none
theorem q4_:ze_ Tryz.prog 201 (RoF Z6_).sum:=by
 refine zk_ Tryz.func201 W6_ (zg_ _) fun args objs p v e=>?_
 unfold Z6_ at e
 split at e
 ·rename_i b
  cases e
  refine ⟨rfl,fun hw ho hp=>?_⟩
  repeat'(intro t ht;first|(cases t<;>first|(cases ht;done)|(try simp only[zi_]at ht;try(exfalso;first|contradiction|omega)))|((first|refine zb_ ht ?_|refine ht ?_ ?_|refine ht.1 ?_ ?_|refine ht ?_)<;>clear ht))
  all_goals first
   | exact True.intro
   | (refine ⟨congrArg AV.bool ?_,rfl⟩;unfold nzB;simp;done)
 ·cases e
def Qx_:IR:=
(sq (kr [0,1] [oD 4 (.mov (cI 0))])
(sq (sq (.reg [oM 6 0,
oE 7 6,
oD 8 (.mov (cI 0))])
(.block 0
(.loop
(sq (kr [0,1,7,8] [oB 9 .lss 8 7])
(sq (.cond 9
.skip
(.exit 0))
(sq (.block 1
(sq (.reg [oM 10 8,
oM 5 10])
(sq (kr [0,1,5,7,8] [oM 11 1,
oM 12 0,
oM 13 5,
oI 14 1 12 13,
oL 15 14,
oD 16 (.call false 11 [15])])
(.cond 16
(sq (kr [5] [oM 17 5,
oM 4 17])
.ret)
.skip))))
(kr [0,1,7,8] [oB 18 .add 8 (cI 1),
oM 8 18])))))))
(sq (kr [] [oD 4 (.mov (cI (-1)))])
.ret)))
def Qt_:List RD:=[.tmp 4 true none]
theorem Qv_:zq_ Tryz.prog Tryz.f226 Qx_ Qt_=true:=by kernel_rfl
def z7_:List AV->List Obj->Option (Prop × AV)
 | [.imm (.int .u8) l,.fn 201 [] []],[]=>some ((True,.int .i64 (kh_ nzB l 0)))
 | _,_=>none
theorem q3_:ze_ Tryz.prog 226 (RoF z7_).sum:=by
 refine zk_ Tryz.func226 Qv_ (za_ (s:=RoF Z6_) q4_ (zg_ _)) fun args objs p v e=>?_
 unfold z7_ at e
 split at e
 ·rename_i l
  cases e
  refine ⟨rfl,fun hw ho hp=>?_⟩
  change List Int at l
  have hl:l.length<=maxLen:=(hw (.imm (.int .u8) l) (by simp)).2
  unfold maxLen at hl
  clear hw ho
  repeat'(intro t ht;first|(cases t<;>first|(cases ht;done)|(try simp only[zi_]at ht))|((first|refine zb_ ht ?_|refine ht ?_ ?_|refine ht.1 ?_ ?_|refine ht ?_)<;>clear ht))
  all_goals first
   | (intro r h1 h2;clear h1;refine h2 ⟨[0,1,7,8],Nat,(fun i=>i<=l.length/\kh_ nzB l 0=kh_ nzB (l.drop i) i),fun i=>[.imm (.int .u8) l,.fn 201 [] [],.int .i64 l.length,.int .i64 i],fun _=>[],fun i=>l.length - i,⟨0,⟨Nat.zero_le _,rfl⟩,rfl,rfl⟩,?_⟩;clear h2)
  rintro i ⟨hi,he⟩
  repeat'(intro t ht;first|(cases t<;>first|(cases ht;done)|(try simp only[zi_]at ht;try(exfalso;first|contradiction|omega)))|((first|refine zb_ ht ?_|refine ht ?_ ?_|refine ht.1 ?_ ?_|refine ht ?_)<;>clear ht))
  all_goals first
   | exact True.intro
   | ((try simp only [zo_,zp_,zn_] at*);omega)
   | (refine ⟨?_,rfl⟩;rw [he,jW_ (by omega)];done)
   | (refine ⟨?_,rfl⟩;rw [he,wA_ (d:=0) (by omega) (by assumption)];done)
   | exact ⟨i+1,⟨by omega,he.trans (wz_ (d:=0) (by omega) (by assumption))⟩,by dsimp only;omega,rfl,rfl⟩
 ·cases e
def qP_:IR:=
(sq (kr [0,1] [oD 4 (.mov cF)])
(sq (kr [0,1] [oM 5 0,
oM 6 1,
oC 7 226 [5,6],
oB 8 .geq 7 (cI 0),
oM 4 8])
.ret))
def qJ_:List RD:=[.tmp 4 true none]
theorem qM_:zq_ Tryz.prog Tryz.f200 qP_ qJ_=true:=by kernel_rfl
def zU_:List AV->List Obj->Option (Prop × AV)
 | [.imm (.int .u8) l,.fn 201 [] []],[]=>some ((True,.bool (l.any nzB)))
 | _,_=>none
theorem qE_:ze_ Tryz.prog 200 (RoF zU_).sum:=by
 refine zk_ Tryz.func200 qM_ (za_ (s:=RoF Z6_) q4_ (za_ (s:=RoF z7_) q3_ (zg_ _))) fun args objs p v e=>?_
 unfold zU_ at e
 split at e
 ·rename_i l
  cases e
  refine ⟨rfl,fun hw ho hp=>?_⟩
  change List Int at l
  have h:=kW_ (p:=nzB) l 0 (Int.le_refl _)
  repeat'(intro t ht;first|(cases t<;>first|(cases ht;done)|(try simp only[zi_]at ht;try(exfalso;first|contradiction|omega)))|((first|refine zb_ ht ?_|refine ht ?_ ?_|refine ht.1 ?_ ?_|refine ht ?_)<;>clear ht))
  all_goals first
   | exact True.intro
   | exact ⟨congrArg AV.bool h,rfl⟩
 ·cases e
def Qw_:IR:=
(sq (kr [0,1] [oD 4 (.mov (cI 0))])
(sq (sq (.reg [oM 6 0,
oE 7 6,
oD 8 (.mov (cI 0))])
(.block 0
(.loop
(sq (kr [0,1,7,8] [oB 9 .lss 8 7])
(sq (.cond 9
.skip
(.exit 0))
(sq (.block 1
(sq (.reg [oM 10 8,
oM 5 10])
(sq (kr [0,1,5,7,8] [oM 11 1,
oM 12 0,
oM 13 5,
oI 14 1 12 13,
oL 15 14,
oB 16 .eql 11 15])
(.cond 16
(sq (kr [5] [oM 17 5,
oM 4 17])
.ret)
.skip))))
(kr [0,1,7,8] [oB 18 .add 8 (cI 1),
oM 8 18])))))))
(sq (kr [] [oD 4 (.mov (cI (-1)))])
.ret)))
def Qs_:List RD:=[.tmp 4 true none]
theorem Qu_:zq_ Tryz.prog Tryz.f227 Qw_ Qs_=true:=by kernel_rfl
def z6_:List AV->List Obj->Option (Prop × AV)
 | [.imm (.int .u64) l,.int .u64 x],[]=>some ((True,.int .i64 (kh_ (fun y=>decide (x=y)) l 0)))
 | _,_=>none
theorem q2_:ze_ Tryz.prog 227 (RoF z6_).sum:=by
 refine zk_ Tryz.func227 Qu_ (zg_ _) fun args objs p v e=>?_
 unfold z6_ at e
 split at e
 ·rename_i l x
  cases e
  refine ⟨rfl,fun hw ho hp=>?_⟩
  change List Int at l
  have hl:l.length<=maxLen:=(hw (.imm (.int .u64) l) (by simp)).2
  unfold maxLen at hl
  clear hw ho
  repeat'(intro t ht;first|(cases t<;>first|(cases ht;done)|(try simp only[zi_]at ht))|((first|refine zb_ ht ?_|refine ht ?_ ?_|refine ht.1 ?_ ?_|refine ht ?_)<;>clear ht))
  all_goals first
   | (intro r h1 h2;clear h1;refine h2 ⟨[0,1,7,8],Nat,(fun i=>i<=l.length/\kh_ (fun y=>decide (x=y)) l 0=kh_ (fun y=>decide (x=y)) (l.drop i) i),fun i=>[.imm (.int .u64) l,.int .u64 x,.int .i64 l.length,.int .i64 i],fun _=>[],fun i=>l.length - i,⟨0,⟨Nat.zero_le _,rfl⟩,rfl,rfl⟩,?_⟩;clear h2)
  rintro i ⟨hi,he⟩
  repeat'(intro t ht;first|(cases t<;>first|(cases ht;done)|(try simp only[zi_]at ht;try(exfalso;first|contradiction|omega)))|((first|refine zb_ ht ?_|refine ht ?_ ?_|refine ht.1 ?_ ?_|refine ht ?_)<;>clear ht))
  all_goals first
   | exact True.intro
   | ((try simp only [zo_,zp_,zn_] at*);omega)
   | (refine ⟨?_,rfl⟩;rw [he,jW_ (by omega)];done)
   | (refine ⟨?_,rfl⟩;rw [he,wA_ (d:=0) (by omega) (show decide (x=l.getD i 0)=true from decide_eq_true (by assumption))];done)
   | exact ⟨i+1,⟨by omega,he.trans (wz_ (d:=0) (by omega) (show decide (x=l.getD i 0)=false from decide_eq_false (by assumption)))⟩,by dsimp only;omega,rfl,rfl⟩
 ·cases e
def qO_:IR:=
(sq (kr [0,1] [oD 4 (.mov cF)])
(sq (kr [0,1] [oM 5 0,
oM 6 1,
oC 7 227 [5,6],
oB 8 .geq 7 (cI 0),
oM 4 8])
.ret))
def qI_:List RD:=[.tmp 4 true none]
theorem qL_:zq_ Tryz.prog Tryz.f203 qO_ qI_=true:=by kernel_rfl
def zT_:List AV->List Obj->Option (Prop × AV)
 | [.imm (.int .u64) l,.int .u64 x],[]=>some ((True,.bool (l.any fun y=>decide (x=y))))
 | _,_=>none
theorem qD_:ze_ Tryz.prog 203 (RoF zT_).sum:=by
 refine zk_ Tryz.func203 qL_ (za_ (s:=RoF z6_) q2_ (zg_ _)) fun args objs p v e=>?_
 unfold zT_ at e
 split at e
 ·rename_i l x
  cases e
  refine ⟨rfl,fun hw ho hp=>?_⟩
  change List Int at l
  have h:=kW_ (p:=fun y=>decide (x=y)) l 0 (Int.le_refl _)
  repeat'(intro t ht;first|(cases t<;>first|(cases ht;done)|(try simp only[zi_]at ht;try(exfalso;first|contradiction|omega)))|((first|refine zb_ ht ?_|refine ht ?_ ?_|refine ht.1 ?_ ?_|refine ht ?_)<;>clear ht))
  all_goals first
   | exact True.intro
   | exact ⟨congrArg AV.bool h,rfl⟩
 ·cases e
def Ud_ (n:Int) (vals:List Int) (c f:Int) (h:Bool) (v:List Int):Bool:=decide (c=32768) && decide (f=n) && (if vals.length=0 then v.any nzB else decide ((v.length:Int)=ks_ n) && !h && vals.any fun y=>decide (u6_ v=y))
def yS_:IR:=
(sq (kr [0,1] [oD 2 (.boxv 0),
oD 3 (.boxv 1),
oD 4 (.mov cF)])
(sq (sq (kr [2,3] [oA 9 0 2,
oL 10 9,
oB 11 .neq 10 (cI 32768),
oM 12 11,
oF 12 13 (.fieldAddr 1 2),
oF 12 14 (.load none 13),
oF 12 15 (.fieldAddr 3 3),
oF 12 16 (.load none 15),
oF 12 17 (.bin .neq 14 16),
oP 18 12 cT 17])
(.cond 18
(sq (kr [] [oD 4 (.mov cF)])
.ret)
.skip))
(sq (sq (kr [2,3] [oA 19 4 3,
oL 20 19,
oE 21 20,
oB 22 .eql 21 (cI 0)])
(.cond 22
(sq (.reg [oA 23 4 2,
oL 24 23,
oC 25 200 [24,.f 201],
oM 4 25])
.ret)
.skip))
(sq (kr [2,3] [oA 27 3 3,
oL 28 27,
oC 29 167 [28],
oM 26 29,
oX 30 26 0,
oX 31 26 1,
oD 5 (.box [.int .i64 0,.int .i64 0,.kb false,.int .i64 0,.imm (.int .u64) []]),
oS 5 5 30,
oM 6 31])
(sq (kr [2,3,5] [oA 33 4 2,
oL 34 33,
oA 35 1 5,
oL 36 35,
oC 37 202 [34,36],
oM 32 37,
oX 38 32 0,
oX 39 32 1,
oM 7 38,
oM 8 39])
(sq (kr [2,3,7,8] [oM 40 8,
oM 41 40,
oT 41 42 (.fieldAddr 2 2),
oT 41 43 (.load none 42),
oT 41 44 (.un .not 43),
oP 45 41 44 cF,
oM 46 45,
oT 46 47 (.fieldAddr 4 3),
oT 46 48 (.load none 47),
oT 46 49 (.mov 7),
oT 46 50 (.call false (.f 203) [48,49]),
oP 51 46 50 cF,
oM 4 51])
.ret))))))
def yf_:List RD:=[.tmp 4 true none]
theorem yy_:zq_ Tryz.prog Tryz.f173 yS_ yf_=true:=by kernel_rfl
def KI_:List AV->List Obj->Option (Prop × AV)
 | [.agg [.int .i64 c,.int .i64 f,.bool h,.int .u64 x,.imm (.int .u8) v,.imm (.int .u8) m],.agg [.int .i64 bits,.int .i64 size,.bool mk,.int .i64 nd,.imm (.int .u64) vals]],[]=>some ((True,.bool (Ud_ nd vals c f h v)))
 | _,_=>none
theorem xN_:ze_ Tryz.prog 173 (RoF KI_).sum:=by
 refine zk_ Tryz.func173 yy_ (za_ (s:=RoF zU_) qE_ (za_ (s:=RoF Z6_) q4_ (za_ (s:=RoF kc_) Kb_ (za_ (s:=RoF kH_) WX_ (za_ (s:=RoF zT_) qD_ (zg_ _)))))) fun args objs p v e=>?_
 unfold KI_ at e
 split at e
 ·rename_i c f h x v m bits size mk nd vals
  cases e
  refine ⟨rfl,fun hw ho hp=>?_⟩
  change List Int at v
  change List Int at m
  change List Int at vals
  clear hw ho
  by_cases h1:c=32768/\f=nd
  ·obtain ⟨rfl,rfl⟩:=h1
   have e:Ud_ f vals 32768 f h v=if vals.length=0 then v.any nzB else decide ((v.length:Int)=ks_ f) && !h && vals.any fun y=>decide (u6_ v=y):=by unfold Ud_;simp
   rw [e]
   cases h<;>by_cases h2:vals.length=0<;>by_cases h3:(v.length:Int)=ks_ f
   all_goals repeat'(intro t ht;first|(cases t<;>first|(cases ht;done)|(try simp only[zi_]at ht;try(exfalso;first|contradiction|omega)))|((first|refine zb_ ht ?_|refine ht ?_ ?_|refine ht.1 ?_ ?_|refine ht ?_)<;>clear ht))
   all_goals first
    | exact True.intro
    | (refine ⟨congrArg AV.bool ?_,rfl⟩;simp_all;done)
    | (exfalso;simp_all;done)
  ·have e:Ud_ nd vals c f h v=false:=by unfold Ud_;by_cases h2:c=32768<;>by_cases h3:f=nd<;>simp_all
   rw [e]
   cases h<;>by_cases h2:c=32768<;>by_cases h3:f=nd
   all_goals repeat'(intro t ht;first|(cases t<;>first|(cases ht;done)|(try simp only[zi_]at ht;try(exfalso;first|contradiction|omega)))|((first|refine zb_ ht ?_|refine ht ?_ ?_|refine ht.1 ?_ ?_|refine ht ?_)<;>clear ht))
   all_goals first
    | exact True.intro
    | exact ⟨rfl,rfl⟩
    | (exfalso;omega)
    | (exfalso;simp_all;done)
 ·cases e
def yT_:IR:=
(sq (kr [0,1] [oD 2 (.boxv 0),
oD 3 (.mov cF)])
(sq (.reg [oK 4 6 2,
oK 5 5 1,
oC 6 173 [4,5],
oM 3 6])
.ret))
def yg_:List RD:=[.tmp 3 true none]
theorem yz_:zq_ Tryz.prog Tryz.f172 yT_ yg_=true:=by kernel_rfl
def QQ_:List AV->List Obj->Option (Prop × AV)
 | [.agg [.int .i64 c,.int .i64 f,.bool h,.int .u64 x,.imm (.int .u8) v,.imm (.int .u8) m],.ptr 0 0],[.box [.int .i64 bits,.int .i64 size,.bool mk,.int .i64 nd,.imm (.int .u64) vals]]=>some ((True,.bool (Ud_ nd vals c f h v)))
 | _,_=>none
theorem ju_:ze_ Tryz.prog 172 (RoF QQ_).sum:=by
 refine zk_ Tryz.func172 yz_ (za_ (s:=RoF KI_) xN_ (zg_ _)) fun args objs p v e=>?_
 unfold QQ_ at e
 split at e
 ·rename_i c f h x v m bits size mk nd vals
  cases e
  refine ⟨rfl,fun hw ho hp=>?_⟩
  change List Int at v
  change List Int at m
  change List Int at vals
  clear hw ho
  repeat'(intro t ht;first|(cases t<;>first|(cases ht;done)|(try simp only[zi_]at ht;try(exfalso;first|contradiction|omega)))|((first|refine zb_ ht ?_|refine ht ?_ ?_|refine ht.1 ?_ ?_|refine ht ?_)<;>clear ht))
  all_goals first
   | exact True.intro
   | exact ⟨rfl,rfl⟩
 ·cases e
def xe_:IR:=
(sq (kr [0,1] [oD 2 (.boxv 0),
oD 3 (.mov cF)])
(sq (.reg [oK 4 6 2,
oK 5 6 1,
oC 6 97 [4,5],
oM 3 6])
.ret))
def W1_:List RD:=[.tmp 3 true none]
theorem W7_:zq_ Tryz.prog Tryz.f145 xe_ W1_=true:=by kernel_rfl
def qS_:List AV->List Obj->Option (Prop × AV)
 | [.agg [.int .i64 c,.int .i64 f,.bool h,.int .u64 x,.imm (.int .u8) v,.imm (.int .u8) m],.ptr 0 0],[.box [.int .i64 c',.int .i64 f',.bool h',.int .u64 x',.imm (.int .u8) v',.imm (.int .u8) m']]=>some ((True,.bool (decide (c=c') && decide (f=f') && decide (x=x'))))
 | _,_=>none
theorem kO_:ze_ Tryz.prog 145 (RoF qS_).sum:=by
 refine zk_ Tryz.func145 W7_ (za_ (s:=RoF kw_) JB_ (zg_ _)) fun args objs p v e=>?_
 unfold qS_ at e
 split at e
 ·rename_i c f h x v m c' f' h' x' v' m'
  cases e
  refine ⟨rfl,fun hw ho hp=>?_⟩
  change List Int at v
  change List Int at m
  change List Int at v'
  change List Int at m'
  clear hw ho
  repeat'(intro t ht;first|(cases t<;>first|(cases ht;done)|(try simp only[zi_]at ht;try(exfalso;first|contradiction|omega)))|((first|refine zb_ ht ?_|refine ht ?_ ?_|refine ht.1 ?_ ?_|refine ht ?_)<;>clear ht))
  all_goals first
   | exact True.intro
   | exact ⟨rfl,rfl⟩
 ·cases e
def rgO (o:OV):Bool:=z0_ o.1 o.2.1 o.2.2.1 o.2.2.2.1 o.2.2.2.2.1 o.2.2.2.2.2.1
def szO (o:OV):Int:=kl_ o.1 o.2.1 o.2.2.1 o.2.2.2.1 o.2.2.2.2.1 o.2.2.2.2.2.1
def ecO (o:OV):List Int:=qt_ o.1 o.2.1 o.2.2.1 o.2.2.2.1 o.2.2.2.2.1 o.2.2.2.2.2.1
def alO (x o:OV):Bool:=decide (x.1=o.1) && decide (x.2.1=o.2.1) && decide (x.2.2.2.1=o.2.2.2.1)
theorem Bg_ {x o:OV} (h:(¬ x.1=o.1\/¬ x.2.1=o.2.1)\/¬ x.2.2.2.1=o.2.2.2.1):alO x o=false:=by
 unfold alO
 rcases h with (h | h) | h<;>simp [h]
theorem Bf_ {x o:OV} (h:(x.1=o.1/\x.2.1=o.2.1)/\x.2.2.2.1=o.2.2.2.1):alO x o=true:=by
 unfold alO;rw [h.1.1,h.1.2,h.2];simp
def mtO (n:Int) (vals:List Int) (o:OV):Bool:=Ud_ n vals o.1 o.2.1 o.2.2.1 o.2.2.2.2.1
def bF_ (o:OV):Prop:=o.2.2.2.2.1.length<=100000/\o.2.2.2.2.2.1.length<=100000
theorem gZ_ {o:OV} (h:bF_ o):o.2.2.2.2.1.length<=1000000/\o.2.2.2.2.2.1.length<=1000000:=⟨Nat.le_trans h.1 (by decide),Nat.le_trans h.2 (by decide)⟩
structure allLen (l:List OV):Prop where
 h:∀ o ∈ l,bF_ o
def w7_:IR:=
(sq (kr [0] [oD 1 (.boxv 0),
oD 2 (.mov cF)])
(sq (.reg [oK 3 6 1,
oC 4 93 [3],
oD 5 (.un .not 4),
oM 2 5])
.ret))
def w0_:List RD:=[.tmp 2 true none]
theorem w2_:zq_ Tryz.prog Tryz.f92 w7_ w0_=true:=by kernel_rfl
def qs_:List AV->List Obj->Option (Prop × AV)
 | [.agg [.int .i64 c,.int .i64 f,.bool h,.int .u64 x,.imm (.int .u8) v,.imm (.int .u8) m]],[]=>some ((v.length<=1000000/\m.length<=1000000,.bool (!z0_ c f h x v m)))
 | _,_=>none
theorem kk_:ze_ Tryz.prog 92 (RoF qs_).sum:=by
 refine zk_ Tryz.func92 w2_ (za_ (s:=RoF QB_) kz_ (zg_ _)) fun args objs p v e=>?_
 unfold qs_ at e
 split at e
 ·rename_i c f h x v m
  cases e
  refine ⟨rfl,fun hw ho hp=>?_⟩
  change List Int at v
  change List Int at m
  clear hw ho
  repeat'(intro t ht;first|(cases t<;>first|(cases ht;done)|(try simp only[zi_]at ht;try(exfalso;first|contradiction|omega)))|((first|refine zb_ ht ?_|refine ht ?_ ?_|refine ht.1 ?_ ?_|refine ht ?_)<;>clear ht))
  all_goals first
   | exact True.intro
   | exact hp
   | exact ⟨rfl,rfl⟩
 ·cases e
def qm_:IR:=
(sq (kr [0,1] [oD 4 (.mov (cI 0))])
(sq (sq (.reg [oM 6 0,
oE 7 6,
oD 8 (.mov (cI 0))])
(.block 0
(.loop
(sq (kr [0,1,7,8] [oB 9 .lss 8 7])
(sq (.cond 9
.skip
(.exit 0))
(sq (.block 1
(sq (.reg [oM 10 8,
oM 5 10])
(sq (kr [0,1,5,7,8] [oM 11 1,
oM 12 0,
oM 13 5,
oI 14 6 12 13,
oK 15 6 14,
oD 16 (.call false 11 [15])])
(.cond 16
(sq (kr [5] [oM 17 5,
oM 4 17])
.ret)
.skip))))
(kr [0,1,7,8] [oB 18 .add 8 (cI 1),
oM 8 18])))))))
(sq (kr [] [oD 4 (.mov (cI (-1)))])
.ret)))
def qj_:List RD:=[.tmp 4 true none]
theorem qk_:zq_ Tryz.prog Tryz.f142 qm_ qj_=true:=by kernel_rfl
def zJ_:List AV->List Obj->Option (Prop × AV)
 | [.imm (.cons (.int .i64) (.cons (.int .i64) (.cons .bool (.cons (.int .u64) (.cons (.sl (.int .u8)) (.cons (.sl (.int .u8)) .nil)))))) l,.fn 172 [] [.ptr 0 0]],[.box [.int .i64 bits,.int .i64 size,.bool mk,.int .i64 nd,.imm (.int .u64) vals]]=>some ((True,.int .i64 (kh_ (α:=OV) (mtO nd vals) l 0)))
 | [.imm (.cons (.int .i64) (.cons (.int .i64) (.cons .bool (.cons (.int .u64) (.cons (.sl (.int .u8)) (.cons (.sl (.int .u8)) .nil)))))) l,.fn 145 [] [.ptr 0 0]],[.box [.int .i64 c',.int .i64 f',.bool h',.int .u64 x',.imm (.int .u8) v',.imm (.int .u8) m']]=>some ((True,.int .i64 (kh_ (α:=OV) (fun x=>alO x (c',f',h',x',v',m',())) l 0)))
 | [.imm (.cons (.int .i64) (.cons (.int .i64) (.cons .bool (.cons (.int .u64) (.cons (.sl (.int .u8)) (.cons (.sl (.int .u8)) .nil)))))) l,.fn 92 [] []],[]=>some ((allLen l,.int .i64 (kh_ (α:=OV) (fun o=>!rgO o) l 0)))
 | _,_=>none
theorem qe_:ze_ Tryz.prog 142 (RoF zJ_).sum:=by
 refine zk_ Tryz.func142 qk_ (za_ (s:=RoF qs_) kk_ (za_ (s:=RoF qS_) kO_ (za_ (s:=RoF QQ_) ju_ (zg_ _)))) fun args objs p v e=>?_
 unfold zJ_ at e
 split at e
 ·rename_i l bits size mk nd vals
  cases e
  refine ⟨rfl,fun hw ho hp=>?_⟩
  change List Int at vals
  change List OV at l
  have hl:l.length<=maxLen:=(hw (.imm Y1 l) (by simp)).2
  unfold maxLen at hl
  clear hw ho
  repeat'(intro t ht;first|(cases t<;>first|(cases ht;done)|(try simp only[zi_]at ht))|((first|refine zb_ ht ?_|refine ht ?_ ?_|refine ht.1 ?_ ?_|refine ht ?_)<;>clear ht))
  all_goals first
   | (intro r h1 h2;clear h1;refine h2 ⟨[0,1,7,8],Nat,(fun i=>i<=l.length/\kh_ (mtO nd vals) l 0=kh_ (mtO nd vals) (l.drop i) i),fun i=>[.imm Y1 l,.fn 172 [] [.ptr 0 0],.int .i64 l.length,.int .i64 i],fun _=>[.box [.int .i64 bits,.int .i64 size,.bool mk,.int .i64 nd,.imm (.int .u64) vals]],fun i=>l.length - i,⟨0,⟨Nat.zero_le _,rfl⟩,rfl,rfl⟩,?_⟩;clear h2)
  rintro i ⟨hi,he⟩
  repeat'(intro t ht;first|(cases t<;>first|(cases ht;done)|(try simp only[zi_]at ht;try(exfalso;first|contradiction|omega)))|((first|refine zb_ ht ?_|refine ht ?_ ?_|refine ht.1 ?_ ?_|refine ht ?_)<;>clear ht))
  all_goals (try generalize (Ty.dflt Y1)=od at*)
  all_goals first
   | exact True.intro
   | ((try simp only [zo_,zp_,zn_] at*);omega)
   | (refine ⟨?_,rfl⟩;rw [he,jW_ (by omega)];done)
   | (refine ⟨?_,rfl⟩;rw [he,wA_ (d:=od) (by omega) (by assumption)];done)
   | exact ⟨i+1,⟨by omega,he.trans (wz_ (d:=od) (by omega) (by assumption))⟩,by dsimp only;omega,rfl,rfl⟩
 ·rename_i l c' f' h' x' v' m'
  cases e
  refine ⟨rfl,fun hw ho hp=>?_⟩
  change List Int at v'
  change List Int at m'
  change List OV at l
  have hl:l.length<=maxLen:=(hw (.imm Y1 l) (by simp)).2
  unfold maxLen at hl
  clear hw ho
  repeat'(intro t ht;first|(cases t<;>first|(cases ht;done)|(try simp only[zi_]at ht))|((first|refine zb_ ht ?_|refine ht ?_ ?_|refine ht.1 ?_ ?_|refine ht ?_)<;>clear ht))
  all_goals first
   | (intro r h1 h2;clear h1;refine h2 ⟨[0,1,7,8],Nat,(fun i=>i<=l.length/\kh_ (fun x=>alO x (c',f',h',x',v',m',())) l 0=kh_ (fun x=>alO x (c',f',h',x',v',m',())) (l.drop i) i),fun i=>[.imm Y1 l,.fn 145 [] [.ptr 0 0],.int .i64 l.length,.int .i64 i],fun _=>[.box [.int .i64 c',.int .i64 f',.bool h',.int .u64 x',.imm (.int .u8) v',.imm (.int .u8) m']],fun i=>l.length - i,⟨0,⟨Nat.zero_le _,rfl⟩,rfl,rfl⟩,?_⟩;clear h2)
  rintro i ⟨hi,he⟩
  repeat'(intro t ht;first|(cases t<;>first|(cases ht;done)|(try simp only[zi_]at ht;try(exfalso;first|contradiction|omega)))|((first|refine zb_ ht ?_|refine ht ?_ ?_|refine ht.1 ?_ ?_|refine ht ?_)<;>clear ht))
  all_goals (try generalize (Ty.dflt Y1)=od at*)
  all_goals first
   | exact True.intro
   | ((try simp only [zo_,zp_,zn_] at*);omega)
   | (refine ⟨?_,rfl⟩;rw [he,jW_ (by omega)];done)
   | (refine ⟨?_,rfl⟩;rw [he,wA_ (p:=fun x=>alO x (c',f',h',x',v',m',())) (d:=od) (by omega) (Bf_ ht)];done)
   | exact ⟨i+1,⟨by omega,he.trans (wz_ (p:=fun x=>alO x (c',f',h',x',v',m',())) (d:=od) (by omega) (Bg_ ht))⟩,by dsimp only;omega,rfl,rfl⟩
 ·rename_i l
  cases e
  refine ⟨rfl,fun hw ho hp=>?_⟩
  change List OV at l
  have hl:l.length<=maxLen:=(hw (.imm Y1 l) (by simp)).2
  unfold maxLen at hl
  clear hw ho
  repeat'(intro t ht;first|(cases t<;>first|(cases ht;done)|(try simp only[zi_]at ht))|((first|refine zb_ ht ?_|refine ht ?_ ?_|refine ht.1 ?_ ?_|refine ht ?_)<;>clear ht))
  all_goals first
   | (intro r h1 h2;clear h1;refine h2 ⟨[0,1,7,8],Nat,(fun i=>i<=l.length/\kh_ (fun o=>!rgO o) l 0=kh_ (fun o=>!rgO o) (l.drop i) i),fun i=>[.imm Y1 l,.fn 92 [] [],.int .i64 l.length,.int .i64 i],fun _=>[],fun i=>l.length - i,⟨0,⟨Nat.zero_le _,rfl⟩,rfl,rfl⟩,?_⟩;clear h2)
  rintro i ⟨hi,he⟩
  repeat'(intro t ht;first|(cases t<;>first|(cases ht;done)|(try simp only[zi_]at ht;try(exfalso;first|contradiction|omega)))|((first|refine zb_ ht ?_|refine ht ?_ ?_|refine ht.1 ?_ ?_|refine ht ?_)<;>clear ht))
  all_goals (try generalize (Ty.dflt Y1)=od at*)
  all_goals first
   | exact True.intro
   | ((try simp only [zo_,zp_,zn_] at*);omega)
   | exact gZ_ (hp.h _ (Zs_ (by omega) od))
   | (refine ⟨?_,rfl⟩;rw [he,jW_ (by omega)];done)
   | (refine ⟨?_,rfl⟩;rw [he,wA_ (p:=fun o=>!rgO o) (d:=od) (by omega) (by (try dsimp only);unfold rgO;rw [ht];rfl)];done)
   | exact ⟨i+1,⟨by omega,he.trans (wz_ (p:=fun o=>!rgO o) (d:=od) (by omega) (by (try dsimp only);unfold rgO;rw [ht];rfl))⟩,by dsimp only;omega,rfl,rfl⟩
 ·cases e
def Z4_:IR:=
(sq (kr [0,1] [oD 4 (.mov cF)])
(sq (kr [0,1] [oM 5 0,
oM 6 1,
oC 7 142 [5,6],
oB 8 .geq 7 (cI 0),
oM 4 8])
.ret))
def ZX_:List RD:=[.tmp 4 true none]
theorem ZZ_:zq_ Tryz.prog Tryz.f91 Z4_ ZX_=true:=by kernel_rfl
def zl_:List AV->List Obj->Option (Prop × AV)
 | [.imm (.cons (.int .i64) (.cons (.int .i64) (.cons .bool (.cons (.int .u64) (.cons (.sl (.int .u8)) (.cons (.sl (.int .u8)) .nil)))))) l,.fn 172 [] [.ptr 0 0]],[.box [.int .i64 bits,.int .i64 size,.bool mk,.int .i64 nd,.imm (.int .u64) vals]]=>some ((True,.bool ((l:List OV).any (mtO nd vals))))
 | [.imm (.cons (.int .i64) (.cons (.int .i64) (.cons .bool (.cons (.int .u64) (.cons (.sl (.int .u8)) (.cons (.sl (.int .u8)) .nil)))))) l,.fn 145 [] [.ptr 0 0]],[.box [.int .i64 c',.int .i64 f',.bool h',.int .u64 x',.imm (.int .u8) v',.imm (.int .u8) m']]=>some ((True,.bool ((l:List OV).any (fun x=>alO x (c',f',h',x',v',m',())))))
 | [.imm (.cons (.int .i64) (.cons (.int .i64) (.cons .bool (.cons (.int .u64) (.cons (.sl (.int .u8)) (.cons (.sl (.int .u8)) .nil)))))) l,.fn 92 [] []],[]=>some ((allLen l,.bool ((l:List OV).any (fun o=>!rgO o))))
 | _,_=>none
theorem zA_:ze_ Tryz.prog 91 (RoF zl_).sum:=by
 refine zk_ Tryz.func91 ZZ_ (za_ (s:=RoF zJ_) qe_ (zg_ _)) fun args objs p v e=>?_
 unfold zl_ at e
 split at e
 ·rename_i l bits size mk nd vals
  cases e
  refine ⟨rfl,fun hw ho hp=>?_⟩
  change List Int at vals
  have h:=kW_ (p:=mtO nd vals) l 0 (Int.le_refl _)
  repeat'(intro t ht;first|(cases t<;>first|(cases ht;done)|(try simp only[zi_]at ht;try(exfalso;first|contradiction|omega)))|((first|refine zb_ ht ?_|refine ht ?_ ?_|refine ht.1 ?_ ?_|refine ht ?_)<;>clear ht))
  all_goals first
   | exact True.intro
   | exact ⟨congrArg AV.bool h,rfl⟩
 ·rename_i l c' f' h' x' v' m'
  cases e
  refine ⟨rfl,fun hw ho hp=>?_⟩
  change List Int at v'
  change List Int at m'
  have h:=kW_ (p:=fun x=>alO x (c',f',h',x',v',m',())) l 0 (Int.le_refl _)
  repeat'(intro t ht;first|(cases t<;>first|(cases ht;done)|(try simp only[zi_]at ht;try(exfalso;first|contradiction|omega)))|((first|refine zb_ ht ?_|refine ht ?_ ?_|refine ht.1 ?_ ?_|refine ht ?_)<;>clear ht))
  all_goals first
   | exact True.intro
   | exact ⟨congrArg AV.bool h,rfl⟩
 ·rename_i l
  cases e
  refine ⟨rfl,fun hw ho hp=>?_⟩
  have h:=kW_ (p:=fun o=>!rgO o) l 0 (Int.le_refl _)
  repeat'(intro t ht;first|(cases t<;>first|(cases ht;done)|(try simp only[zi_]at ht;try(exfalso;first|contradiction|omega)))|((first|refine zb_ ht ?_|refine ht ?_ ?_|refine ht.1 ?_ ?_|refine ht ?_)<;>clear ht))
  all_goals first
   | exact True.intro
   | exact hp
   | exact ⟨congrArg AV.bool h,rfl⟩
 ·cases e
end Go.Eng
