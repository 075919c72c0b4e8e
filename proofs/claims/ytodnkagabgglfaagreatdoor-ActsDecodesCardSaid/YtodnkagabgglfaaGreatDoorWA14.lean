/- Parts of the proof: O7, OA. No condition. -/
import Derived.Test.YtodnkagabgglfaaGreatDoorProg
import Derived.Test.YtodnkagabgglfaaGreatDoorWA10
import Derived.KernelRfl
import Derived.Test.YtodnkagabgglfaaGreatDoorWA13
namespace Go.Eng
open Go.Proofs
set_option linter.unusedVariables false
set_option linter.unusedSimpArgs false
set_option maxRecDepth 100000
set_option maxHeartbeats 1000000
theorem za5_ (b:List Int):Z1_ [2,1,1] b=if b.length < 4 then ([],1) else ([z9_ (b.take 2),b.getD 2 0,b.getD 3 0],0):=by
 have hr:z3_ [2,1,1]=true:=by decide
 have a2:zr_ 2=2:=by decide
 have a1:zr_ 1=1:=by decide
 unfold Z1_
 rw [if_pos hr]
 unfold ZU_;unfold ZU_;unfold ZU_;unfold ZU_
 rw [a2,a1]
 by_cases h2:b.length < 2
 ·rw [if_pos (by omega),if_pos (by omega)]
 ·rw [if_neg (by omega),if_pos (by decide)]
  by_cases h3:b.length < 3
  ·rw [if_pos (by rw [List.length_drop];omega),if_pos (by omega)]
  ·rw [if_neg (by rw [List.length_drop];omega),if_pos (by decide)]
   by_cases h4:b.length < 4
   ·rw [if_pos (by rw [List.length_drop,List.length_drop];omega),if_pos (by omega)]
   ·rw [if_neg (by rw [List.length_drop,List.length_drop];omega),if_pos (by decide),if_neg h4]
    obtain _ | ⟨x,_ | ⟨y,_ | ⟨z,_ | ⟨w,r⟩⟩⟩⟩:=b
    all_goals simp at h4
    simp [z9_]
theorem get4 (b:List Int):Z1_ [4] b=if b.length < 4 then ([],1) else ([z9_ (b.take 4)],0):=by
 have hr:z3_ [4]=true:=by decide
 have a4:zr_ 4=4:=by decide
 unfold Z1_
 rw [if_pos hr]
 unfold ZU_;unfold ZU_
 rw [a4]
 by_cases h4:b.length < 4
 ·rw [if_pos (by omega),if_pos h4]
 ·rw [if_neg (by omega),if_pos (by decide),if_neg h4];rfl
def zp_ (b:List Int):Int:=z9_ (b.take 2)
def zt_ (b:List Int):Int:=(b.getD 2 0).tdiv 2
def zT_ (b:List Int):Bool:=decide ((b.getD 2 0).tmod 2=1)
def qp_ (b:List Int):Int:=if zp_ b=65535 then z9_ ((b.drop 4).take 4) else 0
def QE_ (b:List Int):Int:=if zp_ b=65535 then 8 else 4
def zx_ (b:List Int):Int:=xg_ (zT_ b) (zP_ (zp_ b)) (ZX_ (zp_ b) (zt_ b)) (b.getD 3 0)
def qN_ (b:List Int):Bool:=JL_ (zT_ b) (zP_ (zp_ b)) (ZX_ (zp_ b) (zt_ b)) (b.getD 3 0)
def Zg_ (b:List Int):List Int:=(b.take (QE_ b+zx_ b).toNat).drop (QE_ b).toNat
def Zh_ (b:List Int):List Int:=if zT_ b=true then (b.take (QE_ b+zx_ b+zx_ b).toNat).drop (QE_ b+zx_ b).toNat else []
def Zk_ (b:List Int):Int:=QE_ b+zx_ b+if zT_ b=true then zx_ b else 0
def zR_ (b:List Int):Int:=if b.length < 4 then 1026 else if q0_ (zp_ b) (zt_ b)=false then 1031 else if zT_ b=true/\ZE_ (zp_ b) (zt_ b)=false then 1033 else if qN_ b=false\/(b.length:Int) - 4 < b.getD 3 0 then 1026 else q9_ (zt_ b) (zT_ b) (Zg_ b) (Zh_ b) (qM_ (zp_ b) (zt_ b)) (zP_ (zp_ b))
def qe_ (b:List Int) (x:Int):Int:=if zR_ b=0 then x else 0
def q1_ (b:List Int) (l:List Int):List Int:=if zR_ b=0 then l else []
theorem cur4 {b:List Int} {sh od:Int} (h:4<=b.length):x8_ [2,1,1] b 0 0=[zp_ b,b.getD 2 0,b.getD 3 0]/\yq_ [2,1,1] b 0 0=4/\yr_ [2,1,1] b 0 sh od 0=0:=by
 have e:Z1_ [2,1,1] (b.drop (0:Int).toNat)=([z9_ (b.take 2),b.getD 2 0,b.getD 3 0],0):=by
  rw [show (0:Int).toNat=0 from rfl,List.drop_zero,za5_,if_neg (by omega)]
 have es:zF_ [2,1,1]=4:=by decide
 unfold x8_ yq_ yr_ ZN_ ZG_
 rw [e,es];exact ⟨rfl,rfl,rfl⟩
theorem cur0 {b:List Int} {sh od:Int} (h:b.length < 4):x8_ [2,1,1] b 0 0=[]/\yq_ [2,1,1] b 0 0=0/\yr_ [2,1,1] b 0 sh od 0=sh:=by
 have e:Z1_ [2,1,1] (b.drop (0:Int).toNat)=([],1):=by
  rw [show (0:Int).toNat=0 from rfl,List.drop_zero,za5_,if_pos (by omega)]
 unfold x8_ yq_ yr_ ZN_ ZG_
 rw [e];exact ⟨rfl,rfl,rfl⟩
theorem num4 {b:List Int} {p sh od:Int} (hp:0<=p) (h:p+4<=b.length):numV 4 b p 0=z9_ ((b.drop p.toNat).take 4)/\numP 4 b p 0=p+4/\numE 4 b p sh od 0=0:=by
 have e:Z1_ [4] (b.drop p.toNat)=([z9_ ((b.drop p.toNat).take 4)],0):=by
  rw [get4,if_neg (by rw [List.length_drop];omega)]
 have es:zF_ [4]=4:=by decide
 unfold numV numP numE x8_ yq_ yr_ ZN_ ZG_
 rw [e,es];exact ⟨rfl,rfl,rfl⟩
theorem k1_ {n p sh:Int} {b:List Int} (hn:0<=n) (h:p+n<=b.length):Qb_ n b p sh 0=(b.take (p+n).toNat).drop p.toNat/\jB_ n b p sh 0=p+n/\ZY_ n b p sh 0=0:=by
 have e:ZY_ n b p sh 0=0:=by unfold ZY_;rw [if_neg (by omega),if_neg (by omega)]
 unfold Qb_ jB_;rw [e];exact ⟨rfl,rfl,rfl⟩
theorem KG_ {b:List Int} (hb:∀ x ∈ b,0<=x/\x<=255) (i:Nat):0<=b.getD i 0/\b.getD i 0<=255:=by
 by_cases h:i < b.length
 ·exact hb _ (Zq_ (α:=Int) h 0)
 ·rw [List.getD_eq_getElem?_getD,List.getElem?_eq_none (by omega)];decide
theorem B1_ {b:List Int} (hb:∀ x ∈ b,0<=x/\x<=255):0<=zp_ b/\zp_ b<=65535:=by
 have:=xb_ (b.take 2) fun x hx=>hb x (List.mem_of_mem_take hx)
 have h2:∀ k ≤ 2,(256:Int) ^ k<=65536:=by decide
 have:=h2 (b.take 2).length (by rw [List.length_take];omega)
 unfold zp_;omega
theorem bN_ {b:List Int} (hn:0<=b.getD 3 0) (hof:0<=ZX_ (zp_ b) (zt_ b)) (hk:qN_ b=true):0<=zx_ b/\Zk_ b=4+b.getD 3 0/\zx_ b<=ZX_ (zp_ b) (zt_ b):=by
 unfold qN_ JL_ at hk
 unfold Zk_ zx_ xg_ QE_
 by_cases hc:zp_ b=65535
 ·have he:zP_ (zp_ b)=true:=decide_eq_true hc
  rw [he] at hk ⊢
  rw [if_pos hc]
  rw [if_pos rfl] at hk ⊢
  simp only [Bool.and_eq_true,decide_eq_true_eq] at hk
  obtain ⟨⟨k1,k2⟩,k3⟩:=hk
  cases hh:zT_ b with
  | true=>
    rw [hh] at k2 k3
    simp only [if_true] at k2 k3 ⊢
    rw [Qa_ k1] at k2;rw [Zw_ k1] at k3 ⊢;omega
  | false=>
    rw [hh] at k2 k3
    simp only [if_false,Bool.false_eq_true] at k2 k3 ⊢
    rw [Zw_ k1] at k3 ⊢;omega
 ·have he:zP_ (zp_ b)=false:=decide_eq_false hc
  rw [he] at hk ⊢
  rw [if_neg hc]
  simp only [if_false,Bool.false_eq_true,decide_eq_true_eq] at hk ⊢
  cases hh:zT_ b with
  | true=>rw [hh] at hk;simp only [if_true] at hk ⊢;omega
  | false=>rw [hh] at hk;simp only [if_false,Bool.false_eq_true] at hk ⊢;omega
theorem bP_ {b:List Int} (hq:0<=b.getD 2 0/\b.getD 2 0<=255):0<=zt_ b/\zt_ b<=127:=by
 unfold zt_;rw [Zw_ hq.1];omega
theorem zC_ {b:List Int} {p n:Int} (hp:0<=p) (hn:0<=n) (h:p+n<=b.length):((((b.take (p+n).toNat).drop p.toNat).length:Nat):Int)=n:=by
 rw [List.length_drop,List.length_take];omega
theorem KB_ {b:List Int} (h4:¬ b.length < 4) (hok:q0_ (zp_ b) (zt_ b)=true) (hm:zT_ b=true->ZE_ (zp_ b) (zt_ b)=true) (hk:qN_ b=true) (hl:¬ (b.length:Int) - 4 < b.getD 3 0):zR_ b=q9_ (zt_ b) (zT_ b) (Zg_ b) (Zh_ b) (qM_ (zp_ b) (zt_ b)) (zP_ (zp_ b)):=by
 unfold zR_
 rw [if_neg h4,if_neg (by rw [hok];decide),if_neg (fun h=>by rw [hm h.1] at h;exact absurd h.2 (by decide)),if_neg (fun h=>h.elim (by rw [hk];decide) hl)]
def Vr_:IR:=
(sq (kr [0] [oD 2 (.box [.int .i64 0,.int .i64 0,.kb false,.int .u64 0,.imm (.int .u8) [],.imm (.int .u8) []]),
oD 3 (.mov (cI 0)),
oD 4 (.mov (cI 0))])
(sq (.reg [oM 14 0,
oC 15 24 [14,(cI 1026),(cI 1026)],
oM 5 15])
(sq (.reg [oM 16 5,
oD 17 (.sliceAll (.int .i64) 3 [(0,1,(cI 2)),(1,1,(cI 1)),(2,1,(cI 1))]),
oC 18 125 [16,17],
oM 6 18])
(sq (sq (kr [2,5,6] [oM 19 6,
oE 20 19,
oB 21 .eql 20 (cI 0)])
(.cond 21
(sq (kr [2,5] [oD 22 (.build [.int .i64 0,.int .i64 0,.kb false,.int .u64 0,.imm (.int .u8) [],.imm (.int .u8) []] []),
oM 23 5,
oC 24 27 [23],
oS 6 2 22,
oD 3 (.mov (cI 0)),
oM 4 24])
.ret)
.skip))
(sq (kd [2,5,6] [(oM 25 6,[]),
(oD 26 (.indexSl 1 25 (cI 0)),[]),
(oL 27 26,[]),
(oD 28 (.conv .i64 27),[]),
(oM 29 6,[0,0,0,0]),
(oD 30 (.indexSl 1 29 (cI 1)),[1,0,0,0]),
(oL 31 30,[2,0,0,0]),
(oB 32 .quo 31 (.c (.int .u64 2)),[3,0,0,0]),
(oD 33 (.conv .i64 32),[4,0,0,0]),
(oM 34 6,[0,0,0,0,0,0,0,0,0]),
(oD 35 (.indexSl 1 34 (cI 1)),[1,0,0,0,0,0,0,0,0]),
(oL 36 35,[2,0,0,0,0,0,0,0,0]),
(oB 37 .rem 36 (.c (.int .u64 2)),[3,0,0,0,0,0,0,0,0]),
(oB 38 .eql 37 (.c (.int .u64 1)),[4,0,0,0,0,0,0,0,0]),
(oD 39 (.build [.int .i64 0,.int .i64 0,.kb false,.int .u64 0,.imm (.int .u8) [],.imm (.int .u8) []] [(0,1,28),(1,1,33),(2,1,38)]),[]),
(oD 7 (.box [.int .i64 0,.int .i64 0,.kb false,.int .u64 0,.imm (.int .u8) [],.imm (.int .u8) []]),[0,0,0,0,0,0,0,0,0,0,0,0,0,0,0]),
(oS 6 7 39,[])])
(sq (kr [2,5,6,7] [oK 41 6 7,
oC 42 115 [41],
oM 40 42,
oX 43 40 0,
oX 44 40 1,
oD 8 (.box [.int .i64 0,.int .i64 0,.kb false,.kb false]),
oS 4 8 43,
oM 9 44])
(sq (kd [2,5,6,7,8,9] [(oK 46 6 7,[]),
(oK 47 4 8,[0]),
(oM 48 6,[0,0]),
(oD 49 (.indexSl 1 48 (cI 2)),[1,0]),
(oL 50 49,[2,0]),
(oD 51 (.conv .i64 50),[3,0]),
(oC 52 144 [46,47,51],[]),
(oM 45 52,[]),
(oX 53 45 0,[]),
(oX 54 45 1,[0]),
(oM 10 53,[0]),
(oM 11 54,[])])
(sq (.block 0
(sq (kr [2,5,6,7,8,9,10,11] [oM 56 9,
oD 57 (.un .not 56),
oM 55 57])
(.cond 55
(sq (.reg [oD 58 (.build [.int .i64 0,.int .i64 0,.kb false,.int .u64 0,.imm (.int .u8) [],.imm (.int .u8) []] []),
oS 6 2 58,
oD 3 (.mov (cI 0)),
oD 4 (.mov (cI 1031))])
.ret)
(sq (kr [2,5,6,7,8,10,11] [oA 60 2 7,
oL 61 60,
oM 62 61,
oT 62 63 (.fieldAddr 2 8),
oT 62 64 (.load none 63),
oT 62 65 (.un .not 64),
oP 66 62 65 cF,
oM 59 66])
(.cond 59
(sq (kr [2] [oD 67 (.build [.int .i64 0,.int .i64 0,.kb false,.int .u64 0,.imm (.int .u8) [],.imm (.int .u8) []] []),
oS 6 2 67,
oD 3 (.mov (cI 0)),
oD 4 (.mov (cI 1033))])
.ret)
(sq (kd [2,5,6,7,8,10,11] [(oM 69 11,[]),
(oD 70 (.un .not 69),[]),
(oM 71 70,[]),
(oF 71 72 (.mov 5),[]),
(oF 71 73 (.call false (.f 70) [72]),[]),
(oF 71 74 (.mov 6),[0,0]),
(oF 71 75 (.indexSl 1 74 (cI 2)),[1,0]),
(oF 71 76 (.load none 75),[2,0]),
(oF 71 77 (.conv .i64 76),[3,0]),
(oF 71 78 (.bin .lss 73 77),[]),
(oP 79 71 cT 78,[]),
(oM 68 79,[])])
(.cond 68
(sq (kr [2] [oD 80 (.build [.int .i64 0,.int .i64 0,.kb false,.int .u64 0,.imm (.int .u8) [],.imm (.int .u8) []] []),
oS 6 2 80,
oD 3 (.mov (cI 0)),
oD 4 (.mov (cI 1026))])
.ret)
(sq (kr [2,5,7,8,10] [oA 82 3 8,
oL 83 82,
oM 81 83])
(.cond 81
(.reg [oM 84 5,
oC 85 145 [84,(cI 4)],
oA 86 3 7,
oS 1 86 85])
.skip)))))))))
(sq (kr [2,5,7,8,10] [oM 87 5,
oD 88 (.mkfn 25 [87] []),
oM 12 88])
(sq (.reg [oM 89 12,
oM 90 10,
oD 91 (.call false 89 [90]),
oA 92 4 7,
oS 1 92 91])
(sq (sq (kr [2,5,7,8,10,12] [oA 93 2 7,
oL 94 93])
(.cond 94
(.reg [oM 95 12,
oM 96 10,
oD 97 (.call false 95 [96]),
oA 98 5 7,
oS 1 98 97])
.skip))
(sq (sq (kr [2,5,7,8] [oK 99 6 7,
oK 100 4 8,
oC 101 116 [99,100],
oM 13 101])
(sq (.reg [oM 102 13,
oB 103 .neq 102 (cI 0)])
(.cond 103
(sq (kr [2,13] [oD 104 (.build [.int .i64 0,.int .i64 0,.kb false,.int .u64 0,.imm (.int .u8) [],.imm (.int .u8) []] []),
oM 105 13,
oS 6 2 104,
oD 3 (.mov (cI 0)),
oM 4 105])
.ret)
.skip)))
(sq (kd [2,5,7] [(oK 106 6 7,[]),
(oM 107 5,[0]),
(oC 108 28 [107],[1]),
(oS 6 2 106,[]),
(oM 3 108,[]),
(oD 4 (.mov (cI 0)),[])])
.ret)))))))))))))
def vP_:List RD:=[.cell 2 (some 6) true [],.tmp 3 true none,.tmp 4 true none]
theorem v8_:zn_ Tryz.prog Tryz.f128 Vr_ vP_=true:=by kernel_rfl
def ju_:List AV->List Obj->Option (Prop × AV)
 | [.imm (.int .u8) b],[]=>some ((b.length<=140737488355328,.tup [.agg [.int .i64 (qe_ b (zp_ b)),.int .i64 (qe_ b (zt_ b)),.bool ((if zR_ b=0 then zT_ b else false)),.int .u64 (qe_ b (qp_ b)),.imm (.int .u8) (q1_ b (Zg_ b)),.imm (.int .u8) (q1_ b (Zh_ b))],.int .i64 (qe_ b (Zk_ b)),.int .i64 (zR_ b)]))
 | _,_=>none
theorem yT_:ze_ Tryz.prog 128 (RoF ju_).sum:=by
 refine zm_ Tryz.func128 v8_ (zb_ (s:=RwF qI_) Qd_ (zb_ (s:=RwF z8_) ZK_ (zb_ (s:=RoF zy_) zI_ (zb_ (s:=RoF xr_) yR_ (zb_ (s:=RoF WE_) uS_ (zb_ (s:=RoF Zn_) ZZ_ (zb_ (s:=RwF qO_) jK_ (zb_ (s:=RwF zJ_) zZ_ (zb_ (s:=RoF Kd_) wV_ (zb_ (s:=RoF ZJ_) qj_ (zd_ _))))))))))) fun args objs p v e=>?_
 unfold ju_ at e
 split at e
 ·rename_i b
  cases e
  refine ⟨rfl,fun hw ho hp=>?_⟩
  change List Int at b
  have hb:∀ x ∈ b,0<=x/\x<=255:=fun x hx=>(hw (.imm (.int .u8) b) (by simp)).1 x hx
  by_cases h4:b.length < 4
  ·obtain ⟨hL,hP,hE⟩:=cur0 (sh:=1026) (od:=1026) h4
   have hd:zR_ b=1026:=by unfold zR_;rw [if_pos h4]
   repeat'(intro t ht;first|(cases t<;>first|(cases ht;done)|(try simp only[zh_]at ht))|((first|refine za_ ht ?_|refine ht ?_ ?_|refine ht.1 ?_ ?_|refine ht ?_)<;>clear ht))
   all_goals (try simp only [hL,hP,hE] at*)
   all_goals first
    | exact hp
    | exact absurd rfl ‹¬ ((([]:List Int).length:Int)=0)›
    | ((try simp only [zk_,zl_,zi_] at*);omega)
    | (simp only [qe_,q1_,hd];exact ⟨rfl,by first | rfl | exact True.intro⟩)
  ·obtain ⟨hL,hP,hE⟩:=cur4 (b:=b) (sh:=1026) (od:=1026) (by omega)
   have hC:=B1_ hb
   have hq:=KG_ hb 2
   have hn:=KG_ hb 3
   have hFl:=bP_ hq
   have hof:=V3_ (zp_ b) (zt_ b)
   have g0:∀ d,[zp_ b,b.getD 2 0,b.getD 3 0].getD (Int.toNat 0) d=zp_ b:=fun _=>rfl
   have g1:∀ d,[zp_ b,b.getD 2 0,b.getD 3 0].getD (Int.toNat 1) d=b.getD 2 0:=fun _=>rfl
   have g2:∀ d,[zp_ b,b.getD 2 0,b.getD 3 0].getD (Int.toNat 2) d=b.getD 3 0:=fun _=>rfl
   have gl:((([zp_ b,b.getD 2 0,b.getD 3 0]).length:Nat):Int)=3:=rfl
   have hF:(b.getD 2 0).tdiv 2=zt_ b:=rfl
   have hH:((b.getD 2 0).tmod 2=1)=(zT_ b=true):=propext ⟨fun h=>decide_eq_true h,fun h=>of_decide_eq_true h⟩
   have hS:xg_ (zT_ b) (zP_ (zp_ b)) (ZX_ (zp_ b) (zt_ b)) (b.getD 3 0)=zx_ b:=rfl
   have hK:JL_ (zT_ b) (zP_ (zp_ b)) (ZX_ (zp_ b) (zt_ b)) (b.getD 3 0)=qN_ b:=rfl
   by_cases hs:qN_ b=true/\¬ (b.length:Int) - 4 < b.getD 3 0
   ·obtain ⟨hd1,hd2,hd3⟩:=bN_ hn.1 hof.1 hs.1
    by_cases hx:zp_ b=65535
    ·have hx':zP_ (zp_ b)=true:=decide_eq_true hx
     have h8:(8:Int)<=b.length:=by
      have h:=hs.1
      unfold qN_ JL_ at h
      rw [hx',if_pos rfl] at h
      simp only [Bool.and_eq_true,decide_eq_true_eq] at h
      omega
     cases hh:zT_ b with
     | true=>
       have hd2':Zk_ b=QE_ b+zx_ b+zx_ b:=by unfold Zk_;rw [hh];rfl
       have hA:QE_ b=8:=if_pos hx
       obtain ⟨hN1,hN2,hN3⟩:=num4 (b:=b) (p:=4) (sh:=1026) (od:=1026) (by decide) (by omega)
       have hX:qp_ b=z9_ ((b.drop (4:Int).toNat).take 4):=if_pos hx
       simp only [show (4:Int)+4=8 from rfl] at hN2
       obtain ⟨hT1,hT2,hT3⟩:=k1_ (n:=zx_ b) (p:=8) (sh:=1026) (b:=b) hd1 (by omega)
       have hV:(b.take (8+zx_ b).toNat).drop (8:Int).toNat=Zg_ b:=by unfold Zg_;rw [hA]
       have hVl:=zC_ (b:=b) (p:=8) (n:=zx_ b) (by decide) hd1 (by omega)
       rw [hV] at hT1 hVl
       obtain ⟨hU1,hU2,hU3⟩:=k1_ (n:=zx_ b) (p:=8+zx_ b) (sh:=1026) (b:=b) hd1 (by omega)
       have hM:(b.take (8+zx_ b+zx_ b).toNat).drop (8+zx_ b).toNat=Zh_ b:=by unfold Zh_;rw [hh,hA];rfl
       have hMl:=zC_ (b:=b) (p:=8+zx_ b) (n:=zx_ b) (by omega) hd1 (by omega)
       rw [hM] at hU1 hMl
       have hNN:8+zx_ b+zx_ b=Zk_ b:=by omega
       have hdw:q0_ (zp_ b) (zt_ b)=true->ZE_ (zp_ b) (zt_ b)=true->zR_ b=q9_ (zt_ b) true (Zg_ b) (Zh_ b) (qM_ (zp_ b) (zt_ b)) true:=fun h1 h3=>by rw [KB_ h4 h1 (fun h2=>h3) hs.1 hs.2,hh,hx']
       have hdm:zT_ b=true->ZE_ (zp_ b) (zt_ b)=false->q0_ (zp_ b) (zt_ b)=true->zR_ b=1033:=fun h1 h2 h3=>by unfold zR_;rw [if_neg h4,h3,h1,h2];rfl
       rw [hh] at hdm
       obtain ⟨c1,hc1⟩:∃ p:Prop,p=(qN_ b=true):=⟨_,rfl⟩
       repeat'(intro t ht;first|(cases t<;>first|(cases ht;done)|(try simp only[zh_]at ht))|((first|refine za_ ht ?_|refine ht ?_ ?_|refine ht.1 ?_ ?_|refine ht ?_)<;>clear ht))
       all_goals (try simp only [hL,hP,hE,g0,g1,g2,gl,hF,hH,hS,hK,Bool.decide_eq_true] at*)
       all_goals (try simp only [hh,hx',hT1,hT2,hT3,hNN,Bool.false_eq_true,not_false_eq_true,not_true_eq_false,reduceCtorEq,hN1,hN2,hN3,hU1,hU2,hU3] at*)
       all_goals first
        | exact hp
        | exact (by decide)
        | omega
        | ((try simp only [zk_,zl_,zi_] at*);omega)
        | (refine ⟨fun h=>?_,?_,?_,?_⟩<;>first | omega | (simp only [List.length_nil];omega) | (cases h;done))
        | exact absurd hs.1 (by rw [‹qN_ b=false›];decide)
        | (have h0:zR_ b=1031:=by unfold zR_;rw [if_neg h4,if_pos (by assumption)]
           simp only [qe_,q1_,h0];exact ⟨rfl,by first | rfl | exact True.intro⟩)
        | (have h0:zR_ b=1033:=hdm (by first | rfl | exact True.intro) (by assumption) (by assumption)
           simp only [qe_,q1_,h0];exact ⟨rfl,by first | rfl | exact True.intro⟩)
        | (have hd:=hdw (by assumption) (by assumption)
           first
            | (have h0:zR_ b=0:=hd.trans (by assumption)
               refine ⟨?_,by first | rfl | exact True.intro⟩;first | (simp only [qe_,q1_,if_pos h0,h0,ite_self,hX];done) | (simp only [qe_,q1_,if_pos h0,h0,ite_self,hX];rfl))
            | (have h0:¬ zR_ b=0:=by rw [hd];assumption
               refine ⟨?_,by first | rfl | exact True.intro⟩;simp only [qe_,q1_,if_neg h0,ite_self];rw [hd]))
     | false=>
       have hd2':Zk_ b=QE_ b+zx_ b:=by unfold Zk_;rw [hh];simp
       have hA:QE_ b=8:=if_pos hx
       obtain ⟨hN1,hN2,hN3⟩:=num4 (b:=b) (p:=4) (sh:=1026) (od:=1026) (by decide) (by omega)
       have hX:qp_ b=z9_ ((b.drop (4:Int).toNat).take 4):=if_pos hx
       simp only [show (4:Int)+4=8 from rfl] at hN2
       obtain ⟨hT1,hT2,hT3⟩:=k1_ (n:=zx_ b) (p:=8) (sh:=1026) (b:=b) hd1 (by omega)
       have hV:(b.take (8+zx_ b).toNat).drop (8:Int).toNat=Zg_ b:=by unfold Zg_;rw [hA]
       have hVl:=zC_ (b:=b) (p:=8) (n:=zx_ b) (by decide) hd1 (by omega)
       rw [hV] at hT1 hVl
       have hM:Zh_ b=[]:=by unfold Zh_;rw [hh];rfl
       have hMl:(((Zh_ b).length:Nat):Int)=0:=by rw [hM];rfl
       have hNN:8+zx_ b=Zk_ b:=by omega
       have hdw:q0_ (zp_ b) (zt_ b)=true->zR_ b=q9_ (zt_ b) false (Zg_ b) [] (qM_ (zp_ b) (zt_ b)) true:=fun h1=>by rw [KB_ h4 h1 (fun h2=>absurd h2 (by rw [hh];decide)) hs.1 hs.2,hh,hx',hM]
       have hdm:zT_ b=true->ZE_ (zp_ b) (zt_ b)=false->q0_ (zp_ b) (zt_ b)=true->zR_ b=1033:=fun h1 h2 h3=>by unfold zR_;rw [if_neg h4,h3,h1,h2];rfl
       rw [hh] at hdm
       obtain ⟨c1,hc1⟩:∃ p:Prop,p=(qN_ b=true):=⟨_,rfl⟩
       repeat'(intro t ht;first|(cases t<;>first|(cases ht;done)|(try simp only[zh_]at ht))|((first|refine za_ ht ?_|refine ht ?_ ?_|refine ht.1 ?_ ?_|refine ht ?_)<;>clear ht))
       all_goals (try simp only [hL,hP,hE,g0,g1,g2,gl,hF,hH,hS,hK,Bool.decide_eq_true] at*)
       all_goals (try simp only [hh,hx',hT1,hT2,hT3,hNN,Bool.false_eq_true,not_false_eq_true,not_true_eq_false,reduceCtorEq,hN1,hN2,hN3] at*)
       all_goals first
        | exact hp
        | exact (by decide)
        | omega
        | ((try simp only [zk_,zl_,zi_] at*);omega)
        | (refine ⟨fun h=>?_,?_,?_,?_⟩<;>first | omega | (simp only [List.length_nil];omega) | (cases h;done))
        | exact absurd hs.1 (by rw [‹qN_ b=false›];decide)
        | (have h0:zR_ b=1031:=by unfold zR_;rw [if_neg h4,if_pos (by assumption)]
           simp only [qe_,q1_,h0];exact ⟨rfl,by first | rfl | exact True.intro⟩)
        | (have h0:zR_ b=1033:=hdm (by first | rfl | exact True.intro) (by assumption) (by assumption)
           simp only [qe_,q1_,h0];exact ⟨rfl,by first | rfl | exact True.intro⟩)
        | (have hd:=hdw (by assumption)
           first
            | (have h0:zR_ b=0:=hd.trans (by assumption)
               refine ⟨?_,by first | rfl | exact True.intro⟩;first | (simp only [qe_,q1_,if_pos h0,h0,ite_self,hM,hX];done) | (simp only [qe_,q1_,if_pos h0,h0,ite_self,hM,hX];rfl))
            | (have h0:¬ zR_ b=0:=by rw [hd];assumption
               refine ⟨?_,by first | rfl | exact True.intro⟩;simp only [qe_,q1_,if_neg h0,ite_self];rw [hd]))
    ·have hx':zP_ (zp_ b)=false:=decide_eq_false hx
     cases hh:zT_ b with
     | true=>
       have hd2':Zk_ b=QE_ b+zx_ b+zx_ b:=by unfold Zk_;rw [hh];rfl
       have hA:QE_ b=4:=if_neg hx
       have hX:qp_ b=0:=if_neg hx
       obtain ⟨hT1,hT2,hT3⟩:=k1_ (n:=zx_ b) (p:=4) (sh:=1026) (b:=b) hd1 (by omega)
       have hV:(b.take (4+zx_ b).toNat).drop (4:Int).toNat=Zg_ b:=by unfold Zg_;rw [hA]
       have hVl:=zC_ (b:=b) (p:=4) (n:=zx_ b) (by decide) hd1 (by omega)
       rw [hV] at hT1 hVl
       obtain ⟨hU1,hU2,hU3⟩:=k1_ (n:=zx_ b) (p:=4+zx_ b) (sh:=1026) (b:=b) hd1 (by omega)
       have hM:(b.take (4+zx_ b+zx_ b).toNat).drop (4+zx_ b).toNat=Zh_ b:=by unfold Zh_;rw [hh,hA];rfl
       have hMl:=zC_ (b:=b) (p:=4+zx_ b) (n:=zx_ b) (by omega) hd1 (by omega)
       rw [hM] at hU1 hMl
       have hNN:4+zx_ b+zx_ b=Zk_ b:=by omega
       have hdw:q0_ (zp_ b) (zt_ b)=true->ZE_ (zp_ b) (zt_ b)=true->zR_ b=q9_ (zt_ b) true (Zg_ b) (Zh_ b) (qM_ (zp_ b) (zt_ b)) false:=fun h1 h3=>by rw [KB_ h4 h1 (fun h2=>h3) hs.1 hs.2,hh,hx']
       have hdm:zT_ b=true->ZE_ (zp_ b) (zt_ b)=false->q0_ (zp_ b) (zt_ b)=true->zR_ b=1033:=fun h1 h2 h3=>by unfold zR_;rw [if_neg h4,h3,h1,h2];rfl
       rw [hh] at hdm
       obtain ⟨c1,hc1⟩:∃ p:Prop,p=(qN_ b=true):=⟨_,rfl⟩
       repeat'(intro t ht;first|(cases t<;>first|(cases ht;done)|(try simp only[zh_]at ht))|((first|refine za_ ht ?_|refine ht ?_ ?_|refine ht.1 ?_ ?_|refine ht ?_)<;>clear ht))
       all_goals (try simp only [hL,hP,hE,g0,g1,g2,gl,hF,hH,hS,hK,Bool.decide_eq_true] at*)
       all_goals (try simp only [hh,hx',hT1,hT2,hT3,hNN,Bool.false_eq_true,not_false_eq_true,not_true_eq_false,reduceCtorEq,hU1,hU2,hU3] at*)
       all_goals first
        | exact hp
        | exact (by decide)
        | omega
        | ((try simp only [zk_,zl_,zi_] at*);omega)
        | (refine ⟨fun h=>?_,?_,?_,?_⟩<;>first | omega | (simp only [List.length_nil];omega) | (cases h;done))
        | exact absurd hs.1 (by rw [‹qN_ b=false›];decide)
        | (have h0:zR_ b=1031:=by unfold zR_;rw [if_neg h4,if_pos (by assumption)]
           simp only [qe_,q1_,h0];exact ⟨rfl,by first | rfl | exact True.intro⟩)
        | (have h0:zR_ b=1033:=hdm (by first | rfl | exact True.intro) (by assumption) (by assumption)
           simp only [qe_,q1_,h0];exact ⟨rfl,by first | rfl | exact True.intro⟩)
        | (have hd:=hdw (by assumption) (by assumption)
           first
            | (have h0:zR_ b=0:=hd.trans (by assumption)
               refine ⟨?_,by first | rfl | exact True.intro⟩;first | (simp only [qe_,q1_,if_pos h0,h0,ite_self,hX];done) | (simp only [qe_,q1_,if_pos h0,h0,ite_self,hX];rfl))
            | (have h0:¬ zR_ b=0:=by rw [hd];assumption
               refine ⟨?_,by first | rfl | exact True.intro⟩;simp only [qe_,q1_,if_neg h0,ite_self];rw [hd]))
     | false=>
       have hd2':Zk_ b=QE_ b+zx_ b:=by unfold Zk_;rw [hh];simp
       have hA:QE_ b=4:=if_neg hx
       have hX:qp_ b=0:=if_neg hx
       obtain ⟨hT1,hT2,hT3⟩:=k1_ (n:=zx_ b) (p:=4) (sh:=1026) (b:=b) hd1 (by omega)
       have hV:(b.take (4+zx_ b).toNat).drop (4:Int).toNat=Zg_ b:=by unfold Zg_;rw [hA]
       have hVl:=zC_ (b:=b) (p:=4) (n:=zx_ b) (by decide) hd1 (by omega)
       rw [hV] at hT1 hVl
       have hM:Zh_ b=[]:=by unfold Zh_;rw [hh];rfl
       have hMl:(((Zh_ b).length:Nat):Int)=0:=by rw [hM];rfl
       have hNN:4+zx_ b=Zk_ b:=by omega
       have hdw:q0_ (zp_ b) (zt_ b)=true->zR_ b=q9_ (zt_ b) false (Zg_ b) [] (qM_ (zp_ b) (zt_ b)) false:=fun h1=>by rw [KB_ h4 h1 (fun h2=>absurd h2 (by rw [hh];decide)) hs.1 hs.2,hh,hx',hM]
       have hdm:zT_ b=true->ZE_ (zp_ b) (zt_ b)=false->q0_ (zp_ b) (zt_ b)=true->zR_ b=1033:=fun h1 h2 h3=>by unfold zR_;rw [if_neg h4,h3,h1,h2];rfl
       rw [hh] at hdm
       obtain ⟨c1,hc1⟩:∃ p:Prop,p=(qN_ b=true):=⟨_,rfl⟩
       repeat'(intro t ht;first|(cases t<;>first|(cases ht;done)|(try simp only[zh_]at ht))|((first|refine za_ ht ?_|refine ht ?_ ?_|refine ht.1 ?_ ?_|refine ht ?_)<;>clear ht))
       all_goals (try simp only [hL,hP,hE,g0,g1,g2,gl,hF,hH,hS,hK,Bool.decide_eq_true] at*)
       all_goals (try simp only [hh,hx',hT1,hT2,hT3,hNN,Bool.false_eq_true,not_false_eq_true,not_true_eq_false,reduceCtorEq] at*)
       all_goals first
        | exact hp
        | exact (by decide)
        | omega
        | ((try simp only [zk_,zl_,zi_] at*);omega)
        | (refine ⟨fun h=>?_,?_,?_,?_⟩<;>first | omega | (simp only [List.length_nil];omega) | (cases h;done))
        | exact absurd hs.1 (by rw [‹qN_ b=false›];decide)
        | (have h0:zR_ b=1031:=by unfold zR_;rw [if_neg h4,if_pos (by assumption)]
           simp only [qe_,q1_,h0];exact ⟨rfl,by first | rfl | exact True.intro⟩)
        | (have h0:zR_ b=1033:=hdm (by first | rfl | exact True.intro) (by assumption) (by assumption)
           simp only [qe_,q1_,h0];exact ⟨rfl,by first | rfl | exact True.intro⟩)
        | (have hd:=hdw (by assumption)
           first
            | (have h0:zR_ b=0:=hd.trans (by assumption)
               refine ⟨?_,by first | rfl | exact True.intro⟩;first | (simp only [qe_,q1_,if_pos h0,h0,ite_self,hM,hX];done) | (simp only [qe_,q1_,if_pos h0,h0,ite_self,hM,hX];rfl))
            | (have h0:¬ zR_ b=0:=by rw [hd];assumption
               refine ⟨?_,by first | rfl | exact True.intro⟩;simp only [qe_,q1_,if_neg h0,ite_self];rw [hd]))
   ·have hs':qN_ b=false\/(b.length:Int) - 4 < b.getD 3 0:=by
     cases hk:qN_ b with
     | false=>exact .inl rfl
     | true=>exact .inr (Decidable.by_contra fun h=>hs ⟨hk,h⟩)
    have hd3:q0_ (zp_ b) (zt_ b)=true->(zT_ b=true->ZE_ (zp_ b) (zt_ b)=true)->zR_ b=1026:=fun h1 h2=>by
     unfold zR_
     rw [if_neg h4,if_neg (by rw [h1];decide),if_neg (fun h=>by rw [h2 h.1] at h;exact absurd h.2 (by decide)),if_pos hs']
    repeat'(intro t ht;first|(cases t<;>first|(cases ht;done)|(try simp only[zh_]at ht))|((first|refine za_ ht ?_|refine ht ?_ ?_|refine ht.1 ?_ ?_|refine ht ?_)<;>clear ht))
    all_goals (try simp only [hL,hP,hE,g0,g1,g2,gl,hF,hH,hS,hK,Bool.decide_eq_true] at*)
    all_goals first
     | exact hp
     | exact (by decide)
     | exact absurd ⟨by assumption,by assumption⟩ hs
     | omega
     | ((try simp only [zk_,zl_,zi_] at*);omega)
     | (have h0:zR_ b=1031:=by unfold zR_;rw [if_neg h4,if_pos (by assumption)]
        simp only [qe_,q1_,h0];exact ⟨rfl,by first | rfl | exact True.intro⟩)
     | (have h0:zR_ b=1033:=by unfold zR_;rw [if_neg h4,if_neg (by simp_all;done),if_pos ⟨by assumption,by assumption⟩]
        simp only [qe_,q1_,h0];exact ⟨rfl,by first | rfl | exact True.intro⟩)
     | (have h0:zR_ b=1026:=hd3 (by assumption) (fun h=>by first | assumption | exact absurd h (by assumption))
        simp only [qe_,q1_,h0];exact ⟨rfl,by first | rfl | exact True.intro⟩)
 ·cases e
def UU_:IR:=
(sq (kr [0,1] [oD 2 (.boxv 0),
oD 3 (.boxv 1),
oD 4 (.mov cF)])
(sq (kr [2,3] [oA 5 0 2,
oL 6 5,
oA 7 0 3,
oL 8 7,
oB 9 .eql 6 8,
oM 10 9,
oT 10 11 (.fieldAddr 1 2),
oT 10 12 (.load none 11),
oT 10 13 (.fieldAddr 1 3),
oT 10 14 (.load none 13),
oT 10 15 (.bin .eql 12 14),
oP 16 10 15 cF,
oM 17 16,
oT 17 18 (.fieldAddr 3 2),
oT 17 19 (.load none 18),
oT 17 20 (.fieldAddr 3 3),
oT 17 21 (.load none 20),
oT 17 22 (.bin .eql 19 21),
oP 23 17 22 cF,
oM 4 23])
.ret))
def u6_:List RD:=[.tmp 4 true none]
theorem Uv_:zn_ Tryz.prog Tryz.f107 UU_ u6_=true:=by kernel_rfl
def we_:List AV->List Obj->Option (Prop × AV)
 | [.agg [.int .i64 c,.int .i64 f,.bool h,.int .u64 x,.imm (.int .u8) v,.imm (.int .u8) m],.agg [.int .i64 c',.int .i64 f',.bool h',.int .u64 x',.imm (.int .u8) v',.imm (.int .u8) m']],[]=>some ((True,.bool (decide (c=c') && decide (f=f') && decide (x=x'))))
 | _,_=>none
theorem vz_:ze_ Tryz.prog 107 (RoF we_).sum:=by
 refine zm_ Tryz.func107 Uv_ (zd_ _) fun args objs p v e=>?_
 unfold we_ at e
 split at e
 ·rename_i c f h x v m c' f' h' x' v' m'
  cases e
  refine ⟨rfl,fun hw ho hp=>?_⟩
  change List Int at v
  change List Int at m
  change List Int at v'
  change List Int at m'
  repeat'(intro t ht;first|(cases t<;>first|(cases ht;done)|(try simp only[zh_]at ht))|((first|refine za_ ht ?_|refine ht ?_ ?_|refine ht.1 ?_ ?_|refine ht ?_)<;>clear ht))
  all_goals first
   | exact True.intro
   | (simp_all;done)
 ·cases e
def Qx_ (c f:Int) (h:Bool) (x:Int) (v m:List Int) (c' f':Int) (h':Bool) (x':Int) (v' m':List Int):Bool:=decide (c=c') && decide (f=f') && decide (x=x') && (h == h') && decide (v=v') && decide (m=m')
theorem VV_ (c f:Int) (h:Bool) (x:Int) (v m:List Int):Qx_ c f h x v m c f h x v m=true:=by unfold Qx_;simp
def GT_:IR:=
(sq (kr [0,1] [oD 2 (.boxv 0),
oD 3 (.boxv 1),
oD 4 (.mov cF)])
(sq (kr [2,3] [oK 5 6 2,
oK 6 6 3,
oC 7 107 [5,6],
oM 8 7,
oT 8 9 (.fieldAddr 2 2),
oT 8 10 (.load none 9),
oT 8 11 (.fieldAddr 2 3),
oT 8 12 (.load none 11),
oT 8 13 (.eqb false 10 12),
oP 14 8 13 cF,
oM 15 14,
oT 15 16 (.fieldAddr 4 2),
oT 15 17 (.load none 16),
oT 15 18 (.fieldAddr 4 3),
oT 15 19 (.load none 18),
oT 15 20 (.call false (.f 17) [17,19]),
oP 21 15 20 cF,
oM 22 21,
oT 22 23 (.fieldAddr 5 2),
oT 22 24 (.load none 23),
oT 22 25 (.fieldAddr 5 3),
oT 22 26 (.load none 25),
oT 22 27 (.call false (.f 17) [24,26]),
oP 28 22 27 cF,
oM 4 28])
.ret))
def g0_:List RD:=[.tmp 4 true none]
theorem Gm_:zn_ Tryz.prog Tryz.f69 GT_ g0_=true:=by kernel_rfl
def Wz_:List AV->List Obj->Option (Prop × AV)
 | [.agg [.int .i64 c,.int .i64 f,.bool h,.int .u64 x,.imm (.int .u8) v,.imm (.int .u8) m],.agg [.int .i64 c',.int .i64 f',.bool h',.int .u64 x',.imm (.int .u8) v',.imm (.int .u8) m']],[]=>some ((True,.bool (Qx_ c f h x v m c' f' h' x' v' m')))
 | _,_=>none
theorem uN_:ze_ Tryz.prog 69 (RoF Wz_).sum:=by
 refine zm_ Tryz.func69 Gm_ (zb_ (s:=RoF we_) vz_ (zb_ (s:=RoF Q6_) Ki_ (zd_ _))) fun args objs p v e=>?_
 unfold Wz_ at e
 split at e
 ·rename_i c f h x v m c' f' h' x' v' m'
  cases e
  refine ⟨rfl,fun hw ho hp=>?_⟩
  change List Int at v
  change List Int at m
  change List Int at v'
  change List Int at m'
  repeat'(intro t ht;first|(cases t<;>first|(cases ht;done)|(try simp only[zh_]at ht))|((first|refine za_ ht ?_|refine ht ?_ ?_|refine ht.1 ?_ ?_|refine ht ?_)<;>clear ht))
  all_goals first
   | exact True.intro
   | (refine ⟨?_,rfl⟩;unfold Qx_;simp_all;done)
   | (refine ⟨?_,rfl⟩;unfold Qx_;cases h<;>cases h'<;>simp_all;done)
   | (refine ⟨?_,rfl⟩;unfold Qx_;rcases ‹(¬c=c'\/¬f=f')\/¬x=x'› with (h1 | h1) | h1<;>rw [decide_eq_false h1]<;>simp)
 ·cases e
def HN_:IR:=
(sq (kr [0] [oD 1 (.boxv 0),
oD 2 (.mov cF)])
(sq (kr [1] [oA 3 4 1,
oL 4 3,
oE 5 4,
oB 6 .leq 5 (cI 300),
oM 7 6,
oT 7 8 (.fieldAddr 5 1),
oT 7 9 (.load none 8),
oT 7 10 (.len 9),
oT 7 11 (.bin .leq 10 (cI 300)),
oP 12 7 11 cF,
oM 2 12])
.ret))
def Ha_:List RD:=[.tmp 2 true none]
theorem Hq_:zn_ Tryz.prog Tryz.f48 HN_ Ha_=true:=by kernel_rfl
def Xr_:List AV->List Obj->Option (Prop × AV)
 | [.agg [.int .i64 c,.int .i64 f,.bool h,.int .u64 x,.imm (.int .u8) v,.imm (.int .u8) m]],[]=>some ((True,.bool (decide (v.length<=300) && decide (m.length<=300))))
 | _,_=>none
theorem gK_:ze_ Tryz.prog 48 (RoF Xr_).sum:=by
 refine zm_ Tryz.func48 Hq_ (zd_ _) fun args objs p v e=>?_
 unfold Xr_ at e
 split at e
 ·rename_i c f h x v m
  cases e
  refine ⟨rfl,fun hw ho hp=>?_⟩
  change List Int at v
  change List Int at m
  repeat'(intro t ht;first|(cases t<;>first|(cases ht;done)|(try simp only[zh_]at ht))|((first|refine za_ ht ?_|refine ht ?_ ?_|refine ht.1 ?_ ?_|refine ht ?_)<;>clear ht))
  all_goals first
   | exact True.intro
   | (simp_all;done)
   | (have e:decide (v.length<=300)=false:=decide_eq_false (by omega)
      rw [e];exact ⟨rfl,rfl⟩)
   | (have e:decide (v.length<=300)=true:=decide_eq_true (by omega)
      rw [e];refine ⟨?_,rfl⟩;rw [Bool.true_and];congr 1;rw [Bool.eq_iff_iff];simp only [decide_eq_true_eq];omega)
 ·cases e
def rE (b:List Int):Int:=if b.length < 4 then 1026 else if q0_ (zp_ b) (zt_ b)=false then 1031 else if zT_ b=true/\ZE_ (zp_ b) (zt_ b)=false then 1033 else if qN_ b=false\/(b.length:Int) - 4 < b.getD 3 0 then 1026 else hZ_ (zp_ b) (zt_ b) (zT_ b) (Zg_ b) (Zh_ b)
def rI (b:List Int) (x:Int):Int:=if rE b=0 then x else 0
def rR (b:List Int) (l:List Int):List Int:=if rE b=0 then l else []
theorem B8_ (f:Int):0<=Zb_ f/\Zb_ f<=16:=by
 cases h:fIs f with
 | true=>
   have hn:=Z7_.1 h
   have:=hN_ f.toNat (by omega)
   rw [Int.toNat_of_nonneg hn.1] at this
   omega
 | false=>unfold Zb_;rw [h];exact ⟨Int.le_refl _,show (0:Int)<=16 by decide⟩
theorem zdU_:∀ k < 40,Q0_ (k:Nat)=qJ_ (k:Nat)/\k7_ (k:Nat)=Zb_ (k:Nat)/\uf_ (k:Nat)=jG_ (k:Nat):=by decide+kernel
theorem law8 (f:Int):Q0_ f=qJ_ f/\k7_ f=Zb_ f/\uf_ f=jG_ f:=by
 cases h:fIs f with
 | true=>
   have hn:=Z7_.1 h
   have:=zdU_ f.toNat (by omega)
   rwa [Int.toNat_of_nonneg hn.1] at this
 | false=>
   unfold Q0_ qJ_ k7_ Zb_ uf_ jG_;rw [h];exact ⟨rfl,rfl,rfl⟩
theorem kB {b:List Int} (hc:zp_ b=32768):q0_ (zp_ b) (zt_ b)=fIs (zt_ b)/\ZE_ (zp_ b) (zt_ b)=jG_ (zt_ b)/\QE_ b=4/\qp_ b=0/\zx_ b=Zb_ (zt_ b)/\qN_ b=decide (b.getD 3 0=(if zT_ b=true then 2 else 1)*Zb_ (zt_ b)):=by
 have hl:=law8 (zt_ b)
 have hz:ZX_ (zp_ b) (zt_ b)=Zb_ (zt_ b):=by unfold ZX_;rw [if_neg (by omega)];exact hl.2.1
 have he:zP_ (zp_ b)=false:=decide_eq_false (by omega)
 refine ⟨?_,?_,if_neg (by omega),if_neg (by omega),?_,?_⟩
 ·unfold q0_;rw [if_neg (by omega),decide_eq_true hc,Bool.and_true]
 ·unfold ZE_;rw [if_neg (by omega)];exact hl.2.2
 ·unfold zx_ xg_;rw [he,hz];rfl
 ·unfold qN_ JL_;rw [he,hz];rfl
theorem kE {b:List Int} (hc:zp_ b=65535) (hf:0<=zt_ b/\zt_ b<=127):q0_ (zp_ b) (zt_ b)=true/\ZE_ (zp_ b) (zt_ b)=true/\QE_ b=8/\qp_ b=z9_ ((b.drop 4).take 4)/\zx_ b=(b.getD 3 0 - 4).tdiv (if zT_ b=true then 2 else 1)/\qN_ b=(decide (0<=b.getD 3 0 - 4) && decide ((b.getD 3 0 - 4).tmod (if zT_ b=true then 2 else 1)=0) && decide ((b.getD 3 0 - 4).tdiv (if zT_ b=true then 2 else 1)<=100)):=by
 have hz:ZX_ (zp_ b) (zt_ b)=100:=if_pos hc
 have he:zP_ (zp_ b)=true:=decide_eq_true hc
 refine ⟨?_,if_pos hc,if_pos hc,if_pos hc,?_,?_⟩
 ·unfold q0_;rw [if_pos hc,decide_eq_true hf.1,decide_eq_true hf.2];rfl
 ·unfold zx_ xg_;rw [he];rfl
 ·unfold qN_ JL_;rw [he,hz];rfl
theorem bv_ {b:List Int} (h4:¬ b.length < 4) (hok:q0_ (zp_ b) (zt_ b)=true) (hm:zT_ b=true->ZE_ (zp_ b) (zt_ b)=true) (hk:qN_ b=true) (hl:¬ (b.length:Int) - 4 < b.getD 3 0):rE b=hZ_ (zp_ b) (zt_ b) (zT_ b) (Zg_ b) (Zh_ b):=by
 unfold rE
 rw [if_neg h4,if_neg (by rw [hok];decide),if_neg (fun h=>by rw [hm h.1] at h;exact absurd h.2 (by decide)),if_neg (fun h=>h.elim (by rw [hk];decide) hl)]
theorem Uj_ {b:List Int} (h4:¬ b.length < 4) (hok:q0_ (zp_ b) (zt_ b)=true) (hm:zT_ b=true->ZE_ (zp_ b) (zt_ b)=true) (hk:qN_ b=false\/(b.length:Int) - 4 < b.getD 3 0):rE b=1026:=by
 unfold rE
 rw [if_neg h4,if_neg (by rw [hok];decide),if_neg (fun h=>by rw [hm h.1] at h;exact absurd h.2 (by decide)),if_pos hk]
def Vp_:IR:=
(sq (kr [0] [oD 2 (.box [.int .i64 0,.int .i64 0,.kb false,.int .u64 0,.imm (.int .u8) [],.imm (.int .u8) []]),
oD 3 (.mov (cI 0)),
oD 4 (.mov (cI 0))])
(sq (sq (.reg [oM 13 0,
oE 14 13,
oB 15 .lss 14 (cI 4)])
(.cond 15
(sq (kr [2] [oD 16 (.build [.int .i64 0,.int .i64 0,.kb false,.int .u64 0,.imm (.int .u8) [],.imm (.int .u8) []] []),
oS 6 2 16,
oD 3 (.mov (cI 0)),
oD 4 (.mov (cI 1026))])
.ret)
.skip))
(sq (kd [0,2] [(oM 17 0,[]),
(oD 18 (.slice 1 17 none (some (cI 2)) none),[]),
(oC 19 103 [18],[]),
(oD 20 (.conv .i64 19),[]),
(oM 21 0,[0,0,0,0]),
(oD 22 (.indexSl 1 21 (cI 2)),[1,0,0,0]),
(oL 23 22,[2,0,0,0]),
(oD 24 (.conv .i64 23),[3,0,0,0]),
(oB 25 .quo 24 (cI 2),[4,0,0,0]),
(oM 26 0,[0,0,0,0,0,0,0,0,0]),
(oD 27 (.indexSl 1 26 (cI 2)),[1,0,0,0,0,0,0,0,0]),
(oL 28 27,[2,0,0,0,0,0,0,0,0]),
(oB 29 .rem 28 (.c (.int .u8 2)),[3,0,0,0,0,0,0,0,0]),
(oB 30 .eql 29 (.c (.int .u8 1)),[4,0,0,0,0,0,0,0,0]),
(oD 31 (.build [.int .i64 0,.int .i64 0,.kb false,.int .u64 0,.imm (.int .u8) [],.imm (.int .u8) []] [(0,1,20),(1,1,25),(2,1,30)]),[]),
(oD 5 (.box [.int .i64 0,.int .i64 0,.kb false,.int .u64 0,.imm (.int .u8) [],.imm (.int .u8) []]),[0,0,0,0,0,0,0,0,0,0,0,0,0,0,0]),
(oS 6 5 31,[])])
(sq (kr [0,2,5] [oM 32 0,
oD 33 (.indexSl 1 32 (cI 3)),
oL 34 33,
oD 35 (.conv .i64 34),
oM 6 35])
(sq (kr [0,2,5,6] [oA 37 1 5,
oL 38 37,
oC 39 109 [38],
oM 36 39,
oX 40 36 0,
oX 41 36 1,
oD 7 (.box [.str [],.int .i64 0,.int .i64 0,.kb false,.int .i64 0,.imm (.int .u64) []]),
oS 6 7 40,
oM 8 41])
(sq (sq (kr [0,2,5,6,7,8] [oA 42 0 5,
oL 43 42,
oB 44 .neq 43 (cI 32768),
oM 45 44,
oT 45 46 (.fieldAddr 0 5),
oT 45 47 (.load none 46),
oT 45 48 (.bin .neq 47 (cI 65535)),
oP 49 45 48 cF,
oM 50 49,
oF 50 51 (.fieldAddr 0 5),
oF 50 52 (.load none 51),
oF 50 53 (.bin .eql 52 (cI 32768)),
oF 50 54 (.mov 53),
oT 54 55 (.mov 8),
oT 54 56 (.un .not 55),
oF 50 57 (.pick 54 56 cF),
oP 58 50 cT 57])
(.cond 58
(sq (kr [2] [oD 59 (.build [.int .i64 0,.int .i64 0,.kb false,.int .u64 0,.imm (.int .u8) [],.imm (.int .u8) []] []),
oS 6 2 59,
oD 3 (.mov (cI 0)),
oD 4 (.mov (cI 1031))])
.ret)
.skip))
(sq (kr [0,2,5,6,7] [oD 9 (.mov (cI 1))])
(sq (sq (.reg [oA 60 2 5,
oL 61 60])
(.cond 61
(.reg [oD 9 (.mov (cI 2))])
.skip))
(sq (sq (kr [0,2,5,6,7,9] [oA 62 0 5,
oL 63 62,
oB 64 .eql 63 (cI 32768),
oM 65 64,
oT 65 66 (.fieldAddr 2 5),
oT 65 67 (.load none 66),
oP 68 65 67 cF,
oM 69 68,
oT 69 70 (.fieldAddr 3 7),
oT 69 71 (.load none 70),
oT 69 72 (.un .not 71),
oP 73 69 72 cF])
(.cond 73
(sq (kr [2] [oD 74 (.build [.int .i64 0,.int .i64 0,.kb false,.int .u64 0,.imm (.int .u8) [],.imm (.int .u8) []] []),
oS 6 2 74,
oD 3 (.mov (cI 0)),
oD 4 (.mov (cI 1033))])
.ret)
.skip))
(sq (kr [0,2,5,6,7,9] [oD 10 (.mov (cI 4))])
(sq (sq (.reg [oA 75 0 5,
oL 76 75,
oB 77 .eql 76 (cI 32768)])
(.cond 77
(sq (kr [0,2,5,6,7,9,10] [oM 78 6,
oM 79 9,
oA 80 2 7,
oL 81 80,
oB 82 .mul 79 81,
oB 83 .neq 78 82])
(.cond 83
(sq (kr [2] [oD 84 (.build [.int .i64 0,.int .i64 0,.kb false,.int .u64 0,.imm (.int .u8) [],.imm (.int .u8) []] []),
oS 6 2 84,
oD 3 (.mov (cI 0)),
oD 4 (.mov (cI 1026))])
.ret)
.skip))
(sq (.reg [oD 10 (.mov (cI 8))])
(sq (kr [0,2,5,6,9,10] [oM 85 6,
oB 86 .lss 85 (cI 4),
oM 87 86,
oF 87 88 (.mov 6),
oF 87 89 (.bin .sub 88 (cI 4)),
oF 87 90 (.mov 9),
oF 87 91 (.bin .rem 89 90),
oF 87 92 (.bin .neq 91 (cI 0)),
oP 93 87 cT 92,
oM 94 93,
oF 94 95 (.mov 6),
oF 94 96 (.bin .sub 95 (cI 4)),
oF 94 97 (.mov 9),
oF 94 98 (.bin .mul (cI 100) 97),
oF 94 99 (.bin .gtr 96 98),
oP 100 94 cT 99])
(.cond 100
(sq (kr [2] [oD 101 (.build [.int .i64 0,.int .i64 0,.kb false,.int .u64 0,.imm (.int .u8) [],.imm (.int .u8) []] []),
oS 6 2 101,
oD 3 (.mov (cI 0)),
oD 4 (.mov (cI 1026))])
.ret)
.skip)))))
(sq (sq (kr [0,2,5,6,9,10] [oM 102 0,
oE 103 102,
oM 104 6,
oB 105 .add (cI 4) 104,
oB 106 .lss 103 105])
(.cond 106
(sq (.reg [oD 107 (.build [.int .i64 0,.int .i64 0,.kb false,.int .u64 0,.imm (.int .u8) [],.imm (.int .u8) []] []),
oS 6 2 107,
oD 3 (.mov (cI 0)),
oD 4 (.mov (cI 1026))])
.ret)
.skip))
(sq (sq (kr [0,2,5,6,9,10] [oA 108 0 5,
oL 109 108,
oB 110 .eql 109 (cI 65535)])
(.cond 110
(.reg [oM 111 0,
oD 112 (.slice 1 111 (some (cI 4)) (some (cI 8)) none),
oC 113 103 [112],
oA 114 3 5,
oS 1 114 113])
.skip))
(sq (kr [0,2,5,6,9,10] [oM 115 6,
oB 116 .add (cI 4) 115,
oM 117 10,
oB 118 .sub 116 117,
oM 119 9,
oB 120 .quo 118 119,
oM 11 120])
(sq (kr [0,2,5,6,10,11] [oD 121 (.slice0 (.int .u8)),
oM 122 0,
oM 123 10,
oM 124 10,
oM 125 11,
oB 126 .add 124 125,
oD 127 (.slice 1 122 (some 123) (some 126) none),
oD 128 (.append (.int .u8) 1 121 127),
oA 129 4 5,
oS 1 129 128])
(sq (sq (kr [0,2,5,6,10,11] [oA 130 2 5,
oL 131 130])
(.cond 131
(kr [0,2,5,6,10,11] [oD 132 (.slice0 (.int .u8)),
oM 133 0,
oM 134 10,
oM 135 11,
oB 136 .add 134 135,
oM 137 6,
oB 138 .add (cI 4) 137,
oD 139 (.slice 1 133 (some 136) (some 138) none),
oD 140 (.append (.int .u8) 1 132 139),
oA 141 5 5,
oS 1 141 140])
.skip))
(sq (sq (kr [2,5,6] [oK 142 6 5,
oC 143 110 [142],
oM 12 143])
(sq (.reg [oM 144 12,
oB 145 .neq 144 (cI 0)])
(.cond 145
(sq (.reg [oD 146 (.build [.int .i64 0,.int .i64 0,.kb false,.int .u64 0,.imm (.int .u8) [],.imm (.int .u8) []] []),
oM 147 12,
oS 6 2 146,
oD 3 (.mov (cI 0)),
oM 4 147])
.ret)
.skip)))
(sq (kr [2,5,6] [oK 148 6 5,
oM 149 6,
oB 150 .add (cI 4) 149,
oS 6 2 148,
oM 3 150,
oD 4 (.mov (cI 0))])
.ret))))))))))))))))))
def vN_:List RD:=[.cell 2 (some 6) true [],.tmp 3 true none,.tmp 4 true none]
theorem v6_:zn_ Tryz.prog Tryz.f105 Vp_ vN_=true:=by kernel_rfl
def jp_:List AV->List Obj->Option (Prop × AV)
 | [.imm (.int .u8) b],[]=>some ((b.length<=1000000,.tup [.agg [.int .i64 (rI b (zp_ b)),.int .i64 (rI b (zt_ b)),.bool ((if rE b=0 then zT_ b else false)),.int .u64 (rI b (qp_ b)),.imm (.int .u8) (rR b (Zg_ b)),.imm (.int .u8) (rR b (Zh_ b))],.int .i64 (rI b (Zk_ b)),.int .i64 (rE b)]))
 | _,_=>none
theorem yQ_:ze_ Tryz.prog 105 (RoF jp_).sum:=by
 refine zm_ Tryz.func105 v6_ (zb_ (s:=RoF Q5_) Kh_ (zb_ (s:=RoF KI_) KQ_ (zb_ (s:=RoF wd_) vy_ (zd_ _)))) fun args objs p v e=>?_
 unfold jp_ at e
 split at e
 ·rename_i b
  cases e
  refine ⟨rfl,fun hw ho hp=>?_⟩
  change List Int at b
  have hb:∀ x ∈ b,0<=x/\x<=255:=fun x hx=>(hw (.imm (.int .u8) b) (by simp)).1 x hx
  by_cases h4:b.length < 4
  ·have hd:rE b=1026:=by unfold rE;rw [if_pos h4]
   repeat'(intro t ht;first|(cases t<;>first|(cases ht;done)|(try simp only[zh_]at ht;try(exfalso;first|contradiction|omega)))|((first|refine za_ ht ?_|refine ht ?_ ?_|refine ht.1 ?_ ?_|refine ht ?_)<;>clear ht))
   all_goals first
    | ((try simp only [zk_,zl_,zi_] at*);omega)
    | (simp only [rI,rR,hd];exact ⟨rfl,by first | rfl | exact True.intro⟩)
    | (exfalso;omega)
  ·have hC:=B1_ hb
   have hq:=KG_ hb 2
   have hn:=KG_ hb 3
   have hFl:=bP_ hq
   have hz:=B8_ (zt_ b)
   have fC:z9_ (List.take (Int.toNat 2) b)=zp_ b:=rfl
   have g2:b.getD (Int.toNat 2) (Ty.int IntKind.u8).dflt=b.getD 2 0:=rfl
   have g2':b.getD (Int.toNat 2) 0=b.getD 2 0:=rfl
   have g3:b.getD (Int.toNat 3) (Ty.int IntKind.u8).dflt=b.getD 3 0:=rfl
   have g3':b.getD (Int.toNat 3) 0=b.getD 3 0:=rfl
   have hF:(b.getD 2 0).tdiv 2=zt_ b:=rfl
   have hH:((b.getD 2 0).tmod 2=1)=(zT_ b=true):=propext ⟨fun h=>decide_eq_true h,fun h=>of_decide_eq_true h⟩
   have s4:4+b.getD 3 0 - 4=b.getD 3 0:=by omega
   have s8:4+b.getD 3 0 - 8=b.getD 3 0 - 4:=by omega
   have t1:(b.getD 3 0).tdiv 1=b.getD 3 0:=Int.tdiv_one _
   have t2:(b.getD 3 0 - 4).tdiv 1=b.getD 3 0 - 4:=Int.tdiv_one _
   have t3:0<=(b.getD 3 0).tdiv 2/\(b.getD 3 0).tdiv 2<=255:=by rw [Zw_ hn.1];omega
   have hHd:zT_ b=decide ((b.getD (Int.toNat 2) 0).tmod 2=1):=rfl
   have hFd:zt_ b=(b.getD (Int.toNat 2) 0).tdiv 2:=rfl
   have hml:=hH
   by_cases hcb:z9_ (List.take (Int.toNat 2) b)=32768
   ·obtain ⟨k1,k2,k3,k4,k5,k6⟩:=kB (b:=b) hcb
    cases hi:fIs ((b.getD (Int.toNat 2) 0).tdiv 2) with
    | false=>
      have hi':¬ fIs ((b.getD (Int.toNat 2) 0).tdiv 2)=true:=by rw [hi];decide
      have hd:rE b=1031:=by unfold rE;rw [if_neg h4,if_pos (k1.trans hi)]
      repeat'(intro t ht;first|(cases t<;>first|(cases ht;done)|(try simp only[zh_]at ht;try(exfalso;first|contradiction|omega)))|((first|refine za_ ht ?_|refine ht ?_ ?_|refine ht.1 ?_ ?_|refine ht ?_)<;>clear ht))
      all_goals (try simp only [fC,g2,g2',g3,g3',hF,hH,Bool.decide_eq_true,Int.one_mul,List.nil_append,zA_,s4,s8] at*)
      all_goals first
       | exact True.intro
       | exact (by decide)
       | omega
       | ((try simp only [zk_,zl_,zi_] at*);omega)
       | (simp only [List.length_append,List.length_nil,List.length_drop,List.length_take];omega)
       | (rw [List.length_take];omega)
       | (simp only [rI,rR,hd];exact ⟨rfl,by first | rfl | exact True.intro⟩)
    | true=>
      have hi':¬ fIs ((b.getD (Int.toNat 2) 0).tdiv 2)=false:=by rw [hi];decide
      have hok:=k1.trans hi
      by_cases hh':(b.getD (Int.toNat 2) 0).tmod 2=1
      ·have hh:zT_ b=true:=decide_eq_true hh'
       cases hmk:jG_ ((b.getD (Int.toNat 2) 0).tdiv 2) with
       | false=>
         have hmk':¬ jG_ ((b.getD (Int.toNat 2) 0).tdiv 2)=true:=by rw [hmk];decide
         have hd:rE b=1033:=by unfold rE;rw [if_neg h4,if_neg (by rw [hok];decide),if_pos ⟨hh,k2.trans hmk⟩]
         repeat'(intro t ht;first|(cases t<;>first|(cases ht;done)|(try simp only[zh_]at ht;try(exfalso;first|contradiction|omega)))|((first|refine za_ ht ?_|refine ht ?_ ?_|refine ht.1 ?_ ?_|refine ht ?_)<;>clear ht))
         all_goals (try simp only [fC,g2,g2',g3,g3',hF,hH,Bool.decide_eq_true,Int.one_mul,List.nil_append,zA_,s4,s8] at*)
         all_goals first
          | exact True.intro
          | exact (by decide)
          | omega
          | ((try simp only [zk_,zl_,zi_] at*);omega)
          | (simp only [List.length_append,List.length_nil,List.length_drop,List.length_take];omega)
          | (rw [List.length_take];omega)
          | (simp only [rI,rR,hd];exact ⟨rfl,by first | rfl | exact True.intro⟩)
       | true=>
         have hmk':¬ jG_ ((b.getD (Int.toNat 2) 0).tdiv 2)=false:=by rw [hmk];decide
         by_cases hs:b.getD (Int.toNat 3) 0=2*Zb_ ((b.getD (Int.toNat 2) 0).tdiv 2)/\4+b.getD (Int.toNat 3) 0<=b.length
         ·have hs1:b.getD 3 0=2*Zb_ (zt_ b):=hs.1
          have hs2:4+b.getD 3 0<=b.length:=hs.2
          have hK:qN_ b=true:=by rw [k6,hh];exact decide_eq_true hs1
          have hd:=bv_ h4 hok (fun _=>k2.trans hmk) hK (by omega)
          have hXX:=k4
          have hX:(b.getD 3 0).tdiv 2=zx_ b:=by rw [k5,hs1,Zw_ (by omega)];omega
          have hV:(b.take (4+zx_ b).toNat).drop (Int.toNat 4)=Zg_ b:=by unfold Zg_;rw [k3]
          have hN:Zk_ b=4+b.getD 3 0:=by unfold Zk_;rw [hh,k3,k5,hs1,if_pos rfl];omega
          have hM:(b.take (4+b.getD 3 0).toNat).drop (4+zx_ b).toNat=Zh_ b:=by unfold Zh_;rw [hh,k3,if_pos rfl,show 4+b.getD 3 0=4+zx_ b+zx_ b by rw [k5,hs1];omega]
          have hVl:((Zg_ b).length:Int)=zx_ b:=by rw [<- hV];exact zC_ (by decide) (by omega) (by omega)
          have hMl:((Zh_ b).length:Int)=zx_ b:=by
           have:=zC_ (b:=b) (p:=4+zx_ b) (n:=zx_ b) (by omega) (by omega) (by omega)
           rw [<- hM,show 4+b.getD 3 0=4+zx_ b+zx_ b by rw [k5,hs1];omega];exact this
          have hMv:(Zh_ b).length=(Zg_ b).length:=by omega
          rw [hh] at hd
          repeat'(intro t ht;first|(cases t<;>first|(cases ht;done)|(try simp only[zh_]at ht;try(exfalso;first|contradiction|omega)))|((first|refine za_ ht ?_|refine ht ?_ ?_|refine ht.1 ?_ ?_|refine ht ?_)<;>clear ht))
          all_goals (try simp only [fC,g2,g2',g3,g3',hF,hH,Bool.decide_eq_true,Int.one_mul,List.nil_append,zA_,s4,s8] at*)
          all_goals (try simp only [hh,hX,hV,hM,hMv] at*)
          all_goals first
           | exact True.intro
           | exact (by decide)
           | omega
           | ((try simp only [zk_,zl_,zi_] at*);omega)
           | (simp only [List.length_append,List.length_nil,List.length_drop,List.length_take];omega)
           | (rw [List.length_take];omega)
           | (refine ⟨fun h1 h2=>?_,?_⟩<;>first | omega | (simp only [List.length_nil];omega) | contradiction | (exfalso;omega) | (cases h1;done))
           | (have h0:rE b=0:=hd.trans (by assumption)
              refine ⟨?_,by first | rfl | exact True.intro⟩;first | (simp only [rI,rR,if_pos h0,h0,ite_self,hXX,hN,if_true];done) | (simp only [rI,rR,if_pos h0,h0,ite_self,hXX,hN,if_true];rfl))
           | (have h0:¬ rE b=0:=by rw [hd];assumption
              refine ⟨?_,by first | rfl | exact True.intro⟩;simp only [rI,rR,if_neg h0,ite_self];rw [hd])
         ·have hd:=Uj_ h4 hok (fun _=>k2.trans hmk) (by
           by_cases hk:b.getD 3 0=2*Zb_ (zt_ b)
           ·right;have:¬ 4+b.getD 3 0<=(b.length:Int):=fun h=>hs ⟨hk,h⟩
            omega
           ·left;rw [k6,hh];exact decide_eq_false hk)
          repeat'(intro t ht;first|(cases t<;>first|(cases ht;done)|(try simp only[zh_]at ht;try(exfalso;first|contradiction|omega)))|((first|refine za_ ht ?_|refine ht ?_ ?_|refine ht.1 ?_ ?_|refine ht ?_)<;>clear ht))
          all_goals (try simp only [fC,g2,g2',g3,g3',hF,hH,Bool.decide_eq_true,Int.one_mul,List.nil_append,zA_,s4,s8] at*)
          all_goals first
           | exact True.intro
           | exact (by decide)
           | omega
           | ((try simp only [zk_,zl_,zi_] at*);omega)
           | (simp only [List.length_append,List.length_nil,List.length_drop,List.length_take];omega)
           | (rw [List.length_take];omega)
           | (simp only [rI,rR,hd];exact ⟨rfl,by first | rfl | exact True.intro⟩)
      ·have hh:zT_ b=false:=decide_eq_false hh'
       by_cases hs:b.getD (Int.toNat 3) 0=1*Zb_ ((b.getD (Int.toNat 2) 0).tdiv 2)/\4+b.getD (Int.toNat 3) 0<=b.length
       ·have hs1:b.getD 3 0=1*Zb_ (zt_ b):=hs.1
        have hs2:4+b.getD 3 0<=b.length:=hs.2
        have hK:qN_ b=true:=by rw [k6,hh];exact decide_eq_true hs1
        have hd:=bv_ h4 hok (fun h=>absurd h (by rw [hh];decide)) hK (by omega)
        have hXX:=k4
        have hX:(b.getD 3 0).tdiv 1=zx_ b:=by rw [k5,t1,hs1];omega
        have hV:(b.take (4+zx_ b).toNat).drop (Int.toNat 4)=Zg_ b:=by unfold Zg_;rw [k3]
        have hN:Zk_ b=4+b.getD 3 0:=by unfold Zk_;rw [hh,k3,k5,hs1,if_neg (by decide)];omega
        have hM:Zh_ b=[]:=by unfold Zh_;rw [hh];rfl
        have hVl:((Zg_ b).length:Int)=zx_ b:=by rw [<- hV];exact zC_ (by decide) (by omega) (by omega)
        rw [hh,hM] at hd
        repeat'(intro t ht;first|(cases t<;>first|(cases ht;done)|(try simp only[zh_]at ht;try(exfalso;first|contradiction|omega)))|((first|refine za_ ht ?_|refine ht ?_ ?_|refine ht.1 ?_ ?_|refine ht ?_)<;>clear ht))
        all_goals (try simp only [fC,g2,g2',g3,g3',hF,hH,Bool.decide_eq_true,Int.one_mul,List.nil_append,zA_,s4,s8] at*)
        all_goals (try simp only [hh,hX,hV,hM] at*)
        all_goals first
         | exact True.intro
         | exact (by decide)
         | omega
         | ((try simp only [zk_,zl_,zi_] at*);omega)
         | (simp only [List.length_append,List.length_nil,List.length_drop,List.length_take];omega)
         | (rw [List.length_take];omega)
         | (refine ⟨fun h1 h2=>?_,?_⟩<;>first | omega | (simp only [List.length_nil];omega) | contradiction | (exfalso;omega) | (cases h1;done))
         | (have h0:rE b=0:=hd.trans (by assumption)
            refine ⟨?_,by first | rfl | exact True.intro⟩;first | (simp only [rI,rR,if_pos h0,h0,ite_self,hXX,hN,if_true,hM];done) | (simp only [rI,rR,if_pos h0,h0,ite_self,hXX,hN,if_true,hM];rfl))
         | (have h0:¬ rE b=0:=by rw [hd];assumption
            refine ⟨?_,by first | rfl | exact True.intro⟩;simp only [rI,rR,if_neg h0,ite_self];rw [hd])
       ·have hd:=Uj_ h4 hok (fun h=>absurd h (by rw [hh];decide)) (by
         by_cases hk:b.getD 3 0=1*Zb_ (zt_ b)
         ·right;have:¬ 4+b.getD 3 0<=(b.length:Int):=fun h=>hs ⟨hk,h⟩
          omega
         ·left;rw [k6,hh];exact decide_eq_false hk)
        repeat'(intro t ht;first|(cases t<;>first|(cases ht;done)|(try simp only[zh_]at ht;try(exfalso;first|contradiction|omega)))|((first|refine za_ ht ?_|refine ht ?_ ?_|refine ht.1 ?_ ?_|refine ht ?_)<;>clear ht))
        all_goals (try simp only [fC,g2,g2',g3,g3',hF,hH,Bool.decide_eq_true,Int.one_mul,List.nil_append,zA_,s4,s8] at*)
        all_goals first
         | exact True.intro
         | exact (by decide)
         | omega
         | ((try simp only [zk_,zl_,zi_] at*);omega)
         | (simp only [List.length_append,List.length_nil,List.length_drop,List.length_take];omega)
         | (rw [List.length_take];omega)
         | (simp only [rI,rR,hd];exact ⟨rfl,by first | rfl | exact True.intro⟩)
   ·by_cases hce:z9_ (List.take (Int.toNat 2) b)=65535
    ·obtain ⟨k1,k2,k3,k4,k5,k6⟩:=kE (b:=b) hce hFl
     have hok:=k1
     by_cases hh':(b.getD (Int.toNat 2) 0).tmod 2=1
     ·have hh:zT_ b=true:=decide_eq_true hh'
      by_cases hs:(4<=b.getD (Int.toNat 3) 0/\(b.getD (Int.toNat 3) 0 - 4).tmod 2=0/\b.getD (Int.toNat 3) 0 - 4<=200)/\4+b.getD (Int.toNat 3) 0<=b.length
      ·have hs1:4<=b.getD 3 0/\(b.getD 3 0 - 4).tmod 2=0/\b.getD 3 0 - 4<=200:=hs.1
       have hs2:4+b.getD 3 0<=b.length:=hs.2
       have hs3:=hs1.2.1
       rw [Qa_ (by omega)] at hs3
       have hX:(b.getD 3 0 - 4).tdiv 2=zx_ b:=by rw [k5,hh];rfl
       have hX2:zx_ b=(b.getD 3 0 - 4) / 2:=by rw [<- hX,Zw_ (by omega)]
       have hK:qN_ b=true:=by
        rw [k6,hh]
        simp only [if_true,Bool.and_eq_true,decide_eq_true_eq]
        rw [hX];exact ⟨⟨by omega,hs1.2.1⟩,by omega⟩
       have hd:=bv_ h4 hok (fun _=>k2) hK (by omega)
       have hXX:z9_ (List.drop (Int.toNat 4) (List.take (Int.toNat 8) b))=qp_ b:=by rw [k4];congr 1;show (b.take (4+4)).drop 4=(b.drop 4).take 4;exact List.take_drop.symm
       have hV:(b.take (8+zx_ b).toNat).drop (Int.toNat 8)=Zg_ b:=by unfold Zg_;rw [k3]
       have hN:Zk_ b=4+b.getD 3 0:=by unfold Zk_;rw [hh,k3,if_pos rfl];omega
       have hM:(b.take (4+b.getD 3 0).toNat).drop (8+zx_ b).toNat=Zh_ b:=by unfold Zh_;rw [hh,k3,if_pos rfl,show 4+b.getD 3 0=8+zx_ b+zx_ b by omega]
       have hVl:((Zg_ b).length:Int)=zx_ b:=by rw [<- hV];exact zC_ (by decide) (by omega) (by omega)
       have hMl:((Zh_ b).length:Int)=zx_ b:=by
        have:=zC_ (b:=b) (p:=8+zx_ b) (n:=zx_ b) (by omega) (by omega) (by omega)
        rw [<- hM,show 4+b.getD 3 0=8+zx_ b+zx_ b by omega];exact this
       have hMv:(Zh_ b).length=(Zg_ b).length:=by omega
       rw [hh] at hd
       repeat'(intro t ht;first|(cases t<;>first|(cases ht;done)|(try simp only[zh_]at ht;try(exfalso;first|contradiction|omega)))|((first|refine za_ ht ?_|refine ht ?_ ?_|refine ht.1 ?_ ?_|refine ht ?_)<;>clear ht))
       all_goals (try simp only [fC,g2,g2',g3,g3',hF,hH,Bool.decide_eq_true,Int.one_mul,List.nil_append,zA_,s4,s8] at*)
       all_goals (try simp only [hh,hX,hV,hM,hMv] at*)
       all_goals first
        | exact True.intro
        | exact (by decide)
        | omega
        | ((try simp only [zk_,zl_,zi_] at*);omega)
        | (simp only [List.length_append,List.length_nil,List.length_drop,List.length_take];omega)
        | (rw [List.length_take];omega)
        | (refine ⟨fun h1 h2=>?_,?_⟩<;>first | omega | (simp only [List.length_nil];omega) | contradiction | (exfalso;omega) | (cases h1;done))
        | (have h0:rE b=0:=hd.trans (by assumption)
           refine ⟨?_,by first | rfl | exact True.intro⟩;first | (simp only [rI,rR,if_pos h0,h0,ite_self,hXX,hN,if_true];done) | (simp only [rI,rR,if_pos h0,h0,ite_self,hXX,hN,if_true];rfl))
        | (have h0:¬ rE b=0:=by rw [hd];assumption
           refine ⟨?_,by first | rfl | exact True.intro⟩;simp only [rI,rR,if_neg h0,ite_self];rw [hd])
      ·have hd:=Uj_ h4 hok (fun _=>k2) (by
        by_cases hl:4+b.getD 3 0<=(b.length:Int)
        ·left
         rw [k6,hh]
         cases hkk:(decide (0<=b.getD 3 0 - 4) && decide ((b.getD 3 0 - 4).tmod (if true=true then 2 else 1)=0) && decide ((b.getD 3 0 - 4).tdiv (if true=true then 2 else 1)<=100)) with
         | false=>rfl
         | true=>
           simp only [if_true,Bool.and_eq_true,decide_eq_true_eq] at hkk
           have h1:=hkk.2
           have h2:=hkk.1.2
           rw [Zw_ hkk.1.1] at h1
           rw [Qa_ hkk.1.1] at h2
           exact absurd ⟨⟨by have:=hkk.1.1;show 4<=b.getD 3 0;omega,hkk.1.2,by show b.getD 3 0 - 4<=200;omega⟩,hl⟩ hs
        ·right;omega)
       repeat'(intro t ht;first|(cases t<;>first|(cases ht;done)|(try simp only[zh_]at ht;try(exfalso;first|contradiction|omega)))|((first|refine za_ ht ?_|refine ht ?_ ?_|refine ht.1 ?_ ?_|refine ht ?_)<;>clear ht))
       all_goals (try simp only [fC,g2,g2',g3,g3',hF,hH,Bool.decide_eq_true,Int.one_mul,List.nil_append,zA_,s4,s8] at*)
       all_goals first
        | exact True.intro
        | exact (by decide)
        | omega
        | ((try simp only [zk_,zl_,zi_] at*);omega)
        | (simp only [List.length_append,List.length_nil,List.length_drop,List.length_take];omega)
        | (rw [List.length_take];omega)
        | (simp only [rI,rR,hd];exact ⟨rfl,by first | rfl | exact True.intro⟩)
     ·have hh:zT_ b=false:=decide_eq_false hh'
      by_cases hs:(4<=b.getD (Int.toNat 3) 0/\b.getD (Int.toNat 3) 0 - 4<=100)/\4+b.getD (Int.toNat 3) 0<=b.length
      ·have hs1:4<=b.getD 3 0/\b.getD 3 0 - 4<=100:=hs.1
       have hs2:4+b.getD 3 0<=b.length:=hs.2
       have hX:(b.getD 3 0 - 4).tdiv 1=zx_ b:=by rw [k5,hh];rfl
       have hX2:zx_ b=b.getD 3 0 - 4:=by rw [<- hX,t2]
       have t5:(b.getD 3 0 - 4).tmod 1=0:=Int.tmod_one _
       have hK:qN_ b=true:=by
        rw [k6,hh]
        simp only [if_false,Bool.false_eq_true,Bool.and_eq_true,decide_eq_true_eq]
        rw [hX];exact ⟨⟨by omega,t5⟩,by omega⟩
       have hd:=bv_ h4 hok (fun h=>absurd h (by rw [hh];decide)) hK (by omega)
       have hXX:z9_ (List.drop (Int.toNat 4) (List.take (Int.toNat 8) b))=qp_ b:=by rw [k4];congr 1;show (b.take (4+4)).drop 4=(b.drop 4).take 4;exact List.take_drop.symm
       have hV:(b.take (8+zx_ b).toNat).drop (Int.toNat 8)=Zg_ b:=by unfold Zg_;rw [k3]
       have hN:Zk_ b=4+b.getD 3 0:=by unfold Zk_;rw [hh,k3,if_neg (by decide)];omega
       have hM:Zh_ b=[]:=by unfold Zh_;rw [hh];rfl
       have hVl:((Zg_ b).length:Int)=zx_ b:=by rw [<- hV];exact zC_ (by decide) (by omega) (by omega)
       have hm1:(b.getD (Int.toNat 3) 0 - 4).tmod 1=0:=t5
       rw [hh,hM] at hd
       repeat'(intro t ht;first|(cases t<;>first|(cases ht;done)|(try simp only[zh_]at ht;try(exfalso;first|contradiction|omega)))|((first|refine za_ ht ?_|refine ht ?_ ?_|refine ht.1 ?_ ?_|refine ht ?_)<;>clear ht))
       all_goals (try simp only [fC,g2,g2',g3,g3',hF,hH,Bool.decide_eq_true,Int.one_mul,List.nil_append,zA_,s4,s8] at*)
       all_goals (try simp only [hh,hX,hV,hM] at*)
       all_goals first
        | exact True.intro
        | exact (by decide)
        | omega
        | ((try simp only [zk_,zl_,zi_] at*);omega)
        | (simp only [List.length_append,List.length_nil,List.length_drop,List.length_take];omega)
        | (rw [List.length_take];omega)
        | (refine ⟨fun h1 h2=>?_,?_⟩<;>first | omega | (simp only [List.length_nil];omega) | contradiction | (exfalso;omega) | (cases h1;done))
        | (have h0:rE b=0:=hd.trans (by assumption)
           refine ⟨?_,by first | rfl | exact True.intro⟩;first | (simp only [rI,rR,if_pos h0,h0,ite_self,hXX,hN,if_true,hM];done) | (simp only [rI,rR,if_pos h0,h0,ite_self,hXX,hN,if_true,hM];rfl))
        | (have h0:¬ rE b=0:=by rw [hd];assumption
           refine ⟨?_,by first | rfl | exact True.intro⟩;simp only [rI,rR,if_neg h0,ite_self];rw [hd])
      ·have t5:(b.getD (Int.toNat 3) 0 - 4).tmod 1=0:=Int.tmod_one _
       have hd:=Uj_ h4 hok (fun h=>absurd h (by rw [hh];decide)) (by
        by_cases hl:4+b.getD 3 0<=(b.length:Int)
        ·left
         rw [k6,hh]
         cases hkk:(decide (0<=b.getD 3 0 - 4) && decide ((b.getD 3 0 - 4).tmod (if false=true then 2 else 1)=0) && decide ((b.getD 3 0 - 4).tdiv (if false=true then 2 else 1)<=100)) with
         | false=>rfl
         | true=>
           simp only [if_false,Bool.false_eq_true,Bool.and_eq_true,decide_eq_true_eq] at hkk
           have h1:=hkk.2
           rw [t2] at h1
           exact absurd ⟨⟨by have:=hkk.1.1;show 4<=b.getD 3 0;omega,by show b.getD 3 0 - 4<=100;omega⟩,hl⟩ hs
        ·right;omega)
       repeat'(intro t ht;first|(cases t<;>first|(cases ht;done)|(try simp only[zh_]at ht;try(exfalso;first|contradiction|omega)))|((first|refine za_ ht ?_|refine ht ?_ ?_|refine ht.1 ?_ ?_|refine ht ?_)<;>clear ht))
       all_goals (try simp only [fC,g2,g2',g3,g3',hF,hH,Bool.decide_eq_true,Int.one_mul,List.nil_append,zA_,s4,s8] at*)
       all_goals first
        | exact True.intro
        | exact (by decide)
        | omega
        | ((try simp only [zk_,zl_,zi_] at*);omega)
        | (simp only [List.length_append,List.length_nil,List.length_drop,List.length_take];omega)
        | (rw [List.length_take];omega)
        | (simp only [rI,rR,hd];exact ⟨rfl,by first | rfl | exact True.intro⟩)
    ·have hno:q0_ (zp_ b) (zt_ b)=false:=by
      unfold q0_;rw [if_neg (show ¬ zp_ b=65535 from hce),decide_eq_false (show ¬ zp_ b=32768 from hcb),Bool.and_false]
     have hd:rE b=1031:=by unfold rE;rw [if_neg h4,if_pos hno]
     repeat'(intro t ht;first|(cases t<;>first|(cases ht;done)|(try simp only[zh_]at ht;try(exfalso;first|contradiction|omega)))|((first|refine za_ ht ?_|refine ht ?_ ?_|refine ht.1 ?_ ?_|refine ht ?_)<;>clear ht))
     all_goals (try simp only [fC,g2,g2',g3,g3',hF,hH,Bool.decide_eq_true,Int.one_mul,List.nil_append,zA_,s4,s8] at*)
     all_goals first
      | exact True.intro
      | exact (by decide)
      | omega
      | ((try simp only [zk_,zl_,zi_] at*);omega)
      | (simp only [List.length_append,List.length_nil,List.length_drop,List.length_take];omega)
      | (rw [List.length_take];omega)
      | (simp only [rI,rR,hd];exact ⟨rfl,by first | rfl | exact True.intro⟩)
 ·cases e
end Go.Eng
