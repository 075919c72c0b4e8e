/- Parts of the proof: O7, OA, OE, OI, M1, OG, R7, N1, M2. No condition. -/
import Derived.Test.YtimkdohmkfjfaaaGreatDoorProg
import Derived.Test.YtimkdohmkfjfaaaGreatDoorXJ11
import Derived.KernelRfl
import Derived.Test.YtimkdohmkfjfaaaGreatDoorXJ13
import Derived.Test.YtimkdohmkfjfaaaGreatDoorXJ12
namespace Go.Eng
open Go.Proofs
set_option linter.unusedVariables false
set_option linter.unusedSimpArgs false
set_option maxRecDepth 100000
set_option maxHeartbeats 1000000
theorem zbb_ (b:List Int):Z5_ [2,1,1] b=if b.length < 4 then ([],1) else ([ZN_ (b.take 2),b.getD 2 0,b.getD 3 0],0):=by
 have hr:ZR_ [2,1,1]=true:=by decide
 have a2:zq_ 2=2:=by decide
 have a1:zq_ 1=1:=by decide
 unfold Z5_
 rw [if_pos hr]
 unfold ZF_;unfold ZF_;unfold ZF_;unfold ZF_
 rw [a2,a1]
 by_cases h2:b.length < 2
 ·rw [if_pos (by omega),if_pos (by omega)]
 ·rw [if_neg (by omega),if_pos (by decide)]
  by_cases h3:b.length < 3
  ·rw [if_pos (by rw [List.length_drop];omega),if_pos (by omega)]
  ·rw [if_neg (by rw [List.length_drop];omega),if_pos (by decide)]
   by_cases h4:b.length < 4
   ·rw [if_pos (by rw [List.length_drop,List.length_drop];omega),if_pos (by omega)]
   ·rw [if_neg (by rw [List.length_drop,List.length_drop];omega),if_pos (by decide),if_neg h4]
    obtain _ | ⟨x,_ | ⟨y,_ | ⟨z,_ | ⟨w,r⟩⟩⟩⟩:=b
    all_goals simp at h4
    simp [ZN_]
theorem get4 (b:List Int):Z5_ [4] b=if b.length < 4 then ([],1) else ([ZN_ (b.take 4)],0):=by
 have hr:ZR_ [4]=true:=by decide
 have a4:zq_ 4=4:=by decide
 unfold Z5_
 rw [if_pos hr]
 unfold ZF_;unfold ZF_
 rw [a4]
 by_cases h4:b.length < 4
 ·rw [if_pos (by omega),if_pos h4]
 ·rw [if_neg (by omega),if_pos (by decide),if_neg h4];rfl
def zz_ (b:List Int):Int:=ZN_ (b.take 2)
def zR_ (b:List Int):Int:=(b.getD 2 0).tdiv 2
def ZX_ (b:List Int):Bool:=decide ((b.getD 2 0).tmod 2=1)
def Q0_ (b:List Int):Int:=if zz_ b=65535 then ZN_ ((b.drop 4).take 4) else 0
def kB_ (b:List Int):Int:=if zz_ b=65535 then 8 else 4
def Zv_ (b:List Int):Int:=va_ (ZX_ b) (Zl_ (zz_ b)) (qw_ (zz_ b) (zR_ b)) (b.getD 3 0)
def Kn_ (b:List Int):Bool:=xs_ (ZX_ b) (Zl_ (zz_ b)) (qw_ (zz_ b) (zR_ b)) (b.getD 3 0)
def qz_ (b:List Int):List Int:=(b.take (kB_ b+Zv_ b).toNat).drop (kB_ b).toNat
def qp_ (b:List Int):List Int:=if ZX_ b=true then (b.take (kB_ b+Zv_ b+Zv_ b).toNat).drop (kB_ b+Zv_ b).toNat else []
def Z7_ (b:List Int):Int:=kB_ b+Zv_ b+if ZX_ b=true then Zv_ b else 0
def Zb_ (b:List Int):Int:=if b.length < 4 then 1026 else if KC_ (zz_ b) (zR_ b)=false then 1031 else if ZX_ b=true/\qx_ (zz_ b) (zR_ b)=false then 1033 else if Kn_ b=false\/(b.length:Int) - 4 < b.getD 3 0 then 1026 else k4_ (zR_ b) (ZX_ b) (qz_ b) (qp_ b) (Qy_ (zz_ b) (zR_ b)) (Zl_ (zz_ b))
def qj_ (b:List Int) (x:Int):Int:=if Zb_ b=0 then x else 0
def Qd_ (b:List Int) (l:List Int):List Int:=if Zb_ b=0 then l else []
theorem cur4 {b:List Int} {sh od:Int} (h:4<=b.length):kU_ [2,1,1] b 0 0=[zz_ b,b.getD 2 0,b.getD 3 0]/\K4_ [2,1,1] b 0 0=4/\wz_ [2,1,1] b 0 sh od 0=0:=by
 have e:Z5_ [2,1,1] (b.drop (0:Int).toNat)=([ZN_ (b.take 2),b.getD 2 0,b.getD 3 0],0):=by
  rw [show (0:Int).toNat=0 from rfl,List.drop_zero,zbb_,if_neg (by omega)]
 have es:zV_ [2,1,1]=4:=by decide
 unfold kU_ K4_ wz_ Z0_ Zo_
 rw [e,es];exact ⟨rfl,rfl,rfl⟩
theorem cur0 {b:List Int} {sh od:Int} (h:b.length < 4):kU_ [2,1,1] b 0 0=[]/\K4_ [2,1,1] b 0 0=0/\wz_ [2,1,1] b 0 sh od 0=sh:=by
 have e:Z5_ [2,1,1] (b.drop (0:Int).toNat)=([],1):=by
  rw [show (0:Int).toNat=0 from rfl,List.drop_zero,zbb_,if_pos (by omega)]
 unfold kU_ K4_ wz_ Z0_ Zo_
 rw [e];exact ⟨rfl,rfl,rfl⟩
theorem num4 {b:List Int} {p sh od:Int} (hp:0<=p) (h:p+4<=b.length):numV 4 b p 0=ZN_ ((b.drop p.toNat).take 4)/\numP 4 b p 0=p+4/\numE 4 b p sh od 0=0:=by
 have e:Z5_ [4] (b.drop p.toNat)=([ZN_ ((b.drop p.toNat).take 4)],0):=by
  rw [get4,if_neg (by rw [List.length_drop];omega)]
 have es:zV_ [4]=4:=by decide
 unfold numV numP numE kU_ K4_ wz_ Z0_ Zo_
 rw [e,es];exact ⟨rfl,rfl,rfl⟩
theorem wW_ {n p sh:Int} {b:List Int} (hn:0<=n) (h:p+n<=b.length):qV_ n b p sh 0=(b.take (p+n).toNat).drop p.toNat/\j5_ n b p sh 0=p+n/\qb_ n b p sh 0=0:=by
 have e:qb_ n b p sh 0=0:=by unfold qb_;rw [if_neg (by omega),if_neg (by omega)]
 unfold qV_ j5_;rw [e];exact ⟨rfl,rfl,rfl⟩
theorem xE_ {b:List Int} (hb:∀ x ∈ b,0<=x/\x<=255) (i:Nat):0<=b.getD i 0/\b.getD i 0<=255:=by
 by_cases h:i < b.length
 ·exact hb _ (zW_ (α:=Int) h 0)
 ·rw [List.getD_eq_getElem?_getD,List.getElem?_eq_none (by omega)];decide
theorem zdk_ {b:List Int} (hb:∀ x ∈ b,0<=x/\x<=255):0<=zz_ b/\zz_ b<=65535:=by
 have:=xp_ (b.take 2) fun x hx=>hb x (List.mem_of_mem_take hx)
 have h2:∀ k ≤ 2,(256:Int) ^ k<=65536:=by decide
 have:=h2 (b.take 2).length (by rw [List.length_take];omega)
 unfold zz_;omega
theorem bO_ {b:List Int} (hn:0<=b.getD 3 0) (hof:0<=qw_ (zz_ b) (zR_ b)) (hk:Kn_ b=true):0<=Zv_ b/\Z7_ b=4+b.getD 3 0/\Zv_ b<=qw_ (zz_ b) (zR_ b):=by
 unfold Kn_ xs_ at hk
 unfold Z7_ Zv_ va_ kB_
 by_cases hc:zz_ b=65535
 ·have he:Zl_ (zz_ b)=true:=decide_eq_true hc
  rw [he] at hk ⊢
  rw [if_pos hc]
  rw [if_pos rfl] at hk ⊢
  simp only [Bool.and_eq_true,decide_eq_true_eq] at hk
  obtain ⟨⟨k1,k2⟩,k3⟩:=hk
  cases hh:ZX_ b with
  | true=>
    rw [hh] at k2 k3
    simp only [if_true] at k2 k3 ⊢
    rw [W1_ k1] at k2;rw [ka_ k1] at k3 ⊢;omega
  | false=>
    rw [hh] at k2 k3
    simp only [if_false,Bool.false_eq_true] at k2 k3 ⊢
    rw [ka_ k1] at k3 ⊢;omega
 ·have he:Zl_ (zz_ b)=false:=decide_eq_false hc
  rw [he] at hk ⊢
  rw [if_neg hc]
  simp only [if_false,Bool.false_eq_true,decide_eq_true_eq] at hk ⊢
  cases hh:ZX_ b with
  | true=>rw [hh] at hk;simp only [if_true] at hk ⊢;omega
  | false=>rw [hh] at hk;simp only [if_false,Bool.false_eq_true] at hk ⊢;omega
theorem zcB_ {b:List Int} (hq:0<=b.getD 2 0/\b.getD 2 0<=255):0<=zR_ b/\zR_ b<=127:=by
 unfold zR_;rw [ka_ hq.1];omega
theorem ZI_ {b:List Int} {p n:Int} (hp:0<=p) (hn:0<=n) (h:p+n<=b.length):((((b.take (p+n).toNat).drop p.toNat).length:Nat):Int)=n:=by
 rw [List.length_drop,List.length_take];omega
theorem K3_ {b:List Int} (h4:¬ b.length < 4) (hok:KC_ (zz_ b) (zR_ b)=true) (hm:ZX_ b=true->qx_ (zz_ b) (zR_ b)=true) (hk:Kn_ b=true) (hl:¬ (b.length:Int) - 4 < b.getD 3 0):Zb_ b=k4_ (zR_ b) (ZX_ b) (qz_ b) (qp_ b) (Qy_ (zz_ b) (zR_ b)) (Zl_ (zz_ b)):=by
 unfold Zb_
 rw [if_neg h4,if_neg (by rw [hok];decide),if_neg (fun h=>by rw [hm h.1] at h;exact absurd h.2 (by decide)),if_neg (fun h=>h.elim (by rw [hk];decide) hl)]
def V2_:IR:=
(sq (kr [0] [oD 2 (.box [.int .i64 0,.int .i64 0,.kb false,.int .u64 0,.imm (.int .u8) [],.imm (.int .u8) []]),
oD 3 (.mov (cI 0)),
oD 4 (.mov (cI 0))])
(sq (.reg [oM 14 0,
oC 15 51 [14,(cI 1026),(cI 1026)],
oM 5 15])
(sq (.reg [oM 16 5,
oD 17 (.sliceAll (.int .i64) 3 [(0,1,(cI 2)),(1,1,(cI 1)),(2,1,(cI 1))]),
oC 18 89 [16,17],
oM 6 18])
(sq (sq (kr [2,5,6] [oM 19 6,
oE 20 19,
oB 21 .eql 20 (cI 0)])
(.cond 21
(sq (kr [2,5] [oD 22 (.build [.int .i64 0,.int .i64 0,.kb false,.int .u64 0,.imm (.int .u8) [],.imm (.int .u8) []] []),
oM 23 5,
oC 24 53 [23],
oS 6 2 22,
oD 3 (.mov (cI 0)),
oM 4 24])
.ret)
.skip))
(sq (kd [2,5,6] [(oM 25 6,[]),
(oD 26 (.indexSl 1 25 (cI 0)),[]),
(oL 27 26,[]),
(oD 28 (.conv .i64 27),[]),
(oM 29 6,[0,0,0,0]),
(oD 30 (.indexSl 1 29 (cI 1)),[1,0,0,0]),
(oL 31 30,[2,0,0,0]),
(oB 32 .quo 31 (.c (.int .u64 2)),[3,0,0,0]),
(oD 33 (.conv .i64 32),[4,0,0,0]),
(oM 34 6,[0,0,0,0,0,0,0,0,0]),
(oD 35 (.indexSl 1 34 (cI 1)),[1,0,0,0,0,0,0,0,0]),
(oL 36 35,[2,0,0,0,0,0,0,0,0]),
(oB 37 .rem 36 (.c (.int .u64 2)),[3,0,0,0,0,0,0,0,0]),
(oB 38 .eql 37 (.c (.int .u64 1)),[4,0,0,0,0,0,0,0,0]),
(oD 39 (.build [.int .i64 0,.int .i64 0,.kb false,.int .u64 0,.imm (.int .u8) [],.imm (.int .u8) []] [(0,1,28),(1,1,33),(2,1,38)]),[]),
(oD 7 (.box [.int .i64 0,.int .i64 0,.kb false,.int .u64 0,.imm (.int .u8) [],.imm (.int .u8) []]),[0,0,0,0,0,0,0,0,0,0,0,0,0,0,0]),
(oS 6 7 39,[])])
(sq (kr [2,5,6,7] [oK 41 6 7,
oC 42 143 [41],
oM 40 42,
oX 43 40 0,
oX 44 40 1,
oD 8 (.box [.int .i64 0,.int .i64 0,.kb false,.kb false]),
oS 4 8 43,
oM 9 44])
(sq (kd [2,5,6,7,8,9] [(oK 46 6 7,[]),
(oK 47 4 8,[0]),
(oM 48 6,[0,0]),
(oD 49 (.indexSl 1 48 (cI 2)),[1,0]),
(oL 50 49,[2,0]),
(oD 51 (.conv .i64 50),[3,0]),
(oC 52 194 [46,47,51],[]),
(oM 45 52,[]),
(oX 53 45 0,[]),
(oX 54 45 1,[0]),
(oM 10 53,[0]),
(oM 11 54,[])])
(sq (.block 0
(sq (kr [2,5,6,7,8,9,10,11] [oM 56 9,
oD 57 (.un .not 56),
oM 55 57])
(.cond 55
(sq (.reg [oD 58 (.build [.int .i64 0,.int .i64 0,.kb false,.int .u64 0,.imm (.int .u8) [],.imm (.int .u8) []] []),
oS 6 2 58,
oD 3 (.mov (cI 0)),
oD 4 (.mov (cI 1031))])
.ret)
(sq (kr [2,5,6,7,8,10,11] [oA 60 2 7,
oL 61 60,
oM 62 61,
oT 62 63 (.fieldAddr 2 8),
oT 62 64 (.load none 63),
oT 62 65 (.un .not 64),
oP 66 62 65 cF,
oM 59 66])
(.cond 59
(sq (kr [2] [oD 67 (.build [.int .i64 0,.int .i64 0,.kb false,.int .u64 0,.imm (.int .u8) [],.imm (.int .u8) []] []),
oS 6 2 67,
oD 3 (.mov (cI 0)),
oD 4 (.mov (cI 1033))])
.ret)
(sq (kd [2,5,6,7,8,10,11] [(oM 69 11,[]),
(oD 70 (.un .not 69),[]),
(oM 71 70,[]),
(oF 71 72 (.mov 5),[]),
(oF 71 73 (.call false (.f 108) [72]),[]),
(oF 71 74 (.mov 6),[0,0]),
(oF 71 75 (.indexSl 1 74 (cI 2)),[1,0]),
(oF 71 76 (.load none 75),[2,0]),
(oF 71 77 (.conv .i64 76),[3,0]),
(oF 71 78 (.bin .lss 73 77),[]),
(oP 79 71 cT 78,[]),
(oM 68 79,[])])
(.cond 68
(sq (kr [2] [oD 80 (.build [.int .i64 0,.int .i64 0,.kb false,.int .u64 0,.imm (.int .u8) [],.imm (.int .u8) []] []),
oS 6 2 80,
oD 3 (.mov (cI 0)),
oD 4 (.mov (cI 1026))])
.ret)
(sq (kr [2,5,7,8,10] [oA 82 3 8,
oL 83 82,
oM 81 83])
(.cond 81
(.reg [oM 84 5,
oC 85 85 [84,(cI 4)],
oA 86 3 7,
oS 1 86 85])
.skip)))))))))
(sq (kr [2,5,7,8,10] [oM 87 5,
oD 88 (.mkfn 88 [87] []),
oM 12 88])
(sq (.reg [oM 89 12,
oM 90 10,
oD 91 (.call false 89 [90]),
oA 92 4 7,
oS 1 92 91])
(sq (sq (kr [2,5,7,8,10,12] [oA 93 2 7,
oL 94 93])
(.cond 94
(.reg [oM 95 12,
oM 96 10,
oD 97 (.call false 95 [96]),
oA 98 5 7,
oS 1 98 97])
.skip))
(sq (sq (kr [2,5,7,8] [oK 99 6 7,
oK 100 4 8,
oC 101 144 [99,100],
oM 13 101])
(sq (.reg [oM 102 13,
oB 103 .neq 102 (cI 0)])
(.cond 103
(sq (kr [2,13] [oD 104 (.build [.int .i64 0,.int .i64 0,.kb false,.int .u64 0,.imm (.int .u8) [],.imm (.int .u8) []] []),
oM 105 13,
oS 6 2 104,
oD 3 (.mov (cI 0)),
oM 4 105])
.ret)
.skip)))
(sq (kd [2,5,7] [(oK 106 6 7,[]),
(oM 107 5,[0]),
(oC 108 90 [107],[1]),
(oS 6 2 106,[]),
(oM 3 108,[]),
(oD 4 (.mov (cI 0)),[])])
.ret)))))))))))))
def Vo_:List RD:=[.cell 2 (some 6) true [],.tmp 3 true none,.tmp 4 true none]
theorem VH_:zl_ Tryz.prog Tryz.f163 V2_ Vo_=true:=by kernel_rfl
def jU_:List AV->List Obj->Option (Prop × AV)
 | [.imm (.int .u8) b],[]=>some ((b.length<=140737488355328,.tup [.agg [.int .i64 (qj_ b (zz_ b)),.int .i64 (qj_ b (zR_ b)),.bool ((if Zb_ b=0 then ZX_ b else false)),.int .u64 (qj_ b (Q0_ b)),.imm (.int .u8) (Qd_ b (qz_ b)),.imm (.int .u8) (Qd_ b (qp_ b))],.int .i64 (qj_ b (Z7_ b)),.int .i64 (Zb_ b)]))
 | _,_=>none
theorem Yh_:zf_ Tryz.prog 163 (RoF jU_).sum:=by
 refine zj_ Tryz.func163 VH_ (za_ (s:=RwF qN_) Qt_ (za_ (s:=RwF Zh_) ZV_ (za_ (s:=RoF zB_) zG_ (za_ (s:=RoF xI_) Yf_ (za_ (s:=RoF WU_) Uk_ (za_ (s:=RoF z7_) ZC_ (za_ (s:=RwF qS_) Je_ (za_ (s:=RwF zZ_) Zw_ (za_ (s:=RoF Kx_) Wj_ (za_ (s:=RoF qe_) kj_ (ze_ _))))))))))) fun args objs p v e=>?_
 unfold jU_ at e
 split at e
 ·rename_i b
  cases e
  refine ⟨rfl,fun hw ho hp=>?_⟩
  change List Int at b
  have hb:∀ x ∈ b,0<=x/\x<=255:=fun x hx=>(hw (.imm (.int .u8) b) (by simp)).1 x hx
  by_cases h4:b.length < 4
  ·obtain ⟨hL,hP,hE⟩:=cur0 (sh:=1026) (od:=1026) h4
   have hd:Zb_ b=1026:=by unfold Zb_;rw [if_pos h4]
   repeat'(intro t ht;first|(cases t<;>first|(cases ht;done)|(try simp only[zh_]at ht))|((first|refine zb_ ht ?_|refine ht ?_ ?_|refine ht.1 ?_ ?_|refine ht ?_)<;>clear ht))
   all_goals (try simp only [hL,hP,hE] at*)
   all_goals first
    | exact hp
    | exact absurd rfl ‹¬ ((([]:List Int).length:Int)=0)›
    | ((try simp only [zn_,zo_,zm_] at*);omega)
    | (simp only [qj_,Qd_,hd];exact ⟨rfl,by first | rfl | exact True.intro⟩)
  ·obtain ⟨hL,hP,hE⟩:=cur4 (b:=b) (sh:=1026) (od:=1026) (by omega)
   have hC:=zdk_ hb
   have hq:=xE_ hb 2
   have hn:=xE_ hb 3
   have hFl:=zcB_ hq
   have hof:=uD_ (zz_ b) (zR_ b)
   have g0:∀ d,[zz_ b,b.getD 2 0,b.getD 3 0].getD (Int.toNat 0) d=zz_ b:=fun _=>rfl
   have g1:∀ d,[zz_ b,b.getD 2 0,b.getD 3 0].getD (Int.toNat 1) d=b.getD 2 0:=fun _=>rfl
   have g2:∀ d,[zz_ b,b.getD 2 0,b.getD 3 0].getD (Int.toNat 2) d=b.getD 3 0:=fun _=>rfl
   have gl:((([zz_ b,b.getD 2 0,b.getD 3 0]).length:Nat):Int)=3:=rfl
   have hF:(b.getD 2 0).tdiv 2=zR_ b:=rfl
   have hH:((b.getD 2 0).tmod 2=1)=(ZX_ b=true):=propext ⟨fun h=>decide_eq_true h,fun h=>of_decide_eq_true h⟩
   have hS:va_ (ZX_ b) (Zl_ (zz_ b)) (qw_ (zz_ b) (zR_ b)) (b.getD 3 0)=Zv_ b:=rfl
   have hK:xs_ (ZX_ b) (Zl_ (zz_ b)) (qw_ (zz_ b) (zR_ b)) (b.getD 3 0)=Kn_ b:=rfl
   by_cases hs:Kn_ b=true/\¬ (b.length:Int) - 4 < b.getD 3 0
   ·obtain ⟨hd1,hd2,hd3⟩:=bO_ hn.1 hof.1 hs.1
    by_cases hx:zz_ b=65535
    ·have hx':Zl_ (zz_ b)=true:=decide_eq_true hx
     have h8:(8:Int)<=b.length:=by
      have h:=hs.1
      unfold Kn_ xs_ at h
      rw [hx',if_pos rfl] at h
      simp only [Bool.and_eq_true,decide_eq_true_eq] at h
      omega
     cases hh:ZX_ b with
     | true=>
       have hd2':Z7_ b=kB_ b+Zv_ b+Zv_ b:=by unfold Z7_;rw [hh];rfl
       have hA:kB_ b=8:=if_pos hx
       obtain ⟨hN1,hN2,hN3⟩:=num4 (b:=b) (p:=4) (sh:=1026) (od:=1026) (by decide) (by omega)
       have hX:Q0_ b=ZN_ ((b.drop (4:Int).toNat).take 4):=if_pos hx
       simp only [show (4:Int)+4=8 from rfl] at hN2
       obtain ⟨hT1,hT2,hT3⟩:=wW_ (n:=Zv_ b) (p:=8) (sh:=1026) (b:=b) hd1 (by omega)
       have hV:(b.take (8+Zv_ b).toNat).drop (8:Int).toNat=qz_ b:=by unfold qz_;rw [hA]
       have hVl:=ZI_ (b:=b) (p:=8) (n:=Zv_ b) (by decide) hd1 (by omega)
       rw [hV] at hT1 hVl
       obtain ⟨hU1,hU2,hU3⟩:=wW_ (n:=Zv_ b) (p:=8+Zv_ b) (sh:=1026) (b:=b) hd1 (by omega)
       have hM:(b.take (8+Zv_ b+Zv_ b).toNat).drop (8+Zv_ b).toNat=qp_ b:=by unfold qp_;rw [hh,hA];rfl
       have hMl:=ZI_ (b:=b) (p:=8+Zv_ b) (n:=Zv_ b) (by omega) hd1 (by omega)
       rw [hM] at hU1 hMl
       have hNN:8+Zv_ b+Zv_ b=Z7_ b:=by omega
       have hdw:KC_ (zz_ b) (zR_ b)=true->qx_ (zz_ b) (zR_ b)=true->Zb_ b=k4_ (zR_ b) true (qz_ b) (qp_ b) (Qy_ (zz_ b) (zR_ b)) true:=fun h1 h3=>by rw [K3_ h4 h1 (fun h2=>h3) hs.1 hs.2,hh,hx']
       have hdm:ZX_ b=true->qx_ (zz_ b) (zR_ b)=false->KC_ (zz_ b) (zR_ b)=true->Zb_ b=1033:=fun h1 h2 h3=>by unfold Zb_;rw [if_neg h4,h3,h1,h2];rfl
       rw [hh] at hdm
       obtain ⟨c1,hc1⟩:∃ p:Prop,p=(Kn_ b=true):=⟨_,rfl⟩
       repeat'(intro t ht;first|(cases t<;>first|(cases ht;done)|(try simp only[zh_]at ht))|((first|refine zb_ ht ?_|refine ht ?_ ?_|refine ht.1 ?_ ?_|refine ht ?_)<;>clear ht))
       all_goals (try simp only [hL,hP,hE,g0,g1,g2,gl,hF,hH,hS,hK,Bool.decide_eq_true] at*)
       all_goals (try simp only [hh,hx',hT1,hT2,hT3,hNN,Bool.false_eq_true,not_false_eq_true,not_true_eq_false,reduceCtorEq,hN1,hN2,hN3,hU1,hU2,hU3] at*)
       all_goals first
        | exact hp
        | exact (by decide)
        | omega
        | ((try simp only [zn_,zo_,zm_] at*);omega)
        | (refine ⟨fun h=>?_,?_,?_,?_⟩<;>first | omega | (simp only [List.length_nil];omega) | (cases h;done))
        | exact absurd hs.1 (by rw [‹Kn_ b=false›];decide)
        | (have h0:Zb_ b=1031:=by unfold Zb_;rw [if_neg h4,if_pos (by assumption)]
           simp only [qj_,Qd_,h0];exact ⟨rfl,by first | rfl | exact True.intro⟩)
        | (have h0:Zb_ b=1033:=hdm (by first | rfl | exact True.intro) (by assumption) (by assumption)
           simp only [qj_,Qd_,h0];exact ⟨rfl,by first | rfl | exact True.intro⟩)
        | (have hd:=hdw (by assumption) (by assumption)
           first
            | (have h0:Zb_ b=0:=hd.trans (by assumption)
               refine ⟨?_,by first | rfl | exact True.intro⟩;first | (simp only [qj_,Qd_,if_pos h0,h0,ite_self,hX];done) | (simp only [qj_,Qd_,if_pos h0,h0,ite_self,hX];rfl))
            | (have h0:¬ Zb_ b=0:=by rw [hd];assumption
               refine ⟨?_,by first | rfl | exact True.intro⟩;simp only [qj_,Qd_,if_neg h0,ite_self];rw [hd]))
     | false=>
       have hd2':Z7_ b=kB_ b+Zv_ b:=by unfold Z7_;rw [hh];simp
       have hA:kB_ b=8:=if_pos hx
       obtain ⟨hN1,hN2,hN3⟩:=num4 (b:=b) (p:=4) (sh:=1026) (od:=1026) (by decide) (by omega)
       have hX:Q0_ b=ZN_ ((b.drop (4:Int).toNat).take 4):=if_pos hx
       simp only [show (4:Int)+4=8 from rfl] at hN2
       obtain ⟨hT1,hT2,hT3⟩:=wW_ (n:=Zv_ b) (p:=8) (sh:=1026) (b:=b) hd1 (by omega)
       have hV:(b.take (8+Zv_ b).toNat).drop (8:Int).toNat=qz_ b:=by unfold qz_;rw [hA]
       have hVl:=ZI_ (b:=b) (p:=8) (n:=Zv_ b) (by decide) hd1 (by omega)
       rw [hV] at hT1 hVl
       have hM:qp_ b=[]:=by unfold qp_;rw [hh];rfl
       have hMl:(((qp_ b).length:Nat):Int)=0:=by rw [hM];rfl
       have hNN:8+Zv_ b=Z7_ b:=by omega
       have hdw:KC_ (zz_ b) (zR_ b)=true->Zb_ b=k4_ (zR_ b) false (qz_ b) [] (Qy_ (zz_ b) (zR_ b)) true:=fun h1=>by rw [K3_ h4 h1 (fun h2=>absurd h2 (by rw [hh];decide)) hs.1 hs.2,hh,hx',hM]
       have hdm:ZX_ b=true->qx_ (zz_ b) (zR_ b)=false->KC_ (zz_ b) (zR_ b)=true->Zb_ b=1033:=fun h1 h2 h3=>by unfold Zb_;rw [if_neg h4,h3,h1,h2];rfl
       rw [hh] at hdm
       obtain ⟨c1,hc1⟩:∃ p:Prop,p=(Kn_ b=true):=⟨_,rfl⟩
       repeat'(intro t ht;first|(cases t<;>first|(cases ht;done)|(try simp only[zh_]at ht))|((first|refine zb_ ht ?_|refine ht ?_ ?_|refine ht.1 ?_ ?_|refine ht ?_)<;>clear ht))
       all_goals (try simp only [hL,hP,hE,g0,g1,g2,gl,hF,hH,hS,hK,Bool.decide_eq_true] at*)
       all_goals (try simp only [hh,hx',hT1,hT2,hT3,hNN,Bool.false_eq_true,not_false_eq_true,not_true_eq_false,reduceCtorEq,hN1,hN2,hN3] at*)
       all_goals first
        | exact hp
        | exact (by decide)
        | omega
        | ((try simp only [zn_,zo_,zm_] at*);omega)
        | (refine ⟨fun h=>?_,?_,?_,?_⟩<;>first | omega | (simp only [List.length_nil];omega) | (cases h;done))
        | exact absurd hs.1 (by rw [‹Kn_ b=false›];decide)
        | (have h0:Zb_ b=1031:=by unfold Zb_;rw [if_neg h4,if_pos (by assumption)]
           simp only [qj_,Qd_,h0];exact ⟨rfl,by first | rfl | exact True.intro⟩)
        | (have h0:Zb_ b=1033:=hdm (by first | rfl | exact True.intro) (by assumption) (by assumption)
           simp only [qj_,Qd_,h0];exact ⟨rfl,by first | rfl | exact True.intro⟩)
        | (have hd:=hdw (by assumption)
           first
            | (have h0:Zb_ b=0:=hd.trans (by assumption)
               refine ⟨?_,by first | rfl | exact True.intro⟩;first | (simp only [qj_,Qd_,if_pos h0,h0,ite_self,hM,hX];done) | (simp only [qj_,Qd_,if_pos h0,h0,ite_self,hM,hX];rfl))
            | (have h0:¬ Zb_ b=0:=by rw [hd];assumption
               refine ⟨?_,by first | rfl | exact True.intro⟩;simp only [qj_,Qd_,if_neg h0,ite_self];rw [hd]))
    ·have hx':Zl_ (zz_ b)=false:=decide_eq_false hx
     cases hh:ZX_ b with
     | true=>
       have hd2':Z7_ b=kB_ b+Zv_ b+Zv_ b:=by unfold Z7_;rw [hh];rfl
       have hA:kB_ b=4:=if_neg hx
       have hX:Q0_ b=0:=if_neg hx
       obtain ⟨hT1,hT2,hT3⟩:=wW_ (n:=Zv_ b) (p:=4) (sh:=1026) (b:=b) hd1 (by omega)
       have hV:(b.take (4+Zv_ b).toNat).drop (4:Int).toNat=qz_ b:=by unfold qz_;rw [hA]
       have hVl:=ZI_ (b:=b) (p:=4) (n:=Zv_ b) (by decide) hd1 (by omega)
       rw [hV] at hT1 hVl
       obtain ⟨hU1,hU2,hU3⟩:=wW_ (n:=Zv_ b) (p:=4+Zv_ b) (sh:=1026) (b:=b) hd1 (by omega)
       have hM:(b.take (4+Zv_ b+Zv_ b).toNat).drop (4+Zv_ b).toNat=qp_ b:=by unfold qp_;rw [hh,hA];rfl
       have hMl:=ZI_ (b:=b) (p:=4+Zv_ b) (n:=Zv_ b) (by omega) hd1 (by omega)
       rw [hM] at hU1 hMl
       have hNN:4+Zv_ b+Zv_ b=Z7_ b:=by omega
       have hdw:KC_ (zz_ b) (zR_ b)=true->qx_ (zz_ b) (zR_ b)=true->Zb_ b=k4_ (zR_ b) true (qz_ b) (qp_ b) (Qy_ (zz_ b) (zR_ b)) false:=fun h1 h3=>by rw [K3_ h4 h1 (fun h2=>h3) hs.1 hs.2,hh,hx']
       have hdm:ZX_ b=true->qx_ (zz_ b) (zR_ b)=false->KC_ (zz_ b) (zR_ b)=true->Zb_ b=1033:=fun h1 h2 h3=>by unfold Zb_;rw [if_neg h4,h3,h1,h2];rfl
       rw [hh] at hdm
       obtain ⟨c1,hc1⟩:∃ p:Prop,p=(Kn_ b=true):=⟨_,rfl⟩
       repeat'(intro t ht;first|(cases t<;>first|(cases ht;done)|(try simp only[zh_]at ht))|((first|refine zb_ ht ?_|refine ht ?_ ?_|refine ht.1 ?_ ?_|refine ht ?_)<;>clear ht))
       all_goals (try simp only [hL,hP,hE,g0,g1,g2,gl,hF,hH,hS,hK,Bool.decide_eq_true] at*)
       all_goals (try simp only [hh,hx',hT1,hT2,hT3,hNN,Bool.false_eq_true,not_false_eq_true,not_true_eq_false,reduceCtorEq,hU1,hU2,hU3] at*)
       all_goals first
        | exact hp
        | exact (by decide)
        | omega
        | ((try simp only [zn_,zo_,zm_] at*);omega)
        | (refine ⟨fun h=>?_,?_,?_,?_⟩<;>first | omega | (simp only [List.length_nil];omega) | (cases h;done))
        | exact absurd hs.1 (by rw [‹Kn_ b=false›];decide)
        | (have h0:Zb_ b=1031:=by unfold Zb_;rw [if_neg h4,if_pos (by assumption)]
           simp only [qj_,Qd_,h0];exact ⟨rfl,by first | rfl | exact True.intro⟩)
        | (have h0:Zb_ b=1033:=hdm (by first | rfl | exact True.intro) (by assumption) (by assumption)
           simp only [qj_,Qd_,h0];exact ⟨rfl,by first | rfl | exact True.intro⟩)
        | (have hd:=hdw (by assumption) (by assumption)
           first
            | (have h0:Zb_ b=0:=hd.trans (by assumption)
               refine ⟨?_,by first | rfl | exact True.intro⟩;first | (simp only [qj_,Qd_,if_pos h0,h0,ite_self,hX];done) | (simp only [qj_,Qd_,if_pos h0,h0,ite_self,hX];rfl))
            | (have h0:¬ Zb_ b=0:=by rw [hd];assumption
               refine ⟨?_,by first | rfl | exact True.intro⟩;simp only [qj_,Qd_,if_neg h0,ite_self];rw [hd]))
     | false=>
       have hd2':Z7_ b=kB_ b+Zv_ b:=by unfold Z7_;rw [hh];simp
       have hA:kB_ b=4:=if_neg hx
       have hX:Q0_ b=0:=if_neg hx
       obtain ⟨hT1,hT2,hT3⟩:=wW_ (n:=Zv_ b) (p:=4) (sh:=1026) (b:=b) hd1 (by omega)
       have hV:(b.take (4+Zv_ b).toNat).drop (4:Int).toNat=qz_ b:=by unfold qz_;rw [hA]
       have hVl:=ZI_ (b:=b) (p:=4) (n:=Zv_ b) (by decide) hd1 (by omega)
       rw [hV] at hT1 hVl
       have hM:qp_ b=[]:=by unfold qp_;rw [hh];rfl
       have hMl:(((qp_ b).length:Nat):Int)=0:=by rw [hM];rfl
       have hNN:4+Zv_ b=Z7_ b:=by omega
       have hdw:KC_ (zz_ b) (zR_ b)=true->Zb_ b=k4_ (zR_ b) false (qz_ b) [] (Qy_ (zz_ b) (zR_ b)) false:=fun h1=>by rw [K3_ h4 h1 (fun h2=>absurd h2 (by rw [hh];decide)) hs.1 hs.2,hh,hx',hM]
       have hdm:ZX_ b=true->qx_ (zz_ b) (zR_ b)=false->KC_ (zz_ b) (zR_ b)=true->Zb_ b=1033:=fun h1 h2 h3=>by unfold Zb_;rw [if_neg h4,h3,h1,h2];rfl
       rw [hh] at hdm
       obtain ⟨c1,hc1⟩:∃ p:Prop,p=(Kn_ b=true):=⟨_,rfl⟩
       repeat'(intro t ht;first|(cases t<;>first|(cases ht;done)|(try simp only[zh_]at ht))|((first|refine zb_ ht ?_|refine ht ?_ ?_|refine ht.1 ?_ ?_|refine ht ?_)<;>clear ht))
       all_goals (try simp only [hL,hP,hE,g0,g1,g2,gl,hF,hH,hS,hK,Bool.decide_eq_true] at*)
       all_goals (try simp only [hh,hx',hT1,hT2,hT3,hNN,Bool.false_eq_true,not_false_eq_true,not_true_eq_false,reduceCtorEq] at*)
       all_goals first
        | exact hp
        | exact (by decide)
        | omega
        | ((try simp only [zn_,zo_,zm_] at*);omega)
        | (refine ⟨fun h=>?_,?_,?_,?_⟩<;>first | omega | (simp only [List.length_nil];omega) | (cases h;done))
        | exact absurd hs.1 (by rw [‹Kn_ b=false›];decide)
        | (have h0:Zb_ b=1031:=by unfold Zb_;rw [if_neg h4,if_pos (by assumption)]
           simp only [qj_,Qd_,h0];exact ⟨rfl,by first | rfl | exact True.intro⟩)
        | (have h0:Zb_ b=1033:=hdm (by first | rfl | exact True.intro) (by assumption) (by assumption)
           simp only [qj_,Qd_,h0];exact ⟨rfl,by first | rfl | exact True.intro⟩)
        | (have hd:=hdw (by assumption)
           first
            | (have h0:Zb_ b=0:=hd.trans (by assumption)
               refine ⟨?_,by first | rfl | exact True.intro⟩;first | (simp only [qj_,Qd_,if_pos h0,h0,ite_self,hM,hX];done) | (simp only [qj_,Qd_,if_pos h0,h0,ite_self,hM,hX];rfl))
            | (have h0:¬ Zb_ b=0:=by rw [hd];assumption
               refine ⟨?_,by first | rfl | exact True.intro⟩;simp only [qj_,Qd_,if_neg h0,ite_self];rw [hd]))
   ·have hs':Kn_ b=false\/(b.length:Int) - 4 < b.getD 3 0:=by
     cases hk:Kn_ b with
     | false=>exact .inl rfl
     | true=>exact .inr (Decidable.by_contra fun h=>hs ⟨hk,h⟩)
    have hd3:KC_ (zz_ b) (zR_ b)=true->(ZX_ b=true->qx_ (zz_ b) (zR_ b)=true)->Zb_ b=1026:=fun h1 h2=>by
     unfold Zb_
     rw [if_neg h4,if_neg (by rw [h1];decide),if_neg (fun h=>by rw [h2 h.1] at h;exact absurd h.2 (by decide)),if_pos hs']
    repeat'(intro t ht;first|(cases t<;>first|(cases ht;done)|(try simp only[zh_]at ht))|((first|refine zb_ ht ?_|refine ht ?_ ?_|refine ht.1 ?_ ?_|refine ht ?_)<;>clear ht))
    all_goals (try simp only [hL,hP,hE,g0,g1,g2,gl,hF,hH,hS,hK,Bool.decide_eq_true] at*)
    all_goals first
     | exact hp
     | exact (by decide)
     | exact absurd ⟨by assumption,by assumption⟩ hs
     | omega
     | ((try simp only [zn_,zo_,zm_] at*);omega)
     | (have h0:Zb_ b=1031:=by unfold Zb_;rw [if_neg h4,if_pos (by assumption)]
        simp only [qj_,Qd_,h0];exact ⟨rfl,by first | rfl | exact True.intro⟩)
     | (have h0:Zb_ b=1033:=by unfold Zb_;rw [if_neg h4,if_neg (by simp_all;done),if_pos ⟨by assumption,by assumption⟩]
        simp only [qj_,Qd_,h0];exact ⟨rfl,by first | rfl | exact True.intro⟩)
     | (have h0:Zb_ b=1026:=hd3 (by assumption) (fun h=>by first | assumption | exact absurd h (by assumption))
        simp only [qj_,Qd_,h0];exact ⟨rfl,by first | rfl | exact True.intro⟩)
 ·cases e
def gh_:IR:=
(sq (kr [0,1] [oD 2 (.boxv 0),
oD 3 (.boxv 1),
oD 4 (.mov cF)])
(sq (kr [2,3] [oA 5 0 2,
oL 6 5,
oA 7 0 3,
oL 8 7,
oB 9 .eql 6 8,
oM 10 9,
oT 10 11 (.fieldAddr 1 2),
oT 10 12 (.load none 11),
oT 10 13 (.fieldAddr 1 3),
oT 10 14 (.load none 13),
oT 10 15 (.bin .eql 12 14),
oP 16 10 15 cF,
oM 17 16,
oT 17 18 (.fieldAddr 3 2),
oT 17 19 (.load none 18),
oT 17 20 (.fieldAddr 3 3),
oT 17 21 (.load none 20),
oT 17 22 (.bin .eql 19 21),
oP 23 17 22 cF,
oM 4 23])
.ret))
def Uz_:List RD:=[.tmp 4 true none]
theorem UQ_:zl_ Tryz.prog Tryz.f96 gh_ Uz_=true:=by kernel_rfl
def wK_:List AV->List Obj->Option (Prop × AV)
 | [.agg [.int .i64 c,.int .i64 f,.bool h,.int .u64 x,.imm (.int .u8) v,.imm (.int .u8) m],.agg [.int .i64 c',.int .i64 f',.bool h',.int .u64 x',.imm (.int .u8) v',.imm (.int .u8) m']],[]=>some ((True,.bool (decide (c=c') && decide (f=f') && decide (x=x'))))
 | _,_=>none
theorem Vd_:zf_ Tryz.prog 96 (RoF wK_).sum:=by
 refine zj_ Tryz.func96 UQ_ (ze_ _) fun args objs p v e=>?_
 unfold wK_ at e
 split at e
 ·rename_i c f h x v m c' f' h' x' v' m'
  cases e
  refine ⟨rfl,fun hw ho hp=>?_⟩
  change List Int at v
  change List Int at m
  change List Int at v'
  change List Int at m'
  repeat'(intro t ht;first|(cases t<;>first|(cases ht;done)|(try simp only[zh_]at ht))|((first|refine zb_ ht ?_|refine ht ?_ ?_|refine ht.1 ?_ ?_|refine ht ?_)<;>clear ht))
  all_goals first
   | exact True.intro
   | (simp_all;done)
 ·cases e
def QQ_ (c f:Int) (h:Bool) (x:Int) (v m:List Int) (c' f':Int) (h':Bool) (x':Int) (v' m':List Int):Bool:=decide (c=c') && decide (f=f') && decide (x=x') && (h == h') && decide (v=v') && decide (m=m')
theorem ux_ (c f:Int) (h:Bool) (x:Int) (v m:List Int):QQ_ c f h x v m c f h x v m=true:=by unfold QQ_;simp
def G9_:IR:=
(sq (kr [0,1] [oD 2 (.boxv 0),
oD 3 (.boxv 1),
oD 4 (.mov cF)])
(sq (kr [2,3] [oK 5 6 2,
oK 6 6 3,
oC 7 96 [5,6],
oM 8 7,
oT 8 9 (.fieldAddr 2 2),
oT 8 10 (.load none 9),
oT 8 11 (.fieldAddr 2 3),
oT 8 12 (.load none 11),
oT 8 13 (.eqb false 10 12),
oP 14 8 13 cF,
oM 15 14,
oT 15 16 (.fieldAddr 4 2),
oT 15 17 (.load none 16),
oT 15 18 (.fieldAddr 4 3),
oT 15 19 (.load none 18),
oT 15 20 (.call false (.f 20) [17,19]),
oP 21 15 20 cF,
oM 22 21,
oT 22 23 (.fieldAddr 5 2),
oT 22 24 (.load none 23),
oT 22 25 (.fieldAddr 5 3),
oT 22 26 (.load none 25),
oT 22 27 (.call false (.f 20) [24,26]),
oP 28 22 27 cF,
oM 4 28])
.ret))
def Gm_:List RD:=[.tmp 4 true none]
theorem GG_:zl_ Tryz.prog Tryz.f43 G9_ Gm_=true:=by kernel_rfl
def WS_:List AV->List Obj->Option (Prop × AV)
 | [.agg [.int .i64 c,.int .i64 f,.bool h,.int .u64 x,.imm (.int .u8) v,.imm (.int .u8) m],.agg [.int .i64 c',.int .i64 f',.bool h',.int .u64 x',.imm (.int .u8) v',.imm (.int .u8) m']],[]=>some ((True,.bool (QQ_ c f h x v m c' f' h' x' v' m')))
 | _,_=>none
theorem Ui_:zf_ Tryz.prog 43 (RoF WS_).sum:=by
 refine zj_ Tryz.func43 GG_ (za_ (s:=RoF wK_) Vd_ (za_ (s:=RoF qB_) qX_ (ze_ _))) fun args objs p v e=>?_
 unfold WS_ at e
 split at e
 ·rename_i c f h x v m c' f' h' x' v' m'
  cases e
  refine ⟨rfl,fun hw ho hp=>?_⟩
  change List Int at v
  change List Int at m
  change List Int at v'
  change List Int at m'
  repeat'(intro t ht;first|(cases t<;>first|(cases ht;done)|(try simp only[zh_]at ht))|((first|refine zb_ ht ?_|refine ht ?_ ?_|refine ht.1 ?_ ?_|refine ht ?_)<;>clear ht))
  all_goals first
   | exact True.intro
   | (refine ⟨?_,rfl⟩;unfold QQ_;simp_all;done)
   | (refine ⟨?_,rfl⟩;unfold QQ_;cases h<;>cases h'<;>simp_all;done)
   | (refine ⟨?_,rfl⟩;unfold QQ_;rcases ‹(¬c=c'\/¬f=f')\/¬x=x'› with (h1 | h1) | h1<;>rw [decide_eq_false h1]<;>simp)
 ·cases e
def HI_:IR:=
(sq (kr [0] [oD 1 (.boxv 0),
oD 2 (.mov cF)])
(sq (kr [1] [oA 3 4 1,
oL 4 3,
oE 5 4,
oB 6 .leq 5 (cI 300),
oM 7 6,
oT 7 8 (.fieldAddr 5 1),
oT 7 9 (.load none 8),
oT 7 10 (.len 9),
oT 7 11 (.bin .leq 10 (cI 300)),
oP 12 7 11 cF,
oM 2 12])
.ret))
def Hg_:List RD:=[.tmp 2 true none]
theorem Hp_:zl_ Tryz.prog Tryz.f37 HI_ Hg_=true:=by kernel_rfl
def XL_:List AV->List Obj->Option (Prop × AV)
 | [.agg [.int .i64 c,.int .i64 f,.bool h,.int .u64 x,.imm (.int .u8) v,.imm (.int .u8) m]],[]=>some ((True,.bool (decide (v.length<=300) && decide (m.length<=300))))
 | _,_=>none
theorem g6_:zf_ Tryz.prog 37 (RoF XL_).sum:=by
 refine zj_ Tryz.func37 Hp_ (ze_ _) fun args objs p v e=>?_
 unfold XL_ at e
 split at e
 ·rename_i c f h x v m
  cases e
  refine ⟨rfl,fun hw ho hp=>?_⟩
  change List Int at v
  change List Int at m
  repeat'(intro t ht;first|(cases t<;>first|(cases ht;done)|(try simp only[zh_]at ht))|((first|refine zb_ ht ?_|refine ht ?_ ?_|refine ht.1 ?_ ?_|refine ht ?_)<;>clear ht))
  all_goals first
   | exact True.intro
   | (simp_all;done)
   | (have e:decide (v.length<=300)=false:=decide_eq_false (by omega)
      rw [e];exact ⟨rfl,rfl⟩)
   | (have e:decide (v.length<=300)=true:=decide_eq_true (by omega)
      rw [e];refine ⟨?_,rfl⟩;rw [Bool.true_and];congr 1;rw [Bool.eq_iff_iff];simp only [decide_eq_true_eq];omega)
 ·cases e
theorem zu (x:Int) (h0:0<=x):x.fdiv (2 ^ (min (Int.toNat 32) IntKind.u64.bits))=0 ↔ x < 4294967296:=by
 rw [show (2:Int) ^ (min (Int.toNat 32) IntKind.u64.bits)=4294967296 from by decide,Int.fdiv_eq_ediv_of_nonneg _ (by decide)];omega
theorem zc8_ {n:Int} (h:0<=n/\n<=255):zd_ n 1=[n]:=by
 show [(n.fdiv (2 ^ (min (8*((1:Int) - 1 - ((0:Nat):Int))).toNat 64))) % 256]=[n]
 rw [show (min (8*((1:Int) - 1 - ((0:Nat):Int))).toNat 64)=0 from by decide,Int.pow_zero,Int.fdiv_one]
 congr 1;omega
theorem qt_ {c f:Int} {h:Bool} {x:Int} {v m:List Int} (hr:zM_ c f h x v m=true):0<=f/\f<=127/\(c=65535\/c=32768)/\(v.length:Int)<=100/\(m.length:Int)<=100/\0<=z5_ c v m/\z5_ c v m<=204/\z5_ c v m=(wE_ c x v m).length:=by
 obtain ⟨r1,r2,r3,r4,_⟩:=KZ_ hr
 have hof:=uD_ c f
 have hm:(m.length:Int)<=100:=by cases h;have:=r3 rfl;omega;have:=r2 rfl;omega
 have hb:z5_ c v m=(wE_ c x v m).length:=by
  have l4:=zk_ (n:=x) (w:=4) (by decide)
  unfold z5_ wE_
  split
  ·rw [List.length_append,List.length_append];omega
  ·rw [List.length_append,List.length_append,List.length_nil];omega
 have h0:0<=z5_ c v m/\z5_ c v m<=204:=by unfold z5_;split<;>omega
 have hcf:0<=f/\f<=127/\(c=65535\/c=32768):=by
  unfold KC_ at r4
  split at r4
  ·simp at r4;omega
  ·simp at r4;have:=kq_.1 r4.1;omega
 exact ⟨hcf.1,hcf.2.1,hcf.2.2,by omega,hm,h0.1,h0.2,hb⟩
theorem gy_ {c f:Int} {h:Bool} {x:Int} {v m:List Int} (hr:zM_ c f h x v m=true):Zq_ c f h x v m=Qw_ c f h x v m:=by
 obtain ⟨n1,n2,n3,n4,n5,n6,n7,n8⟩:=qt_ hr
 unfold Zq_ bL_ Qw_
 rw [zc8_ (n:=2*f+if h=true then 1 else 0) (by split<;>omega),zc8_ (n:=z5_ c v m) (by omega),n8]
 unfold wE_
 simp only [List.append_assoc,List.cons_append,List.nil_append]
theorem B9_ {c f:Int} {h:Bool} {x:Int} {v m:List Int}:qY_ c f h x v m=((if zM_ c f h x v m=true then Qw_ c f h x v m else []).length:Int):=by
 unfold qY_
 split
 ·rename_i hr
  obtain ⟨n1,n2,n3,n4,n5,n6,n7,n8⟩:=qt_ hr
  have l2:=zk_ (n:=c) (w:=2) (by decide)
  unfold Qw_
  rw [n8]
  simp only [List.length_append,List.length_cons,List.length_nil];omega
 ·rfl
def L1:List Int:=[128,0,10,2,8,0,7]
def L2:List Int:=[128,0,11,4,8,0,8,0]
theorem s1:Zb_ L1=0/\qj_ L1 (zz_ L1)=32768/\qj_ L1 (zR_ L1)=5/\ZX_ L1=false/\qj_ L1 (Q0_ L1)=0/\Qd_ L1 (qz_ L1)=[8,0]/\Qd_ L1 (qp_ L1)=[]/\qj_ L1 (Z7_ L1)=6/\Zb_ L2=1033:=by decide+kernel
theorem s2:zM_ 32768 5 false 0 [8,0] []=true/\Zq_ 32768 5 false 0 [8,0] []=[128,0,10,2,8,0]:=by decide+kernel
def vl_:IR:=
(sq (kr [0,1] [oD 4 (.mov cF)])
(sq (kr [0,1] [oM 5 0,
oD 6 (.b2s 5),
oM 7 1,
oD 8 (.b2s 7),
oB 9 .eql 6 8,
oM 4 9])
.ret))
def YC_:List RD:=[.tmp 4 true none]
theorem YX_:zl_ Tryz.prog Tryz.f71 vl_ YC_=true:=by kernel_rfl
def q7_:List AV->List Obj->Option (Prop × AV)
 | [.imm (.int .u8) a,.imm (.int .u8) b],[]=>some ((True,.bool (decide (a=b))))
 | _,_=>none
theorem kx_:zf_ Tryz.prog 71 (RoF q7_).sum:=by
 refine zj_ Tryz.func71 YX_ (ze_ _) fun args objs p v e=>?_
 unfold q7_ at e
 split at e
 ·rename_i a b
  cases e
  refine ⟨rfl,fun hw ho hp=>?_⟩
  change List Int at a
  change List Int at b
  repeat'(intro t ht;first|(cases t<;>first|(cases ht;done)|(try simp only[zh_]at ht))|((first|refine zb_ ht ?_|refine ht ?_ ?_|refine ht.1 ?_ ?_|refine ht ?_)<;>clear ht))
  all_goals first
   | exact True.intro
   | exact ⟨rfl,rfl⟩
 ·cases e
def gm_:IR:=
(sq (kr [0,1] [oD 2 (.boxv 0),
oD 3 (.boxv 1),
oD 4 (.mov cF)])
(sq (kr [2,3] [oA 5 0 2,
oL 6 5,
oA 7 0 3,
oL 8 7,
oB 9 .eql 6 8,
oM 10 9,
oT 10 11 (.fieldAddr 1 2),
oT 10 12 (.load none 11),
oT 10 13 (.fieldAddr 1 3),
oT 10 14 (.load none 13),
oT 10 15 (.bin .eql 12 14),
oP 16 10 15 cF,
oM 17 16,
oT 17 18 (.fieldAddr 3 2),
oT 17 19 (.load none 18),
oT 17 20 (.fieldAddr 3 3),
oT 17 21 (.load none 20),
oT 17 22 (.bin .eql 19 21),
oP 23 17 22 cF,
oM 4 23])
.ret))
def UE_:List RD:=[.tmp 4 true none]
theorem UV_:zl_ Tryz.prog Tryz.f97 gm_ UE_=true:=by kernel_rfl
def wM_:List AV->List Obj->Option (Prop × AV)
 | [.agg [.int .i64 c,.int .i64 f,.bool h,.int .u64 x,.imm (.int .u8) v,.imm (.int .u8) m],.agg [.int .i64 c',.int .i64 f',.bool h',.int .u64 x',.imm (.int .u8) v',.imm (.int .u8) m']],[]=>some ((True,.bool (decide (c=c') && decide (f=f') && decide (x=x'))))
 | _,_=>none
theorem Vf_:zf_ Tryz.prog 97 (RoF wM_).sum:=by
 refine zj_ Tryz.func97 UV_ (ze_ _) fun args objs p v e=>?_
 unfold wM_ at e
 split at e
 ·rename_i c f h x v m c' f' h' x' v' m'
  cases e
  refine ⟨rfl,fun hw ho hp=>?_⟩
  change List Int at v
  change List Int at m
  change List Int at v'
  change List Int at m'
  repeat'(intro t ht;first|(cases t<;>first|(cases ht;done)|(try simp only[zh_]at ht))|((first|refine zb_ ht ?_|refine ht ?_ ?_|refine ht.1 ?_ ?_|refine ht ?_)<;>clear ht))
  all_goals first
   | exact True.intro
   | (simp_all;done)
 ·cases e
def he_:IR:=
(sq (kr [0,1] [oD 2 (.boxv 0),
oD 3 (.boxv 1),
oD 4 (.mov cF)])
(sq (kr [2,3] [oK 5 6 2,
oK 6 6 3,
oC 7 97 [5,6],
oM 8 7,
oT 8 9 (.fieldAddr 2 2),
oT 8 10 (.load none 9),
oT 8 11 (.fieldAddr 2 3),
oT 8 12 (.load none 11),
oT 8 13 (.eqb false 10 12),
oP 14 8 13 cF,
oM 15 14,
oT 15 16 (.fieldAddr 4 2),
oT 15 17 (.load none 16),
oT 15 18 (.fieldAddr 4 3),
oT 15 19 (.load none 18),
oT 15 20 (.call false (.f 71) [17,19]),
oP 21 15 20 cF,
oM 22 21,
oT 22 23 (.fieldAddr 5 2),
oT 22 24 (.load none 23),
oT 22 25 (.fieldAddr 5 3),
oT 22 26 (.load none 25),
oT 22 27 (.call false (.f 71) [24,26]),
oP 28 22 27 cF,
oM 4 28])
.ret))
def Gr_:List RD:=[.tmp 4 true none]
theorem GL_:zl_ Tryz.prog Tryz.f45 he_ Gr_=true:=by kernel_rfl
def jS_:List AV->List Obj->Option (Prop × AV)
 | [.agg [.int .i64 c,.int .i64 f,.bool h,.int .u64 x,.imm (.int .u8) v,.imm (.int .u8) m],.agg [.int .i64 c',.int .i64 f',.bool h',.int .u64 x',.imm (.int .u8) v',.imm (.int .u8) m']],[]=>some ((True,.bool (QQ_ c f h x v m c' f' h' x' v' m')))
 | _,_=>none
theorem W6_:zf_ Tryz.prog 45 (RoF jS_).sum:=by
 refine zj_ Tryz.func45 GL_ (za_ (s:=RoF wM_) Vf_ (za_ (s:=RoF q7_) kx_ (ze_ _))) fun args objs p v e=>?_
 unfold jS_ at e
 split at e
 ·rename_i c f h x v m c' f' h' x' v' m'
  cases e
  refine ⟨rfl,fun hw ho hp=>?_⟩
  change List Int at v
  change List Int at m
  change List Int at v'
  change List Int at m'
  repeat'(intro t ht;first|(cases t<;>first|(cases ht;done)|(try simp only[zh_]at ht))|((first|refine zb_ ht ?_|refine ht ?_ ?_|refine ht.1 ?_ ?_|refine ht ?_)<;>clear ht))
  all_goals first
   | exact True.intro
   | (refine ⟨?_,rfl⟩;unfold QQ_;simp_all;done)
   | (refine ⟨?_,rfl⟩;unfold QQ_;cases h<;>cases h'<;>simp_all;done)
   | (refine ⟨?_,rfl⟩;unfold QQ_;rcases ‹(¬c=c'\/¬f=f')\/¬x=x'› with (h1 | h1) | h1<;>rw [decide_eq_false h1]<;>simp)
 ·cases e
abbrev OV:=Int × Int × Bool × Int × List Int × List Int × Unit
instance:DecidableEq (Int × List Int × List Int × Unit):=inferInstance
instance:DecidableEq OV:=inferInstance
def lenO (o:OV):Prop:=o.2.2.2.2.1.length<=100000/\o.2.2.2.2.2.1.length<=100000
structure allLen (l:List OV):Prop where
 h:∀ o ∈ l,lenO o
theorem zc7_ {l:List Int} (h:4<=l.length):∃ a b c d r,l=a :: b :: c :: d :: r:=by
 obtain _ | ⟨a0,_ | ⟨a1,_ | ⟨a2,_ | ⟨a3,r⟩⟩⟩⟩:=l
 all_goals first | exact ⟨_,_,_,_,_,rfl⟩ | (simp at h;done)
theorem at2 (n:Int):zd_ n 2=[n.fdiv 256 % 256,n % 256]:=by
 have e:zd_ n 2=[(n.fdiv (2 ^ 8)) % 256,(n.fdiv (2 ^ 0)) % 256]:=rfl
 rw [e,show (2:Int) ^ 8=256 from rfl,Int.pow_zero,Int.fdiv_one]
theorem at4 (n:Int):zd_ n 4=[n.fdiv 16777216 % 256,n.fdiv 65536 % 256,n.fdiv 256 % 256,n % 256]:=by
 have e:zd_ n 4=[(n.fdiv (2 ^ 24)) % 256,(n.fdiv (2 ^ 16)) % 256,(n.fdiv (2 ^ 8)) % 256,(n.fdiv (2 ^ 0)) % 256]:=rfl
 rw [e,show (2:Int) ^ 8=256 from rfl,show (2:Int) ^ 16=65536 from rfl,show (2:Int) ^ 24=16777216 from rfl,Int.pow_zero,Int.fdiv_one]
theorem num2 {n:Int} (h:0<=n/\n<=65535):ZN_ (zd_ n 2)=n:=by
 rw [at2,Int.fdiv_eq_ediv_of_nonneg _ (by decide)]
 show (0*256+n / 256 % 256)*256+n % 256=n
 omega
theorem zev_ {n:Int} (h:0<=n/\n<=4294967295):ZN_ (zd_ n 4)=n:=by
 rw [at4,Int.fdiv_eq_ediv_of_nonneg _ (by decide),Int.fdiv_eq_ediv_of_nonneg _ (by decide),Int.fdiv_eq_ediv_of_nonneg _ (by decide)]
 show (((0*256+n / 16777216 % 256)*256+n / 65536 % 256)*256+n / 256 % 256)*256+n % 256=n
 omega
theorem zeO_ {a b:Int} (ha:0<=a/\a<=255) (hb:0<=b/\b<=255):zd_ (ZN_ [a,b]) 2=[a,b]:=by
 have e:ZN_ [a,b]=a*256+b:=by show (0*256+a)*256+b=_;omega
 rw [e,at2,Int.fdiv_eq_ediv_of_nonneg _ (by decide),show (a*256+b) / 256 % 256=a by omega,show (a*256+b) % 256=b by omega]
theorem zeN_ {a b c d:Int} (ha:0<=a/\a<=255) (hb:0<=b/\b<=255) (hc:0<=c/\c<=255) (hd:0<=d/\d<=255):zd_ (ZN_ [a,b,c,d]) 4=[a,b,c,d]:=by
 have e:ZN_ [a,b,c,d]=((a*256+b)*256+c)*256+d:=by show (((0*256+a)*256+b)*256+c)*256+d=_;omega
 rw [e,at4,Int.fdiv_eq_ediv_of_nonneg _ (by decide),Int.fdiv_eq_ediv_of_nonneg _ (by decide),Int.fdiv_eq_ediv_of_nonneg _ (by decide),
  show (((a*256+b)*256+c)*256+d) / 16777216 % 256=a by omega,show (((a*256+b)*256+c)*256+d) / 65536 % 256=b by omega,
  show (((a*256+b)*256+c)*256+d) / 256 % 256=c by omega,show (((a*256+b)*256+c)*256+d) % 256=d by omega]
def hI (h:Bool):Int:=if h=true then 1 else 0
theorem zct_ {c f:Int} {h:Bool} {x:Int} {v m:List Int} (hr:zM_ c f h x v m=true) (hx:0<=x) (L:List Int) (h0:L.take 4=(Qw_ c f h x v m).take 4):zz_ L=c/\zR_ L=f/\ZX_ L=h/\L.getD 3 0=z5_ c v m:=by
 obtain ⟨n1,n2,n3,n4,n5,n6,n7,n8⟩:=qt_ hr
 have hc:0<=c/\c<=65535:=by omega
 have e1:(Qw_ c f h x v m).take 4=[c.fdiv 256 % 256,c % 256,2*f+(if h=true then 1 else 0),z5_ c v m]:=by
  unfold Qw_;rw [at2,<- n8];rfl
 rw [e1] at h0
 have e2:L.take 2=zd_ c 2:=by
  rw [at2,show L.take 2=(L.take 4).take 2 by rw [List.take_take];rfl,h0];rfl
 have e3:∀ k < 4,L.getD k 0=(L.take 4).getD k 0:=fun k hk=>(xV_ hk).symm
 have g2:L.getD 2 0=2*f+(if h=true then 1 else 0):=by rw [e3 2 (by decide),h0];rfl
 have g3:L.getD 3 0=z5_ c v m:=by rw [e3 3 (by decide),h0];rfl
 refine ⟨?_,?_,?_,g3⟩
 ·unfold zz_;rw [e2,num2 hc]
 ·unfold zR_;rw [g2,ka_ (by split<;>omega)];split<;>omega
 ·unfold ZX_;rw [g2,W1_ (by split<;>omega)]
  cases h with
  | true=>exact decide_eq_true (by simp only [if_true];omega)
  | false=>exact decide_eq_false (by simp only [Bool.false_eq_true,if_false];omega)
theorem zdM_ {c f:Int} {h:Bool} {x:Int} {v m:List Int} (hr:zM_ c f h x v m=true) {L:List Int} (hC:zz_ L=c) (hF:zR_ L=f) (hH:ZX_ L=h) (h3:L.getD 3 0=z5_ c v m):Zv_ L=v.length/\Kn_ L=true:=by
 obtain ⟨n1,n2,n3,n4,n5,n6,n7,n8⟩:=qt_ hr
 obtain ⟨r1,r2,r3,r4,r5,r6,r7,r8⟩:=KZ_ hr
 unfold Zv_ Kn_
 rw [hC,hF,hH,h3]
 rcases n3 with hc | hc
 ·have he:Zl_ c=true:=decide_eq_true hc
  have hz:qw_ c f=100:=if_pos hc
  have hre:z5_ c v m=v.length+m.length+4:=if_pos hc
  unfold va_ xs_
  rw [he,hz,hre,if_pos rfl,if_pos rfl]
  cases h with
  | true=>
    have:=r2 rfl
    simp only [if_true,Bool.and_eq_true,decide_eq_true_eq]
    rw [ka_ (by omega),W1_ (by omega)];omega
  | false=>
    have:=r3 rfl
    simp only [Bool.false_eq_true,if_false,Bool.and_eq_true,decide_eq_true_eq]
    rw [ka_ (by omega),W1_ (by omega)];omega
 ·have he:Zl_ c=false:=decide_eq_false (by omega)
  have hz:qw_ c f=wr_ f:=if_neg (by omega)
  have hre:z5_ c v m=v.length+m.length:=if_neg (by omega)
  have hv:(v.length:Int)=wr_ f:=by
   have hfit:Wo_ f v=true:=by
    cases hh:Wo_ f v with
    | true=>rfl
    | false=>
      rw [he] at r8
      unfold k4_ at r8;rw [if_pos ⟨rfl,hh⟩] at r8;exact absurd r8 (by decide)
   unfold Wo_ at hfit
   split at hfit
   ·rename_i hh
    have hi:fIs f=true:=kq_.2 hh.1
    rw [hh.2];unfold wr_;rw [hi];rfl
   ·cases hfit
  unfold va_ xs_
  rw [he,hz,hre]
  cases h with
  | true=>
    have:=r2 rfl
    simp only [Bool.false_eq_true,if_false,if_true,decide_eq_true_eq];omega
  | false=>
    have:=r3 rfl
    simp only [Bool.false_eq_true,if_false,decide_eq_true_eq];omega
theorem mid {p v r:List Int} {A S:Int} (hA:A=p.length) (hS:S=v.length):((p++(v++r)).take (A+S).toNat).drop A.toNat=v:=by
 subst hA hS
 rw [show ((p.length:Int)+v.length).toNat=p.length+v.length by omega,Int.toNat_natCast,<- List.append_assoc,<- List.length_append,List.take_left,List.drop_left]
theorem zcA_ {c f:Int} {h:Bool} {x:Int} {v m b:List Int} (hr:zM_ c f h x v m=true) (hx:0<=x):Zb_ (Qw_ c f h x v m++b)=0/\zz_ (Qw_ c f h x v m++b)=c/\zR_ (Qw_ c f h x v m++b)=f/\ZX_ (Qw_ c f h x v m++b)=h/\Q0_ (Qw_ c f h x v m++b)=x/\qz_ (Qw_ c f h x v m++b)=v/\qp_ (Qw_ c f h x v m++b)=m/\Z7_ (Qw_ c f h x v m++b)=(Qw_ c f h x v m).length:=by
 obtain ⟨n1,n2,n3,n4,n5,n6,n7,n8⟩:=qt_ hr
 obtain ⟨r1,r2,r3,r4,r5,r6,r7,r8⟩:=KZ_ hr
 have hl2:=zk_ (n:=c) (w:=2) (by decide)
 have hl4:=zk_ (n:=x) (w:=4) (by decide)
 have hlen:((Qw_ c f h x v m).length:Int)=4+z5_ c v m:=by
  rw [n8];unfold Qw_;simp only [List.length_append,List.length_cons,List.length_nil];omega
 obtain ⟨L,hL⟩:∃ L,L=Qw_ c f h x v m++b:=⟨_,rfl⟩
 have hLl:(L.length:Int)=4+z5_ c v m+b.length:=by rw [hL,List.length_append];omega
 have ht:L.take 4=(Qw_ c f h x v m).take 4:=by rw [hL,List.take_append_of_le_length (by omega)]
 obtain ⟨hC,hF,hH,h3⟩:=zct_ hr hx L ht
 obtain ⟨hS,hK⟩:=zdM_ hr hC hF hH h3
 rw [<- hL]
 have hsplit:L=(zd_ c 2++[2*f+(if h=true then 1 else 0),((wE_ c x v m).length:Int)]++(if c=65535 then zd_ x 4 else []))++(v++(m++b)):=by
  rw [hL];unfold Qw_;rw [show wE_ c x v m=(if c=65535 then zd_ x 4 else [])++v++m from rfl];simp only [List.append_assoc]
 obtain ⟨p,hp⟩:∃ p,p=zd_ c 2++[2*f+(if h=true then 1 else 0),((wE_ c x v m).length:Int)]++(if c=65535 then zd_ x 4 else []):=⟨_,rfl⟩
 rw [<- hp] at hsplit
 have hA:kB_ L=p.length:=by
  unfold kB_;rw [hC,hp]
  split
  ·simp only [List.length_append,List.length_cons,List.length_nil];omega
  ·simp only [List.length_append,List.length_cons,List.length_nil];omega
 have hX:Q0_ L=x:=by
  unfold Q0_;rw [hC]
  by_cases hc:c=65535
  ·rw [if_pos hc]
   have hx4:x<=4294967295:=by have:=(zu x hx).1 r7;omega
   have e:(L.drop 4).take 4=zd_ x 4:=by
    rw [hsplit,hp,if_pos hc,at2,at4];rfl
   rw [e,zev_ ⟨hx,hx4⟩]
  ·rw [if_neg hc]
   have he:Zl_ c=false:=decide_eq_false hc
   rw [he] at r6
   exact (r6.resolve_left (by decide)).symm
 have hV:qz_ L=v:=by
  unfold qz_;rw [hA,hS];rw [hsplit];exact mid rfl rfl
 have hM:qp_ L=m:=by
  unfold qp_
  cases h with
  | true=>
    rw [hH,if_pos rfl,hA,hS,hsplit,<- List.append_assoc]
    have:=r2 rfl
    exact mid (p:=p++v) (r:=b) (by rw [List.length_append];omega) (by omega)
  | false=>
    rw [hH]
    exact (List.eq_nil_of_length_eq_zero (r3 rfl)).symm
 have hN:Z7_ L=(Qw_ c f h x v m).length:=by
  unfold Z7_;rw [hH,hS]
  have hre:z5_ c v m=(if c=65535 then 4 else 0)+v.length+m.length:=by unfold z5_;split<;>omega
  rw [hlen,hre]
  unfold kB_;rw [hC]
  cases h with
  | true=>have:=r2 rfl;simp only [if_true];split<;>omega
  | false=>have:=r3 rfl;simp only [Bool.false_eq_true,if_false];split<;>omega
 refine ⟨?_,hC,hF,hH,hX,hV,hM,hN⟩
 rw [K3_ (by omega) (by rw [hC,hF];exact r4) (fun hh=>by rw [hC,hF];exact r5 (hH.symm.trans hh)) hK (by rw [h3];omega),hC,hF,hH,hV,hM]
 exact r8
theorem bM_ {b:List Int} (hb:∀ x ∈ b,0<=x/\x<=255) (h0:Zb_ b=0):zM_ (zz_ b) (zR_ b) (ZX_ b) (Q0_ b) (qz_ b) (qp_ b)=true/\Qw_ (zz_ b) (zR_ b) (ZX_ b) (Q0_ b) (qz_ b) (qp_ b)=b.take (Z7_ b).toNat/\0<=Z7_ b/\Z7_ b<=b.length:=by
 have hq:=xE_ hb 2
 have hn:=xE_ hb 3
 have hof:=uD_ (zz_ b) (zR_ b)
 unfold Zb_ at h0
 by_cases h4:b.length < 4
 ·rw [if_pos h4] at h0;exact absurd h0 (by decide)
 rw [if_neg h4] at h0
 by_cases hok:KC_ (zz_ b) (zR_ b)=false
 ·rw [if_pos hok] at h0;exact absurd h0 (by decide)
 rw [if_neg hok] at h0
 by_cases hmk:ZX_ b=true/\qx_ (zz_ b) (zR_ b)=false
 ·rw [if_pos hmk] at h0;exact absurd h0 (by decide)
 rw [if_neg hmk] at h0
 by_cases hkl:Kn_ b=false\/(b.length:Int) - 4 < b.getD 3 0
 ·rw [if_pos hkl] at h0;exact absurd h0 (by decide)
 rw [if_neg hkl] at h0
 have hK:Kn_ b=true:=by cases hk:Kn_ b with | true=>rfl | false=>exact absurd (.inl hk) hkl
 have hlen:4+b.getD 3 0<=(b.length:Int):=by
  have:¬ (b.length:Int) - 4 < b.getD 3 0:=fun h=>hkl (.inr h)
  omega
 have hok':KC_ (zz_ b) (zR_ b)=true:=by simpa using hok
 obtain ⟨d1,d2,d3⟩:=bO_ hn.1 hof.1 hK
 have hcc:zz_ b=65535\/zz_ b=32768:=by
  unfold KC_ at hok'
  split at hok'
  ·left;assumption
  ·right;simp only [Bool.and_eq_true,decide_eq_true_eq] at hok';exact hok'.2
 have hA0:0<=kB_ b:=by unfold kB_;split<;>decide
 have hVl:((qz_ b).length:Int)=Zv_ b:=ZI_ hA0 d1 (by unfold Z7_ at d2;split at d2<;>omega)
 have hMl:((qp_ b).length:Int)=if ZX_ b=true then Zv_ b else 0:=by
  unfold qp_
  by_cases hh:ZX_ b=true
  ·rw [if_pos hh,if_pos hh]
   exact ZI_ (by omega) d1 (by unfold Z7_ at d2;rw [if_pos hh] at d2;omega)
  ·rw [if_neg hh,if_neg hh];rfl
 have hX:0<=Q0_ b/\Q0_ b < 4294967296:=by
  unfold Q0_
  split
  ·have:=xp_ ((b.drop 4).take 4) fun y hy=>hb y (List.mem_of_mem_drop (List.mem_of_mem_take hy))
   have h2:∀ k ≤ 4,(256:Int) ^ k<=4294967296:=by decide
   have:=h2 ((b.drop 4).take 4).length (by rw [List.length_take];omega)
   omega
  ·decide
 have hR:zM_ (zz_ b) (zR_ b) (ZX_ b) (Q0_ b) (qz_ b) (qp_ b)=true:=by
  unfold zM_
  rw [hok',(zu _ hX.1).2 hX.2,h0,decide_eq_true (show ((qz_ b).length:Int)<=qw_ (zz_ b) (zR_ b) by omega)]
  have hx0:(Zl_ (zz_ b) || decide (Q0_ b=0))=true:=by
   rcases hcc with hc | hc
   ·rw [show Zl_ (zz_ b)=true from decide_eq_true hc];rfl
   ·rw [show Q0_ b=0 from if_neg (by omega)];simp
  rw [hx0]
  cases hh:ZX_ b with
  | true=>
    have hm1:qx_ (zz_ b) (zR_ b)=true:=by
     cases hq:qx_ (zz_ b) (zR_ b) with
     | true=>rfl
     | false=>exact absurd ⟨hh,hq⟩ hmk
    rw [hh,if_pos rfl] at hMl
    rw [hm1,decide_eq_true (show ((qp_ b).length:Int)=(qz_ b).length by omega)];rfl
  | false=>
    rw [hh] at hMl
    simp only [Bool.false_eq_true,if_false] at hMl
    rw [decide_eq_true (show (qp_ b).length=0 by omega)];rfl
 refine ⟨hR,?_,by omega,by omega⟩
 obtain ⟨a0,a1,a2,a3,r,hbd⟩:=zc7_ (l:=b) (by omega)
 have q0:=hb a0 (by rw [hbd];simp)
 have q1:=hb a1 (by rw [hbd];simp)
 have q2:=hb a2 (by rw [hbd];simp)
 have q3:=hb a3 (by rw [hbd];simp)
 obtain ⟨n1,n2,n3,n4,n5,n6,n7,n8⟩:=qt_ hR
 have g2:b.getD 2 0=a2:=by rw [hbd];rfl
 have g3:b.getD 3 0=a3:=by rw [hbd];rfl
 have c2:zd_ (zz_ b) 2=[a0,a1]:=by unfold zz_;rw [hbd];exact zeO_ q0 q1
 have hf:2*zR_ b+(if ZX_ b=true then 1 else 0)=a2:=by
  unfold zR_ ZX_;rw [g2,ka_ q2.1,W1_ q2.1]
  by_cases h1:a2 % 2=1
  ·rw [decide_eq_true h1,if_pos rfl];omega
  ·rw [decide_eq_false h1];simp only [Bool.false_eq_true,if_false];omega
 have hrl:z5_ (zz_ b) (qz_ b) (qp_ b)=a3:=by
  unfold z5_
  rw [hVl,hMl,<- g3]
  unfold Z7_ kB_ at d2
  by_cases hh:ZX_ b=true
  ·rw [if_pos hh] at d2 ⊢
   by_cases hc:zz_ b=65535
   ·rw [if_pos hc] at d2 ⊢;omega
   ·rw [if_neg hc] at d2 ⊢;omega
  ·rw [if_neg hh] at d2 ⊢
   by_cases hc:zz_ b=65535
   ·rw [if_pos hc] at d2 ⊢;omega
   ·rw [if_neg hc] at d2 ⊢;omega
 have hbody:wE_ (zz_ b) (Q0_ b) (qz_ b) (qp_ b)=r.take a3.toNat:=by
  have hdr:b.drop 4=r:=by rw [hbd];rfl
  have hXb:(if zz_ b=65535 then zd_ (Q0_ b) 4 else [])=(b.take (kB_ b).toNat).drop 4:=by
   by_cases hc:zz_ b=65535
   ·have hA8:kB_ b=8:=if_pos hc
    have hl8:8<=b.length:=by unfold Z7_ at d2;rw [hA8] at d2;split at d2<;>omega
    rw [if_pos hc,hA8]
    have hXe:Q0_ b=ZN_ ((b.drop 4).take 4):=if_pos hc
    rw [hXe,hdr]
    have hrl8:4<=r.length:=by rw [hbd] at hl8;simp only [List.length_cons] at hl8;omega
    obtain ⟨x0,x1,x2,x3,s,hrd⟩:=zc7_ hrl8
    have hmr:∀ y ∈ r,0<=y/\y<=255:=fun y hy=>hb y (by rw [hbd];simp [hy])
    have y0:=hmr x0 (by rw [hrd];simp)
    have y1:=hmr x1 (by rw [hrd];simp)
    have y2:=hmr x2 (by rw [hrd];simp)
    have y3:=hmr x3 (by rw [hrd];simp)
    rw [hrd,show (x0 :: x1 :: x2 :: x3 :: s).take 4=[x0,x1,x2,x3] from rfl,zeN_ y0 y1 y2 y3,hbd,hrd];rfl
   ·have hA4:kB_ b=4:=if_neg hc
    rw [if_neg hc,hA4,hbd];rfl
  unfold wE_
  rw [hXb]
  have hAn:4<=(kB_ b).toNat:=by unfold kB_;split<;>decide
  have j1:∀ (i j k:Nat),i<=j->j<=k->(b.take j).drop i++(b.take k).drop j=(b.take k).drop i:=fun i j k h1 h2=>by
   rw [show (b.take k).drop i=((b.take k).drop i).take (j - i)++((b.take k).drop i).drop (j - i) from (List.take_append_drop ..).symm,List.drop_drop,show i+(j - i)=j by omega,List.take_drop,show i+(j - i)=j by omega,List.take_take,Nat.min_eq_left h2]
  have hfin:∀ k:Nat,(k:Int)=Z7_ b->(b.take k).drop 4=r.take a3.toNat:=fun k hk=>by
   rw [hbd,show k=a3.toNat+4 by omega];rfl
  unfold qz_ qp_
  by_cases hh:ZX_ b=true
  ·rw [if_pos hh,j1 _ _ _ hAn (by omega),j1 _ _ _ (by omega) (by omega)]
   refine hfin _ ?_
   unfold Z7_;rw [if_pos hh];omega
  ·rw [if_neg hh,List.append_nil,j1 _ _ _ hAn (by omega)]
   refine hfin _ ?_
   unfold Z7_;rw [if_neg hh];omega
 unfold Qw_
 rw [c2,hf,<- n8,hrl,hbody,d2,g3]
 rw [hbd,show (4+a3).toNat=a3.toNat+4 by omega];rfl
theorem hD_ (w:Int):List.replicate w.toNat 0=zd_ 0 w:=by
 have:∀ j:Nat,jN_ 0 w j=0:=fun j=>by unfold jN_;rw [Int.zero_fdiv];rfl
 unfold zd_ kC_
 simp only [this,List.map_const',List.length_range]
theorem hF_ {n:Int} {k j:Nat} (h:j < k) (hk:k<=7):jN_ n ((k+1:Nat):Int) j=jN_ (n / 256) k j:=by
 unfold jN_
 have e:min (8*(((k+1:Nat):Int) - 1 - j)).toNat 64=8+8*(k - 1 - j):=by omega
 have e':min (8*((k:Int) - 1 - j)).toNat 64=8*(k - 1 - j):=by omega
 have hp:∀ m:Nat,(0:Int)<=2 ^ m:=fun m=>Int.le_of_lt (Int.pow_pos (by decide))
 rw [e,e',Int.fdiv_eq_ediv_of_nonneg _ (hp _),Int.fdiv_eq_ediv_of_nonneg _ (hp _),Int.pow_add,<- Int.ediv_ediv_of_nonneg (hp 8)]
 rfl
theorem yd_ {n:Int} {k:Nat} (hk:k<=7):zd_ n ((k+1:Nat):Int)=zd_ (n / 256) k++[n % 256]:=by
 unfold zd_ kC_
 rw [Int.toNat_natCast,Int.toNat_natCast,List.range_succ,List.map_append]
 congr 1
 ·apply List.map_congr_left
  intro j hj
  exact hF_ (List.mem_range.1 hj) hk
 ·show [jN_ n ((k+1:Nat):Int) k]=_
  unfold jN_
  have e:min (8*(((k+1:Nat):Int) - 1 - k)).toNat 64=0:=by omega
  rw [e,Int.pow_zero,Int.fdiv_one]
theorem XZ_:∀ (k:Nat) (n:Int),k<=8->0<=n->n < 256 ^ k->ZN_ (zd_ n k)=n
 | 0,n,_,h0,h1=>by
   have:n=0:=by rw [Int.pow_zero] at h1;omega
   subst this;rfl
 | k+1,n,hk,h0,h1=>by
   rw [yd_ (by omega),Xg_,XZ_ k (n / 256) (by omega) (by omega) (by rw [Int.pow_succ] at h1;exact Int.ediv_lt_of_lt_mul (by decide) h1)]
   omega
theorem Qj_:∀ (k:Nat) (b:List Int),k<=8->b.length=k->(∀ x ∈ b,0<=x/\x<=255)->zd_ (ZN_ b) k=b
 | 0,b,_,hl,_=>by
   have:b=[]:=List.eq_nil_of_length_eq_zero hl
   subst this;rfl
 | k+1,b,hk,hl,hb=>by
   rcases List.eq_nil_or_concat b with rfl | ⟨l,c,rfl⟩
   ·cases hl
   ·rw [List.concat_eq_append] at hl hb ⊢
    have hc:=hb c (by simp)
    have hl':l.length=k:=by simpa using hl
    rw [Xg_,yd_ (by omega)]
    rw [show (ZN_ l*256+c) / 256=ZN_ l by omega,show (ZN_ l*256+c) % 256=c by omega,Qj_ k l (by omega) hl' fun x hx=>hb x (by simp [hx])]
theorem hE_ (w:Int):zd_ 0 w=List.replicate w.toNat 0:=(hD_ w).symm
theorem un_ (k:Nat):Z6_ (List.replicate k 0)=true:=by
 unfold Z6_;rw [List.all_eq_true];intro x hx;rw [List.eq_of_mem_replicate hx];rfl
theorem gR_ {b:List Int} (h:Z6_ b=true):b=List.replicate b.length 0:=by
 unfold Z6_ at h
 rw [List.all_eq_true] at h
 exact List.eq_replicate_iff.2 ⟨rfl,fun x hx=>by simpa using h x hx⟩
theorem q1_:∀ (w xs b:List Int),qR_ w xs b=(qR_ w xs []).map (b++·)
 | [],xs,b=>by simp [qR_]
 | n :: r,xs,b=>by
   simp only [qR_]
   split
   ·rw [q1_ r xs (b++zd_ 0 (0 - n)),q1_ r xs ([]++zd_ 0 (0 - n)),Option.map_map]
    congr 1;funext z;simp
   ·cases xs with
    | nil=>rfl
    | cons x ys=>
      dsimp only
      split
      ·rfl
      ·rw [q1_ r ys (b++zd_ x n),q1_ r ys ([]++zd_ x n),Option.map_map]
       congr 1;funext z;simp
theorem wo_:∀ (w b o:List Int),(ZF_ w b o).2=(ZF_ w b []).2/\((ZF_ w b []).2=0->(ZF_ w b o).1=o++(ZF_ w b []).1)
 | [],b,o=>by simp [ZF_]
 | n :: r,b,o=>by
   simp only [ZF_]
   split
   ·exact ⟨rfl,fun h=>by cases h⟩
   ·split
    ·have h1:=wo_ r (b.drop (zq_ n).toNat) (o++[ZN_ (b.take (zq_ n).toNat)])
     have h2:=wo_ r (b.drop (zq_ n).toNat) ([]++[ZN_ (b.take (zq_ n).toNat)])
     refine ⟨h1.1.trans h2.1.symm,fun h=>?_⟩
     have h0:=h2.1.symm.trans h
     rw [h1.2 h0,h2.2 h0];simp
    ·split
     ·exact wo_ r (b.drop (zq_ n).toNat) o
     ·exact ⟨rfl,fun h=>by cases h⟩
theorem zdY_ {x n:Int} (h0:0<=x) (h1:x<=18446744073709551615) (hn:0 < n) (h8:n<=8) (hf:¬ (n < 8/\x.fdiv (2 ^ (min (8*n).toNat 64)) ≠ 0)):x < 256 ^ n.toNat:=by
 by_cases hlt:n < 8
 ·have hz:x.fdiv (2 ^ (min (8*n).toNat 64))=0:=Classical.byContradiction fun h=>hf ⟨hlt,h⟩
  have e:min (8*n).toNat 64=8*n.toNat:=by omega
  have hp:(0:Int) < 2 ^ (8*n.toNat):=Int.pow_pos (by decide)
  rw [e,Int.fdiv_eq_ediv_of_nonneg _ (Int.le_of_lt hp)] at hz
  have h2:=Int.lt_ediv_add_one_mul_self x hp
  rw [hz] at h2
  have e2:(2:Int) ^ (8*n.toNat)=256 ^ n.toNat:=by rw [Int.pow_mul];rfl
  rw [<- e2];omega
 ·have:n=8:=by omega
  subst this
  show x < 256 ^ 8
  omega
theorem zdK_ {x n:Int} (h0:0<=x) (hn:0 < n) (h8:n<=8) (hx:x < 256 ^ n.toNat):¬ (n < 8/\x.fdiv (2 ^ (min (8*n).toNat 64)) ≠ 0):=by
 rintro ⟨hlt,hz⟩
 apply hz
 have e:min (8*n).toNat 64=8*n.toNat:=by omega
 have hp:(0:Int) < 2 ^ (8*n.toNat):=Int.pow_pos (by decide)
 have e2:(2:Int) ^ (8*n.toNat)=256 ^ n.toNat:=by rw [Int.pow_mul];rfl
 rw [e,Int.fdiv_eq_ediv_of_nonneg _ (Int.le_of_lt hp),e2]
 exact Int.ediv_eq_zero_of_lt h0 hx
def okR (w:List Int):Prop:=∀ n ∈ w,n ≠ 0/\n<=8/\-64<=n
theorem UK_:∀ (w xs r rest:List Int),okR w->(∀ x ∈ xs,0<=x/\x<=18446744073709551615)->(w.map qv_).sum=xs.length->qR_ w xs []=some r->ZF_ w (r++rest) []=(xs,0)
 | [],xs,r,rest,_,_,hc,h=>by
   simp at hc
   have:xs=[]:=List.eq_nil_of_length_eq_zero (by omega)
   subst this;rfl
 | n :: w,xs,r,rest,hw,hx,hc,h=>by
   have hn:=hw n (by simp)
   have hw':okR w:=fun m hm=>hw m (by simp [hm])
   simp only [qR_] at h
   rw [List.map_cons,List.sum_cons] at hc
   by_cases hneg:n < 0
   ·rw [if_pos hneg,List.nil_append,q1_] at h
    have h1:qv_ n=0:=if_neg (by omega)
    obtain ⟨r',hr',rfl⟩:=Option.map_eq_some_iff.1 h
    have ih:=UK_ w xs r' rest hw' hx (by omega) hr'
    have hl:=zk_ (n:=0) (w:=0 - n) (by omega)
    have ha:=wH_ hneg
    have hln:(zd_ 0 (0 - n)).length=(zq_ n).toNat:=by omega
    simp only [ZF_]
    rw [List.append_assoc,if_neg (by rw [List.length_append];omega),if_neg (by omega),<- hln,List.take_left,List.drop_left,hE_,un_,if_pos rfl,ih]
   ·rw [if_neg hneg] at h
    have h1:qv_ n=1:=if_pos (by omega)
    cases xs with
    | nil=>cases h
    | cons x ys=>
      dsimp only at h
      by_cases hf:n < 8/\x.fdiv (2 ^ (min (8*n).toNat 64)) ≠ 0
      ·rw [if_pos hf] at h;cases h
      ·rw [if_neg hf,List.nil_append,q1_] at h
       obtain ⟨r',hr',rfl⟩:=Option.map_eq_some_iff.1 h
       have hx0:=hx x (by simp)
       have hlt:=zdY_ hx0.1 hx0.2 (by omega) hn.2.1 hf
       have ih:=UK_ w ys r' rest hw' (fun y hy=>hx y (by simp [hy])) (by rw [List.length_cons] at hc;omega) hr'
       have hl:=zk_ (n:=x) (w:=n) (by omega)
       have ha:=xH_ hneg
       have hln:(zd_ x n).length=(zq_ n).toNat:=by omega
       have hnum:ZN_ (zd_ x n)=x:=by
        have:=XZ_ n.toNat x (by omega) hx0.1 hlt
        rwa [show ((n.toNat:Nat):Int)=n by omega] at this
       simp only [ZF_]
       have hacc:=wo_ w (r'++rest) ([]++[x])
       rw [List.append_assoc,if_neg (by rw [List.length_append];omega),if_pos (by omega),<- hln,List.take_left,List.drop_left,hnum]
       rw [ih] at hacc
       exact Prod.ext ((hacc.2 rfl).trans (by simp)) hacc.1
theorem gt_:∀ (w b xs:List Int),okR w->(∀ x ∈ b,0<=x/\x<=255)->ZF_ w b []=(xs,0)->(w.map qv_).sum=xs.length/\(w.map zq_).sum<=b.length/\qR_ w xs []=some (b.take (w.map zq_).sum.toNat)
 | [],b,xs,_,_,h=>by
   simp only [ZF_,Prod.mk.injEq] at h
   obtain ⟨rfl,_⟩:=h
   exact ⟨rfl,Int.natCast_nonneg _,rfl⟩
 | n :: w,b,xs,hw,hb,h=>by
   have hn:=hw n (by simp)
   have hw':okR w:=fun m hm=>hw m (by simp [hm])
   have ha:=jO_ (n:=n)
   have hs:0<=(w.map zq_).sum:=by
    have:∀ l:List Int,0<=(l.map zq_).sum:=fun l=>by
     induction l with
     | nil=>simp
     | cons a l ih=>rw [List.map_cons,List.sum_cons];have:=jO_ (n:=a);omega
    exact this w
   have hd:(b.drop (zq_ n).toNat).length=b.length - (zq_ n).toNat:=List.length_drop
   have hbd:∀ x ∈ b.drop (zq_ n).toNat,0<=x/\x<=255:=fun x hx=>hb x (List.mem_of_mem_drop hx)
   have htk:∀ k:Nat,(b.take (zq_ n).toNat)++(b.drop (zq_ n).toNat).take k=b.take ((zq_ n).toNat+k):=fun k=>by rw [List.take_add]
   simp only [ZF_] at h
   rw [List.map_cons,List.sum_cons,List.map_cons,List.sum_cons]
   by_cases hsh:(b.length:Int) < zq_ n
   ·rw [if_pos hsh] at h;cases h
   ·rw [if_neg hsh] at h
    have htl:(b.take (zq_ n).toNat).length=(zq_ n).toNat:=by rw [List.length_take];omega
    by_cases hp:0 < n
    ·rw [if_pos hp] at h
     have hacc:=wo_ w (b.drop (zq_ n).toNat) ([]++[ZN_ (b.take (zq_ n).toNat)])
     rw [h] at hacc
     have h0:=hacc.1.symm
     obtain ⟨ys,hys⟩:∃ ys,ZF_ w (b.drop (zq_ n).toNat) []=(ys,0):=⟨_,Prod.ext rfl h0⟩
     rw [hys] at hacc
     have hxs:=hacc.2 rfl
     obtain ⟨i1,i2,i3⟩:=gt_ w _ ys hw' hbd hys
     have e1:qv_ n=1:=if_pos hp
     have ea:=xH_ (n:=n) (by omega)
     dsimp only [List.nil_append] at hxs
     rw [List.singleton_append] at hxs
     subst hxs
     have hbt:∀ x ∈ b.take (zq_ n).toNat,0<=x/\x<=255:=fun x hx=>hb x (List.mem_of_mem_take hx)
     have hnl:=xp_ (b.take (zq_ n).toNat) hbt
     have h2:=hnl.2
     rw [htl] at h2
     have e3:(zq_ n).toNat=n.toNat:=by rw [ea]
     have h4:ZN_ (b.take (zq_ n).toNat) < 256 ^ n.toNat:=by rw [<- e3];exact h2
     have hfit:¬ (n < 8/\(ZN_ (b.take (zq_ n).toNat)).fdiv (2 ^ (min (8*n).toNat 64)) ≠ 0):=zdK_ hnl.1 hp hn.2.1 h4
     have hbk:=Qj_ (zq_ n).toNat (b.take (zq_ n).toNat) (by omega) htl hbt
     rw [show (((zq_ n).toNat:Nat):Int)=n by omega] at hbk
     refine ⟨by rw [List.length_cons];omega,by omega,?_⟩
     simp only [qR_]
     rw [if_neg (by omega),if_neg hfit,List.nil_append,q1_,i3,hbk]
     show some _=_
     dsimp only;rw [htk];congr 2;omega
    ·rw [if_neg hp] at h
     by_cases hz:Z6_ (b.take (zq_ n).toNat)=true
     ·rw [if_pos hz] at h
      obtain ⟨i1,i2,i3⟩:=gt_ w _ xs hw' hbd h
      have e1:qv_ n=0:=if_neg hp
      have hze:=gR_ hz
      rw [htl] at hze
      have ea:=wH_ (n:=n) (by omega)
      refine ⟨by omega,by omega,?_⟩
      simp only [qR_]
      rw [if_pos (by omega),List.nil_append,q1_,i3,hE_,show (0 - n).toNat=(zq_ n).toNat by omega,<- hze]
      show some _=_
      dsimp only;rw [htk];congr 2;omega
     ·rw [if_neg hz] at h;cases h
theorem uA_ {w xs:List Int} (rest:List Int) (hx:∀ x ∈ xs,0<=x/\x<=18446744073709551615) (hk:Qc_ w xs=true):Z5_ w (ZZ_ w xs++rest)=(xs,0)/\(ZZ_ w xs).length=(zV_ w).toNat:=by
 unfold Qc_ at hk
 obtain ⟨r,hr⟩:=Option.isSome_iff_exists.1 hk
 have hb:ZZ_ w xs=r:=by unfold ZZ_;rw [hr];rfl
 rw [hb]
 unfold KB_ at hr
 split at hr
 ·rename_i h
  have hw:okR w:=(ZQ_.1 h.1).2
  have hc:(w.map qv_).sum=xs.length:=by have:=h.2;unfold zF_ at this;rwa [if_pos h.1] at this
  unfold Z5_ zV_
  rw [if_pos h.1,if_pos h.1]
  refine ⟨UK_ w xs r rest hw hx hc hr,?_⟩
  have hl:∀ (w xs r:List Int),okR w->qR_ w xs []=some r->(r.length:Int)=(w.map zq_).sum:=by
   intro w
   induction w with
   | nil=>intro xs r _ h;simp only [qR_,Option.some.injEq] at h;subst h;rfl
   | cons n w ih=>
     intro xs r hw h
     have hn:=hw n (by simp)
     have hw':okR w:=fun m hm=>hw m (by simp [hm])
     simp only [qR_] at h
     rw [List.map_cons,List.sum_cons]
     split at h
     ·rw [q1_] at h
      obtain ⟨r',hr',rfl⟩:=Option.map_eq_some_iff.1 h
      have:=ih _ _ hw' hr'
      have hl:=zk_ (n:=0) (w:=0 - n) (by omega)
      have ha:=wH_ (n:=n) (by assumption)
      simp only [List.nil_append,List.length_append];omega
     ·cases xs with
      | nil=>cases h
      | cons x ys=>
        dsimp only at h
        split at h
        ·cases h
        ·rw [q1_] at h
         obtain ⟨r',hr',rfl⟩:=Option.map_eq_some_iff.1 h
         have:=ih _ _ hw' hr'
         have hl:=zk_ (n:=x) (w:=n) (by omega)
         have ha:=xH_ (n:=n) (by assumption)
         simp only [List.nil_append,List.length_append];omega
  have:=hl w xs r hw hr
  omega
 ·cases hr
theorem K2_ {w b xs:List Int} (hb:∀ x ∈ b,0<=x/\x<=255) (h:Z5_ w b=(xs,0)):Qc_ w xs=true/\ZZ_ w xs=b.take (zV_ w).toNat/\zV_ w<=b.length:=by
 unfold Z5_ at h
 split at h
 ·rename_i hr
  obtain ⟨h1,h2,h3⟩:=gt_ w b xs (ZQ_.1 hr).2 hb h
  have hF:KB_ w xs=some (b.take (w.map zq_).sum.toNat):=by
   unfold KB_ zF_;rw [if_pos hr,if_pos ⟨hr,h1⟩,h3]
  unfold Qc_ ZZ_ zV_
  rw [hF,if_pos hr];exact ⟨rfl,rfl,h2⟩
 ·cases h
theorem XD_ {α:Type} {f:α->Bool} {l:List α} {i:Nat} {d:α} (h:i < l.length) (ht:(l.take i).all f=true) (hd:f (l.getD i d)=true):(l.take (i+1)).all f=true:=by
 rw [List.take_succ_eq_append_getElem h,List.all_append,ht,Bool.true_and,List.all_cons,List.all_nil,Bool.and_true]
 rwa [List.getD_eq_getElem?_getD,List.getElem?_eq_getElem h] at hd
theorem v3_ {α:Type} {f:α->Bool} {l:List α} {i:Nat} (h:l.length<=i) (ht:(l.take i).all f=true):l.all f=true:=by
 rwa [List.take_of_length_le h] at ht
theorem v2_ {α:Type} {f:α->Bool} {l:List α} {i:Nat} {d:α} (h:i < l.length) (hd:f (l.getD i d)=false):l.all f=false:=by
 rw [List.all_eq_false]
 exact ⟨l.getD i d,zW_ h d,by rw [hd];decide⟩
theorem B4_ {α:Type} {l:List α} {i:Nat} (h:i<=l.length):(l.take i).length=i:=by rw [List.length_take];omega
end Go.Eng
