/- Parts of the proof: O7, OA, OE, OI, M1. No condition. -/
import Derived.Test.YteihcoggfaenaaaGreatDoorProg
import Derived.Test.YteihcoggfaenaaaGreatDoorWH10
import Derived.KernelRfl
import Derived.Test.YteihcoggfaenaaaGreatDoorWH12
namespace Go.Eng
open Go.Proofs
set_option linter.unusedVariables false
set_option linter.unusedSimpArgs false
set_option maxRecDepth 100000
set_option maxHeartbeats 1000000
theorem zgJ_ (b:List Int):ZE_ [2,1,1] b=if b.length < 4 then ([],1) else ([Zx_ (b.take 2),b.getD 2 0,b.getD 3 0],0):=by
 have hr:Zw_ [2,1,1]=true:=by decide
 have a2:zv_ 2=2:=by decide
 have a1:zv_ 1=1:=by decide
 unfold ZE_
 rw [if_pos hr]
 unfold Zy_;unfold Zy_;unfold Zy_;unfold Zy_
 rw [a2,a1]
 by_cases h2:b.length < 2
 ·rw [if_pos (by omega),if_pos (by omega)]
 ·rw [if_neg (by omega),if_pos (by decide)]
  by_cases h3:b.length < 3
  ·rw [if_pos (by rw [List.length_drop];omega),if_pos (by omega)]
  ·rw [if_neg (by rw [List.length_drop];omega),if_pos (by decide)]
   by_cases h4:b.length < 4
   ·rw [if_pos (by rw [List.length_drop,List.length_drop];omega),if_pos (by omega)]
   ·rw [if_neg (by rw [List.length_drop,List.length_drop];omega),if_pos (by decide),if_neg h4]
    obtain _ | ⟨x,_ | ⟨y,_ | ⟨z,_ | ⟨w,r⟩⟩⟩⟩:=b
    all_goals simp at h4
    simp [Zx_]
theorem get4 (b:List Int):ZE_ [4] b=if b.length < 4 then ([],1) else ([Zx_ (b.take 4)],0):=by
 have hr:Zw_ [4]=true:=by decide
 have a4:zv_ 4=4:=by decide
 unfold ZE_
 rw [if_pos hr]
 unfold Zy_;unfold Zy_
 rw [a4]
 by_cases h4:b.length < 4
 ·rw [if_pos (by omega),if_pos h4]
 ·rw [if_neg (by omega),if_pos (by decide),if_neg h4];rfl
def zC_ (b:List Int):Int:=Zx_ (b.take 2)
def zT_ (b:List Int):Int:=(b.getD 2 0).tdiv 2
def Zu_ (b:List Int):Bool:=decide ((b.getD 2 0).tmod 2=1)
def q6_ (b:List Int):Int:=if zC_ b=65535 then Zx_ ((b.drop 4).take 4) else 0
def Kd_ (b:List Int):Int:=if zC_ b=65535 then 8 else 4
def Zt_ (b:List Int):Int:=UA_ (Zu_ b) (Zm_ (zC_ b)) (qO_ (zC_ b) (zT_ b)) (b.getD 3 0)
def jl_ (b:List Int):Bool:=y3_ (Zu_ b) (Zm_ (zC_ b)) (qO_ (zC_ b) (zT_ b)) (b.getD 3 0)
def Z7_ (b:List Int):List Int:=(b.take (Kd_ b+Zt_ b).toNat).drop (Kd_ b).toNat
def Z4_ (b:List Int):List Int:=if Zu_ b=true then (b.take (Kd_ b+Zt_ b+Zt_ b).toNat).drop (Kd_ b+Zt_ b).toNat else []
def Zg_ (b:List Int):Int:=Kd_ b+Zt_ b+if Zu_ b=true then Zt_ b else 0
def zQ_ (b:List Int):Int:=if b.length < 4 then 1026 else if jJ_ (zC_ b) (zT_ b)=false then 1031 else if Zu_ b=true/\qP_ (zC_ b) (zT_ b)=false then 1033 else if jl_ b=false\/(b.length:Int) - 4 < b.getD 3 0 then 1026 else KT_ (zT_ b) (Zu_ b) (Z7_ b) (Z4_ b) (Q2_ (zC_ b) (zT_ b)) (Zm_ (zC_ b))
def Zr_ (b:List Int) (x:Int):Int:=if zQ_ b=0 then x else 0
def Z8_ (b:List Int) (l:List Int):List Int:=if zQ_ b=0 then l else []
theorem cur4 {b:List Int} {sh od:Int} (h:4<=b.length):QR_ [2,1,1] b 0 0=[zC_ b,b.getD 2 0,b.getD 3 0]/\ky_ [2,1,1] b 0 0=4/\k8_ [2,1,1] b 0 sh od 0=0:=by
 have e:ZE_ [2,1,1] (b.drop (0:Int).toNat)=([Zx_ (b.take 2),b.getD 2 0,b.getD 3 0],0):=by
  rw [show (0:Int).toNat=0 from rfl,List.drop_zero,zgJ_,if_neg (by omega)]
 have es:zG_ [2,1,1]=4:=by decide
 unfold QR_ ky_ k8_ zP_ zZ_
 rw [e,es];exact ⟨rfl,rfl,rfl⟩
theorem cur0 {b:List Int} {sh od:Int} (h:b.length < 4):QR_ [2,1,1] b 0 0=[]/\ky_ [2,1,1] b 0 0=0/\k8_ [2,1,1] b 0 sh od 0=sh:=by
 have e:ZE_ [2,1,1] (b.drop (0:Int).toNat)=([],1):=by
  rw [show (0:Int).toNat=0 from rfl,List.drop_zero,zgJ_,if_pos (by omega)]
 unfold QR_ ky_ k8_ zP_ zZ_
 rw [e];exact ⟨rfl,rfl,rfl⟩
theorem num4 {b:List Int} {p sh od:Int} (hp:0<=p) (h:p+4<=b.length):yY_ 4 b p 0=Zx_ ((b.drop p.toNat).take 4)/\xf_ 4 b p 0=p+4/\Xx_ 4 b p sh od 0=0:=by
 have e:ZE_ [4] (b.drop p.toNat)=([Zx_ ((b.drop p.toNat).take 4)],0):=by
  rw [get4,if_neg (by rw [List.length_drop];omega)]
 have es:zG_ [4]=4:=by decide
 unfold yY_ xf_ Xx_ QR_ ky_ k8_ zP_ zZ_
 rw [e,es];exact ⟨rfl,rfl,rfl⟩
theorem Jz_ {n p sh:Int} {b:List Int} (hn:0<=n) (h:p+n<=b.length):Ql_ n b p sh 0=(b.take (p+n).toNat).drop p.toNat/\jm_ n b p sh 0=p+n/\ZW_ n b p sh 0=0:=by
 have e:ZW_ n b p sh 0=0:=by unfold ZW_;rw [if_neg (by omega),if_neg (by omega)]
 unfold Ql_ jm_;rw [e];exact ⟨rfl,rfl,rfl⟩
theorem Yh_ {b:List Int} (hb:∀ x ∈ b,0<=x/\x<=255) (i:Nat):0<=b.getD i 0/\b.getD i 0<=255:=by
 by_cases h:i < b.length
 ·exact hb _ (zU_ (α:=Int) h 0)
 ·rw [List.getD_eq_getElem?_getD,List.getElem?_eq_none (by omega)];decide
theorem zji_ {b:List Int} (hb:∀ x ∈ b,0<=x/\x<=255):0<=zC_ b/\zC_ b<=65535:=by
 have:=yZ_ (b.take 2) fun x hx=>hb x (List.mem_of_mem_take hx)
 have h2:∀ k ≤ 2,(256:Int) ^ k<=65536:=by decide
 have:=h2 (b.take 2).length (by rw [List.length_take];omega)
 unfold zC_;omega
theorem zee_ {b:List Int} (hn:0<=b.getD 3 0) (hof:0<=qO_ (zC_ b) (zT_ b)) (hk:jl_ b=true):0<=Zt_ b/\Zg_ b=4+b.getD 3 0/\Zt_ b<=qO_ (zC_ b) (zT_ b):=by
 unfold jl_ y3_ at hk
 unfold Zg_ Zt_ UA_ Kd_
 by_cases hc:zC_ b=65535
 ·have he:Zm_ (zC_ b)=true:=decide_eq_true hc
  rw [he] at hk ⊢
  rw [if_pos hc]
  rw [if_pos rfl] at hk ⊢
  simp only [Bool.and_eq_true,decide_eq_true_eq] at hk
  obtain ⟨⟨k1,k2⟩,k3⟩:=hk
  cases hh:Zu_ b with
  | true=>
    rw [hh] at k2 k3
    simp only [if_true] at k2 k3 ⊢
    rw [yu_ k1] at k2;rw [kI_ k1] at k3 ⊢;omega
  | false=>
    rw [hh] at k2 k3
    simp only [if_false,Bool.false_eq_true] at k2 k3 ⊢
    rw [kI_ k1] at k3 ⊢;omega
 ·have he:Zm_ (zC_ b)=false:=decide_eq_false hc
  rw [he] at hk ⊢
  rw [if_neg hc]
  simp only [if_false,Bool.false_eq_true,decide_eq_true_eq] at hk ⊢
  cases hh:Zu_ b with
  | true=>rw [hh] at hk;simp only [if_true] at hk ⊢;omega
  | false=>rw [hh] at hk;simp only [if_false,Bool.false_eq_true] at hk ⊢;omega
theorem zin_ {b:List Int} (hq:0<=b.getD 2 0/\b.getD 2 0<=255):0<=zT_ b/\zT_ b<=127:=by
 unfold zT_;rw [kI_ hq.1];omega
theorem ZL_ {b:List Int} {p n:Int} (hp:0<=p) (hn:0<=n) (h:p+n<=b.length):((((b.take (p+n).toNat).drop p.toNat).length:Nat):Int)=n:=by
 rw [List.length_drop,List.length_take];omega
theorem Jj_ {b:List Int} (h4:¬ b.length < 4) (hok:jJ_ (zC_ b) (zT_ b)=true) (hm:Zu_ b=true->qP_ (zC_ b) (zT_ b)=true) (hk:jl_ b=true) (hl:¬ (b.length:Int) - 4 < b.getD 3 0):zQ_ b=KT_ (zT_ b) (Zu_ b) (Z7_ b) (Z4_ b) (Q2_ (zC_ b) (zT_ b)) (Zm_ (zC_ b)):=by
 unfold zQ_
 rw [if_neg h4,if_neg (by rw [hok];decide),if_neg (fun h=>by rw [hm h.1] at h;exact absurd h.2 (by decide)),if_neg (fun h=>h.elim (by rw [hk];decide) hl)]
def GG_:IR:=
(sq (kr [0] [oD 2 (.box [.int .i64 0,.int .i64 0,.kb false,.int .u64 0,.imm (.int .u8) [],.imm (.int .u8) []]),
oD 3 (.mov (cI 0)),
oD 4 (.mov (cI 0))])
(sq (.reg [oM 14 0,
oC 15 41 [14,(cI 1026),(cI 1026)],
oM 5 15])
(sq (.reg [oM 16 5,
oD 17 (.sliceAll (.int .i64) 3 [(0,1,(cI 2)),(1,1,(cI 1)),(2,1,(cI 1))]),
oC 18 42 [16,17],
oM 6 18])
(sq (sq (kr [2,5,6] [oM 19 6,
oE 20 19,
oB 21 .eql 20 (cI 0)])
(.cond 21
(sq (kr [2,5] [oD 22 (.build [.int .i64 0,.int .i64 0,.kb false,.int .u64 0,.imm (.int .u8) [],.imm (.int .u8) []] []),
oM 23 5,
oC 24 43 [23],
oS 6 2 22,
oD 3 (.mov (cI 0)),
oM 4 24])
.ret)
.skip))
(sq (kd [2,5,6] [(oM 25 6,[]),
(oD 26 (.indexSl 1 25 (cI 0)),[]),
(oL 27 26,[]),
(oD 28 (.conv .i64 27),[]),
(oM 29 6,[0,0,0,0]),
(oD 30 (.indexSl 1 29 (cI 1)),[1,0,0,0]),
(oL 31 30,[2,0,0,0]),
(oB 32 .quo 31 (.c (.int .u64 2)),[3,0,0,0]),
(oD 33 (.conv .i64 32),[4,0,0,0]),
(oM 34 6,[0,0,0,0,0,0,0,0,0]),
(oD 35 (.indexSl 1 34 (cI 1)),[1,0,0,0,0,0,0,0,0]),
(oL 36 35,[2,0,0,0,0,0,0,0,0]),
(oB 37 .rem 36 (.c (.int .u64 2)),[3,0,0,0,0,0,0,0,0]),
(oB 38 .eql 37 (.c (.int .u64 1)),[4,0,0,0,0,0,0,0,0]),
(oD 39 (.build [.int .i64 0,.int .i64 0,.kb false,.int .u64 0,.imm (.int .u8) [],.imm (.int .u8) []] [(0,1,28),(1,1,33),(2,1,38)]),[]),
(oD 7 (.box [.int .i64 0,.int .i64 0,.kb false,.int .u64 0,.imm (.int .u8) [],.imm (.int .u8) []]),[0,0,0,0,0,0,0,0,0,0,0,0,0,0,0]),
(oS 6 7 39,[])])
(sq (kr [2,5,6,7] [oK 41 6 7,
oC 42 147 [41],
oM 40 42,
oX 43 40 0,
oX 44 40 1,
oD 8 (.box [.int .i64 0,.int .i64 0,.kb false,.kb false]),
oS 4 8 43,
oM 9 44])
(sq (kd [2,5,6,7,8,9] [(oK 46 6 7,[]),
(oK 47 4 8,[0]),
(oM 48 6,[0,0]),
(oD 49 (.indexSl 1 48 (cI 2)),[1,0]),
(oL 50 49,[2,0]),
(oD 51 (.conv .i64 50),[3,0]),
(oC 52 197 [46,47,51],[]),
(oM 45 52,[]),
(oX 53 45 0,[]),
(oX 54 45 1,[0]),
(oM 10 53,[0]),
(oM 11 54,[])])
(sq (.block 0
(sq (kr [2,5,6,7,8,9,10,11] [oM 56 9,
oD 57 (.un .not 56),
oM 55 57])
(.cond 55
(sq (.reg [oD 58 (.build [.int .i64 0,.int .i64 0,.kb false,.int .u64 0,.imm (.int .u8) [],.imm (.int .u8) []] []),
oS 6 2 58,
oD 3 (.mov (cI 0)),
oD 4 (.mov (cI 1031))])
.ret)
(sq (kr [2,5,6,7,8,10,11] [oA 60 2 7,
oL 61 60,
oM 62 61,
oT 62 63 (.fieldAddr 2 8),
oT 62 64 (.load none 63),
oT 62 65 (.un .not 64),
oP 66 62 65 cF,
oM 59 66])
(.cond 59
(sq (kr [2] [oD 67 (.build [.int .i64 0,.int .i64 0,.kb false,.int .u64 0,.imm (.int .u8) [],.imm (.int .u8) []] []),
oS 6 2 67,
oD 3 (.mov (cI 0)),
oD 4 (.mov (cI 1033))])
.ret)
(sq (kd [2,5,6,7,8,10,11] [(oM 69 11,[]),
(oD 70 (.un .not 69),[]),
(oM 71 70,[]),
(oF 71 72 (.mov 5),[]),
(oF 71 73 (.call false (.f 47) [72]),[]),
(oF 71 74 (.mov 6),[0,0]),
(oF 71 75 (.indexSl 1 74 (cI 2)),[1,0]),
(oF 71 76 (.load none 75),[2,0]),
(oF 71 77 (.conv .i64 76),[3,0]),
(oF 71 78 (.bin .lss 73 77),[]),
(oP 79 71 cT 78,[]),
(oM 68 79,[])])
(.cond 68
(sq (kr [2] [oD 80 (.build [.int .i64 0,.int .i64 0,.kb false,.int .u64 0,.imm (.int .u8) [],.imm (.int .u8) []] []),
oS 6 2 80,
oD 3 (.mov (cI 0)),
oD 4 (.mov (cI 1026))])
.ret)
(sq (kr [2,5,7,8,10] [oA 82 3 8,
oL 83 82,
oM 81 83])
(.cond 81
(.reg [oM 84 5,
oC 85 131 [84,(cI 4)],
oA 86 3 7,
oS 1 86 85])
.skip)))))))))
(sq (kr [2,5,7,8,10] [oM 87 5,
oD 88 (.mkfn 98 [87] []),
oM 12 88])
(sq (.reg [oM 89 12,
oM 90 10,
oD 91 (.call false 89 [90]),
oA 92 4 7,
oS 1 92 91])
(sq (sq (kr [2,5,7,8,10,12] [oA 93 2 7,
oL 94 93])
(.cond 94
(.reg [oM 95 12,
oM 96 10,
oD 97 (.call false 95 [96]),
oA 98 5 7,
oS 1 98 97])
.skip))
(sq (sq (kr [2,5,7,8] [oK 99 6 7,
oK 100 4 8,
oC 101 148 [99,100],
oM 13 101])
(sq (.reg [oM 102 13,
oB 103 .neq 102 (cI 0)])
(.cond 103
(sq (kr [2,13] [oD 104 (.build [.int .i64 0,.int .i64 0,.kb false,.int .u64 0,.imm (.int .u8) [],.imm (.int .u8) []] []),
oM 105 13,
oS 6 2 104,
oD 3 (.mov (cI 0)),
oM 4 105])
.ret)
.skip)))
(sq (kd [2,5,7] [(oK 106 6 7,[]),
(oM 107 5,[0]),
(oC 108 133 [107],[1]),
(oS 6 2 106,[]),
(oM 3 108,[]),
(oD 4 (.mov (cI 0)),[])])
.ret)))))))))))))
def gN_:List RD:=[.cell 2 (some 6) true [],.tmp 3 true none,.tmp 4 true none]
theorem Gd_:zj_ Tryz.prog Tryz.f181 GG_ gN_=true:=by kernel_rfl
def KB_:List AV->List Obj->Option (Prop × AV)
 | [.imm (.int .u8) b],[]=>some ((b.length<=140737488355328,.tup [.agg [.int .i64 (Zr_ b (zC_ b)),.int .i64 (Zr_ b (zT_ b)),.bool ((if zQ_ b=0 then Zu_ b else false)),.int .u64 (Zr_ b (q6_ b)),.imm (.int .u8) (Z8_ b (Z7_ b)),.imm (.int .u8) (Z8_ b (Z4_ b))],.int .i64 (Zr_ b (Zg_ b)),.int .i64 (zQ_ b)]))
 | _,_=>none
theorem WM_:zd_ Tryz.prog 181 (RoF KB_).sum:=by
 refine zi_ Tryz.func181 Gd_ (za_ (s:=RwF ZJ_) ZN_ (za_ (s:=RwF zW_) z5_ (za_ (s:=RoF zp_) zq_ (za_ (s:=RoF Yk_) uw_ (za_ (s:=RoF yl_) h4_ (za_ (s:=RoF zS_) z3_ (za_ (s:=RwF Z9_) kl_ (za_ (s:=RwF zK_) zY_ (za_ (s:=RoF jy_) XB_ (za_ (s:=RoF ZR_) qH_ (zc_ _))))))))))) fun args objs p v e=>?_
 unfold KB_ at e
 split at e
 ·rename_i b
  cases e
  refine ⟨rfl,fun hw ho hp=>?_⟩
  change List Int at b
  have hb:∀ x ∈ b,0<=x/\x<=255:=fun x hx=>(hw (.imm (.int .u8) b) (by simp)).1 x hx
  by_cases h4:b.length < 4
  ·obtain ⟨hL,hP,hE⟩:=cur0 (sh:=1026) (od:=1026) h4
   have hd:zQ_ b=1026:=by unfold zQ_;rw [if_pos h4]
   repeat'(intro t ht;first|(cases t<;>first|(cases ht;done)|(try simp only[zg_]at ht))|((first|refine zb_ ht ?_|refine ht ?_ ?_|refine ht.1 ?_ ?_|refine ht ?_)<;>clear ht))
   all_goals (try simp only [hL,hP,hE] at*)
   all_goals first
    | exact hp
    | exact absurd rfl ‹¬ ((([]:List Int).length:Int)=0)›
    | ((try simp only [zm_,zn_,zl_] at*);omega)
    | (simp only [Zr_,Z8_,hd];exact ⟨rfl,by first | rfl | exact True.intro⟩)
  ·obtain ⟨hL,hP,hE⟩:=cur4 (b:=b) (sh:=1026) (od:=1026) (by omega)
   have hC:=zji_ hb
   have hq:=Yh_ hb 2
   have hn:=Yh_ hb 3
   have hFl:=zin_ hq
   have hof:=hm_ (zC_ b) (zT_ b)
   have g0:∀ d,[zC_ b,b.getD 2 0,b.getD 3 0].getD (Int.toNat 0) d=zC_ b:=fun _=>rfl
   have g1:∀ d,[zC_ b,b.getD 2 0,b.getD 3 0].getD (Int.toNat 1) d=b.getD 2 0:=fun _=>rfl
   have g2:∀ d,[zC_ b,b.getD 2 0,b.getD 3 0].getD (Int.toNat 2) d=b.getD 3 0:=fun _=>rfl
   have gl:((([zC_ b,b.getD 2 0,b.getD 3 0]).length:Nat):Int)=3:=rfl
   have hF:(b.getD 2 0).tdiv 2=zT_ b:=rfl
   have hH:((b.getD 2 0).tmod 2=1)=(Zu_ b=true):=propext ⟨fun h=>decide_eq_true h,fun h=>of_decide_eq_true h⟩
   have hS:UA_ (Zu_ b) (Zm_ (zC_ b)) (qO_ (zC_ b) (zT_ b)) (b.getD 3 0)=Zt_ b:=rfl
   have hK:y3_ (Zu_ b) (Zm_ (zC_ b)) (qO_ (zC_ b) (zT_ b)) (b.getD 3 0)=jl_ b:=rfl
   by_cases hs:jl_ b=true/\¬ (b.length:Int) - 4 < b.getD 3 0
   ·obtain ⟨hd1,hd2,hd3⟩:=zee_ hn.1 hof.1 hs.1
    by_cases hx:zC_ b=65535
    ·have hx':Zm_ (zC_ b)=true:=decide_eq_true hx
     have h8:(8:Int)<=b.length:=by
      have h:=hs.1
      unfold jl_ y3_ at h
      rw [hx',if_pos rfl] at h
      simp only [Bool.and_eq_true,decide_eq_true_eq] at h
      omega
     cases hh:Zu_ b with
     | true=>
       have hd2':Zg_ b=Kd_ b+Zt_ b+Zt_ b:=by unfold Zg_;rw [hh];rfl
       have hA:Kd_ b=8:=if_pos hx
       obtain ⟨hN1,hN2,hN3⟩:=num4 (b:=b) (p:=4) (sh:=1026) (od:=1026) (by decide) (by omega)
       have hX:q6_ b=Zx_ ((b.drop (4:Int).toNat).take 4):=if_pos hx
       simp only [show (4:Int)+4=8 from rfl] at hN2
       obtain ⟨hT1,hT2,hT3⟩:=Jz_ (n:=Zt_ b) (p:=8) (sh:=1026) (b:=b) hd1 (by omega)
       have hV:(b.take (8+Zt_ b).toNat).drop (8:Int).toNat=Z7_ b:=by unfold Z7_;rw [hA]
       have hVl:=ZL_ (b:=b) (p:=8) (n:=Zt_ b) (by decide) hd1 (by omega)
       rw [hV] at hT1 hVl
       obtain ⟨hU1,hU2,hU3⟩:=Jz_ (n:=Zt_ b) (p:=8+Zt_ b) (sh:=1026) (b:=b) hd1 (by omega)
       have hM:(b.take (8+Zt_ b+Zt_ b).toNat).drop (8+Zt_ b).toNat=Z4_ b:=by unfold Z4_;rw [hh,hA];rfl
       have hMl:=ZL_ (b:=b) (p:=8+Zt_ b) (n:=Zt_ b) (by omega) hd1 (by omega)
       rw [hM] at hU1 hMl
       have hNN:8+Zt_ b+Zt_ b=Zg_ b:=by omega
       have hdw:jJ_ (zC_ b) (zT_ b)=true->qP_ (zC_ b) (zT_ b)=true->zQ_ b=KT_ (zT_ b) true (Z7_ b) (Z4_ b) (Q2_ (zC_ b) (zT_ b)) true:=fun h1 h3=>by rw [Jj_ h4 h1 (fun h2=>h3) hs.1 hs.2,hh,hx']
       have hdm:Zu_ b=true->qP_ (zC_ b) (zT_ b)=false->jJ_ (zC_ b) (zT_ b)=true->zQ_ b=1033:=fun h1 h2 h3=>by unfold zQ_;rw [if_neg h4,h3,h1,h2];rfl
       rw [hh] at hdm
       obtain ⟨c1,hc1⟩:∃ p:Prop,p=(jl_ b=true):=⟨_,rfl⟩
       repeat'(intro t ht;first|(cases t<;>first|(cases ht;done)|(try simp only[zg_]at ht))|((first|refine zb_ ht ?_|refine ht ?_ ?_|refine ht.1 ?_ ?_|refine ht ?_)<;>clear ht))
       all_goals (try simp only [hL,hP,hE,g0,g1,g2,gl,hF,hH,hS,hK,Bool.decide_eq_true] at*)
       all_goals (try simp only [hh,hx',hT1,hT2,hT3,hNN,Bool.false_eq_true,not_false_eq_true,not_true_eq_false,reduceCtorEq,hN1,hN2,hN3,hU1,hU2,hU3] at*)
       all_goals first
        | exact hp
        | exact (by decide)
        | omega
        | ((try simp only [zm_,zn_,zl_] at*);omega)
        | (refine ⟨fun h=>?_,?_,?_,?_⟩<;>first | omega | (simp only [List.length_nil];omega) | (cases h;done))
        | exact absurd hs.1 (by rw [‹jl_ b=false›];decide)
        | (have h0:zQ_ b=1031:=by unfold zQ_;rw [if_neg h4,if_pos (by assumption)]
           simp only [Zr_,Z8_,h0];exact ⟨rfl,by first | rfl | exact True.intro⟩)
        | (have h0:zQ_ b=1033:=hdm (by first | rfl | exact True.intro) (by assumption) (by assumption)
           simp only [Zr_,Z8_,h0];exact ⟨rfl,by first | rfl | exact True.intro⟩)
        | (have hd:=hdw (by assumption) (by assumption)
           first
            | (have h0:zQ_ b=0:=hd.trans (by assumption)
               refine ⟨?_,by first | rfl | exact True.intro⟩;first | (simp only [Zr_,Z8_,if_pos h0,h0,ite_self,hX];done) | (simp only [Zr_,Z8_,if_pos h0,h0,ite_self,hX];rfl))
            | (have h0:¬ zQ_ b=0:=by rw [hd];assumption
               refine ⟨?_,by first | rfl | exact True.intro⟩;simp only [Zr_,Z8_,if_neg h0,ite_self];rw [hd]))
     | false=>
       have hd2':Zg_ b=Kd_ b+Zt_ b:=by unfold Zg_;rw [hh];simp
       have hA:Kd_ b=8:=if_pos hx
       obtain ⟨hN1,hN2,hN3⟩:=num4 (b:=b) (p:=4) (sh:=1026) (od:=1026) (by decide) (by omega)
       have hX:q6_ b=Zx_ ((b.drop (4:Int).toNat).take 4):=if_pos hx
       simp only [show (4:Int)+4=8 from rfl] at hN2
       obtain ⟨hT1,hT2,hT3⟩:=Jz_ (n:=Zt_ b) (p:=8) (sh:=1026) (b:=b) hd1 (by omega)
       have hV:(b.take (8+Zt_ b).toNat).drop (8:Int).toNat=Z7_ b:=by unfold Z7_;rw [hA]
       have hVl:=ZL_ (b:=b) (p:=8) (n:=Zt_ b) (by decide) hd1 (by omega)
       rw [hV] at hT1 hVl
       have hM:Z4_ b=[]:=by unfold Z4_;rw [hh];rfl
       have hMl:(((Z4_ b).length:Nat):Int)=0:=by rw [hM];rfl
       have hNN:8+Zt_ b=Zg_ b:=by omega
       have hdw:jJ_ (zC_ b) (zT_ b)=true->zQ_ b=KT_ (zT_ b) false (Z7_ b) [] (Q2_ (zC_ b) (zT_ b)) true:=fun h1=>by rw [Jj_ h4 h1 (fun h2=>absurd h2 (by rw [hh];decide)) hs.1 hs.2,hh,hx',hM]
       have hdm:Zu_ b=true->qP_ (zC_ b) (zT_ b)=false->jJ_ (zC_ b) (zT_ b)=true->zQ_ b=1033:=fun h1 h2 h3=>by unfold zQ_;rw [if_neg h4,h3,h1,h2];rfl
       rw [hh] at hdm
       obtain ⟨c1,hc1⟩:∃ p:Prop,p=(jl_ b=true):=⟨_,rfl⟩
       repeat'(intro t ht;first|(cases t<;>first|(cases ht;done)|(try simp only[zg_]at ht))|((first|refine zb_ ht ?_|refine ht ?_ ?_|refine ht.1 ?_ ?_|refine ht ?_)<;>clear ht))
       all_goals (try simp only [hL,hP,hE,g0,g1,g2,gl,hF,hH,hS,hK,Bool.decide_eq_true] at*)
       all_goals (try simp only [hh,hx',hT1,hT2,hT3,hNN,Bool.false_eq_true,not_false_eq_true,not_true_eq_false,reduceCtorEq,hN1,hN2,hN3] at*)
       all_goals first
        | exact hp
        | exact (by decide)
        | omega
        | ((try simp only [zm_,zn_,zl_] at*);omega)
        | (refine ⟨fun h=>?_,?_,?_,?_⟩<;>first | omega | (simp only [List.length_nil];omega) | (cases h;done))
        | exact absurd hs.1 (by rw [‹jl_ b=false›];decide)
        | (have h0:zQ_ b=1031:=by unfold zQ_;rw [if_neg h4,if_pos (by assumption)]
           simp only [Zr_,Z8_,h0];exact ⟨rfl,by first | rfl | exact True.intro⟩)
        | (have h0:zQ_ b=1033:=hdm (by first | rfl | exact True.intro) (by assumption) (by assumption)
           simp only [Zr_,Z8_,h0];exact ⟨rfl,by first | rfl | exact True.intro⟩)
        | (have hd:=hdw (by assumption)
           first
            | (have h0:zQ_ b=0:=hd.trans (by assumption)
               refine ⟨?_,by first | rfl | exact True.intro⟩;first | (simp only [Zr_,Z8_,if_pos h0,h0,ite_self,hM,hX];done) | (simp only [Zr_,Z8_,if_pos h0,h0,ite_self,hM,hX];rfl))
            | (have h0:¬ zQ_ b=0:=by rw [hd];assumption
               refine ⟨?_,by first | rfl | exact True.intro⟩;simp only [Zr_,Z8_,if_neg h0,ite_self];rw [hd]))
    ·have hx':Zm_ (zC_ b)=false:=decide_eq_false hx
     cases hh:Zu_ b with
     | true=>
       have hd2':Zg_ b=Kd_ b+Zt_ b+Zt_ b:=by unfold Zg_;rw [hh];rfl
       have hA:Kd_ b=4:=if_neg hx
       have hX:q6_ b=0:=if_neg hx
       obtain ⟨hT1,hT2,hT3⟩:=Jz_ (n:=Zt_ b) (p:=4) (sh:=1026) (b:=b) hd1 (by omega)
       have hV:(b.take (4+Zt_ b).toNat).drop (4:Int).toNat=Z7_ b:=by unfold Z7_;rw [hA]
       have hVl:=ZL_ (b:=b) (p:=4) (n:=Zt_ b) (by decide) hd1 (by omega)
       rw [hV] at hT1 hVl
       obtain ⟨hU1,hU2,hU3⟩:=Jz_ (n:=Zt_ b) (p:=4+Zt_ b) (sh:=1026) (b:=b) hd1 (by omega)
       have hM:(b.take (4+Zt_ b+Zt_ b).toNat).drop (4+Zt_ b).toNat=Z4_ b:=by unfold Z4_;rw [hh,hA];rfl
       have hMl:=ZL_ (b:=b) (p:=4+Zt_ b) (n:=Zt_ b) (by omega) hd1 (by omega)
       rw [hM] at hU1 hMl
       have hNN:4+Zt_ b+Zt_ b=Zg_ b:=by omega
       have hdw:jJ_ (zC_ b) (zT_ b)=true->qP_ (zC_ b) (zT_ b)=true->zQ_ b=KT_ (zT_ b) true (Z7_ b) (Z4_ b) (Q2_ (zC_ b) (zT_ b)) false:=fun h1 h3=>by rw [Jj_ h4 h1 (fun h2=>h3) hs.1 hs.2,hh,hx']
       have hdm:Zu_ b=true->qP_ (zC_ b) (zT_ b)=false->jJ_ (zC_ b) (zT_ b)=true->zQ_ b=1033:=fun h1 h2 h3=>by unfold zQ_;rw [if_neg h4,h3,h1,h2];rfl
       rw [hh] at hdm
       obtain ⟨c1,hc1⟩:∃ p:Prop,p=(jl_ b=true):=⟨_,rfl⟩
       repeat'(intro t ht;first|(cases t<;>first|(cases ht;done)|(try simp only[zg_]at ht))|((first|refine zb_ ht ?_|refine ht ?_ ?_|refine ht.1 ?_ ?_|refine ht ?_)<;>clear ht))
       all_goals (try simp only [hL,hP,hE,g0,g1,g2,gl,hF,hH,hS,hK,Bool.decide_eq_true] at*)
       all_goals (try simp only [hh,hx',hT1,hT2,hT3,hNN,Bool.false_eq_true,not_false_eq_true,not_true_eq_false,reduceCtorEq,hU1,hU2,hU3] at*)
       all_goals first
        | exact hp
        | exact (by decide)
        | omega
        | ((try simp only [zm_,zn_,zl_] at*);omega)
        | (refine ⟨fun h=>?_,?_,?_,?_⟩<;>first | omega | (simp only [List.length_nil];omega) | (cases h;done))
        | exact absurd hs.1 (by rw [‹jl_ b=false›];decide)
        | (have h0:zQ_ b=1031:=by unfold zQ_;rw [if_neg h4,if_pos (by assumption)]
           simp only [Zr_,Z8_,h0];exact ⟨rfl,by first | rfl | exact True.intro⟩)
        | (have h0:zQ_ b=1033:=hdm (by first | rfl | exact True.intro) (by assumption) (by assumption)
           simp only [Zr_,Z8_,h0];exact ⟨rfl,by first | rfl | exact True.intro⟩)
        | (have hd:=hdw (by assumption) (by assumption)
           first
            | (have h0:zQ_ b=0:=hd.trans (by assumption)
               refine ⟨?_,by first | rfl | exact True.intro⟩;first | (simp only [Zr_,Z8_,if_pos h0,h0,ite_self,hX];done) | (simp only [Zr_,Z8_,if_pos h0,h0,ite_self,hX];rfl))
            | (have h0:¬ zQ_ b=0:=by rw [hd];assumption
               refine ⟨?_,by first | rfl | exact True.intro⟩;simp only [Zr_,Z8_,if_neg h0,ite_self];rw [hd]))
     | false=>
       have hd2':Zg_ b=Kd_ b+Zt_ b:=by unfold Zg_;rw [hh];simp
       have hA:Kd_ b=4:=if_neg hx
       have hX:q6_ b=0:=if_neg hx
       obtain ⟨hT1,hT2,hT3⟩:=Jz_ (n:=Zt_ b) (p:=4) (sh:=1026) (b:=b) hd1 (by omega)
       have hV:(b.take (4+Zt_ b).toNat).drop (4:Int).toNat=Z7_ b:=by unfold Z7_;rw [hA]
       have hVl:=ZL_ (b:=b) (p:=4) (n:=Zt_ b) (by decide) hd1 (by omega)
       rw [hV] at hT1 hVl
       have hM:Z4_ b=[]:=by unfold Z4_;rw [hh];rfl
       have hMl:(((Z4_ b).length:Nat):Int)=0:=by rw [hM];rfl
       have hNN:4+Zt_ b=Zg_ b:=by omega
       have hdw:jJ_ (zC_ b) (zT_ b)=true->zQ_ b=KT_ (zT_ b) false (Z7_ b) [] (Q2_ (zC_ b) (zT_ b)) false:=fun h1=>by rw [Jj_ h4 h1 (fun h2=>absurd h2 (by rw [hh];decide)) hs.1 hs.2,hh,hx',hM]
       have hdm:Zu_ b=true->qP_ (zC_ b) (zT_ b)=false->jJ_ (zC_ b) (zT_ b)=true->zQ_ b=1033:=fun h1 h2 h3=>by unfold zQ_;rw [if_neg h4,h3,h1,h2];rfl
       rw [hh] at hdm
       obtain ⟨c1,hc1⟩:∃ p:Prop,p=(jl_ b=true):=⟨_,rfl⟩
       repeat'(intro t ht;first|(cases t<;>first|(cases ht;done)|(try simp only[zg_]at ht))|((first|refine zb_ ht ?_|refine ht ?_ ?_|refine ht.1 ?_ ?_|refine ht ?_)<;>clear ht))
       all_goals (try simp only [hL,hP,hE,g0,g1,g2,gl,hF,hH,hS,hK,Bool.decide_eq_true] at*)
       all_goals (try simp only [hh,hx',hT1,hT2,hT3,hNN,Bool.false_eq_true,not_false_eq_true,not_true_eq_false,reduceCtorEq] at*)
       all_goals first
        | exact hp
        | exact (by decide)
        | omega
        | ((try simp only [zm_,zn_,zl_] at*);omega)
        | (refine ⟨fun h=>?_,?_,?_,?_⟩<;>first | omega | (simp only [List.length_nil];omega) | (cases h;done))
        | exact absurd hs.1 (by rw [‹jl_ b=false›];decide)
        | (have h0:zQ_ b=1031:=by unfold zQ_;rw [if_neg h4,if_pos (by assumption)]
           simp only [Zr_,Z8_,h0];exact ⟨rfl,by first | rfl | exact True.intro⟩)
        | (have h0:zQ_ b=1033:=hdm (by first | rfl | exact True.intro) (by assumption) (by assumption)
           simp only [Zr_,Z8_,h0];exact ⟨rfl,by first | rfl | exact True.intro⟩)
        | (have hd:=hdw (by assumption)
           first
            | (have h0:zQ_ b=0:=hd.trans (by assumption)
               refine ⟨?_,by first | rfl | exact True.intro⟩;first | (simp only [Zr_,Z8_,if_pos h0,h0,ite_self,hM,hX];done) | (simp only [Zr_,Z8_,if_pos h0,h0,ite_self,hM,hX];rfl))
            | (have h0:¬ zQ_ b=0:=by rw [hd];assumption
               refine ⟨?_,by first | rfl | exact True.intro⟩;simp only [Zr_,Z8_,if_neg h0,ite_self];rw [hd]))
   ·have hs':jl_ b=false\/(b.length:Int) - 4 < b.getD 3 0:=by
     cases hk:jl_ b with
     | false=>exact .inl rfl
     | true=>exact .inr (Decidable.by_contra fun h=>hs ⟨hk,h⟩)
    have hd3:jJ_ (zC_ b) (zT_ b)=true->(Zu_ b=true->qP_ (zC_ b) (zT_ b)=true)->zQ_ b=1026:=fun h1 h2=>by
     unfold zQ_
     rw [if_neg h4,if_neg (by rw [h1];decide),if_neg (fun h=>by rw [h2 h.1] at h;exact absurd h.2 (by decide)),if_pos hs']
    repeat'(intro t ht;first|(cases t<;>first|(cases ht;done)|(try simp only[zg_]at ht))|((first|refine zb_ ht ?_|refine ht ?_ ?_|refine ht.1 ?_ ?_|refine ht ?_)<;>clear ht))
    all_goals (try simp only [hL,hP,hE,g0,g1,g2,gl,hF,hH,hS,hK,Bool.decide_eq_true] at*)
    all_goals first
     | exact hp
     | exact (by decide)
     | exact absurd ⟨by assumption,by assumption⟩ hs
     | omega
     | ((try simp only [zm_,zn_,zl_] at*);omega)
     | (have h0:zQ_ b=1031:=by unfold zQ_;rw [if_neg h4,if_pos (by assumption)]
        simp only [Zr_,Z8_,h0];exact ⟨rfl,by first | rfl | exact True.intro⟩)
     | (have h0:zQ_ b=1033:=by unfold zQ_;rw [if_neg h4,if_neg (by simp_all;done),if_pos ⟨by assumption,by assumption⟩]
        simp only [Zr_,Z8_,h0];exact ⟨rfl,by first | rfl | exact True.intro⟩)
     | (have h0:zQ_ b=1026:=hd3 (by assumption) (fun h=>by first | assumption | exact absurd h (by assumption))
        simp only [Zr_,Z8_,h0];exact ⟨rfl,by first | rfl | exact True.intro⟩)
 ·cases e
def bi_:IR:=
(sq (kr [0,1] [oD 2 (.boxv 0),
oD 3 (.boxv 1),
oD 4 (.mov cF)])
(sq (kr [2,3] [oA 5 0 2,
oL 6 5,
oA 7 0 3,
oL 8 7,
oB 9 .eql 6 8,
oM 10 9,
oT 10 11 (.fieldAddr 1 2),
oT 10 12 (.load none 11),
oT 10 13 (.fieldAddr 1 3),
oT 10 14 (.load none 13),
oT 10 15 (.bin .eql 12 14),
oP 16 10 15 cF,
oM 17 16,
oT 17 18 (.fieldAddr 3 2),
oT 17 19 (.load none 18),
oT 17 20 (.fieldAddr 3 3),
oT 17 21 (.load none 20),
oT 17 22 (.bin .eql 19 21),
oP 23 17 22 cF,
oM 4 23])
.ret))
def Hl_:List RD:=[.tmp 4 true none]
theorem HK_:zj_ Tryz.prog Tryz.f140 bi_ Hl_=true:=by kernel_rfl
def xN_:List AV->List Obj->Option (Prop × AV)
 | [.agg [.int .i64 c,.int .i64 f,.bool h,.int .u64 x,.imm (.int .u8) v,.imm (.int .u8) m],.agg [.int .i64 c',.int .i64 f',.bool h',.int .u64 x',.imm (.int .u8) v',.imm (.int .u8) m']],[]=>some ((True,.bool (decide (c=c') && decide (f=f') && decide (x=x'))))
 | _,_=>none
theorem gE_:zd_ Tryz.prog 140 (RoF xN_).sum:=by
 refine zi_ Tryz.func140 HK_ (zc_ _) fun args objs p v e=>?_
 unfold xN_ at e
 split at e
 ·rename_i c f h x v m c' f' h' x' v' m'
  cases e
  refine ⟨rfl,fun hw ho hp=>?_⟩
  change List Int at v
  change List Int at m
  change List Int at v'
  change List Int at m'
  repeat'(intro t ht;first|(cases t<;>first|(cases ht;done)|(try simp only[zg_]at ht))|((first|refine zb_ ht ?_|refine ht ?_ ?_|refine ht.1 ?_ ?_|refine ht ?_)<;>clear ht))
  all_goals first
   | exact True.intro
   | (simp_all;done)
 ·cases e
def QH_ (c f:Int) (h:Bool) (x:Int) (v m:List Int) (c' f':Int) (h':Bool) (x':Int) (v' m':List Int):Bool:=decide (c=c') && decide (f=f') && decide (x=x') && (h == h') && decide (v=v') && decide (m=m')
theorem YF_ (c f:Int) (h:Bool) (x:Int) (v m:List Int):QH_ c f h x v m c f h x v m=true:=by unfold QH_;simp
def zaK_:IR:=
(sq (kr [0,1] [oD 2 (.boxv 0),
oD 3 (.boxv 1),
oD 4 (.mov cF)])
(sq (kr [2,3] [oK 5 6 2,
oK 6 6 3,
oC 7 140 [5,6],
oM 8 7,
oT 8 9 (.fieldAddr 2 2),
oT 8 10 (.load none 9),
oT 8 11 (.fieldAddr 2 3),
oT 8 12 (.load none 11),
oT 8 13 (.eqb false 10 12),
oP 14 8 13 cF,
oM 15 14,
oT 15 16 (.fieldAddr 4 2),
oT 15 17 (.load none 16),
oT 15 18 (.fieldAddr 4 3),
oT 15 19 (.load none 18),
oT 15 20 (.call false (.f 13) [17,19]),
oP 21 15 20 cF,
oM 22 21,
oT 22 23 (.fieldAddr 5 2),
oT 22 24 (.load none 23),
oT 22 25 (.fieldAddr 5 3),
oT 22 26 (.load none 25),
oT 22 27 (.call false (.f 13) [24,26]),
oP 28 22 27 cF,
oM 4 28])
.ret))
def Bu_:List RD:=[.tmp 4 true none]
theorem B1_:zj_ Tryz.prog Tryz.f110 zaK_ Bu_=true:=by kernel_rfl
def wx_:List AV->List Obj->Option (Prop × AV)
 | [.agg [.int .i64 c,.int .i64 f,.bool h,.int .u64 x,.imm (.int .u8) v,.imm (.int .u8) m],.agg [.int .i64 c',.int .i64 f',.bool h',.int .u64 x',.imm (.int .u8) v',.imm (.int .u8) m']],[]=>some ((True,.bool (QH_ c f h x v m c' f' h' x' v' m')))
 | _,_=>none
theorem yC_:zd_ Tryz.prog 110 (RoF wx_).sum:=by
 refine zi_ Tryz.func110 B1_ (za_ (s:=RoF xN_) gE_ (za_ (s:=RoF Zc_) z6_ (zc_ _))) fun args objs p v e=>?_
 unfold wx_ at e
 split at e
 ·rename_i c f h x v m c' f' h' x' v' m'
  cases e
  refine ⟨rfl,fun hw ho hp=>?_⟩
  change List Int at v
  change List Int at m
  change List Int at v'
  change List Int at m'
  repeat'(intro t ht;first|(cases t<;>first|(cases ht;done)|(try simp only[zg_]at ht))|((first|refine zb_ ht ?_|refine ht ?_ ?_|refine ht.1 ?_ ?_|refine ht ?_)<;>clear ht))
  all_goals first
   | exact True.intro
   | (refine ⟨?_,rfl⟩;unfold QH_;simp_all;done)
   | (refine ⟨?_,rfl⟩;unfold QH_;cases h<;>cases h'<;>simp_all;done)
   | (refine ⟨?_,rfl⟩;unfold QH_;rcases ‹(¬c=c'\/¬f=f')\/¬x=x'› with (h1 | h1) | h1<;>rw [decide_eq_false h1]<;>simp)
 ·cases e
def zc0_:IR:=
(sq (kr [0] [oD 1 (.boxv 0),
oD 2 (.mov cF)])
(sq (kr [1] [oA 3 4 1,
oL 4 3,
oE 5 4,
oB 6 .leq 5 (cI 300),
oM 7 6,
oT 7 8 (.fieldAddr 5 1),
oT 7 9 (.load none 8),
oT 7 10 (.len 9),
oT 7 11 (.bin .leq 10 (cI 300)),
oP 12 7 11 cF,
oM 2 12])
.ret))
def zb9_:List RD:=[.tmp 2 true none]
theorem zct_:zj_ Tryz.prog Tryz.f62 zc0_ zb9_=true:=by kernel_rfl
def Xn_:List AV->List Obj->Option (Prop × AV)
 | [.agg [.int .i64 c,.int .i64 f,.bool h,.int .u64 x,.imm (.int .u8) v,.imm (.int .u8) m]],[]=>some ((True,.bool (decide (v.length<=300) && decide (m.length<=300))))
 | _,_=>none
theorem vK_:zd_ Tryz.prog 62 (RoF Xn_).sum:=by
 refine zi_ Tryz.func62 zct_ (zc_ _) fun args objs p v e=>?_
 unfold Xn_ at e
 split at e
 ·rename_i c f h x v m
  cases e
  refine ⟨rfl,fun hw ho hp=>?_⟩
  change List Int at v
  change List Int at m
  repeat'(intro t ht;first|(cases t<;>first|(cases ht;done)|(try simp only[zg_]at ht))|((first|refine zb_ ht ?_|refine ht ?_ ?_|refine ht.1 ?_ ?_|refine ht ?_)<;>clear ht))
  all_goals first
   | exact True.intro
   | (simp_all;done)
   | (have e:decide (v.length<=300)=false:=decide_eq_false (by omega)
      rw [e];exact ⟨rfl,rfl⟩)
   | (have e:decide (v.length<=300)=true:=decide_eq_true (by omega)
      rw [e];refine ⟨?_,rfl⟩;rw [Bool.true_and];congr 1;rw [Bool.eq_iff_iff];simp only [decide_eq_true_eq];omega)
 ·cases e
theorem zu (x:Int) (h0:0<=x):x.fdiv (2 ^ (min (Int.toNat 32) IntKind.u64.bits))=0 ↔ x < 4294967296:=by
 rw [show (2:Int) ^ (min (Int.toNat 32) IntKind.u64.bits)=4294967296 from by decide,Int.fdiv_eq_ediv_of_nonneg _ (by decide)];omega
theorem zi5_ {n:Int} (h:0<=n/\n<=255):ze_ n 1=[n]:=by
 show [(n.fdiv (2 ^ (min (8*((1:Int) - 1 - ((0:Nat):Int))).toNat 64))) % 256]=[n]
 rw [show (min (8*((1:Int) - 1 - ((0:Nat):Int))).toNat 64)=0 from by decide,Int.pow_zero,Int.fdiv_one]
 congr 1;omega
theorem qk_ {c f:Int} {h:Bool} {x:Int} {v m:List Int} (hr:zL_ c f h x v m=true):0<=f/\f<=127/\(c=65535\/c=32768)/\(v.length:Int)<=100/\(m.length:Int)<=100/\0<=Zb_ c v m/\Zb_ c v m<=204/\Zb_ c v m=(xF_ c x v m).length:=by
 obtain ⟨r1,r2,r3,r4,_⟩:=j9_ hr
 have hof:=hm_ c f
 have hm:(m.length:Int)<=100:=by cases h;have:=r3 rfl;omega;have:=r2 rfl;omega
 have hb:Zb_ c v m=(xF_ c x v m).length:=by
  have l4:=zk_ (n:=x) (w:=4) (by decide)
  unfold Zb_ xF_
  split
  ·rw [List.length_append,List.length_append];omega
  ·rw [List.length_append,List.length_append,List.length_nil];omega
 have h0:0<=Zb_ c v m/\Zb_ c v m<=204:=by unfold Zb_;split<;>omega
 have hcf:0<=f/\f<=127/\(c=65535\/c=32768):=by
  unfold jJ_ at r4
  split at r4
  ·simp at r4;omega
  ·simp at r4;have:=k7_.1 r4.1;omega
 exact ⟨hcf.1,hcf.2.1,hcf.2.2,by omega,hm,h0.1,h0.2,hb⟩
theorem ue_ {c f:Int} {h:Bool} {x:Int} {v m:List Int} (hr:zL_ c f h x v m=true):Zq_ c f h x v m=Qh_ c f h x v m:=by
 obtain ⟨n1,n2,n3,n4,n5,n6,n7,n8⟩:=qk_ hr
 unfold Zq_ zea_ Qh_
 rw [zi5_ (n:=2*f+if h=true then 1 else 0) (by split<;>omega),zi5_ (n:=Zb_ c v m) (by omega),n8]
 unfold xF_
 simp only [List.append_assoc,List.cons_append,List.nil_append]
theorem zfI_ {c f:Int} {h:Bool} {x:Int} {v m:List Int}:Qc_ c f h x v m=((if zL_ c f h x v m=true then Qh_ c f h x v m else []).length:Int):=by
 unfold Qc_
 split
 ·rename_i hr
  obtain ⟨n1,n2,n3,n4,n5,n6,n7,n8⟩:=qk_ hr
  have l2:=zk_ (n:=c) (w:=2) (by decide)
  unfold Qh_
  rw [n8]
  simp only [List.length_append,List.length_cons,List.length_nil];omega
 ·rfl
def L1:List Int:=[128,0,10,2,8,0,7]
def L2:List Int:=[128,0,11,4,8,0,8,0]
theorem s1:zQ_ L1=0/\Zr_ L1 (zC_ L1)=32768/\Zr_ L1 (zT_ L1)=5/\Zu_ L1=false/\Zr_ L1 (q6_ L1)=0/\Z8_ L1 (Z7_ L1)=[8,0]/\Z8_ L1 (Z4_ L1)=[]/\Zr_ L1 (Zg_ L1)=6/\zQ_ L2=1033:=by decide+kernel
theorem s2:zL_ 32768 5 false 0 [8,0] []=true/\Zq_ 32768 5 false 0 [8,0] []=[128,0,10,2,8,0]:=by decide+kernel
def UR_:IR:=
(sq (kr [0,1] [oD 4 (.mov cF)])
(sq (kr [0,1] [oM 5 0,
oD 6 (.b2s 5),
oM 7 1,
oD 8 (.b2s 7),
oB 9 .eql 6 8,
oM 4 9])
.ret))
def uZ_:List RD:=[.tmp 4 true none]
theorem Ur_:zj_ Tryz.prog Tryz.f229 UR_ uZ_=true:=by kernel_rfl
def jS_:List AV->List Obj->Option (Prop × AV)
 | [.imm (.int .u8) a,.imm (.int .u8) b],[]=>some ((True,.bool (decide (a=b))))
 | _,_=>none
theorem Vj_:zd_ Tryz.prog 229 (RoF jS_).sum:=by
 refine zi_ Tryz.func229 Ur_ (zc_ _) fun args objs p v e=>?_
 unfold jS_ at e
 split at e
 ·rename_i a b
  cases e
  refine ⟨rfl,fun hw ho hp=>?_⟩
  change List Int at a
  change List Int at b
  repeat'(intro t ht;first|(cases t<;>first|(cases ht;done)|(try simp only[zg_]at ht))|((first|refine zb_ ht ?_|refine ht ?_ ?_|refine ht.1 ?_ ?_|refine ht ?_)<;>clear ht))
  all_goals first
   | exact True.intro
   | exact ⟨rfl,rfl⟩
 ·cases e
def bn_:IR:=
(sq (kr [0,1] [oD 2 (.boxv 0),
oD 3 (.boxv 1),
oD 4 (.mov cF)])
(sq (kr [2,3] [oA 5 0 2,
oL 6 5,
oA 7 0 3,
oL 8 7,
oB 9 .eql 6 8,
oM 10 9,
oT 10 11 (.fieldAddr 1 2),
oT 10 12 (.load none 11),
oT 10 13 (.fieldAddr 1 3),
oT 10 14 (.load none 13),
oT 10 15 (.bin .eql 12 14),
oP 16 10 15 cF,
oM 17 16,
oT 17 18 (.fieldAddr 3 2),
oT 17 19 (.load none 18),
oT 17 20 (.fieldAddr 3 3),
oT 17 21 (.load none 20),
oT 17 22 (.bin .eql 19 21),
oP 23 17 22 cF,
oM 4 23])
.ret))
def Hq_:List RD:=[.tmp 4 true none]
theorem HP_:zj_ Tryz.prog Tryz.f150 bn_ Hq_=true:=by kernel_rfl
def jz_:List AV->List Obj->Option (Prop × AV)
 | [.agg [.int .i64 c,.int .i64 f,.bool h,.int .u64 x,.imm (.int .u8) v,.imm (.int .u8) m],.agg [.int .i64 c',.int .i64 f',.bool h',.int .u64 x',.imm (.int .u8) v',.imm (.int .u8) m']],[]=>some ((True,.bool (decide (c=c') && decide (f=f') && decide (x=x'))))
 | _,_=>none
theorem XC_:zd_ Tryz.prog 150 (RoF jz_).sum:=by
 refine zi_ Tryz.func150 HP_ (zc_ _) fun args objs p v e=>?_
 unfold jz_ at e
 split at e
 ·rename_i c f h x v m c' f' h' x' v' m'
  cases e
  refine ⟨rfl,fun hw ho hp=>?_⟩
  change List Int at v
  change List Int at m
  change List Int at v'
  change List Int at m'
  repeat'(intro t ht;first|(cases t<;>first|(cases ht;done)|(try simp only[zg_]at ht))|((first|refine zb_ ht ?_|refine ht ?_ ?_|refine ht.1 ?_ ?_|refine ht ?_)<;>clear ht))
  all_goals first
   | exact True.intro
   | (simp_all;done)
 ·cases e
def zaQ_:IR:=
(sq (kr [0,1] [oD 2 (.boxv 0),
oD 3 (.boxv 1),
oD 4 (.mov cF)])
(sq (kr [2,3] [oK 5 6 2,
oK 6 6 3,
oC 7 150 [5,6],
oM 8 7,
oT 8 9 (.fieldAddr 2 2),
oT 8 10 (.load none 9),
oT 8 11 (.fieldAddr 2 3),
oT 8 12 (.load none 11),
oT 8 13 (.eqb false 10 12),
oP 14 8 13 cF,
oM 15 14,
oT 15 16 (.fieldAddr 4 2),
oT 15 17 (.load none 16),
oT 15 18 (.fieldAddr 4 3),
oT 15 19 (.load none 18),
oT 15 20 (.call false (.f 229) [17,19]),
oP 21 15 20 cF,
oM 22 21,
oT 22 23 (.fieldAddr 5 2),
oT 22 24 (.load none 23),
oT 22 25 (.fieldAddr 5 3),
oT 22 26 (.load none 25),
oT 22 27 (.call false (.f 229) [24,26]),
oP 28 22 27 cF,
oM 4 28])
.ret))
def BA_:List RD:=[.tmp 4 true none]
theorem B7_:zj_ Tryz.prog Tryz.f228 zaQ_ BA_=true:=by kernel_rfl
def ym_:List AV->List Obj->Option (Prop × AV)
 | [.agg [.int .i64 c,.int .i64 f,.bool h,.int .u64 x,.imm (.int .u8) v,.imm (.int .u8) m],.agg [.int .i64 c',.int .i64 f',.bool h',.int .u64 x',.imm (.int .u8) v',.imm (.int .u8) m']],[]=>some ((True,.bool (QH_ c f h x v m c' f' h' x' v' m')))
 | _,_=>none
theorem h5_:zd_ Tryz.prog 228 (RoF ym_).sum:=by
 refine zi_ Tryz.func228 B7_ (za_ (s:=RoF jz_) XC_ (za_ (s:=RoF jS_) Vj_ (zc_ _))) fun args objs p v e=>?_
 unfold ym_ at e
 split at e
 ·rename_i c f h x v m c' f' h' x' v' m'
  cases e
  refine ⟨rfl,fun hw ho hp=>?_⟩
  change List Int at v
  change List Int at m
  change List Int at v'
  change List Int at m'
  repeat'(intro t ht;first|(cases t<;>first|(cases ht;done)|(try simp only[zg_]at ht))|((first|refine zb_ ht ?_|refine ht ?_ ?_|refine ht.1 ?_ ?_|refine ht ?_)<;>clear ht))
  all_goals first
   | exact True.intro
   | (refine ⟨?_,rfl⟩;unfold QH_;simp_all;done)
   | (refine ⟨?_,rfl⟩;unfold QH_;cases h<;>cases h'<;>simp_all;done)
   | (refine ⟨?_,rfl⟩;unfold QH_;rcases ‹(¬c=c'\/¬f=f')\/¬x=x'› with (h1 | h1) | h1<;>rw [decide_eq_false h1]<;>simp)
 ·cases e
def jk_ {α:Type} (p:α->Bool):List α->Int->Int
 | [],_=>-1
 | o :: r,i=>if p o=true then i else jk_ p r (i+1)
theorem xs_ {α:Type} {p:α->Bool} {l:List α} {i:Nat} (h:l.length<=i):jk_ p (l.drop i) i=-1:=by
 rw [List.drop_of_length_le h];rfl
theorem y9_ {α:Type} {p:α->Bool} {l:List α} {i:Nat} {d:α} (h:i < l.length) (hk:p (l.getD i d)=true):jk_ p (l.drop i) i=i:=by
 rw [zI_ h d];exact if_pos hk
theorem y8_ {α:Type} {p:α->Bool} {l:List α} {i:Nat} {d:α} (h:i < l.length) (hk:p (l.getD i d)=false):jk_ p (l.drop i) i=jk_ p (l.drop (i+1)) ((i+1:Nat):Int):=by
 rw [zI_ h d];exact if_neg (by rw [hk];decide)
theorem Ji_ {α:Type} {p:α->Bool}:∀ (l:List α) (i:Int),0<=i->decide (0<=jk_ p l i)=l.any p
 | [],i,h=>rfl
 | o :: r,i,h=>by
   unfold jk_
   rw [List.any_cons]
   cases hk:p o with
   | true=>rw [if_pos rfl,decide_eq_true h];rfl
   | false=>rw [if_neg (by decide),Ji_ r (i+1) (by omega)];rfl
def nzB (c:Int):Bool:=decide (c ≠ 0)
abbrev OV:=Int × Int × Bool × Int × List Int × List Int × Unit
instance:DecidableEq (Int × List Int × List Int × Unit):=inferInstance
instance:DecidableEq OV:=inferInstance
def numW (b:List Int):Int:=b.foldl (fun n c=>Qe_ .or .u64 (IntKind.u64.wrap (n*2 ^ min (Int.toNat 8) IntKind.u64.bits)) (IntKind.u64.wrap c)) 0
theorem zeL_ {b:List Int} {i:Nat} (h:i < b.length):numW (b.take (i+1))=Qe_ .or .u64 (IntKind.u64.wrap (numW (b.take i)*2 ^ min (Int.toNat 8) IntKind.u64.bits)) (IntKind.u64.wrap (b.getD i 0)):=by
 unfold numW
 rw [List.take_succ_eq_append_getElem h,List.foldl_append,List.getD_eq_getElem?_getD,List.getElem?_eq_getElem h];rfl
def UJ_:IR:=
(sq (kr [0,1] [oD 4 (.mov (.c (.int .u64 0))),
oD 5 (.mov cF)])
(sq (sq (.reg [oM 8 0,
oE 9 8,
oD 10 (.mov (cI 0))])
(.block 0
(.loop
(sq (kr [0,1,4,8,9,10] [oB 11 .lss 10 9])
(sq (.cond 11
.skip
(.exit 0))
(sq (.block 1
(sq (.reg [oI 12 1 8 10,
oL 13 12,
oM 7 13])
(kr [0,1,4,7,8,9,10] [oM 14 4,
oB 15 .shl 14 (.c (.int .u64 8)),
oM 16 7,
oD 17 (.conv .u64 16),
oB 18 .or 15 17,
oM 4 18])))
(kr [0,1,4,8,9,10] [oB 19 .add 10 (cI 1),
oM 10 19])))))))
(sq (kr [0,1,4] [oM 20 4,
oM 21 0,
oE 22 21,
oM 23 1,
oB 24 .eql 22 23,
oM 4 20,
oM 5 24])
.ret)))
def uQ_:List RD:=[.tmp 4 true none,.tmp 5 true none]
theorem Uj_:zj_ Tryz.prog Tryz.f192 UJ_ uQ_=true:=by kernel_rfl
def jP_:List AV->List Obj->Option (Prop × AV)
 | [.imm (.int .u8) b,.int .i64 z],[]=>some ((True,.tup [.int .u64 (numW b),.bool (decide ((b.length:Int)=z))]))
 | _,_=>none
theorem Vf_:zd_ Tryz.prog 192 (RoF jP_).sum:=by
 refine zi_ Tryz.func192 Uj_ (zc_ _) fun args objs p v e=>?_
 unfold jP_ at e
 split at e
 ·rename_i b z
  cases e
  refine ⟨rfl,fun hw ho hp=>?_⟩
  change List Int at b
  have hl:b.length<=maxLen:=(hw (.imm (.int .u8) b) (by simp)).2
  unfold maxLen at hl
  clear hw ho
  repeat'(intro t ht;first|(cases t<;>first|(cases ht;done)|(try simp only[zg_]at ht))|((first|refine zb_ ht ?_|refine ht ?_ ?_|refine ht.1 ?_ ?_|refine ht ?_)<;>clear ht))
  all_goals first
   | (intro r h1 h2;clear h1;refine h2 ⟨[0,1,4,8,9,10],Nat,(fun i=>i<=b.length),fun i=>[.imm (.int .u8) b,.int .i64 z,.int .u64 (numW (b.take i)),.imm (.int .u8) b,.int .i64 b.length,.int .i64 i],fun _=>[],fun i=>b.length - i,⟨0,Nat.zero_le _,rfl,rfl⟩,?_⟩;clear h2)
  intro i hi
  repeat'(intro t ht;first|(cases t<;>first|(cases ht;done)|(try simp only[zg_]at ht))|((first|refine zb_ ht ?_|refine ht ?_ ?_)<;>clear ht)|(refine ht.1 (by simp only[zl_];omega) ?_;clear ht)|(refine ht.2 ?_;clear ht)|(refine ht ?_;clear ht))
  all_goals first
   | exact True.intro
   | ((try simp only [zm_,zn_,zl_] at*);omega)
   | (have hge:b.length<=i:=by omega
      rw [List.take_of_length_le hge];exact ⟨rfl,rfl⟩)
   | exact (by decide)
   | (refine ⟨i+1,by omega,by dsimp only;omega,?_,rfl⟩
      dsimp only
      rw [zeL_ (by omega)];rfl)
 ·cases e
def VM_:IR:=
(sq (kr [0] [oD 2 (.mov cF)])
(sq (.reg [oM 3 0,
oB 4 .neq 3 (.c (.int .u8 0)),
oM 2 4])
.ret))
def Vn_:List RD:=[.tmp 2 true none]
theorem Vz_:zj_ Tryz.prog Tryz.f191 VM_ Vn_=true:=by kernel_rfl
def qT_:List AV->List Obj->Option (Prop × AV)
 | [.int .u8 b],[]=>some ((True,.bool (nzB b)))
 | _,_=>none
theorem ks_:zd_ Tryz.prog 191 (RoF qT_).sum:=by
 refine zi_ Tryz.func191 Vz_ (zc_ _) fun args objs p v e=>?_
 unfold qT_ at e
 split at e
 ·rename_i b
  cases e
  refine ⟨rfl,fun hw ho hp=>?_⟩
  repeat'(intro t ht;first|(cases t<;>first|(cases ht;done)|(try simp only[zg_]at ht;try(exfalso;first|contradiction|omega)))|((first|refine zb_ ht ?_|refine ht ?_ ?_|refine ht.1 ?_ ?_|refine ht ?_)<;>clear ht))
  all_goals first
   | exact True.intro
   | (refine ⟨congrArg AV.bool ?_,rfl⟩;unfold nzB;simp;done)
 ·cases e
def k6_:IR:=
(sq (kr [0,1] [oD 4 (.mov (cI 0))])
(sq (sq (.reg [oM 6 0,
oE 7 6,
oD 8 (.mov (cI 0))])
(.block 0
(.loop
(sq (kr [0,1,7,8] [oB 9 .lss 8 7])
(sq (.cond 9
.skip
(.exit 0))
(sq (.block 1
(sq (.reg [oM 10 8,
oM 5 10])
(sq (kr [0,1,5,7,8] [oM 11 1,
oM 12 0,
oM 13 5,
oI 14 1 12 13,
oL 15 14,
oD 16 (.call false 11 [15])])
(.cond 16
(sq (kr [5] [oM 17 5,
oM 4 17])
.ret)
.skip))))
(kr [0,1,7,8] [oB 18 .add 8 (cI 1),
oM 8 18])))))))
(sq (kr [] [oD 4 (.mov (cI (-1)))])
.ret)))
def k1_:List RD:=[.tmp 4 true none]
theorem k4_:zj_ Tryz.prog Tryz.f207 k6_ k1_=true:=by kernel_rfl
def ZA_:List AV->List Obj->Option (Prop × AV)
 | [.imm (.int .u8) l,.fn 191 [] []],[]=>some ((True,.int .i64 (jk_ nzB l 0)))
 | _,_=>none
theorem kr_:zd_ Tryz.prog 207 (RoF ZA_).sum:=by
 refine zi_ Tryz.func207 k4_ (za_ (s:=RoF qT_) ks_ (zc_ _)) fun args objs p v e=>?_
 unfold ZA_ at e
 split at e
 ·rename_i l
  cases e
  refine ⟨rfl,fun hw ho hp=>?_⟩
  change List Int at l
  have hl:l.length<=maxLen:=(hw (.imm (.int .u8) l) (by simp)).2
  unfold maxLen at hl
  clear hw ho
  repeat'(intro t ht;first|(cases t<;>first|(cases ht;done)|(try simp only[zg_]at ht))|((first|refine zb_ ht ?_|refine ht ?_ ?_|refine ht.1 ?_ ?_|refine ht ?_)<;>clear ht))
  all_goals first
   | (intro r h1 h2;clear h1;refine h2 ⟨[0,1,7,8],Nat,(fun i=>i<=l.length/\jk_ nzB l 0=jk_ nzB (l.drop i) i),fun i=>[.imm (.int .u8) l,.fn 191 [] [],.int .i64 l.length,.int .i64 i],fun _=>[],fun i=>l.length - i,⟨0,⟨Nat.zero_le _,rfl⟩,rfl,rfl⟩,?_⟩;clear h2)
  rintro i ⟨hi,he⟩
  repeat'(intro t ht;first|(cases t<;>first|(cases ht;done)|(try simp only[zg_]at ht;try(exfalso;first|contradiction|omega)))|((first|refine zb_ ht ?_|refine ht ?_ ?_|refine ht.1 ?_ ?_|refine ht ?_)<;>clear ht))
  all_goals first
   | exact True.intro
   | ((try simp only [zm_,zn_,zl_] at*);omega)
   | (refine ⟨?_,rfl⟩;rw [he,xs_ (by omega)];done)
   | (refine ⟨?_,rfl⟩;rw [he,y9_ (d:=0) (by omega) (by assumption)];done)
   | exact ⟨i+1,⟨by omega,he.trans (y8_ (d:=0) (by omega) (by assumption))⟩,by dsimp only;omega,rfl,rfl⟩
 ·cases e
def Q5_:IR:=
(sq (kr [0,1] [oD 4 (.mov cF)])
(sq (kr [0,1] [oM 5 0,
oM 6 1,
oC 7 207 [5,6],
oB 8 .geq 7 (cI 0),
oM 4 8])
.ret))
def QX_:List RD:=[.tmp 4 true none]
theorem Q1_:zj_ Tryz.prog Tryz.f190 Q5_ QX_=true:=by kernel_rfl
def Zl_:List AV->List Obj->Option (Prop × AV)
 | [.imm (.int .u8) l,.fn 191 [] []],[]=>some ((True,.bool (l.any nzB)))
 | _,_=>none
theorem QQ_:zd_ Tryz.prog 190 (RoF Zl_).sum:=by
 refine zi_ Tryz.func190 Q1_ (za_ (s:=RoF qT_) ks_ (za_ (s:=RoF ZA_) kr_ (zc_ _))) fun args objs p v e=>?_
 unfold Zl_ at e
 split at e
 ·rename_i l
  cases e
  refine ⟨rfl,fun hw ho hp=>?_⟩
  change List Int at l
  have h:=Ji_ (p:=nzB) l 0 (Int.le_refl _)
  repeat'(intro t ht;first|(cases t<;>first|(cases ht;done)|(try simp only[zg_]at ht;try(exfalso;first|contradiction|omega)))|((first|refine zb_ ht ?_|refine ht ?_ ?_|refine ht.1 ?_ ?_|refine ht ?_)<;>clear ht))
  all_goals first
   | exact True.intro
   | exact ⟨congrArg AV.bool h,rfl⟩
 ·cases e
def k5_:IR:=
(sq (kr [0,1] [oD 4 (.mov (cI 0))])
(sq (sq (.reg [oM 6 0,
oE 7 6,
oD 8 (.mov (cI 0))])
(.block 0
(.loop
(sq (kr [0,1,7,8] [oB 9 .lss 8 7])
(sq (.cond 9
.skip
(.exit 0))
(sq (.block 1
(sq (.reg [oM 10 8,
oM 5 10])
(sq (kr [0,1,5,7,8] [oM 11 1,
oM 12 0,
oM 13 5,
oI 14 1 12 13,
oL 15 14,
oB 16 .eql 11 15])
(.cond 16
(sq (kr [5] [oM 17 5,
oM 4 17])
.ret)
.skip))))
(kr [0,1,7,8] [oB 18 .add 8 (cI 1),
oM 8 18])))))))
(sq (kr [] [oD 4 (.mov (cI (-1)))])
.ret)))
def k0_:List RD:=[.tmp 4 true none]
theorem k3_:zj_ Tryz.prog Tryz.f208 k5_ k0_=true:=by kernel_rfl
def Zz_:List AV->List Obj->Option (Prop × AV)
 | [.imm (.int .u64) l,.int .u64 x],[]=>some ((True,.int .i64 (jk_ (fun y=>decide (x=y)) l 0)))
 | _,_=>none
theorem kq_:zd_ Tryz.prog 208 (RoF Zz_).sum:=by
 refine zi_ Tryz.func208 k3_ (zc_ _) fun args objs p v e=>?_
 unfold Zz_ at e
 split at e
 ·rename_i l x
  cases e
  refine ⟨rfl,fun hw ho hp=>?_⟩
  change List Int at l
  have hl:l.length<=maxLen:=(hw (.imm (.int .u64) l) (by simp)).2
  unfold maxLen at hl
  clear hw ho
  repeat'(intro t ht;first|(cases t<;>first|(cases ht;done)|(try simp only[zg_]at ht))|((first|refine zb_ ht ?_|refine ht ?_ ?_|refine ht.1 ?_ ?_|refine ht ?_)<;>clear ht))
  all_goals first
   | (intro r h1 h2;clear h1;refine h2 ⟨[0,1,7,8],Nat,(fun i=>i<=l.length/\jk_ (fun y=>decide (x=y)) l 0=jk_ (fun y=>decide (x=y)) (l.drop i) i),fun i=>[.imm (.int .u64) l,.int .u64 x,.int .i64 l.length,.int .i64 i],fun _=>[],fun i=>l.length - i,⟨0,⟨Nat.zero_le _,rfl⟩,rfl,rfl⟩,?_⟩;clear h2)
  rintro i ⟨hi,he⟩
  repeat'(intro t ht;first|(cases t<;>first|(cases ht;done)|(try simp only[zg_]at ht;try(exfalso;first|contradiction|omega)))|((first|refine zb_ ht ?_|refine ht ?_ ?_|refine ht.1 ?_ ?_|refine ht ?_)<;>clear ht))
  all_goals first
   | exact True.intro
   | ((try simp only [zm_,zn_,zl_] at*);omega)
   | (refine ⟨?_,rfl⟩;rw [he,xs_ (by omega)];done)
   | (refine ⟨?_,rfl⟩;rw [he,y9_ (d:=0) (by omega) (show decide (x=l.getD i 0)=true from decide_eq_true (by assumption))];done)
   | exact ⟨i+1,⟨by omega,he.trans (y8_ (d:=0) (by omega) (show decide (x=l.getD i 0)=false from decide_eq_false (by assumption)))⟩,by dsimp only;omega,rfl,rfl⟩
 ·cases e
def Q4_:IR:=
(sq (kr [0,1] [oD 4 (.mov cF)])
(sq (kr [0,1] [oM 5 0,
oM 6 1,
oC 7 208 [5,6],
oB 8 .geq 7 (cI 0),
oM 4 8])
.ret))
def QW_:List RD:=[.tmp 4 true none]
theorem Q0_:zj_ Tryz.prog Tryz.f193 Q4_ QW_=true:=by kernel_rfl
def Zk_:List AV->List Obj->Option (Prop × AV)
 | [.imm (.int .u64) l,.int .u64 x],[]=>some ((True,.bool (l.any fun y=>decide (x=y))))
 | _,_=>none
theorem QP_:zd_ Tryz.prog 193 (RoF Zk_).sum:=by
 refine zi_ Tryz.func193 Q0_ (za_ (s:=RoF Zz_) kq_ (zc_ _)) fun args objs p v e=>?_
 unfold Zk_ at e
 split at e
 ·rename_i l x
  cases e
  refine ⟨rfl,fun hw ho hp=>?_⟩
  change List Int at l
  have h:=Ji_ (p:=fun y=>decide (x=y)) l 0 (Int.le_refl _)
  repeat'(intro t ht;first|(cases t<;>first|(cases ht;done)|(try simp only[zg_]at ht;try(exfalso;first|contradiction|omega)))|((first|refine zb_ ht ?_|refine ht ?_ ?_|refine ht.1 ?_ ?_|refine ht ?_)<;>clear ht))
  all_goals first
   | exact True.intro
   | exact ⟨congrArg AV.bool h,rfl⟩
 ·cases e
def metV (n:Int) (vals:List Int) (c f:Int) (h:Bool) (v:List Int):Bool:=decide (c=32768) && decide (f=n) && (if vals.length=0 then v.any nzB else decide ((v.length:Int)=jw_ n) && !h && vals.any fun y=>decide (numW v=y))
def GH_:IR:=
(sq (kr [0,1] [oD 2 (.boxv 0),
oD 3 (.boxv 1),
oD 4 (.mov cF)])
(sq (sq (kr [2,3] [oA 9 0 2,
oL 10 9,
oB 11 .neq 10 (cI 32768),
oM 12 11,
oF 12 13 (.fieldAddr 1 2),
oF 12 14 (.load none 13),
oF 12 15 (.fieldAddr 3 3),
oF 12 16 (.load none 15),
oF 12 17 (.bin .neq 14 16),
oP 18 12 cT 17])
(.cond 18
(sq (kr [] [oD 4 (.mov cF)])
.ret)
.skip))
(sq (sq (kr [2,3] [oA 19 4 3,
oL 20 19,
oE 21 20,
oB 22 .eql 21 (cI 0)])
(.cond 22
(sq (.reg [oA 23 4 2,
oL 24 23,
oC 25 190 [24,.f 191],
oM 4 25])
.ret)
.skip))
(sq (kr [2,3] [oA 27 3 3,
oL 28 27,
oC 29 170 [28],
oM 26 29,
oX 30 26 0,
oX 31 26 1,
oD 5 (.box [.int .i64 0,.int .i64 0,.kb false,.int .i64 0,.imm (.int .u64) []]),
oS 5 5 30,
oM 6 31])
(sq (kr [2,3,5] [oA 33 4 2,
oL 34 33,
oA 35 1 5,
oL 36 35,
oC 37 192 [34,36],
oM 32 37,
oX 38 32 0,
oX 39 32 1,
oM 7 38,
oM 8 39])
(sq (kr [2,3,7,8] [oM 40 8,
oM 41 40,
oT 41 42 (.fieldAddr 2 2),
oT 41 43 (.load none 42),
oT 41 44 (.un .not 43),
oP 45 41 44 cF,
oM 46 45,
oT 46 47 (.fieldAddr 4 3),
oT 46 48 (.load none 47),
oT 46 49 (.mov 7),
oT 46 50 (.call false (.f 193) [48,49]),
oP 51 46 50 cF,
oM 4 51])
.ret))))))
def gO_:List RD:=[.tmp 4 true none]
theorem Ge_:zj_ Tryz.prog Tryz.f176 GH_ gO_=true:=by kernel_rfl
def wz_:List AV->List Obj->Option (Prop × AV)
 | [.agg [.int .i64 c,.int .i64 f,.bool h,.int .u64 x,.imm (.int .u8) v,.imm (.int .u8) m],.agg [.int .i64 bits,.int .i64 size,.bool mk,.int .i64 nd,.imm (.int .u64) vals]],[]=>some ((True,.bool (metV nd vals c f h v)))
 | _,_=>none
theorem ux_:zd_ Tryz.prog 176 (RoF wz_).sum:=by
 refine zi_ Tryz.func176 Ge_ (za_ (s:=RoF Zl_) QQ_ (za_ (s:=RoF qT_) ks_ (za_ (s:=RoF jg_) JG_ (za_ (s:=RoF jP_) Vf_ (za_ (s:=RoF Zk_) QP_ (zc_ _)))))) fun args objs p v e=>?_
 unfold wz_ at e
 split at e
 ·rename_i c f h x v m bits size mk nd vals
  cases e
  refine ⟨rfl,fun hw ho hp=>?_⟩
  change List Int at v
  change List Int at m
  change List Int at vals
  clear hw ho
  by_cases h1:c=32768/\f=nd
  ·obtain ⟨rfl,rfl⟩:=h1
   have e:metV f vals 32768 f h v=if vals.length=0 then v.any nzB else decide ((v.length:Int)=jw_ f) && !h && vals.any fun y=>decide (numW v=y):=by unfold metV;simp
   rw [e]
   cases h<;>by_cases h2:vals.length=0<;>by_cases h3:(v.length:Int)=jw_ f
   all_goals repeat'(intro t ht;first|(cases t<;>first|(cases ht;done)|(try simp only[zg_]at ht;try(exfalso;first|contradiction|omega)))|((first|refine zb_ ht ?_|refine ht ?_ ?_|refine ht.1 ?_ ?_|refine ht ?_)<;>clear ht))
   all_goals first
    | exact True.intro
    | (refine ⟨congrArg AV.bool ?_,rfl⟩;simp_all;done)
    | (exfalso;simp_all;done)
  ·have e:metV nd vals c f h v=false:=by unfold metV;by_cases h2:c=32768<;>by_cases h3:f=nd<;>simp_all
   rw [e]
   cases h<;>by_cases h2:c=32768<;>by_cases h3:f=nd
   all_goals repeat'(intro t ht;first|(cases t<;>first|(cases ht;done)|(try simp only[zg_]at ht;try(exfalso;first|contradiction|omega)))|((first|refine zb_ ht ?_|refine ht ?_ ?_|refine ht.1 ?_ ?_|refine ht ?_)<;>clear ht))
   all_goals first
    | exact True.intro
    | exact ⟨rfl,rfl⟩
    | (exfalso;omega)
    | (exfalso;simp_all;done)
 ·cases e
def GI_:IR:=
(sq (kr [0,1] [oD 2 (.boxv 0),
oD 3 (.mov cF)])
(sq (.reg [oK 4 6 2,
oK 5 5 1,
oC 6 176 [4,5],
oM 3 6])
.ret))
def gP_:List RD:=[.tmp 3 true none]
theorem Gf_:zj_ Tryz.prog Tryz.f175 GI_ gP_=true:=by kernel_rfl
def KC_:List AV->List Obj->Option (Prop × AV)
 | [.agg [.int .i64 c,.int .i64 f,.bool h,.int .u64 x,.imm (.int .u8) v,.imm (.int .u8) m],.ptr 0 0],[.box [.int .i64 bits,.int .i64 size,.bool mk,.int .i64 nd,.imm (.int .u64) vals]]=>some ((True,.bool (metV nd vals c f h v)))
 | _,_=>none
theorem WN_:zd_ Tryz.prog 175 (RoF KC_).sum:=by
 refine zi_ Tryz.func175 Gf_ (za_ (s:=RoF wz_) ux_ (zc_ _)) fun args objs p v e=>?_
 unfold KC_ at e
 split at e
 ·rename_i c f h x v m bits size mk nd vals
  cases e
  refine ⟨rfl,fun hw ho hp=>?_⟩
  change List Int at v
  change List Int at m
  change List Int at vals
  clear hw ho
  repeat'(intro t ht;first|(cases t<;>first|(cases ht;done)|(try simp only[zg_]at ht;try(exfalso;first|contradiction|omega)))|((first|refine zb_ ht ?_|refine ht ?_ ?_|refine ht.1 ?_ ?_|refine ht ?_)<;>clear ht))
  all_goals first
   | exact True.intro
   | exact ⟨rfl,rfl⟩
 ·cases e
def VN_:IR:=
(sq (kr [0,1] [oD 2 (.boxv 0),
oD 3 (.mov cF)])
(sq (.reg [oK 4 6 2,
oK 5 6 1,
oC 6 150 [4,5],
oM 3 6])
.ret))
def Vo_:List RD:=[.tmp 3 true none]
theorem VA_:zj_ Tryz.prog Tryz.f149 VN_ Vo_=true:=by kernel_rfl
def ka_:List AV->List Obj->Option (Prop × AV)
 | [.agg [.int .i64 c,.int .i64 f,.bool h,.int .u64 x,.imm (.int .u8) v,.imm (.int .u8) m],.ptr 0 0],[.box [.int .i64 c',.int .i64 f',.bool h',.int .u64 x',.imm (.int .u8) v',.imm (.int .u8) m']]=>some ((True,.bool (decide (c=c') && decide (f=f') && decide (x=x'))))
 | _,_=>none
theorem jZ_:zd_ Tryz.prog 149 (RoF ka_).sum:=by
 refine zi_ Tryz.func149 VA_ (za_ (s:=RoF jz_) XC_ (zc_ _)) fun args objs p v e=>?_
 unfold ka_ at e
 split at e
 ·rename_i c f h x v m c' f' h' x' v' m'
  cases e
  refine ⟨rfl,fun hw ho hp=>?_⟩
  change List Int at v
  change List Int at m
  change List Int at v'
  change List Int at m'
  clear hw ho
  repeat'(intro t ht;first|(cases t<;>first|(cases ht;done)|(try simp only[zg_]at ht;try(exfalso;first|contradiction|omega)))|((first|refine zb_ ht ?_|refine ht ?_ ?_|refine ht.1 ?_ ?_|refine ht ?_)<;>clear ht))
  all_goals first
   | exact True.intro
   | exact ⟨rfl,rfl⟩
 ·cases e
def rgO (o:OV):Bool:=zL_ o.1 o.2.1 o.2.2.1 o.2.2.2.1 o.2.2.2.2.1 o.2.2.2.2.2.1
def szO (o:OV):Int:=Qc_ o.1 o.2.1 o.2.2.1 o.2.2.2.1 o.2.2.2.2.1 o.2.2.2.2.2.1
def ecO (o:OV):List Int:=Qh_ o.1 o.2.1 o.2.2.1 o.2.2.2.1 o.2.2.2.2.1 o.2.2.2.2.2.1
def alO (x o:OV):Bool:=decide (x.1=o.1) && decide (x.2.1=o.2.1) && decide (x.2.2.2.1=o.2.2.2.1)
theorem zlf_ {x o:OV} (h:(¬ x.1=o.1\/¬ x.2.1=o.2.1)\/¬ x.2.2.2.1=o.2.2.2.1):alO x o=false:=by
 unfold alO
 rcases h with (h | h) | h<;>simp [h]
theorem zle_ {x o:OV} (h:(x.1=o.1/\x.2.1=o.2.1)/\x.2.2.2.1=o.2.2.2.1):alO x o=true:=by
 unfold alO;rw [h.1.1,h.1.2,h.2];simp
def mtO (n:Int) (vals:List Int) (o:OV):Bool:=metV n vals o.1 o.2.1 o.2.2.1 o.2.2.2.2.1
def lenO (o:OV):Prop:=o.2.2.2.2.1.length<=100000/\o.2.2.2.2.2.1.length<=100000
theorem lenM {o:OV} (h:lenO o):o.2.2.2.2.1.length<=1000000/\o.2.2.2.2.2.1.length<=1000000:=⟨Nat.le_trans h.1 (by decide),Nat.le_trans h.2 (by decide)⟩
structure allLen (l:List OV):Prop where
 h:∀ o ∈ l,lenO o
def Y1_:IR:=
(sq (kr [0] [oD 1 (.boxv 0),
oD 2 (.mov cF)])
(sq (.reg [oK 3 6 1,
oC 4 118 [3],
oD 5 (.un .not 4),
oM 2 5])
.ret))
def YI_:List RD:=[.tmp 2 true none]
theorem YP_:zj_ Tryz.prog Tryz.f117 Y1_ YI_=true:=by kernel_rfl
def QC_:List AV->List Obj->Option (Prop × AV)
 | [.agg [.int .i64 c,.int .i64 f,.bool h,.int .u64 x,.imm (.int .u8) v,.imm (.int .u8) m]],[]=>some ((v.length<=1000000/\m.length<=1000000,.bool (!zL_ c f h x v m)))
 | _,_=>none
theorem jp_:zd_ Tryz.prog 117 (RoF QC_).sum:=by
 refine zi_ Tryz.func117 YP_ (za_ (s:=RoF QL_) kK_ (zc_ _)) fun args objs p v e=>?_
 unfold QC_ at e
 split at e
 ·rename_i c f h x v m
  cases e
  refine ⟨rfl,fun hw ho hp=>?_⟩
  change List Int at v
  change List Int at m
  clear hw ho
  repeat'(intro t ht;first|(cases t<;>first|(cases ht;done)|(try simp only[zg_]at ht;try(exfalso;first|contradiction|omega)))|((first|refine zb_ ht ?_|refine ht ?_ ?_|refine ht.1 ?_ ?_|refine ht ?_)<;>clear ht))
  all_goals first
   | exact True.intro
   | exact hp
   | exact ⟨rfl,rfl⟩
 ·cases e
def Qu_:IR:=
(sq (kr [0,1] [oD 4 (.mov (cI 0))])
(sq (sq (.reg [oM 6 0,
oE 7 6,
oD 8 (.mov (cI 0))])
(.block 0
(.loop
(sq (kr [0,1,7,8] [oB 9 .lss 8 7])
(sq (.cond 9
.skip
(.exit 0))
(sq (.block 1
(sq (.reg [oM 10 8,
oM 5 10])
(sq (kr [0,1,5,7,8] [oM 11 1,
oM 12 0,
oM 13 5,
oI 14 6 12 13,
oK 15 6 14,
oD 16 (.call false 11 [15])])
(.cond 16
(sq (kr [5] [oM 17 5,
oM 4 17])
.ret)
.skip))))
(kr [0,1,7,8] [oB 18 .add 8 (cI 1),
oM 8 18])))))))
(sq (kr [] [oD 4 (.mov (cI (-1)))])
.ret)))
def Qq_:List RD:=[.tmp 4 true none]
theorem Qs_:zj_ Tryz.prog Tryz.f146 Qu_ Qq_=true:=by kernel_rfl
def Za_:List AV->List Obj->Option (Prop × AV)
 | [.imm (.cons (.int .i64) (.cons (.int .i64) (.cons .bool (.cons (.int .u64) (.cons (.sl (.int .u8)) (.cons (.sl (.int .u8)) .nil)))))) l,.fn 175 [] [.ptr 0 0]],[.box [.int .i64 bits,.int .i64 size,.bool mk,.int .i64 nd,.imm (.int .u64) vals]]=>some ((True,.int .i64 (jk_ (α:=OV) (mtO nd vals) l 0)))
 | [.imm (.cons (.int .i64) (.cons (.int .i64) (.cons .bool (.cons (.int .u64) (.cons (.sl (.int .u8)) (.cons (.sl (.int .u8)) .nil)))))) l,.fn 149 [] [.ptr 0 0]],[.box [.int .i64 c',.int .i64 f',.bool h',.int .u64 x',.imm (.int .u8) v',.imm (.int .u8) m']]=>some ((True,.int .i64 (jk_ (α:=OV) (fun x=>alO x (c',f',h',x',v',m',())) l 0)))
 | [.imm (.cons (.int .i64) (.cons (.int .i64) (.cons .bool (.cons (.int .u64) (.cons (.sl (.int .u8)) (.cons (.sl (.int .u8)) .nil)))))) l,.fn 117 [] []],[]=>some ((allLen l,.int .i64 (jk_ (α:=OV) (fun o=>!rgO o) l 0)))
 | _,_=>none
theorem Qg_:zd_ Tryz.prog 146 (RoF Za_).sum:=by
 refine zi_ Tryz.func146 Qs_ (za_ (s:=RoF QC_) jp_ (za_ (s:=RoF ka_) jZ_ (za_ (s:=RoF KC_) WN_ (zc_ _)))) fun args objs p v e=>?_
 unfold Za_ at e
 split at e
 ·rename_i l bits size mk nd vals
  cases e
  refine ⟨rfl,fun hw ho hp=>?_⟩
  change List Int at vals
  change List OV at l
  have hl:l.length<=maxLen:=(hw (.imm Y1 l) (by simp)).2
  unfold maxLen at hl
  clear hw ho
  repeat'(intro t ht;first|(cases t<;>first|(cases ht;done)|(try simp only[zg_]at ht))|((first|refine zb_ ht ?_|refine ht ?_ ?_|refine ht.1 ?_ ?_|refine ht ?_)<;>clear ht))
  all_goals first
   | (intro r h1 h2;clear h1;refine h2 ⟨[0,1,7,8],Nat,(fun i=>i<=l.length/\jk_ (mtO nd vals) l 0=jk_ (mtO nd vals) (l.drop i) i),fun i=>[.imm Y1 l,.fn 175 [] [.ptr 0 0],.int .i64 l.length,.int .i64 i],fun _=>[.box [.int .i64 bits,.int .i64 size,.bool mk,.int .i64 nd,.imm (.int .u64) vals]],fun i=>l.length - i,⟨0,⟨Nat.zero_le _,rfl⟩,rfl,rfl⟩,?_⟩;clear h2)
  rintro i ⟨hi,he⟩
  repeat'(intro t ht;first|(cases t<;>first|(cases ht;done)|(try simp only[zg_]at ht;try(exfalso;first|contradiction|omega)))|((first|refine zb_ ht ?_|refine ht ?_ ?_|refine ht.1 ?_ ?_|refine ht ?_)<;>clear ht))
  all_goals (try generalize (Ty.dflt Y1)=od at*)
  all_goals first
   | exact True.intro
   | ((try simp only [zm_,zn_,zl_] at*);omega)
   | (refine ⟨?_,rfl⟩;rw [he,xs_ (by omega)];done)
   | (refine ⟨?_,rfl⟩;rw [he,y9_ (d:=od) (by omega) (by assumption)];done)
   | exact ⟨i+1,⟨by omega,he.trans (y8_ (d:=od) (by omega) (by assumption))⟩,by dsimp only;omega,rfl,rfl⟩
 ·rename_i l c' f' h' x' v' m'
  cases e
  refine ⟨rfl,fun hw ho hp=>?_⟩
  change List Int at v'
  change List Int at m'
  change List OV at l
  have hl:l.length<=maxLen:=(hw (.imm Y1 l) (by simp)).2
  unfold maxLen at hl
  clear hw ho
  repeat'(intro t ht;first|(cases t<;>first|(cases ht;done)|(try simp only[zg_]at ht))|((first|refine zb_ ht ?_|refine ht ?_ ?_|refine ht.1 ?_ ?_|refine ht ?_)<;>clear ht))
  all_goals first
   | (intro r h1 h2;clear h1;refine h2 ⟨[0,1,7,8],Nat,(fun i=>i<=l.length/\jk_ (fun x=>alO x (c',f',h',x',v',m',())) l 0=jk_ (fun x=>alO x (c',f',h',x',v',m',())) (l.drop i) i),fun i=>[.imm Y1 l,.fn 149 [] [.ptr 0 0],.int .i64 l.length,.int .i64 i],fun _=>[.box [.int .i64 c',.int .i64 f',.bool h',.int .u64 x',.imm (.int .u8) v',.imm (.int .u8) m']],fun i=>l.length - i,⟨0,⟨Nat.zero_le _,rfl⟩,rfl,rfl⟩,?_⟩;clear h2)
  rintro i ⟨hi,he⟩
  repeat'(intro t ht;first|(cases t<;>first|(cases ht;done)|(try simp only[zg_]at ht;try(exfalso;first|contradiction|omega)))|((first|refine zb_ ht ?_|refine ht ?_ ?_|refine ht.1 ?_ ?_|refine ht ?_)<;>clear ht))
  all_goals (try generalize (Ty.dflt Y1)=od at*)
  all_goals first
   | exact True.intro
   | ((try simp only [zm_,zn_,zl_] at*);omega)
   | (refine ⟨?_,rfl⟩;rw [he,xs_ (by omega)];done)
   | (refine ⟨?_,rfl⟩;rw [he,y9_ (p:=fun x=>alO x (c',f',h',x',v',m',())) (d:=od) (by omega) (zle_ ht)];done)
   | exact ⟨i+1,⟨by omega,he.trans (y8_ (p:=fun x=>alO x (c',f',h',x',v',m',())) (d:=od) (by omega) (zlf_ ht))⟩,by dsimp only;omega,rfl,rfl⟩
 ·rename_i l
  cases e
  refine ⟨rfl,fun hw ho hp=>?_⟩
  change List OV at l
  have hl:l.length<=maxLen:=(hw (.imm Y1 l) (by simp)).2
  unfold maxLen at hl
  clear hw ho
  repeat'(intro t ht;first|(cases t<;>first|(cases ht;done)|(try simp only[zg_]at ht))|((first|refine zb_ ht ?_|refine ht ?_ ?_|refine ht.1 ?_ ?_|refine ht ?_)<;>clear ht))
  all_goals first
   | (intro r h1 h2;clear h1;refine h2 ⟨[0,1,7,8],Nat,(fun i=>i<=l.length/\jk_ (fun o=>!rgO o) l 0=jk_ (fun o=>!rgO o) (l.drop i) i),fun i=>[.imm Y1 l,.fn 117 [] [],.int .i64 l.length,.int .i64 i],fun _=>[],fun i=>l.length - i,⟨0,⟨Nat.zero_le _,rfl⟩,rfl,rfl⟩,?_⟩;clear h2)
  rintro i ⟨hi,he⟩
  repeat'(intro t ht;first|(cases t<;>first|(cases ht;done)|(try simp only[zg_]at ht;try(exfalso;first|contradiction|omega)))|((first|refine zb_ ht ?_|refine ht ?_ ?_|refine ht.1 ?_ ?_|refine ht ?_)<;>clear ht))
  all_goals (try generalize (Ty.dflt Y1)=od at*)
  all_goals first
   | exact True.intro
   | ((try simp only [zm_,zn_,zl_] at*);omega)
   | exact lenM (hp.h _ (zU_ (by omega) od))
   | (refine ⟨?_,rfl⟩;rw [he,xs_ (by omega)];done)
   | (refine ⟨?_,rfl⟩;rw [he,y9_ (p:=fun o=>!rgO o) (d:=od) (by omega) (by (try dsimp only);unfold rgO;rw [ht];rfl)];done)
   | exact ⟨i+1,⟨by omega,he.trans (y8_ (p:=fun o=>!rgO o) (d:=od) (by omega) (by (try dsimp only);unfold rgO;rw [ht];rfl))⟩,by dsimp only;omega,rfl,rfl⟩
 ·cases e
def qQ_:IR:=
(sq (kr [0,1] [oD 4 (.mov cF)])
(sq (kr [0,1] [oM 5 0,
oM 6 1,
oC 7 146 [5,6],
oB 8 .geq 7 (cI 0),
oM 4 8])
.ret))
def qK_:List RD:=[.tmp 4 true none]
theorem qN_:zj_ Tryz.prog Tryz.f116 qQ_ qK_=true:=by kernel_rfl
def zA_:List AV->List Obj->Option (Prop × AV)
 | [.imm (.cons (.int .i64) (.cons (.int .i64) (.cons .bool (.cons (.int .u64) (.cons (.sl (.int .u8)) (.cons (.sl (.int .u8)) .nil)))))) l,.fn 175 [] [.ptr 0 0]],[.box [.int .i64 bits,.int .i64 size,.bool mk,.int .i64 nd,.imm (.int .u64) vals]]=>some ((True,.bool ((l:List OV).any (mtO nd vals))))
 | [.imm (.cons (.int .i64) (.cons (.int .i64) (.cons .bool (.cons (.int .u64) (.cons (.sl (.int .u8)) (.cons (.sl (.int .u8)) .nil)))))) l,.fn 149 [] [.ptr 0 0]],[.box [.int .i64 c',.int .i64 f',.bool h',.int .u64 x',.imm (.int .u8) v',.imm (.int .u8) m']]=>some ((True,.bool ((l:List OV).any (fun x=>alO x (c',f',h',x',v',m',())))))
 | [.imm (.cons (.int .i64) (.cons (.int .i64) (.cons .bool (.cons (.int .u64) (.cons (.sl (.int .u8)) (.cons (.sl (.int .u8)) .nil)))))) l,.fn 117 [] []],[]=>some ((allLen l,.bool ((l:List OV).any (fun o=>!rgO o))))
 | _,_=>none
theorem zX_:zd_ Tryz.prog 116 (RoF zA_).sum:=by
 refine zi_ Tryz.func116 qN_ (za_ (s:=RoF Za_) Qg_ (zc_ _)) fun args objs p v e=>?_
 unfold zA_ at e
 split at e
 ·rename_i l bits size mk nd vals
  cases e
  refine ⟨rfl,fun hw ho hp=>?_⟩
  change List Int at vals
  have h:=Ji_ (p:=mtO nd vals) l 0 (Int.le_refl _)
  repeat'(intro t ht;first|(cases t<;>first|(cases ht;done)|(try simp only[zg_]at ht;try(exfalso;first|contradiction|omega)))|((first|refine zb_ ht ?_|refine ht ?_ ?_|refine ht.1 ?_ ?_|refine ht ?_)<;>clear ht))
  all_goals first
   | exact True.intro
   | exact ⟨congrArg AV.bool h,rfl⟩
 ·rename_i l c' f' h' x' v' m'
  cases e
  refine ⟨rfl,fun hw ho hp=>?_⟩
  change List Int at v'
  change List Int at m'
  have h:=Ji_ (p:=fun x=>alO x (c',f',h',x',v',m',())) l 0 (Int.le_refl _)
  repeat'(intro t ht;first|(cases t<;>first|(cases ht;done)|(try simp only[zg_]at ht;try(exfalso;first|contradiction|omega)))|((first|refine zb_ ht ?_|refine ht ?_ ?_|refine ht.1 ?_ ?_|refine ht ?_)<;>clear ht))
  all_goals first
   | exact True.intro
   | exact ⟨congrArg AV.bool h,rfl⟩
 ·rename_i l
  cases e
  refine ⟨rfl,fun hw ho hp=>?_⟩
  have h:=Ji_ (p:=fun o=>!rgO o) l 0 (Int.le_refl _)
  repeat'(intro t ht;first|(cases t<;>first|(cases ht;done)|(try simp only[zg_]at ht;try(exfalso;first|contradiction|omega)))|((first|refine zb_ ht ?_|refine ht ?_ ?_|refine ht.1 ?_ ?_|refine ht ?_)<;>clear ht))
  all_goals first
   | exact True.intro
   | exact hp
   | exact ⟨congrArg AV.bool h,rfl⟩
 ·cases e
end Go.Eng
