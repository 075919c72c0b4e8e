/- Parts of the proof: O7, OA, OE, OI, M1, OG. No condition. -/
import Derived.Test.YtodnkagabgglfaaGreatDoorProg
import Derived.Test.YtodnkagabgglfaaGreatDoorWB10
import Derived.KernelRfl
import Derived.Test.YtodnkagabgglfaaGreatDoorWB14
namespace Go.Eng
open Go.Proofs
set_option linter.unusedVariables false
set_option linter.unusedSimpArgs false
set_option maxRecDepth 100000
set_option maxHeartbeats 1000000
theorem zcv_ (b:List Int):QT_ [2,1,1] b=if b.length < 4 then ([],1) else ([ZL_ (b.take 2),b.getD 2 0,b.getD 3 0],0):=by
 have hr:z4_ [2,1,1]=true:=by decide
 have a2:zr_ 2=2:=by decide
 have a1:zr_ 1=1:=by decide
 unfold QT_
 rw [if_pos hr]
 unfold Z7_;unfold Z7_;unfold Z7_;unfold Z7_
 rw [a2,a1]
 by_cases h2:b.length < 2
 ·rw [if_pos (by omega),if_pos (by omega)]
 ·rw [if_neg (by omega),if_pos (by decide)]
  by_cases h3:b.length < 3
  ·rw [if_pos (by rw [List.length_drop];omega),if_pos (by omega)]
  ·rw [if_neg (by rw [List.length_drop];omega),if_pos (by decide)]
   by_cases h4:b.length < 4
   ·rw [if_pos (by rw [List.length_drop,List.length_drop];omega),if_pos (by omega)]
   ·rw [if_neg (by rw [List.length_drop,List.length_drop];omega),if_pos (by decide),if_neg h4]
    obtain _ | ⟨x,_ | ⟨y,_ | ⟨z,_ | ⟨w,r⟩⟩⟩⟩:=b
    all_goals simp at h4
    simp [ZL_]
theorem get4 (b:List Int):QT_ [4] b=if b.length < 4 then ([],1) else ([ZL_ (b.take 4)],0):=by
 have hr:z4_ [4]=true:=by decide
 have a4:zr_ 4=4:=by decide
 unfold QT_
 rw [if_pos hr]
 unfold Z7_;unfold Z7_
 rw [a4]
 by_cases h4:b.length < 4
 ·rw [if_pos (by omega),if_pos h4]
 ·rw [if_neg (by omega),if_pos (by decide),if_neg h4];rfl
def zu_ (b:List Int):Int:=ZL_ (b.take 2)
def zN_ (b:List Int):Int:=(b.getD 2 0).tdiv 2
def ZV_ (b:List Int):Bool:=decide ((b.getD 2 0).tmod 2=1)
def Kw_ (b:List Int):Int:=if zu_ b=65535 then ZL_ ((b.drop 4).take 4) else 0
def k7_ (b:List Int):Int:=if zu_ b=65535 then 8 else 4
def Zp_ (b:List Int):Int:=vT_ (ZV_ b) (zI_ (zu_ b)) (Z0_ (zu_ b) (zN_ b)) (b.getD 3 0)
def K1_ (b:List Int):Bool:=Xs_ (ZV_ b) (zI_ (zu_ b)) (Z0_ (zu_ b) (zN_ b)) (b.getD 3 0)
def Qm_ (b:List Int):List Int:=(b.take (k7_ b+Zp_ b).toNat).drop (k7_ b).toNat
def q9_ (b:List Int):List Int:=if ZV_ b=true then (b.take (k7_ b+Zp_ b+Zp_ b).toNat).drop (k7_ b+Zp_ b).toNat else []
def qh_ (b:List Int):Int:=k7_ b+Zp_ b+if ZV_ b=true then Zp_ b else 0
def z5_ (b:List Int):Int:=if b.length < 4 then 1026 else if kR_ (zu_ b) (zN_ b)=false then 1031 else if ZV_ b=true/\Z1_ (zu_ b) (zN_ b)=false then 1033 else if K1_ b=false\/(b.length:Int) - 4 < b.getD 3 0 then 1026 else QF_ (zN_ b) (ZV_ b) (Qm_ b) (q9_ b) (q7_ (zu_ b) (zN_ b)) (zI_ (zu_ b))
def qi_ (b:List Int) (x:Int):Int:=if z5_ b=0 then x else 0
def Qr_ (b:List Int) (l:List Int):List Int:=if z5_ b=0 then l else []
theorem cur4 {b:List Int} {sh od:Int} (h:4<=b.length):yw_ [2,1,1] b 0 0=[zu_ b,b.getD 2 0,b.getD 3 0]/\YJ_ [2,1,1] b 0 0=4/\YK_ [2,1,1] b 0 sh od 0=0:=by
 have e:QT_ [2,1,1] (b.drop (0:Int).toNat)=([ZL_ (b.take 2),b.getD 2 0,b.getD 3 0],0):=by
  rw [show (0:Int).toNat=0 from rfl,List.drop_zero,zcv_,if_neg (by omega)]
 have es:Zl_ [2,1,1]=4:=by decide
 unfold yw_ YJ_ YK_ k6_ qZ_
 rw [e,es];exact ⟨rfl,rfl,rfl⟩
theorem cur0 {b:List Int} {sh od:Int} (h:b.length < 4):yw_ [2,1,1] b 0 0=[]/\YJ_ [2,1,1] b 0 0=0/\YK_ [2,1,1] b 0 sh od 0=sh:=by
 have e:QT_ [2,1,1] (b.drop (0:Int).toNat)=([],1):=by
  rw [show (0:Int).toNat=0 from rfl,List.drop_zero,zcv_,if_pos (by omega)]
 unfold yw_ YJ_ YK_ k6_ qZ_
 rw [e];exact ⟨rfl,rfl,rfl⟩
theorem num4 {b:List Int} {p sh od:Int} (hp:0<=p) (h:p+4<=b.length):numV 4 b p 0=ZL_ ((b.drop p.toNat).take 4)/\numP 4 b p 0=p+4/\numE 4 b p sh od 0=0:=by
 have e:QT_ [4] (b.drop p.toNat)=([ZL_ ((b.drop p.toNat).take 4)],0):=by
  rw [get4,if_neg (by rw [List.length_drop];omega)]
 have es:Zl_ [4]=4:=by decide
 unfold numV numP numE yw_ YJ_ YK_ k6_ qZ_
 rw [e,es];exact ⟨rfl,rfl,rfl⟩
theorem Wp_ {n p sh:Int} {b:List Int} (hn:0<=n) (h:p+n<=b.length):jy_ n b p sh 0=(b.take (p+n).toNat).drop p.toNat/\wu_ n b p sh 0=p+n/\QG_ n b p sh 0=0:=by
 have e:QG_ n b p sh 0=0:=by unfold QG_;rw [if_neg (by omega),if_neg (by omega)]
 unfold jy_ wu_;rw [e];exact ⟨rfl,rfl,rfl⟩
theorem XG_ {b:List Int} (hb:∀ x ∈ b,0<=x/\x<=255) (i:Nat):0<=b.getD i 0/\b.getD i 0<=255:=by
 by_cases h:i < b.length
 ·exact hb _ (zZ_ (α:=Int) h 0)
 ·rw [List.getD_eq_getElem?_getD,List.getElem?_eq_none (by omega)];decide
theorem zeB_ {b:List Int} (hb:∀ x ∈ b,0<=x/\x<=255):0<=zu_ b/\zu_ b<=65535:=by
 have:=Xn_ (b.take 2) fun x hx=>hb x (List.mem_of_mem_take hx)
 have h2:∀ k ≤ 2,(256:Int) ^ k<=65536:=by decide
 have:=h2 (b.take 2).length (by rw [List.length_take];omega)
 unfold zu_;omega
theorem BW_ {b:List Int} (hn:0<=b.getD 3 0) (hof:0<=Z0_ (zu_ b) (zN_ b)) (hk:K1_ b=true):0<=Zp_ b/\qh_ b=4+b.getD 3 0/\Zp_ b<=Z0_ (zu_ b) (zN_ b):=by
 unfold K1_ Xs_ at hk
 unfold qh_ Zp_ vT_ k7_
 by_cases hc:zu_ b=65535
 ·have he:zI_ (zu_ b)=true:=decide_eq_true hc
  rw [he] at hk ⊢
  rw [if_pos hc]
  rw [if_pos rfl] at hk ⊢
  simp only [Bool.and_eq_true,decide_eq_true_eq] at hk
  obtain ⟨⟨k1,k2⟩,k3⟩:=hk
  cases hh:ZV_ b with
  | true=>
    rw [hh] at k2 k3
    simp only [if_true] at k2 k3 ⊢
    rw [kE_ k1] at k2;rw [Z5_ k1] at k3 ⊢;omega
  | false=>
    rw [hh] at k2 k3
    simp only [if_false,Bool.false_eq_true] at k2 k3 ⊢
    rw [Z5_ k1] at k3 ⊢;omega
 ·have he:zI_ (zu_ b)=false:=decide_eq_false hc
  rw [he] at hk ⊢
  rw [if_neg hc]
  simp only [if_false,Bool.false_eq_true,decide_eq_true_eq] at hk ⊢
  cases hh:ZV_ b with
  | true=>rw [hh] at hk;simp only [if_true] at hk ⊢;omega
  | false=>rw [hh] at hk;simp only [if_false,Bool.false_eq_true] at hk ⊢;omega
theorem zd0_ {b:List Int} (hq:0<=b.getD 2 0/\b.getD 2 0<=255):0<=zN_ b/\zN_ b<=127:=by
 unfold zN_;rw [Z5_ hq.1];omega
theorem ZA_ {b:List Int} {p n:Int} (hp:0<=p) (hn:0<=n) (h:p+n<=b.length):((((b.take (p+n).toNat).drop p.toNat).length:Nat):Int)=n:=by
 rw [List.length_drop,List.length_take];omega
theorem jJ_ {b:List Int} (h4:¬ b.length < 4) (hok:kR_ (zu_ b) (zN_ b)=true) (hm:ZV_ b=true->Z1_ (zu_ b) (zN_ b)=true) (hk:K1_ b=true) (hl:¬ (b.length:Int) - 4 < b.getD 3 0):z5_ b=QF_ (zN_ b) (ZV_ b) (Qm_ b) (q9_ b) (q7_ (zu_ b) (zN_ b)) (zI_ (zu_ b)):=by
 unfold z5_
 rw [if_neg h4,if_neg (by rw [hok];decide),if_neg (fun h=>by rw [hm h.1] at h;exact absurd h.2 (by decide)),if_neg (fun h=>h.elim (by rw [hk];decide) hl)]
def uD_:IR:=
(sq (kr [0] [oD 2 (.box [.int .i64 0,.int .i64 0,.kb false,.int .u64 0,.imm (.int .u8) [],.imm (.int .u8) []]),
oD 3 (.mov (cI 0)),
oD 4 (.mov (cI 0))])
(sq (.reg [oM 14 0,
oC 15 24 [14,(cI 1026),(cI 1026)],
oM 5 15])
(sq (.reg [oM 16 5,
oD 17 (.sliceAll (.int .i64) 3 [(0,1,(cI 2)),(1,1,(cI 1)),(2,1,(cI 1))]),
oC 18 125 [16,17],
oM 6 18])
(sq (sq (kr [2,5,6] [oM 19 6,
oE 20 19,
oB 21 .eql 20 (cI 0)])
(.cond 21
(sq (kr [2,5] [oD 22 (.build [.int .i64 0,.int .i64 0,.kb false,.int .u64 0,.imm (.int .u8) [],.imm (.int .u8) []] []),
oM 23 5,
oC 24 27 [23],
oS 6 2 22,
oD 3 (.mov (cI 0)),
oM 4 24])
.ret)
.skip))
(sq (kd [2,5,6] [(oM 25 6,[]),
(oD 26 (.indexSl 1 25 (cI 0)),[]),
(oL 27 26,[]),
(oD 28 (.conv .i64 27),[]),
(oM 29 6,[0,0,0,0]),
(oD 30 (.indexSl 1 29 (cI 1)),[1,0,0,0]),
(oL 31 30,[2,0,0,0]),
(oB 32 .quo 31 (.c (.int .u64 2)),[3,0,0,0]),
(oD 33 (.conv .i64 32),[4,0,0,0]),
(oM 34 6,[0,0,0,0,0,0,0,0,0]),
(oD 35 (.indexSl 1 34 (cI 1)),[1,0,0,0,0,0,0,0,0]),
(oL 36 35,[2,0,0,0,0,0,0,0,0]),
(oB 37 .rem 36 (.c (.int .u64 2)),[3,0,0,0,0,0,0,0,0]),
(oB 38 .eql 37 (.c (.int .u64 1)),[4,0,0,0,0,0,0,0,0]),
(oD 39 (.build [.int .i64 0,.int .i64 0,.kb false,.int .u64 0,.imm (.int .u8) [],.imm (.int .u8) []] [(0,1,28),(1,1,33),(2,1,38)]),[]),
(oD 7 (.box [.int .i64 0,.int .i64 0,.kb false,.int .u64 0,.imm (.int .u8) [],.imm (.int .u8) []]),[0,0,0,0,0,0,0,0,0,0,0,0,0,0,0]),
(oS 6 7 39,[])])
(sq (kr [2,5,6,7] [oK 41 6 7,
oC 42 115 [41],
oM 40 42,
oX 43 40 0,
oX 44 40 1,
oD 8 (.box [.int .i64 0,.int .i64 0,.kb false,.kb false]),
oS 4 8 43,
oM 9 44])
(sq (kd [2,5,6,7,8,9] [(oK 46 6 7,[]),
(oK 47 4 8,[0]),
(oM 48 6,[0,0]),
(oD 49 (.indexSl 1 48 (cI 2)),[1,0]),
(oL 50 49,[2,0]),
(oD 51 (.conv .i64 50),[3,0]),
(oC 52 144 [46,47,51],[]),
(oM 45 52,[]),
(oX 53 45 0,[]),
(oX 54 45 1,[0]),
(oM 10 53,[0]),
(oM 11 54,[])])
(sq (.block 0
(sq (kr [2,5,6,7,8,9,10,11] [oM 56 9,
oD 57 (.un .not 56),
oM 55 57])
(.cond 55
(sq (.reg [oD 58 (.build [.int .i64 0,.int .i64 0,.kb false,.int .u64 0,.imm (.int .u8) [],.imm (.int .u8) []] []),
oS 6 2 58,
oD 3 (.mov (cI 0)),
oD 4 (.mov (cI 1031))])
.ret)
(sq (kr [2,5,6,7,8,10,11] [oA 60 2 7,
oL 61 60,
oM 62 61,
oT 62 63 (.fieldAddr 2 8),
oT 62 64 (.load none 63),
oT 62 65 (.un .not 64),
oP 66 62 65 cF,
oM 59 66])
(.cond 59
(sq (kr [2] [oD 67 (.build [.int .i64 0,.int .i64 0,.kb false,.int .u64 0,.imm (.int .u8) [],.imm (.int .u8) []] []),
oS 6 2 67,
oD 3 (.mov (cI 0)),
oD 4 (.mov (cI 1033))])
.ret)
(sq (kd [2,5,6,7,8,10,11] [(oM 69 11,[]),
(oD 70 (.un .not 69),[]),
(oM 71 70,[]),
(oF 71 72 (.mov 5),[]),
(oF 71 73 (.call false (.f 70) [72]),[]),
(oF 71 74 (.mov 6),[0,0]),
(oF 71 75 (.indexSl 1 74 (cI 2)),[1,0]),
(oF 71 76 (.load none 75),[2,0]),
(oF 71 77 (.conv .i64 76),[3,0]),
(oF 71 78 (.bin .lss 73 77),[]),
(oP 79 71 cT 78,[]),
(oM 68 79,[])])
(.cond 68
(sq (kr [2] [oD 80 (.build [.int .i64 0,.int .i64 0,.kb false,.int .u64 0,.imm (.int .u8) [],.imm (.int .u8) []] []),
oS 6 2 80,
oD 3 (.mov (cI 0)),
oD 4 (.mov (cI 1026))])
.ret)
(sq (kr [2,5,7,8,10] [oA 82 3 8,
oL 83 82,
oM 81 83])
(.cond 81
(.reg [oM 84 5,
oC 85 145 [84,(cI 4)],
oA 86 3 7,
oS 1 86 85])
.skip)))))))))
(sq (kr [2,5,7,8,10] [oM 87 5,
oD 88 (.mkfn 25 [87] []),
oM 12 88])
(sq (.reg [oM 89 12,
oM 90 10,
oD 91 (.call false 89 [90]),
oA 92 4 7,
oS 1 92 91])
(sq (sq (kr [2,5,7,8,10,12] [oA 93 2 7,
oL 94 93])
(.cond 94
(.reg [oM 95 12,
oM 96 10,
oD 97 (.call false 95 [96]),
oA 98 5 7,
oS 1 98 97])
.skip))
(sq (sq (kr [2,5,7,8] [oK 99 6 7,
oK 100 4 8,
oC 101 116 [99,100],
oM 13 101])
(sq (.reg [oM 102 13,
oB 103 .neq 102 (cI 0)])
(.cond 103
(sq (kr [2,13] [oD 104 (.build [.int .i64 0,.int .i64 0,.kb false,.int .u64 0,.imm (.int .u8) [],.imm (.int .u8) []] []),
oM 105 13,
oS 6 2 104,
oD 3 (.mov (cI 0)),
oM 4 105])
.ret)
.skip)))
(sq (kd [2,5,7] [(oK 106 6 7,[]),
(oM 107 5,[0]),
(oC 108 28 [107],[1]),
(oS 6 2 106,[]),
(oM 3 108,[]),
(oD 4 (.mov (cI 0)),[])])
.ret)))))))))))))
def V4_:List RD:=[.cell 2 (some 6) true [],.tmp 3 true none,.tmp 4 true none]
theorem ul_:zl_ Tryz.prog Tryz.f128 uD_ V4_=true:=by kernel_rfl
def JC_:List AV->List Obj->Option (Prop × AV)
 | [.imm (.int .u8) b],[]=>some ((b.length<=140737488355328,.tup [.agg [.int .i64 (qi_ b (zu_ b)),.int .i64 (qi_ b (zN_ b)),.bool ((if z5_ b=0 then ZV_ b else false)),.int .u64 (qi_ b (Kw_ b)),.imm (.int .u8) (Qr_ b (Qm_ b)),.imm (.int .u8) (Qr_ b (q9_ b))],.int .i64 (qi_ b (qh_ b)),.int .i64 (z5_ b)]))
 | _,_=>none
theorem vb_:ze_ Tryz.prog 128 (RoF JC_).sum:=by
 refine zm_ Tryz.func128 ul_ (zb_ (s:=RwF Q3_) KI_ (zb_ (s:=RwF Zb_) ZG_ (zb_ (s:=RoF zQ_) Zf_ (zb_ (s:=RoF XK_) Y9_ (zb_ (s:=RoF xP_) U5_ (zb_ (s:=RoF Zo_) Z6_ (zb_ (s:=RwF Qa_) JQ_ (zb_ (s:=RwF Zi_) ZW_ (zb_ (s:=RoF je_) W1_ (zb_ (s:=RoF qa_) kP_ (zd_ _))))))))))) fun args objs p v e=>?_
 unfold JC_ at e
 split at e
 ·rename_i b
  cases e
  refine ⟨rfl,fun hw ho hp=>?_⟩
  change List Int at b
  have hb:∀ x ∈ b,0<=x/\x<=255:=fun x hx=>(hw (.imm (.int .u8) b) (by simp)).1 x hx
  by_cases h4:b.length < 4
  ·obtain ⟨hL,hP,hE⟩:=cur0 (sh:=1026) (od:=1026) h4
   have hd:z5_ b=1026:=by unfold z5_;rw [if_pos h4]
   repeat'(intro t ht;first|(cases t<;>first|(cases ht;done)|(try simp only[zh_]at ht))|((first|refine za_ ht ?_|refine ht ?_ ?_|refine ht.1 ?_ ?_|refine ht ?_)<;>clear ht))
   all_goals (try simp only [hL,hP,hE] at*)
   all_goals first
    | exact hp
    | exact absurd rfl ‹¬ ((([]:List Int).length:Int)=0)›
    | ((try simp only [zn_,zo_,zi_] at*);omega)
    | (simp only [qi_,Qr_,hd];exact ⟨rfl,by first | rfl | exact True.intro⟩)
  ·obtain ⟨hL,hP,hE⟩:=cur4 (b:=b) (sh:=1026) (od:=1026) (by omega)
   have hC:=zeB_ hb
   have hq:=XG_ hb 2
   have hn:=XG_ hb 3
   have hFl:=zd0_ hq
   have hof:=Ui_ (zu_ b) (zN_ b)
   have g0:∀ d,[zu_ b,b.getD 2 0,b.getD 3 0].getD (Int.toNat 0) d=zu_ b:=fun _=>rfl
   have g1:∀ d,[zu_ b,b.getD 2 0,b.getD 3 0].getD (Int.toNat 1) d=b.getD 2 0:=fun _=>rfl
   have g2:∀ d,[zu_ b,b.getD 2 0,b.getD 3 0].getD (Int.toNat 2) d=b.getD 3 0:=fun _=>rfl
   have gl:((([zu_ b,b.getD 2 0,b.getD 3 0]).length:Nat):Int)=3:=rfl
   have hF:(b.getD 2 0).tdiv 2=zN_ b:=rfl
   have hH:((b.getD 2 0).tmod 2=1)=(ZV_ b=true):=propext ⟨fun h=>decide_eq_true h,fun h=>of_decide_eq_true h⟩
   have hS:vT_ (ZV_ b) (zI_ (zu_ b)) (Z0_ (zu_ b) (zN_ b)) (b.getD 3 0)=Zp_ b:=rfl
   have hK:Xs_ (ZV_ b) (zI_ (zu_ b)) (Z0_ (zu_ b) (zN_ b)) (b.getD 3 0)=K1_ b:=rfl
   by_cases hs:K1_ b=true/\¬ (b.length:Int) - 4 < b.getD 3 0
   ·obtain ⟨hd1,hd2,hd3⟩:=BW_ hn.1 hof.1 hs.1
    by_cases hx:zu_ b=65535
    ·have hx':zI_ (zu_ b)=true:=decide_eq_true hx
     have h8:(8:Int)<=b.length:=by
      have h:=hs.1
      unfold K1_ Xs_ at h
      rw [hx',if_pos rfl] at h
      simp only [Bool.and_eq_true,decide_eq_true_eq] at h
      omega
     cases hh:ZV_ b with
     | true=>
       have hd2':qh_ b=k7_ b+Zp_ b+Zp_ b:=by unfold qh_;rw [hh];rfl
       have hA:k7_ b=8:=if_pos hx
       obtain ⟨hN1,hN2,hN3⟩:=num4 (b:=b) (p:=4) (sh:=1026) (od:=1026) (by decide) (by omega)
       have hX:Kw_ b=ZL_ ((b.drop (4:Int).toNat).take 4):=if_pos hx
       simp only [show (4:Int)+4=8 from rfl] at hN2
       obtain ⟨hT1,hT2,hT3⟩:=Wp_ (n:=Zp_ b) (p:=8) (sh:=1026) (b:=b) hd1 (by omega)
       have hV:(b.take (8+Zp_ b).toNat).drop (8:Int).toNat=Qm_ b:=by unfold Qm_;rw [hA]
       have hVl:=ZA_ (b:=b) (p:=8) (n:=Zp_ b) (by decide) hd1 (by omega)
       rw [hV] at hT1 hVl
       obtain ⟨hU1,hU2,hU3⟩:=Wp_ (n:=Zp_ b) (p:=8+Zp_ b) (sh:=1026) (b:=b) hd1 (by omega)
       have hM:(b.take (8+Zp_ b+Zp_ b).toNat).drop (8+Zp_ b).toNat=q9_ b:=by unfold q9_;rw [hh,hA];rfl
       have hMl:=ZA_ (b:=b) (p:=8+Zp_ b) (n:=Zp_ b) (by omega) hd1 (by omega)
       rw [hM] at hU1 hMl
       have hNN:8+Zp_ b+Zp_ b=qh_ b:=by omega
       have hdw:kR_ (zu_ b) (zN_ b)=true->Z1_ (zu_ b) (zN_ b)=true->z5_ b=QF_ (zN_ b) true (Qm_ b) (q9_ b) (q7_ (zu_ b) (zN_ b)) true:=fun h1 h3=>by rw [jJ_ h4 h1 (fun h2=>h3) hs.1 hs.2,hh,hx']
       have hdm:ZV_ b=true->Z1_ (zu_ b) (zN_ b)=false->kR_ (zu_ b) (zN_ b)=true->z5_ b=1033:=fun h1 h2 h3=>by unfold z5_;rw [if_neg h4,h3,h1,h2];rfl
       rw [hh] at hdm
       obtain ⟨c1,hc1⟩:∃ p:Prop,p=(K1_ b=true):=⟨_,rfl⟩
       repeat'(intro t ht;first|(cases t<;>first|(cases ht;done)|(try simp only[zh_]at ht))|((first|refine za_ ht ?_|refine ht ?_ ?_|refine ht.1 ?_ ?_|refine ht ?_)<;>clear ht))
       all_goals (try simp only [hL,hP,hE,g0,g1,g2,gl,hF,hH,hS,hK,Bool.decide_eq_true] at*)
       all_goals (try simp only [hh,hx',hT1,hT2,hT3,hNN,Bool.false_eq_true,not_false_eq_true,not_true_eq_false,reduceCtorEq,hN1,hN2,hN3,hU1,hU2,hU3] at*)
       all_goals first
        | exact hp
        | exact (by decide)
        | omega
        | ((try simp only [zn_,zo_,zi_] at*);omega)
        | (refine ⟨fun h=>?_,?_,?_,?_⟩<;>first | omega | (simp only [List.length_nil];omega) | (cases h;done))
        | exact absurd hs.1 (by rw [‹K1_ b=false›];decide)
        | (have h0:z5_ b=1031:=by unfold z5_;rw [if_neg h4,if_pos (by assumption)]
           simp only [qi_,Qr_,h0];exact ⟨rfl,by first | rfl | exact True.intro⟩)
        | (have h0:z5_ b=1033:=hdm (by first | rfl | exact True.intro) (by assumption) (by assumption)
           simp only [qi_,Qr_,h0];exact ⟨rfl,by first | rfl | exact True.intro⟩)
        | (have hd:=hdw (by assumption) (by assumption)
           first
            | (have h0:z5_ b=0:=hd.trans (by assumption)
               refine ⟨?_,by first | rfl | exact True.intro⟩;first | (simp only [qi_,Qr_,if_pos h0,h0,ite_self,hX];done) | (simp only [qi_,Qr_,if_pos h0,h0,ite_self,hX];rfl))
            | (have h0:¬ z5_ b=0:=by rw [hd];assumption
               refine ⟨?_,by first | rfl | exact True.intro⟩;simp only [qi_,Qr_,if_neg h0,ite_self];rw [hd]))
     | false=>
       have hd2':qh_ b=k7_ b+Zp_ b:=by unfold qh_;rw [hh];simp
       have hA:k7_ b=8:=if_pos hx
       obtain ⟨hN1,hN2,hN3⟩:=num4 (b:=b) (p:=4) (sh:=1026) (od:=1026) (by decide) (by omega)
       have hX:Kw_ b=ZL_ ((b.drop (4:Int).toNat).take 4):=if_pos hx
       simp only [show (4:Int)+4=8 from rfl] at hN2
       obtain ⟨hT1,hT2,hT3⟩:=Wp_ (n:=Zp_ b) (p:=8) (sh:=1026) (b:=b) hd1 (by omega)
       have hV:(b.take (8+Zp_ b).toNat).drop (8:Int).toNat=Qm_ b:=by unfold Qm_;rw [hA]
       have hVl:=ZA_ (b:=b) (p:=8) (n:=Zp_ b) (by decide) hd1 (by omega)
       rw [hV] at hT1 hVl
       have hM:q9_ b=[]:=by unfold q9_;rw [hh];rfl
       have hMl:(((q9_ b).length:Nat):Int)=0:=by rw [hM];rfl
       have hNN:8+Zp_ b=qh_ b:=by omega
       have hdw:kR_ (zu_ b) (zN_ b)=true->z5_ b=QF_ (zN_ b) false (Qm_ b) [] (q7_ (zu_ b) (zN_ b)) true:=fun h1=>by rw [jJ_ h4 h1 (fun h2=>absurd h2 (by rw [hh];decide)) hs.1 hs.2,hh,hx',hM]
       have hdm:ZV_ b=true->Z1_ (zu_ b) (zN_ b)=false->kR_ (zu_ b) (zN_ b)=true->z5_ b=1033:=fun h1 h2 h3=>by unfold z5_;rw [if_neg h4,h3,h1,h2];rfl
       rw [hh] at hdm
       obtain ⟨c1,hc1⟩:∃ p:Prop,p=(K1_ b=true):=⟨_,rfl⟩
       repeat'(intro t ht;first|(cases t<;>first|(cases ht;done)|(try simp only[zh_]at ht))|((first|refine za_ ht ?_|refine ht ?_ ?_|refine ht.1 ?_ ?_|refine ht ?_)<;>clear ht))
       all_goals (try simp only [hL,hP,hE,g0,g1,g2,gl,hF,hH,hS,hK,Bool.decide_eq_true] at*)
       all_goals (try simp only [hh,hx',hT1,hT2,hT3,hNN,Bool.false_eq_true,not_false_eq_true,not_true_eq_false,reduceCtorEq,hN1,hN2,hN3] at*)
       all_goals first
        | exact hp
        | exact (by decide)
        | omega
        | ((try simp only [zn_,zo_,zi_] at*);omega)
        | (refine ⟨fun h=>?_,?_,?_,?_⟩<;>first | omega | (simp only [List.length_nil];omega) | (cases h;done))
        | exact absurd hs.1 (by rw [‹K1_ b=false›];decide)
        | (have h0:z5_ b=1031:=by unfold z5_;rw [if_neg h4,if_pos (by assumption)]
           simp only [qi_,Qr_,h0];exact ⟨rfl,by first | rfl | exact True.intro⟩)
        | (have h0:z5_ b=1033:=hdm (by first | rfl | exact True.intro) (by assumption) (by assumption)
           simp only [qi_,Qr_,h0];exact ⟨rfl,by first | rfl | exact True.intro⟩)
        | (have hd:=hdw (by assumption)
           first
            | (have h0:z5_ b=0:=hd.trans (by assumption)
               refine ⟨?_,by first | rfl | exact True.intro⟩;first | (simp only [qi_,Qr_,if_pos h0,h0,ite_self,hM,hX];done) | (simp only [qi_,Qr_,if_pos h0,h0,ite_self,hM,hX];rfl))
            | (have h0:¬ z5_ b=0:=by rw [hd];assumption
               refine ⟨?_,by first | rfl | exact True.intro⟩;simp only [qi_,Qr_,if_neg h0,ite_self];rw [hd]))
    ·have hx':zI_ (zu_ b)=false:=decide_eq_false hx
     cases hh:ZV_ b with
     | true=>
       have hd2':qh_ b=k7_ b+Zp_ b+Zp_ b:=by unfold qh_;rw [hh];rfl
       have hA:k7_ b=4:=if_neg hx
       have hX:Kw_ b=0:=if_neg hx
       obtain ⟨hT1,hT2,hT3⟩:=Wp_ (n:=Zp_ b) (p:=4) (sh:=1026) (b:=b) hd1 (by omega)
       have hV:(b.take (4+Zp_ b).toNat).drop (4:Int).toNat=Qm_ b:=by unfold Qm_;rw [hA]
       have hVl:=ZA_ (b:=b) (p:=4) (n:=Zp_ b) (by decide) hd1 (by omega)
       rw [hV] at hT1 hVl
       obtain ⟨hU1,hU2,hU3⟩:=Wp_ (n:=Zp_ b) (p:=4+Zp_ b) (sh:=1026) (b:=b) hd1 (by omega)
       have hM:(b.take (4+Zp_ b+Zp_ b).toNat).drop (4+Zp_ b).toNat=q9_ b:=by unfold q9_;rw [hh,hA];rfl
       have hMl:=ZA_ (b:=b) (p:=4+Zp_ b) (n:=Zp_ b) (by omega) hd1 (by omega)
       rw [hM] at hU1 hMl
       have hNN:4+Zp_ b+Zp_ b=qh_ b:=by omega
       have hdw:kR_ (zu_ b) (zN_ b)=true->Z1_ (zu_ b) (zN_ b)=true->z5_ b=QF_ (zN_ b) true (Qm_ b) (q9_ b) (q7_ (zu_ b) (zN_ b)) false:=fun h1 h3=>by rw [jJ_ h4 h1 (fun h2=>h3) hs.1 hs.2,hh,hx']
       have hdm:ZV_ b=true->Z1_ (zu_ b) (zN_ b)=false->kR_ (zu_ b) (zN_ b)=true->z5_ b=1033:=fun h1 h2 h3=>by unfold z5_;rw [if_neg h4,h3,h1,h2];rfl
       rw [hh] at hdm
       obtain ⟨c1,hc1⟩:∃ p:Prop,p=(K1_ b=true):=⟨_,rfl⟩
       repeat'(intro t ht;first|(cases t<;>first|(cases ht;done)|(try simp only[zh_]at ht))|((first|refine za_ ht ?_|refine ht ?_ ?_|refine ht.1 ?_ ?_|refine ht ?_)<;>clear ht))
       all_goals (try simp only [hL,hP,hE,g0,g1,g2,gl,hF,hH,hS,hK,Bool.decide_eq_true] at*)
       all_goals (try simp only [hh,hx',hT1,hT2,hT3,hNN,Bool.false_eq_true,not_false_eq_true,not_true_eq_false,reduceCtorEq,hU1,hU2,hU3] at*)
       all_goals first
        | exact hp
        | exact (by decide)
        | omega
        | ((try simp only [zn_,zo_,zi_] at*);omega)
        | (refine ⟨fun h=>?_,?_,?_,?_⟩<;>first | omega | (simp only [List.length_nil];omega) | (cases h;done))
        | exact absurd hs.1 (by rw [‹K1_ b=false›];decide)
        | (have h0:z5_ b=1031:=by unfold z5_;rw [if_neg h4,if_pos (by assumption)]
           simp only [qi_,Qr_,h0];exact ⟨rfl,by first | rfl | exact True.intro⟩)
        | (have h0:z5_ b=1033:=hdm (by first | rfl | exact True.intro) (by assumption) (by assumption)
           simp only [qi_,Qr_,h0];exact ⟨rfl,by first | rfl | exact True.intro⟩)
        | (have hd:=hdw (by assumption) (by assumption)
           first
            | (have h0:z5_ b=0:=hd.trans (by assumption)
               refine ⟨?_,by first | rfl | exact True.intro⟩;first | (simp only [qi_,Qr_,if_pos h0,h0,ite_self,hX];done) | (simp only [qi_,Qr_,if_pos h0,h0,ite_self,hX];rfl))
            | (have h0:¬ z5_ b=0:=by rw [hd];assumption
               refine ⟨?_,by first | rfl | exact True.intro⟩;simp only [qi_,Qr_,if_neg h0,ite_self];rw [hd]))
     | false=>
       have hd2':qh_ b=k7_ b+Zp_ b:=by unfold qh_;rw [hh];simp
       have hA:k7_ b=4:=if_neg hx
       have hX:Kw_ b=0:=if_neg hx
       obtain ⟨hT1,hT2,hT3⟩:=Wp_ (n:=Zp_ b) (p:=4) (sh:=1026) (b:=b) hd1 (by omega)
       have hV:(b.take (4+Zp_ b).toNat).drop (4:Int).toNat=Qm_ b:=by unfold Qm_;rw [hA]
       have hVl:=ZA_ (b:=b) (p:=4) (n:=Zp_ b) (by decide) hd1 (by omega)
       rw [hV] at hT1 hVl
       have hM:q9_ b=[]:=by unfold q9_;rw [hh];rfl
       have hMl:(((q9_ b).length:Nat):Int)=0:=by rw [hM];rfl
       have hNN:4+Zp_ b=qh_ b:=by omega
       have hdw:kR_ (zu_ b) (zN_ b)=true->z5_ b=QF_ (zN_ b) false (Qm_ b) [] (q7_ (zu_ b) (zN_ b)) false:=fun h1=>by rw [jJ_ h4 h1 (fun h2=>absurd h2 (by rw [hh];decide)) hs.1 hs.2,hh,hx',hM]
       have hdm:ZV_ b=true->Z1_ (zu_ b) (zN_ b)=false->kR_ (zu_ b) (zN_ b)=true->z5_ b=1033:=fun h1 h2 h3=>by unfold z5_;rw [if_neg h4,h3,h1,h2];rfl
       rw [hh] at hdm
       obtain ⟨c1,hc1⟩:∃ p:Prop,p=(K1_ b=true):=⟨_,rfl⟩
       repeat'(intro t ht;first|(cases t<;>first|(cases ht;done)|(try simp only[zh_]at ht))|((first|refine za_ ht ?_|refine ht ?_ ?_|refine ht.1 ?_ ?_|refine ht ?_)<;>clear ht))
       all_goals (try simp only [hL,hP,hE,g0,g1,g2,gl,hF,hH,hS,hK,Bool.decide_eq_true] at*)
       all_goals (try simp only [hh,hx',hT1,hT2,hT3,hNN,Bool.false_eq_true,not_false_eq_true,not_true_eq_false,reduceCtorEq] at*)
       all_goals first
        | exact hp
        | exact (by decide)
        | omega
        | ((try simp only [zn_,zo_,zi_] at*);omega)
        | (refine ⟨fun h=>?_,?_,?_,?_⟩<;>first | omega | (simp only [List.length_nil];omega) | (cases h;done))
        | exact absurd hs.1 (by rw [‹K1_ b=false›];decide)
        | (have h0:z5_ b=1031:=by unfold z5_;rw [if_neg h4,if_pos (by assumption)]
           simp only [qi_,Qr_,h0];exact ⟨rfl,by first | rfl | exact True.intro⟩)
        | (have h0:z5_ b=1033:=hdm (by first | rfl | exact True.intro) (by assumption) (by assumption)
           simp only [qi_,Qr_,h0];exact ⟨rfl,by first | rfl | exact True.intro⟩)
        | (have hd:=hdw (by assumption)
           first
            | (have h0:z5_ b=0:=hd.trans (by assumption)
               refine ⟨?_,by first | rfl | exact True.intro⟩;first | (simp only [qi_,Qr_,if_pos h0,h0,ite_self,hM,hX];done) | (simp only [qi_,Qr_,if_pos h0,h0,ite_self,hM,hX];rfl))
            | (have h0:¬ z5_ b=0:=by rw [hd];assumption
               refine ⟨?_,by first | rfl | exact True.intro⟩;simp only [qi_,Qr_,if_neg h0,ite_self];rw [hd]))
   ·have hs':K1_ b=false\/(b.length:Int) - 4 < b.getD 3 0:=by
     cases hk:K1_ b with
     | false=>exact .inl rfl
     | true=>exact .inr (Decidable.by_contra fun h=>hs ⟨hk,h⟩)
    have hd3:kR_ (zu_ b) (zN_ b)=true->(ZV_ b=true->Z1_ (zu_ b) (zN_ b)=true)->z5_ b=1026:=fun h1 h2=>by
     unfold z5_
     rw [if_neg h4,if_neg (by rw [h1];decide),if_neg (fun h=>by rw [h2 h.1] at h;exact absurd h.2 (by decide)),if_pos hs']
    repeat'(intro t ht;first|(cases t<;>first|(cases ht;done)|(try simp only[zh_]at ht))|((first|refine za_ ht ?_|refine ht ?_ ?_|refine ht.1 ?_ ?_|refine ht ?_)<;>clear ht))
    all_goals (try simp only [hL,hP,hE,g0,g1,g2,gl,hF,hH,hS,hK,Bool.decide_eq_true] at*)
    all_goals first
     | exact hp
     | exact (by decide)
     | exact absurd ⟨by assumption,by assumption⟩ hs
     | omega
     | ((try simp only [zn_,zo_,zi_] at*);omega)
     | (have h0:z5_ b=1031:=by unfold z5_;rw [if_neg h4,if_pos (by assumption)]
        simp only [qi_,Qr_,h0];exact ⟨rfl,by first | rfl | exact True.intro⟩)
     | (have h0:z5_ b=1033:=by unfold z5_;rw [if_neg h4,if_neg (by simp_all;done),if_pos ⟨by assumption,by assumption⟩]
        simp only [qi_,Qr_,h0];exact ⟨rfl,by first | rfl | exact True.intro⟩)
     | (have h0:z5_ b=1026:=hd3 (by assumption) (fun h=>by first | assumption | exact absurd h (by assumption))
        simp only [qi_,Qr_,h0];exact ⟨rfl,by first | rfl | exact True.intro⟩)
 ·cases e
def Gf_:IR:=
(sq (kr [0,1] [oD 2 (.boxv 0),
oD 3 (.boxv 1),
oD 4 (.mov cF)])
(sq (kr [2,3] [oA 5 0 2,
oL 6 5,
oA 7 0 3,
oL 8 7,
oB 9 .eql 6 8,
oM 10 9,
oT 10 11 (.fieldAddr 1 2),
oT 10 12 (.load none 11),
oT 10 13 (.fieldAddr 1 3),
oT 10 14 (.load none 13),
oT 10 15 (.bin .eql 12 14),
oP 16 10 15 cF,
oM 17 16,
oT 17 18 (.fieldAddr 3 2),
oT 17 19 (.load none 18),
oT 17 20 (.fieldAddr 3 3),
oT 17 21 (.load none 20),
oT 17 22 (.bin .eql 19 21),
oP 23 17 22 cF,
oM 4 23])
.ret))
def go_:List RD:=[.tmp 4 true none]
theorem gM_:zl_ Tryz.prog Tryz.f107 Gf_ go_=true:=by kernel_rfl
def Wg_:List AV->List Obj->Option (Prop × AV)
 | [.agg [.int .i64 c,.int .i64 f,.bool h,.int .u64 x,.imm (.int .u8) v,.imm (.int .u8) m],.agg [.int .i64 c',.int .i64 f',.bool h',.int .u64 x',.imm (.int .u8) v',.imm (.int .u8) m']],[]=>some ((True,.bool (decide (c=c') && decide (f=f') && decide (x=x'))))
 | _,_=>none
theorem VQ_:ze_ Tryz.prog 107 (RoF Wg_).sum:=by
 refine zm_ Tryz.func107 gM_ (zd_ _) fun args objs p v e=>?_
 unfold Wg_ at e
 split at e
 ·rename_i c f h x v m c' f' h' x' v' m'
  cases e
  refine ⟨rfl,fun hw ho hp=>?_⟩
  change List Int at v
  change List Int at m
  change List Int at v'
  change List Int at m'
  repeat'(intro t ht;first|(cases t<;>first|(cases ht;done)|(try simp only[zh_]at ht))|((first|refine za_ ht ?_|refine ht ?_ ?_|refine ht.1 ?_ ?_|refine ht ?_)<;>clear ht))
  all_goals first
   | exact True.intro
   | (simp_all;done)
 ·cases e
def Kg_ (c f:Int) (h:Bool) (x:Int) (v m:List Int) (c' f':Int) (h':Bool) (x':Int) (v' m':List Int):Bool:=decide (c=c') && decide (f=f') && decide (x=x') && (h == h') && decide (v=v') && decide (m=m')
def h6_:IR:=
(sq (kr [0,1] [oD 2 (.boxv 0),
oD 3 (.boxv 1),
oD 4 (.mov cF)])
(sq (kr [2,3] [oK 5 6 2,
oK 6 6 3,
oC 7 107 [5,6],
oM 8 7,
oT 8 9 (.fieldAddr 2 2),
oT 8 10 (.load none 9),
oT 8 11 (.fieldAddr 2 3),
oT 8 12 (.load none 11),
oT 8 13 (.eqb false 10 12),
oP 14 8 13 cF,
oM 15 14,
oT 15 16 (.fieldAddr 4 2),
oT 15 17 (.load none 16),
oT 15 18 (.fieldAddr 4 3),
oT 15 19 (.load none 18),
oT 15 20 (.call false (.f 17) [17,19]),
oP 21 15 20 cF,
oM 22 21,
oT 22 23 (.fieldAddr 5 2),
oT 22 24 (.load none 23),
oT 22 25 (.fieldAddr 5 3),
oT 22 26 (.load none 25),
oT 22 27 (.call false (.f 17) [24,26]),
oP 28 22 27 cF,
oM 4 28])
.ret))
def ha_:List RD:=[.tmp 4 true none]
theorem hy_:zl_ Tryz.prog Tryz.f69 h6_ ha_=true:=by kernel_rfl
def xL_:List AV->List Obj->Option (Prop × AV)
 | [.agg [.int .i64 c,.int .i64 f,.bool h,.int .u64 x,.imm (.int .u8) v,.imm (.int .u8) m],.agg [.int .i64 c',.int .i64 f',.bool h',.int .u64 x',.imm (.int .u8) v',.imm (.int .u8) m']],[]=>some ((True,.bool (Kg_ c f h x v m c' f' h' x' v' m')))
 | _,_=>none
theorem U1_:ze_ Tryz.prog 69 (RoF xL_).sum:=by
 refine zm_ Tryz.func69 hy_ (zb_ (s:=RoF Wg_) VQ_ (zb_ (s:=RoF jd_) W0_ (zd_ _))) fun args objs p v e=>?_
 unfold xL_ at e
 split at e
 ·rename_i c f h x v m c' f' h' x' v' m'
  cases e
  refine ⟨rfl,fun hw ho hp=>?_⟩
  change List Int at v
  change List Int at m
  change List Int at v'
  change List Int at m'
  repeat'(intro t ht;first|(cases t<;>first|(cases ht;done)|(try simp only[zh_]at ht))|((first|refine za_ ht ?_|refine ht ?_ ?_|refine ht.1 ?_ ?_|refine ht ?_)<;>clear ht))
  all_goals first
   | exact True.intro
   | (refine ⟨?_,rfl⟩;unfold Kg_;simp_all;done)
   | (refine ⟨?_,rfl⟩;unfold Kg_;cases h<;>cases h'<;>simp_all;done)
   | (refine ⟨?_,rfl⟩;unfold Kg_;rcases ‹(¬c=c'\/¬f=f')\/¬x=x'› with (h1 | h1) | h1<;>rw [decide_eq_false h1]<;>simp)
 ·cases e
def bR_:IR:=
(sq (kr [0] [oD 1 (.boxv 0),
oD 2 (.mov cF)])
(sq (kr [1] [oA 3 4 1,
oL 4 3,
oE 5 4,
oB 6 .leq 5 (cI 300),
oM 7 6,
oT 7 8 (.fieldAddr 5 1),
oT 7 9 (.load none 8),
oT 7 10 (.len 9),
oT 7 11 (.bin .leq 10 (cI 300)),
oP 12 7 11 cF,
oM 2 12])
.ret))
def bh_:List RD:=[.tmp 2 true none]
theorem bw_:zl_ Tryz.prog Tryz.f48 bR_ bh_=true:=by kernel_rfl
def yO_:List AV->List Obj->Option (Prop × AV)
 | [.agg [.int .i64 c,.int .i64 f,.bool h,.int .u64 x,.imm (.int .u8) v,.imm (.int .u8) m]],[]=>some ((True,.bool (decide (v.length<=300) && decide (m.length<=300))))
 | _,_=>none
theorem GW_:ze_ Tryz.prog 48 (RoF yO_).sum:=by
 refine zm_ Tryz.func48 bw_ (zd_ _) fun args objs p v e=>?_
 unfold yO_ at e
 split at e
 ·rename_i c f h x v m
  cases e
  refine ⟨rfl,fun hw ho hp=>?_⟩
  change List Int at v
  change List Int at m
  repeat'(intro t ht;first|(cases t<;>first|(cases ht;done)|(try simp only[zh_]at ht))|((first|refine za_ ht ?_|refine ht ?_ ?_|refine ht.1 ?_ ?_|refine ht ?_)<;>clear ht))
  all_goals first
   | exact True.intro
   | (simp_all;done)
   | (have e:decide (v.length<=300)=false:=decide_eq_false (by omega)
      rw [e];exact ⟨rfl,rfl⟩)
   | (have e:decide (v.length<=300)=true:=decide_eq_true (by omega)
      rw [e];refine ⟨?_,rfl⟩;rw [Bool.true_and];congr 1;rw [Bool.eq_iff_iff];simp only [decide_eq_true_eq];omega)
 ·cases e
theorem zfx_:∀ k < 40,kS_ (k:Nat)=q3_ (k:Nat)/\K8_ (k:Nat)=ZX_ (k:Nat)/\Uu_ (k:Nat)=W4_ (k:Nat):=by decide+kernel
theorem law8 (f:Int):kS_ f=q3_ f/\K8_ f=ZX_ f/\Uu_ f=W4_ f:=by
 cases h:fIs f with
 | true=>
   have hn:=qp_.1 h
   have:=zfx_ f.toNat (by omega)
   rwa [Int.toNat_of_nonneg hn.1] at this
 | false=>
   unfold kS_ q3_ K8_ ZX_ Uu_ W4_;rw [h];exact ⟨rfl,rfl,rfl⟩
theorem zfc_ {n:Nat} (x y:BitVec n):x &&& ~~~y=0#n ↔ x &&& y=x:=by
 constructor
 ·intro h
  refine BitVec.eq_of_getLsbD_eq fun i hi=>?_
  have h1:(x &&& ~~~y).getLsbD i=(0#n).getLsbD i:=by rw [h]
  rw [BitVec.getLsbD_and,BitVec.getLsbD_not,BitVec.getLsbD_zero,decide_eq_true hi,Bool.true_and] at h1
  rw [BitVec.getLsbD_and]
  cases hx:x.getLsbD i<;>cases hy:y.getLsbD i<;>simp_all
 ·intro h
  refine BitVec.eq_of_getLsbD_eq fun i hi=>?_
  have h1:(x &&& y).getLsbD i=x.getLsbD i:=by rw [h]
  rw [BitVec.getLsbD_and] at h1
  rw [BitVec.getLsbD_and,BitVec.getLsbD_not,BitVec.getLsbD_zero,decide_eq_true hi,Bool.true_and]
  cases hx:x.getLsbD i<;>cases hy:y.getLsbD i<;>simp_all
theorem zd2_ {k:IntKind} (hk:k.signed=false) {a:Int} (b:Int) (ha:k.min<=a/\a<=k.max):z9_ .andNot k a b=0 ↔ z9_ .and k a b=a:=by
 have hw:∀ v:BitVec k.bits,k.wrap (v.toNat:Int)=v.toNat:=fun v=>by
  refine jW_ ⟨?_,?_⟩
  ·cases k<;>simp_all [IntKind.min,IntKind.signed,IntKind.bits]<;>omega
  ·have:=v.isLt
   cases k<;>simp_all [IntKind.max,IntKind.signed,IntKind.bits]<;>omega
 have hx:((BitVec.ofInt k.bits a).toNat:Int)=a:=by
  rw [BitVec.toNat_ofInt]
  cases k<;>simp_all [IntKind.min,IntKind.max,IntKind.signed,IntKind.bits]<;>omega
 have h:=zfc_ (BitVec.ofInt k.bits a) (BitVec.ofInt k.bits b)
 show k.wrap (((BitVec.ofInt k.bits a) &&& ~~~(BitVec.ofInt k.bits b)).toNat:Int)=0 ↔ k.wrap (((BitVec.ofInt k.bits a) &&& (BitVec.ofInt k.bits b)).toNat:Int)=a
 rw [hw,hw]
 constructor
 ·intro e
  have:(BitVec.ofInt k.bits a) &&& ~~~(BitVec.ofInt k.bits b)=0#k.bits:=BitVec.eq_of_toNat_eq (by rw [BitVec.toNat_zero];omega)
  rw [h.1 this,hx]
 ·intro e
  have:(BitVec.ofInt k.bits a) &&& (BitVec.ofInt k.bits b)=BitVec.ofInt k.bits a:=BitVec.eq_of_toNat_eq (by omega)
  rw [h.2 this,BitVec.toNat_zero];rfl
theorem ion:∀ x < 256,∀ y < 256,(z9_ .andNot .u8 ((x:Nat):Int) ((y:Nat):Int)=0 ↔ z9_ .and .u8 ((x:Nat):Int) ((y:Nat):Int)=((x:Nat):Int)):=fun x hx y _=>
 zd2_ rfl _ ⟨by show (0:Int)<=x;omega,by show (x:Int)<=255;omega⟩
theorem zbL_:∀ (v m:List Int),(∀ x ∈ v,0<=x/\x<=255)->(∀ x ∈ m,0<=x/\x<=255)->X9_ v m=!inA v m
 | [],_,_,_=>by simp [X9_,inA]
 | _ :: _,[],_,_=>by simp [X9_,inA]
 | x :: r,y :: l,hv,hm=>by
   have hx:=hv x (by simp)
   have hy:=hm y (by simp)
   have ih:=zbL_ r l (fun a ha=>hv a (by simp [ha])) (fun a ha=>hm a (by simp [ha]))
   have h:=ion x.toNat (by omega) y.toNat (by omega)
   rw [Int.toNat_of_nonneg hx.1,Int.toNat_of_nonneg hy.1] at h
   unfold X9_ inA
   by_cases h1:z9_ .andNot .u8 x y=0
   ·rw [if_pos h1,if_pos (h.1 h1),ih]
   ·rw [if_neg h1,if_neg (fun h2=>h1 (h.2 h2))];rfl
theorem G3_ (b:List Int):∀ (f g:Nat) (i:Int),K0_ b (f+g) i=(K0_ b f i && K0_ b g (i+f))
 | 0,g,i=>by rw [Nat.zero_add,show i+((0:Nat):Int)=i by omega];unfold K0_;rfl
 | f+1,g,i=>by
   rw [show f+1+g=(f+g)+1 by omega]
   by_cases h:z9_ .and .u8 ((b.getD (b.length - 1 - i.tdiv 8:Int).toNat 0).fdiv (2 ^ (min (i.tmod 8).toNat 8))) 1=0
   ·rw [xe_ h,xe_ h,Bool.false_and]
   ·rw [xd_ h,xd_ h,G3_ b f g (i+1),show i+1+(f:Int)=i+((f+1:Nat):Int) by omega]
theorem X2_ (x:Int) (r:List Int):∀ (f:Nat) (i:Int),0<=i->i+f<=8*r.length->K0_ (x :: r) f i=K0_ r f i
 | 0,_,_,_=>rfl
 | f+1,i,h0,h=>by
   have ih:=X2_ x r f (i+1) (by omega) (by omega)
   have e:(x :: r).getD (((x :: r).length:Int) - 1 - i.tdiv 8).toNat 0=r.getD ((r.length:Int) - 1 - i.tdiv 8).toNat 0:=by
    rw [Z5_ h0,List.length_cons,show (((r.length+1:Nat):Int) - 1 - i / 8).toNat=((r.length:Int) - 1 - i / 8).toNat+1 by omega];rfl
   by_cases hc:z9_ .and .u8 ((r.getD ((r.length:Int) - 1 - i.tdiv 8).toNat 0).fdiv (2 ^ (min (i.tmod 8).toNat 8))) 1=0
   ·rw [xe_ hc,xe_ (by rw [e];exact hc)]
   ·rw [xd_ hc,xd_ (by rw [e];exact hc),ih]
theorem u8_ (x:Int) (r:List Int):∀ (f:Nat) (i:Int),0<=i->i+f<=8->K0_ (x :: r) f (8*r.length+i)=K0_ [x] f i
 | 0,_,_,_=>rfl
 | f+1,i,h0,h=>by
   have ih:=u8_ x r f (i+1) (by omega) (by omega)
   have h8:0<=8*(r.length:Int)+i:=by omega
   have e:(x :: r).getD (((x :: r).length:Int) - 1 - (8*(r.length:Int)+i).tdiv 8).toNat 0=[x].getD ((([x]:List Int).length:Int) - 1 - i.tdiv 8).toNat 0:=by
    rw [Z5_ h8,Z5_ h0,List.length_cons,List.length_cons,List.length_nil,show (((r.length+1:Nat):Int) - 1 - (8*(r.length:Int)+i) / 8).toNat=0 by omega,show (((0+1:Nat):Int) - 1 - i / 8).toNat=0 by omega];rfl
   have e2:(8*(r.length:Int)+i).tmod 8=i.tmod 8:=by rw [kE_ h8,kE_ h0];omega
   by_cases hc:z9_ .and .u8 (([x].getD ((([x]:List Int).length:Int) - 1 - i.tdiv 8).toNat 0).fdiv (2 ^ (min (i.tmod 8).toNat 8))) 1=0
   ·rw [xe_ hc,xe_ (by rw [e,e2];exact hc)]
   ·rw [xd_ hc,xd_ (by rw [e,e2];exact hc),Int.add_assoc,ih]
theorem zfr_:∀ s < 8,∀ x < 256,z6_ (s:Nat) [((x:Nat):Int)]=true->(((x:Nat):Int)=gC_ (s:Nat) ↔ K0_ [((x:Nat):Int)] (8 - s) 0=true):=by decide+kernel
theorem own0:gC_ 0=255:=by decide
theorem yb_:∀ (r:List Int) (s:Int),s<=0->Kh_ r s=Kh_ r 0
 | [],_,_=>by simp [Kh_]
 | x :: r,s,h=>by
   have h1:gC_ s=255:=if_neg (by omega)
   have ih:=yb_ r (s - 8) (by omega)
   have ih0:=yb_ r (0 - 8) (by omega)
   unfold Kh_
   rw [h1,own0,ih,ih0]
theorem zag_ {s x:Int} (r:List Int) (hs:s<=8) (h:z6_ s (x :: r)=true):z6_ s [x]=true:=by
 by_cases h1:x.fdiv (2 ^ (min (8 - (if 8 < s then 8 else s)).toNat 8))=0
 ·exact if_pos h1
 ·have e:z6_ s (x :: r)=false:=if_neg h1
  rw [e] at h;cases h
theorem Xj_:∀ (m:List Int) (s:Int),(∀ x ∈ m,0<=x/\x<=255)->0<=s->s<=8*m.length->z6_ s m=true->Kh_ m s=K0_ m (8*m.length - s).toNat 0
 | [],s,_,h0,h1,_=>by
   have:s=0:=by simp at h1;omega
   subst this;rfl
 | x :: r,s,hm,h0,h1,hs=>by
   have hx:=hm x (by simp)
   have hr:∀ a ∈ r,0<=a/\a<=255:=fun a ha=>hm a (by simp [ha])
   rw [List.length_cons] at h1
   by_cases h8:8<=s
   ·have hsp:x=0/\z6_ (s - 8) r=true:=by
     have h8':(if 8 < s then 8 else s)=8:=by split<;>omega
     have e:z6_ s (x :: r)=if x.fdiv (2 ^ (min (8 - (if 8 < s then 8 else s)).toNat 8))=0 then z6_ (s - (if 8 < s then 8 else s)) r else false:=rfl
     rw [h8',show (min (8 - 8:Int).toNat 8)=0 from rfl,Int.pow_zero,Int.fdiv_one] at e
     rw [e] at hs
     by_cases h9:x=0
     ·rw [if_pos h9] at hs;exact ⟨h9,hs⟩
     ·rw [if_neg h9] at hs;cases hs
    have ho:gC_ s=0:=by
     unfold gC_
     rw [if_pos (by omega)]
     by_cases h9:8 < s
     ·rw [if_pos h9];decide
     ·rw [if_neg h9,show s=8 by omega];decide
    have ih:=Xj_ r (s - 8) hr (by omega) (by omega) hsp.2
    have hn:(8*(((x :: r).length:Nat):Int) - s).toNat=(8*(r.length:Int) - (s - 8)).toNat:=by rw [List.length_cons];omega
    unfold Kh_
    rw [if_pos (by rw [ho];exact hsp.1),ih,hn,X2_ x r _ 0 (by omega) (by omega)]
   ·have hs1:=zag_ r (by omega) hs
    have h2:=zfr_ s.toNat (by omega) x.toNat (by omega)
    rw [Int.toNat_of_nonneg h0,Int.toNat_of_nonneg hx.1] at h2
    have h3:=h2 hs1
    have hsr:z6_ 0 r=true:=Y4_ r hr
    have ih:=Xj_ r 0 hr (Int.le_refl _) (by omega) hsr
    have hn:(8*(((x :: r).length:Nat):Int) - s).toNat=8*r.length+(8 - s.toNat):=by rw [List.length_cons];omega
    have hn0:(8*(r.length:Int) - 0).toNat=8*r.length:=by omega
    have hhd:=u8_ x r (8 - s.toNat) 0 (Int.le_refl _) (by omega)
    rw [Int.add_zero] at hhd
    rw [hn0] at ih
    unfold Kh_
    rw [hn,G3_,X2_ x r _ 0 (by omega) (by omega),show (0:Int)+((8*r.length:Nat):Int)=8*(r.length:Int) by omega,hhd,yb_ r (s - 8) (by omega),ih]
    by_cases hc:x=gC_ s
    ·rw [if_pos hc,h3.1 hc,Bool.and_true]
    ·rw [if_neg hc,show K0_ [x] (8 - s.toNat) 0=false by
      cases hq:K0_ [x] (8 - s.toNat) 0 with
      | false=>rfl
      | true=>exact absurd (h3.2 hq) hc,Bool.and_false]
theorem bo_ {f:Int} {m:List Int} (hm:∀ x ∈ m,0<=x/\x<=255) (h:KQ_ f m=true):y3_ m (kS_ f)=K0_ m (q3_ f).toNat 0:=by
 unfold KQ_ at h
 split at h
 ·rename_i hh
  have hi:fIs f=true:=qp_.2 hh.1
  have hz:=ga_ f.toNat (by omega)
  rw [Int.toNat_of_nonneg hh.1.1] at hz
  have hb:kS_ f=Kj_.getD f.toNat 0:=if_pos hi
  have hbl:=GF_ f.toNat (by omega)
  have ho:=Xj_ m (m.length*8 - kS_ f) hm (by omega) (by omega) (by rw [hb,show (m.length:Int)*8 - Kj_.getD f.toNat 0=8*KL_ f - Kj_.getD f.toNat 0 by omega];exact h)
  unfold y3_
  rw [ho,<- (law8 f).1,show (8*(m.length:Int) - (m.length*8 - kS_ f))=kS_ f by omega]
 ·cases h
theorem bn_ {m:List Int} (hm:∀ x ∈ m,0<=x/\x<=255):y3_ m (m.length*8)=K0_ m (8*(m.length:Int)).toNat 0:=by
 have ho:=Xj_ m 0 hm (Int.le_refl _) (by omega) (Y4_ m hm)
 unfold y3_
 rw [show (m.length:Int)*8 - m.length*8=0 by omega,ho,Int.sub_zero]
theorem uX_ {c f:Int} {h:Bool} {v m:List Int} (hv:∀ x ∈ v,0<=x/\x<=255) (hm:∀ x ∈ m,0<=x/\x<=255) (hc:c=32768\/c=65535):QF_ f h v m (q7_ c f) (zI_ c)=gg_ c f h v m:=by
 have hoi:=zbL_ v m hv hm
 have hio:(X9_ v m=true)=(inA v m=false):=by rw [hoi];simp
 rcases hc with hc | hc
 ·have he:zI_ c=false:=decide_eq_false (by omega)
  have hb:q7_ c f=kS_ f:=if_neg (by omega)
  have f1:=Hr_ (n:=f) hv
  have f2:=Hr_ (n:=f) hm
  unfold QF_ gg_
  rw [he,hb,f1,f2]
  simp only [hio,hc,true_and,if_true,Bool.false_eq_true,if_false]
  cases h4:ZN_ f m with
  | true=>
    have ho:=bo_ hm (f2.trans h4)
    rw [ho]
  | false=>
    cases h with
    | true=>simp
    | false=>simp
 ·have he:zI_ c=true:=decide_eq_true hc
  have hn:¬ c=32768:=by omega
  have ho:=bn_ hm
  unfold QF_ gg_
  rw [he]
  simp only [hio,hn,false_and,if_true,if_false,reduceCtorEq,ho,and_false]
theorem zf (x:Int) (h:x=0):x.fdiv (2 ^ (min (Int.toNat 32) IntKind.u64.bits))=0:=by subst h;decide
theorem zu (x:Int) (h0:0<=x):x.fdiv (2 ^ (min (Int.toNat 32) IntKind.u64.bits))=0 ↔ x < 4294967296:=by
 rw [show (2:Int) ^ (min (Int.toNat 32) IntKind.u64.bits)=4294967296 from by decide,Int.fdiv_eq_ediv_of_nonneg _ (by decide)];omega
theorem zbA_ {f:Int} {h:Bool} {v m:List Int} (hw:gg_ 32768 f h v m=0):ZN_ f v=true:=by
 cases hh:ZN_ f v with
 | true=>rfl
 | false=>unfold gg_ at hw;rw [if_pos ⟨rfl,hh⟩] at hw;exact absurd hw (by decide)
theorem u7_ {c f:Int} {h:Bool} {x:Int} {v m:List Int} (hx:0<=x) (hv:∀ x ∈ v,0<=x/\x<=255) (hm:∀ x ∈ m,0<=x/\x<=255):zv_ c f h x v m=KM_ c f h x v m:=by
 by_cases hb:c=32768
 ·have hw:=uX_ (f:=f) (h:=h) hv hm (.inl hb)
  have hok:kR_ c f=fIs f:=by unfold kR_;rw [if_neg (by omega),decide_eq_true hb,Bool.and_true]
  have hmk:Z1_ c f=W4_ f:=by unfold Z1_;rw [if_neg (by omega)];exact (law8 f).2.2
  have he:zI_ c=false:=decide_eq_false (by omega)
  have hz:Z0_ c f=ZX_ f:=by unfold Z0_;rw [if_neg (by omega)];exact (law8 f).2.1
  rw [Bool.eq_iff_iff]
  constructor
  ·intro hr
   obtain ⟨r1,r2,r3,r4,r5,r6,r7,r8⟩:=kg_ hr
   unfold KM_
   rw [if_neg (fun hh=>hh.elim (fun hh=>by have:=r3 hh.1;omega) fun hh=>hh.2 (r2 hh.1)),if_pos hb]
   rw [hw] at r8;rw [hok] at r4;rw [hmk] at r5;rw [he] at r6
   have hx0:x=0:=by simpa using r6
   rw [r4,hx0,r8]
   cases h with
   | true=>rw [r5 rfl];rfl
   | false=>rfl
  ·intro hr
   unfold KM_ at hr
   by_cases hn:(h=false/\0 < m.length)\/(h=true/\¬ (m.length:Int)=v.length)
   ·rw [if_pos hn] at hr;cases hr
   ·rw [if_neg hn,if_pos hb] at hr
    simp only [Bool.and_eq_true,Bool.or_eq_true,decide_eq_true_eq] at hr
    obtain ⟨⟨⟨h1,h2⟩,h3⟩,h4⟩:=hr
    have hfit:=zbA_ (hb ▸ h4)
    have hsz:=gf_ hfit
    unfold zv_
    rw [hw,hok,hmk,he,hz,h1,h4,zf x h2,decide_eq_true h2]
    have hvl:decide ((v.length:Int)<=ZX_ f)=true:=decide_eq_true (by omega)
    rw [hvl]
    cases h with
    | true=>
      have:(m.length:Int)=v.length:=Decidable.by_contra fun hh=>hn (.inr ⟨rfl,hh⟩)
      rw [decide_eq_true this]
      simpa using h3
    | false=>
      have:m.length=0:=by have:¬ 0 < m.length:=fun hh=>hn (.inl ⟨rfl,hh⟩);omega
      rw [decide_eq_true this];rfl
 ·by_cases hc:c=65535
  ·have hw:=uX_ (f:=f) (h:=h) hv hm (.inr hc)
   have hok:kR_ c f=(decide (0<=f) && decide (f<=127)):=if_pos hc
   have hmk:Z1_ c f=true:=if_pos hc
   have he:zI_ c=true:=decide_eq_true hc
   have hz:Z0_ c f=100:=if_pos hc
   rw [Bool.eq_iff_iff]
   constructor
   ·intro hr
    obtain ⟨r1,r2,r3,r4,r5,r6,r7,r8⟩:=kg_ hr
    unfold KM_
    rw [if_neg (fun hh=>hh.elim (fun hh=>by have:=r3 hh.1;omega) fun hh=>hh.2 (r2 hh.1)),if_neg hb]
    rw [hw] at r8;rw [hok] at r4;rw [hz] at r1
    have h7:=(zu x hx).1 r7
    simp only [Bool.and_eq_true,decide_eq_true_eq] at r4 ⊢
    exact ⟨⟨⟨⟨⟨hc,r4.1⟩,r4.2⟩,h7⟩,r1⟩,r8⟩
   ·intro hr
    unfold KM_ at hr
    by_cases hn:(h=false/\0 < m.length)\/(h=true/\¬ (m.length:Int)=v.length)
    ·rw [if_pos hn] at hr;cases hr
    ·rw [if_neg hn,if_neg hb] at hr
     simp only [Bool.and_eq_true,decide_eq_true_eq] at hr
     obtain ⟨⟨⟨⟨⟨h1,h2⟩,h3⟩,h4⟩,h5⟩,h6⟩:=hr
     unfold zv_
     rw [hw,hok,hmk,he,hz,h6,(zu x hx).2 h4,decide_eq_true h2,decide_eq_true h3,decide_eq_true h5]
     cases h with
     | true=>
       have:(m.length:Int)=v.length:=Decidable.by_contra fun hh=>hn (.inr ⟨rfl,hh⟩)
       rw [decide_eq_true this];rfl
     | false=>
       have:m.length=0:=by have:¬ 0 < m.length:=fun hh=>hn (.inl ⟨rfl,hh⟩);omega
       rw [decide_eq_true this];rfl
  ·have hok:kR_ c f=false:=by unfold kR_;rw [if_neg hc,decide_eq_false hb,Bool.and_false]
   have h1:zv_ c f h x v m=false:=by unfold zv_;rw [hok];rfl
   have h2:KM_ c f h x v m=false:=by
    unfold KM_;split
    ·rfl
    ·first | (rw [decide_eq_false hc];rfl) | (rw [if_neg hb,decide_eq_false hc];rfl)
   rw [h1,h2]
theorem zet_ {n:Int} (h:0<=n/\n<=255):zf_ n 1=[n]:=by
 show [(n.fdiv (2 ^ (min (8*((1:Int) - 1 - ((0:Nat):Int))).toNat 64))) % 256]=[n]
 rw [show (min (8*((1:Int) - 1 - ((0:Nat):Int))).toNat 64)=0 from by decide,Int.pow_zero,Int.fdiv_one]
 congr 1;omega
theorem qw_ {c f:Int} {h:Bool} {x:Int} {v m:List Int} (hr:zv_ c f h x v m=true):0<=f/\f<=127/\(c=65535\/c=32768)/\(v.length:Int)<=100/\(m.length:Int)<=100/\0<=zY_ c v m/\zY_ c v m<=204/\zY_ c v m=(JM_ c x v m).length:=by
 obtain ⟨r1,r2,r3,r4,_⟩:=kg_ hr
 have hof:=Ui_ c f
 have hm:(m.length:Int)<=100:=by cases h;have:=r3 rfl;omega;have:=r2 rfl;omega
 have hb:zY_ c v m=(JM_ c x v m).length:=by
  have l4:=zk_ (n:=x) (w:=4) (by decide)
  unfold zY_ JM_
  split
  ·rw [List.length_append,List.length_append];omega
  ·rw [List.length_append,List.length_append,List.length_nil];omega
 have h0:0<=zY_ c v m/\zY_ c v m<=204:=by unfold zY_;split<;>omega
 have hcf:0<=f/\f<=127/\(c=65535\/c=32768):=by
  unfold kR_ at r4
  split at r4
  ·simp at r4;omega
  ·simp at r4;have:=qp_.1 r4.1;omega
 exact ⟨hcf.1,hcf.2.1,hcf.2.2,by omega,hm,h0.1,h0.2,hb⟩
theorem YV_ {c f:Int} {h:Bool} {x:Int} {v m:List Int} (hr:zv_ c f h x v m=true):Zj_ c f h x v m=ZH_ c f h x v m:=by
 obtain ⟨n1,n2,n3,n4,n5,n6,n7,n8⟩:=qw_ hr
 unfold Zj_ BU_ ZH_
 rw [zet_ (n:=2*f+if h=true then 1 else 0) (by split<;>omega),zet_ (n:=zY_ c v m) (by omega),n8]
 unfold JM_
 simp only [List.append_assoc,List.cons_append,List.nil_append]
theorem zbp_ {c f:Int} {h:Bool} {x:Int} {v m:List Int}:Qe_ c f h x v m=((if zv_ c f h x v m=true then ZH_ c f h x v m else []).length:Int):=by
 unfold Qe_
 split
 ·rename_i hr
  obtain ⟨n1,n2,n3,n4,n5,n6,n7,n8⟩:=qw_ hr
  have l2:=zk_ (n:=c) (w:=2) (by decide)
  unfold ZH_
  rw [n8]
  simp only [List.length_append,List.length_cons,List.length_nil];omega
 ·rfl
def L1:List Int:=[128,0,10,2,8,0,7]
def L2:List Int:=[128,0,11,4,8,0,8,0]
theorem s1:z5_ L1=0/\qi_ L1 (zu_ L1)=32768/\qi_ L1 (zN_ L1)=5/\ZV_ L1=false/\qi_ L1 (Kw_ L1)=0/\Qr_ L1 (Qm_ L1)=[8,0]/\Qr_ L1 (q9_ L1)=[]/\qi_ L1 (qh_ L1)=6/\z5_ L2=1033:=by decide+kernel
theorem s2:zv_ 32768 5 false 0 [8,0] []=true/\Zj_ 32768 5 false 0 [8,0] []=[128,0,10,2,8,0]:=by decide+kernel
def v2_:IR:=
(sq (kr [0,1] [oD 4 (.mov cF)])
(sq (kr [0,1] [oM 5 0,
oD 6 (.b2s 5),
oM 7 1,
oD 8 (.b2s 7),
oB 9 .eql 6 8,
oM 4 9])
.ret))
def vr_:List RD:=[.tmp 4 true none]
theorem vJ_:zl_ Tryz.prog Tryz.f73 v2_ vr_=true:=by kernel_rfl
def jt_:List AV->List Obj->Option (Prop × AV)
 | [.imm (.int .u8) a,.imm (.int .u8) b],[]=>some ((True,.bool (decide (a=b))))
 | _,_=>none
theorem Yr_:ze_ Tryz.prog 73 (RoF jt_).sum:=by
 refine zm_ Tryz.func73 vJ_ (zd_ _) fun args objs p v e=>?_
 unfold jt_ at e
 split at e
 ·rename_i a b
  cases e
  refine ⟨rfl,fun hw ho hp=>?_⟩
  change List Int at a
  change List Int at b
  repeat'(intro t ht;first|(cases t<;>first|(cases ht;done)|(try simp only[zh_]at ht))|((first|refine za_ ht ?_|refine ht ?_ ?_|refine ht.1 ?_ ?_|refine ht ?_)<;>clear ht))
  all_goals first
   | exact True.intro
   | exact ⟨rfl,rfl⟩
 ·cases e
def Gn_:IR:=
(sq (kr [0,1] [oD 2 (.boxv 0),
oD 3 (.boxv 1),
oD 4 (.mov cF)])
(sq (kr [2,3] [oA 5 0 2,
oL 6 5,
oA 7 0 3,
oL 8 7,
oB 9 .eql 6 8,
oM 10 9,
oT 10 11 (.fieldAddr 1 2),
oT 10 12 (.load none 11),
oT 10 13 (.fieldAddr 1 3),
oT 10 14 (.load none 13),
oT 10 15 (.bin .eql 12 14),
oP 16 10 15 cF,
oM 17 16,
oT 17 18 (.fieldAddr 3 2),
oT 17 19 (.load none 18),
oT 17 20 (.fieldAddr 3 3),
oT 17 21 (.load none 20),
oT 17 22 (.bin .eql 19 21),
oP 23 17 22 cF,
oM 4 23])
.ret))
def gw_:List RD:=[.tmp 4 true none]
theorem gU_:zl_ Tryz.prog Tryz.f108 Gn_ gw_=true:=by kernel_rfl
def Wj_:List AV->List Obj->Option (Prop × AV)
 | [.agg [.int .i64 c,.int .i64 f,.bool h,.int .u64 x,.imm (.int .u8) v,.imm (.int .u8) m],.agg [.int .i64 c',.int .i64 f',.bool h',.int .u64 x',.imm (.int .u8) v',.imm (.int .u8) m']],[]=>some ((True,.bool (decide (c=c') && decide (f=f') && decide (x=x'))))
 | _,_=>none
theorem VT_:ze_ Tryz.prog 108 (RoF Wj_).sum:=by
 refine zm_ Tryz.func108 gU_ (zd_ _) fun args objs p v e=>?_
 unfold Wj_ at e
 split at e
 ·rename_i c f h x v m c' f' h' x' v' m'
  cases e
  refine ⟨rfl,fun hw ho hp=>?_⟩
  change List Int at v
  change List Int at m
  change List Int at v'
  change List Int at m'
  repeat'(intro t ht;first|(cases t<;>first|(cases ht;done)|(try simp only[zh_]at ht))|((first|refine za_ ht ?_|refine ht ?_ ?_|refine ht.1 ?_ ?_|refine ht ?_)<;>clear ht))
  all_goals first
   | exact True.intro
   | (simp_all;done)
 ·cases e
def He_:IR:=
(sq (kr [0,1] [oD 2 (.boxv 0),
oD 3 (.boxv 1),
oD 4 (.mov cF)])
(sq (kr [2,3] [oK 5 6 2,
oK 6 6 3,
oC 7 108 [5,6],
oM 8 7,
oT 8 9 (.fieldAddr 2 2),
oT 8 10 (.load none 9),
oT 8 11 (.fieldAddr 2 3),
oT 8 12 (.load none 11),
oT 8 13 (.eqb false 10 12),
oP 14 8 13 cF,
oM 15 14,
oT 15 16 (.fieldAddr 4 2),
oT 15 17 (.load none 16),
oT 15 18 (.fieldAddr 4 3),
oT 15 19 (.load none 18),
oT 15 20 (.call false (.f 73) [17,19]),
oP 21 15 20 cF,
oM 22 21,
oT 22 23 (.fieldAddr 5 2),
oT 22 24 (.load none 23),
oT 22 25 (.fieldAddr 5 3),
oT 22 26 (.load none 25),
oT 22 27 (.call false (.f 73) [24,26]),
oP 28 22 27 cF,
oM 4 28])
.ret))
def hi_:List RD:=[.tmp 4 true none]
theorem hG_:zl_ Tryz.prog Tryz.f72 He_ hi_=true:=by kernel_rfl
def xQ_:List AV->List Obj->Option (Prop × AV)
 | [.agg [.int .i64 c,.int .i64 f,.bool h,.int .u64 x,.imm (.int .u8) v,.imm (.int .u8) m],.agg [.int .i64 c',.int .i64 f',.bool h',.int .u64 x',.imm (.int .u8) v',.imm (.int .u8) m']],[]=>some ((True,.bool (Kg_ c f h x v m c' f' h' x' v' m')))
 | _,_=>none
theorem U6_:ze_ Tryz.prog 72 (RoF xQ_).sum:=by
 refine zm_ Tryz.func72 hG_ (zb_ (s:=RoF Wj_) VT_ (zb_ (s:=RoF jt_) Yr_ (zd_ _))) fun args objs p v e=>?_
 unfold xQ_ at e
 split at e
 ·rename_i c f h x v m c' f' h' x' v' m'
  cases e
  refine ⟨rfl,fun hw ho hp=>?_⟩
  change List Int at v
  change List Int at m
  change List Int at v'
  change List Int at m'
  repeat'(intro t ht;first|(cases t<;>first|(cases ht;done)|(try simp only[zh_]at ht))|((first|refine za_ ht ?_|refine ht ?_ ?_|refine ht.1 ?_ ?_|refine ht ?_)<;>clear ht))
  all_goals first
   | exact True.intro
   | (refine ⟨?_,rfl⟩;unfold Kg_;simp_all;done)
   | (refine ⟨?_,rfl⟩;unfold Kg_;cases h<;>cases h'<;>simp_all;done)
   | (refine ⟨?_,rfl⟩;unfold Kg_;rcases ‹(¬c=c'\/¬f=f')\/¬x=x'› with (h1 | h1) | h1<;>rw [decide_eq_false h1]<;>simp)
 ·cases e
abbrev OV:=Int × Int × Bool × Int × List Int × List Int × Unit
instance:DecidableEq (Int × List Int × List Int × Unit):=inferInstance
instance:DecidableEq OV:=inferInstance
def lenO (o:OV):Prop:=o.2.2.2.2.1.length<=100000/\o.2.2.2.2.2.1.length<=100000
structure allLen (l:List OV):Prop where
 h:∀ o ∈ l,lenO o
theorem zes_ {l:List Int} (h:4<=l.length):∃ a b c d r,l=a :: b :: c :: d :: r:=by
 obtain _ | ⟨a0,_ | ⟨a1,_ | ⟨a2,_ | ⟨a3,r⟩⟩⟩⟩:=l
 all_goals first | exact ⟨_,_,_,_,_,rfl⟩ | (simp at h;done)
theorem at2 (n:Int):zf_ n 2=[n.fdiv 256 % 256,n % 256]:=by
 have e:zf_ n 2=[(n.fdiv (2 ^ 8)) % 256,(n.fdiv (2 ^ 0)) % 256]:=rfl
 rw [e,show (2:Int) ^ 8=256 from rfl,Int.pow_zero,Int.fdiv_one]
theorem at4 (n:Int):zf_ n 4=[n.fdiv 16777216 % 256,n.fdiv 65536 % 256,n.fdiv 256 % 256,n % 256]:=by
 have e:zf_ n 4=[(n.fdiv (2 ^ 24)) % 256,(n.fdiv (2 ^ 16)) % 256,(n.fdiv (2 ^ 8)) % 256,(n.fdiv (2 ^ 0)) % 256]:=rfl
 rw [e,show (2:Int) ^ 8=256 from rfl,show (2:Int) ^ 16=65536 from rfl,show (2:Int) ^ 24=16777216 from rfl,Int.pow_zero,Int.fdiv_one]
theorem num2 {n:Int} (h:0<=n/\n<=65535):ZL_ (zf_ n 2)=n:=by
 rw [at2,Int.fdiv_eq_ediv_of_nonneg _ (by decide)]
 show (0*256+n / 256 % 256)*256+n % 256=n
 omega
theorem zft_ {n:Int} (h:0<=n/\n<=4294967295):ZL_ (zf_ n 4)=n:=by
 rw [at4,Int.fdiv_eq_ediv_of_nonneg _ (by decide),Int.fdiv_eq_ediv_of_nonneg _ (by decide),Int.fdiv_eq_ediv_of_nonneg _ (by decide)]
 show (((0*256+n / 16777216 % 256)*256+n / 65536 % 256)*256+n / 256 % 256)*256+n % 256=n
 omega
theorem zfK_ {a b:Int} (ha:0<=a/\a<=255) (hb:0<=b/\b<=255):zf_ (ZL_ [a,b]) 2=[a,b]:=by
 have e:ZL_ [a,b]=a*256+b:=by show (0*256+a)*256+b=_;omega
 rw [e,at2,Int.fdiv_eq_ediv_of_nonneg _ (by decide),show (a*256+b) / 256 % 256=a by omega,show (a*256+b) % 256=b by omega]
theorem zfJ_ {a b c d:Int} (ha:0<=a/\a<=255) (hb:0<=b/\b<=255) (hc:0<=c/\c<=255) (hd:0<=d/\d<=255):zf_ (ZL_ [a,b,c,d]) 4=[a,b,c,d]:=by
 have e:ZL_ [a,b,c,d]=((a*256+b)*256+c)*256+d:=by show (((0*256+a)*256+b)*256+c)*256+d=_;omega
 rw [e,at4,Int.fdiv_eq_ediv_of_nonneg _ (by decide),Int.fdiv_eq_ediv_of_nonneg _ (by decide),Int.fdiv_eq_ediv_of_nonneg _ (by decide),
  show (((a*256+b)*256+c)*256+d) / 16777216 % 256=a by omega,show (((a*256+b)*256+c)*256+d) / 65536 % 256=b by omega,
  show (((a*256+b)*256+c)*256+d) / 256 % 256=c by omega,show (((a*256+b)*256+c)*256+d) % 256=d by omega]
def hI (h:Bool):Int:=if h=true then 1 else 0
theorem zdP_ {c f:Int} {h:Bool} {x:Int} {v m:List Int} (hr:zv_ c f h x v m=true) (hx:0<=x) (L:List Int) (h0:L.take 4=(ZH_ c f h x v m).take 4):zu_ L=c/\zN_ L=f/\ZV_ L=h/\L.getD 3 0=zY_ c v m:=by
 obtain ⟨n1,n2,n3,n4,n5,n6,n7,n8⟩:=qw_ hr
 have hc:0<=c/\c<=65535:=by omega
 have e1:(ZH_ c f h x v m).take 4=[c.fdiv 256 % 256,c % 256,2*f+(if h=true then 1 else 0),zY_ c v m]:=by
  unfold ZH_;rw [at2,<- n8];rfl
 rw [e1] at h0
 have e2:L.take 2=zf_ c 2:=by
  rw [at2,show L.take 2=(L.take 4).take 2 by rw [List.take_take];rfl,h0];rfl
 have e3:∀ k < 4,L.getD k 0=(L.take 4).getD k 0:=fun k hk=>(XU_ hk).symm
 have g2:L.getD 2 0=2*f+(if h=true then 1 else 0):=by rw [e3 2 (by decide),h0];rfl
 have g3:L.getD 3 0=zY_ c v m:=by rw [e3 3 (by decide),h0];rfl
 refine ⟨?_,?_,?_,g3⟩
 ·unfold zu_;rw [e2,num2 hc]
 ·unfold zN_;rw [g2,Z5_ (by split<;>omega)];split<;>omega
 ·unfold ZV_;rw [g2,kE_ (by split<;>omega)]
  cases h with
  | true=>exact decide_eq_true (by simp only [if_true];omega)
  | false=>exact decide_eq_false (by simp only [Bool.false_eq_true,if_false];omega)
theorem zeZ_ {c f:Int} {h:Bool} {x:Int} {v m:List Int} (hr:zv_ c f h x v m=true) {L:List Int} (hC:zu_ L=c) (hF:zN_ L=f) (hH:ZV_ L=h) (h3:L.getD 3 0=zY_ c v m):Zp_ L=v.length/\K1_ L=true:=by
 obtain ⟨n1,n2,n3,n4,n5,n6,n7,n8⟩:=qw_ hr
 obtain ⟨r1,r2,r3,r4,r5,r6,r7,r8⟩:=kg_ hr
 unfold Zp_ K1_
 rw [hC,hF,hH,h3]
 rcases n3 with hc | hc
 ·have he:zI_ c=true:=decide_eq_true hc
  have hz:Z0_ c f=100:=if_pos hc
  have hre:zY_ c v m=v.length+m.length+4:=if_pos hc
  unfold vT_ Xs_
  rw [he,hz,hre,if_pos rfl,if_pos rfl]
  cases h with
  | true=>
    have:=r2 rfl
    simp only [if_true,Bool.and_eq_true,decide_eq_true_eq]
    rw [Z5_ (by omega),kE_ (by omega)];omega
  | false=>
    have:=r3 rfl
    simp only [Bool.false_eq_true,if_false,Bool.and_eq_true,decide_eq_true_eq]
    rw [Z5_ (by omega),kE_ (by omega)];omega
 ·have he:zI_ c=false:=decide_eq_false (by omega)
  have hz:Z0_ c f=K8_ f:=if_neg (by omega)
  have hre:zY_ c v m=v.length+m.length:=if_neg (by omega)
  have hv:(v.length:Int)=K8_ f:=by
   have hfit:KQ_ f v=true:=by
    cases hh:KQ_ f v with
    | true=>rfl
    | false=>
      rw [he] at r8
      unfold QF_ at r8;rw [if_pos ⟨rfl,hh⟩] at r8;exact absurd r8 (by decide)
   unfold KQ_ at hfit
   split at hfit
   ·rename_i hh
    have hi:fIs f=true:=qp_.2 hh.1
    rw [hh.2];unfold K8_;rw [hi];rfl
   ·cases hfit
  unfold vT_ Xs_
  rw [he,hz,hre]
  cases h with
  | true=>
    have:=r2 rfl
    simp only [Bool.false_eq_true,if_false,if_true,decide_eq_true_eq];omega
  | false=>
    have:=r3 rfl
    simp only [Bool.false_eq_true,if_false,decide_eq_true_eq];omega
theorem mid {p v r:List Int} {A S:Int} (hA:A=p.length) (hS:S=v.length):((p++(v++r)).take (A+S).toNat).drop A.toNat=v:=by
 subst hA hS
 rw [show ((p.length:Int)+v.length).toNat=p.length+v.length by omega,Int.toNat_natCast,<- List.append_assoc,<- List.length_append,List.take_left,List.drop_left]
theorem zdZ_ {c f:Int} {h:Bool} {x:Int} {v m b:List Int} (hr:zv_ c f h x v m=true) (hx:0<=x):z5_ (ZH_ c f h x v m++b)=0/\zu_ (ZH_ c f h x v m++b)=c/\zN_ (ZH_ c f h x v m++b)=f/\ZV_ (ZH_ c f h x v m++b)=h/\Kw_ (ZH_ c f h x v m++b)=x/\Qm_ (ZH_ c f h x v m++b)=v/\q9_ (ZH_ c f h x v m++b)=m/\qh_ (ZH_ c f h x v m++b)=(ZH_ c f h x v m).length:=by
 obtain ⟨n1,n2,n3,n4,n5,n6,n7,n8⟩:=qw_ hr
 obtain ⟨r1,r2,r3,r4,r5,r6,r7,r8⟩:=kg_ hr
 have hl2:=zk_ (n:=c) (w:=2) (by decide)
 have hl4:=zk_ (n:=x) (w:=4) (by decide)
 have hlen:((ZH_ c f h x v m).length:Int)=4+zY_ c v m:=by
  rw [n8];unfold ZH_;simp only [List.length_append,List.length_cons,List.length_nil];omega
 obtain ⟨L,hL⟩:∃ L,L=ZH_ c f h x v m++b:=⟨_,rfl⟩
 have hLl:(L.length:Int)=4+zY_ c v m+b.length:=by rw [hL,List.length_append];omega
 have ht:L.take 4=(ZH_ c f h x v m).take 4:=by rw [hL,List.take_append_of_le_length (by omega)]
 obtain ⟨hC,hF,hH,h3⟩:=zdP_ hr hx L ht
 obtain ⟨hS,hK⟩:=zeZ_ hr hC hF hH h3
 rw [<- hL]
 have hsplit:L=(zf_ c 2++[2*f+(if h=true then 1 else 0),((JM_ c x v m).length:Int)]++(if c=65535 then zf_ x 4 else []))++(v++(m++b)):=by
  rw [hL];unfold ZH_;rw [show JM_ c x v m=(if c=65535 then zf_ x 4 else [])++v++m from rfl];simp only [List.append_assoc]
 obtain ⟨p,hp⟩:∃ p,p=zf_ c 2++[2*f+(if h=true then 1 else 0),((JM_ c x v m).length:Int)]++(if c=65535 then zf_ x 4 else []):=⟨_,rfl⟩
 rw [<- hp] at hsplit
 have hA:k7_ L=p.length:=by
  unfold k7_;rw [hC,hp]
  split
  ·simp only [List.length_append,List.length_cons,List.length_nil];omega
  ·simp only [List.length_append,List.length_cons,List.length_nil];omega
 have hX:Kw_ L=x:=by
  unfold Kw_;rw [hC]
  by_cases hc:c=65535
  ·rw [if_pos hc]
   have hx4:x<=4294967295:=by have:=(zu x hx).1 r7;omega
   have e:(L.drop 4).take 4=zf_ x 4:=by
    rw [hsplit,hp,if_pos hc,at2,at4];rfl
   rw [e,zft_ ⟨hx,hx4⟩]
  ·rw [if_neg hc]
   have he:zI_ c=false:=decide_eq_false hc
   rw [he] at r6
   exact (r6.resolve_left (by decide)).symm
 have hV:Qm_ L=v:=by
  unfold Qm_;rw [hA,hS];rw [hsplit];exact mid rfl rfl
 have hM:q9_ L=m:=by
  unfold q9_
  cases h with
  | true=>
    rw [hH,if_pos rfl,hA,hS,hsplit,<- List.append_assoc]
    have:=r2 rfl
    exact mid (p:=p++v) (r:=b) (by rw [List.length_append];omega) (by omega)
  | false=>
    rw [hH]
    exact (List.eq_nil_of_length_eq_zero (r3 rfl)).symm
 have hN:qh_ L=(ZH_ c f h x v m).length:=by
  unfold qh_;rw [hH,hS]
  have hre:zY_ c v m=(if c=65535 then 4 else 0)+v.length+m.length:=by unfold zY_;split<;>omega
  rw [hlen,hre]
  unfold k7_;rw [hC]
  cases h with
  | true=>have:=r2 rfl;simp only [if_true];split<;>omega
  | false=>have:=r3 rfl;simp only [Bool.false_eq_true,if_false];split<;>omega
 refine ⟨?_,hC,hF,hH,hX,hV,hM,hN⟩
 rw [jJ_ (by omega) (by rw [hC,hF];exact r4) (fun hh=>by rw [hC,hF];exact r5 (hH.symm.trans hh)) hK (by rw [h3];omega),hC,hF,hH,hV,hM]
 exact r8
theorem zdY_ {b:List Int} (hb:∀ x ∈ b,0<=x/\x<=255) (h0:z5_ b=0):zv_ (zu_ b) (zN_ b) (ZV_ b) (Kw_ b) (Qm_ b) (q9_ b)=true/\ZH_ (zu_ b) (zN_ b) (ZV_ b) (Kw_ b) (Qm_ b) (q9_ b)=b.take (qh_ b).toNat/\0<=qh_ b/\qh_ b<=b.length:=by
 have hq:=XG_ hb 2
 have hn:=XG_ hb 3
 have hof:=Ui_ (zu_ b) (zN_ b)
 unfold z5_ at h0
 by_cases h4:b.length < 4
 ·rw [if_pos h4] at h0;exact absurd h0 (by decide)
 rw [if_neg h4] at h0
 by_cases hok:kR_ (zu_ b) (zN_ b)=false
 ·rw [if_pos hok] at h0;exact absurd h0 (by decide)
 rw [if_neg hok] at h0
 by_cases hmk:ZV_ b=true/\Z1_ (zu_ b) (zN_ b)=false
 ·rw [if_pos hmk] at h0;exact absurd h0 (by decide)
 rw [if_neg hmk] at h0
 by_cases hkl:K1_ b=false\/(b.length:Int) - 4 < b.getD 3 0
 ·rw [if_pos hkl] at h0;exact absurd h0 (by decide)
 rw [if_neg hkl] at h0
 have hK:K1_ b=true:=by cases hk:K1_ b with | true=>rfl | false=>exact absurd (.inl hk) hkl
 have hlen:4+b.getD 3 0<=(b.length:Int):=by
  have:¬ (b.length:Int) - 4 < b.getD 3 0:=fun h=>hkl (.inr h)
  omega
 have hok':kR_ (zu_ b) (zN_ b)=true:=by simpa using hok
 obtain ⟨d1,d2,d3⟩:=BW_ hn.1 hof.1 hK
 have hcc:zu_ b=65535\/zu_ b=32768:=by
  unfold kR_ at hok'
  split at hok'
  ·left;assumption
  ·right;simp only [Bool.and_eq_true,decide_eq_true_eq] at hok';exact hok'.2
 have hA0:0<=k7_ b:=by unfold k7_;split<;>decide
 have hVl:((Qm_ b).length:Int)=Zp_ b:=ZA_ hA0 d1 (by unfold qh_ at d2;split at d2<;>omega)
 have hMl:((q9_ b).length:Int)=if ZV_ b=true then Zp_ b else 0:=by
  unfold q9_
  by_cases hh:ZV_ b=true
  ·rw [if_pos hh,if_pos hh]
   exact ZA_ (by omega) d1 (by unfold qh_ at d2;rw [if_pos hh] at d2;omega)
  ·rw [if_neg hh,if_neg hh];rfl
 have hX:0<=Kw_ b/\Kw_ b < 4294967296:=by
  unfold Kw_
  split
  ·have:=Xn_ ((b.drop 4).take 4) fun y hy=>hb y (List.mem_of_mem_drop (List.mem_of_mem_take hy))
   have h2:∀ k ≤ 4,(256:Int) ^ k<=4294967296:=by decide
   have:=h2 ((b.drop 4).take 4).length (by rw [List.length_take];omega)
   omega
  ·decide
 have hR:zv_ (zu_ b) (zN_ b) (ZV_ b) (Kw_ b) (Qm_ b) (q9_ b)=true:=by
  unfold zv_
  rw [hok',(zu _ hX.1).2 hX.2,h0,decide_eq_true (show ((Qm_ b).length:Int)<=Z0_ (zu_ b) (zN_ b) by omega)]
  have hx0:(zI_ (zu_ b) || decide (Kw_ b=0))=true:=by
   rcases hcc with hc | hc
   ·rw [show zI_ (zu_ b)=true from decide_eq_true hc];rfl
   ·rw [show Kw_ b=0 from if_neg (by omega)];simp
  rw [hx0]
  cases hh:ZV_ b with
  | true=>
    have hm1:Z1_ (zu_ b) (zN_ b)=true:=by
     cases hq:Z1_ (zu_ b) (zN_ b) with
     | true=>rfl
     | false=>exact absurd ⟨hh,hq⟩ hmk
    rw [hh,if_pos rfl] at hMl
    rw [hm1,decide_eq_true (show ((q9_ b).length:Int)=(Qm_ b).length by omega)];rfl
  | false=>
    rw [hh] at hMl
    simp only [Bool.false_eq_true,if_false] at hMl
    rw [decide_eq_true (show (q9_ b).length=0 by omega)];rfl
 refine ⟨hR,?_,by omega,by omega⟩
 obtain ⟨a0,a1,a2,a3,r,hbd⟩:=zes_ (l:=b) (by omega)
 have q0:=hb a0 (by rw [hbd];simp)
 have q1:=hb a1 (by rw [hbd];simp)
 have q2:=hb a2 (by rw [hbd];simp)
 have q3:=hb a3 (by rw [hbd];simp)
 obtain ⟨n1,n2,n3,n4,n5,n6,n7,n8⟩:=qw_ hR
 have g2:b.getD 2 0=a2:=by rw [hbd];rfl
 have g3:b.getD 3 0=a3:=by rw [hbd];rfl
 have c2:zf_ (zu_ b) 2=[a0,a1]:=by unfold zu_;rw [hbd];exact zfK_ q0 q1
 have hf:2*zN_ b+(if ZV_ b=true then 1 else 0)=a2:=by
  unfold zN_ ZV_;rw [g2,Z5_ q2.1,kE_ q2.1]
  by_cases h1:a2 % 2=1
  ·rw [decide_eq_true h1,if_pos rfl];omega
  ·rw [decide_eq_false h1];simp only [Bool.false_eq_true,if_false];omega
 have hrl:zY_ (zu_ b) (Qm_ b) (q9_ b)=a3:=by
  unfold zY_
  rw [hVl,hMl,<- g3]
  unfold qh_ k7_ at d2
  by_cases hh:ZV_ b=true
  ·rw [if_pos hh] at d2 ⊢
   by_cases hc:zu_ b=65535
   ·rw [if_pos hc] at d2 ⊢;omega
   ·rw [if_neg hc] at d2 ⊢;omega
  ·rw [if_neg hh] at d2 ⊢
   by_cases hc:zu_ b=65535
   ·rw [if_pos hc] at d2 ⊢;omega
   ·rw [if_neg hc] at d2 ⊢;omega
 have hbody:JM_ (zu_ b) (Kw_ b) (Qm_ b) (q9_ b)=r.take a3.toNat:=by
  have hdr:b.drop 4=r:=by rw [hbd];rfl
  have hXb:(if zu_ b=65535 then zf_ (Kw_ b) 4 else [])=(b.take (k7_ b).toNat).drop 4:=by
   by_cases hc:zu_ b=65535
   ·have hA8:k7_ b=8:=if_pos hc
    have hl8:8<=b.length:=by unfold qh_ at d2;rw [hA8] at d2;split at d2<;>omega
    rw [if_pos hc,hA8]
    have hXe:Kw_ b=ZL_ ((b.drop 4).take 4):=if_pos hc
    rw [hXe,hdr]
    have hrl8:4<=r.length:=by rw [hbd] at hl8;simp only [List.length_cons] at hl8;omega
    obtain ⟨x0,x1,x2,x3,s,hrd⟩:=zes_ hrl8
    have hmr:∀ y ∈ r,0<=y/\y<=255:=fun y hy=>hb y (by rw [hbd];simp [hy])
    have y0:=hmr x0 (by rw [hrd];simp)
    have y1:=hmr x1 (by rw [hrd];simp)
    have y2:=hmr x2 (by rw [hrd];simp)
    have y3:=hmr x3 (by rw [hrd];simp)
    rw [hrd,show (x0 :: x1 :: x2 :: x3 :: s).take 4=[x0,x1,x2,x3] from rfl,zfJ_ y0 y1 y2 y3,hbd,hrd];rfl
   ·have hA4:k7_ b=4:=if_neg hc
    rw [if_neg hc,hA4,hbd];rfl
  unfold JM_
  rw [hXb]
  have hAn:4<=(k7_ b).toNat:=by unfold k7_;split<;>decide
  have j1:∀ (i j k:Nat),i<=j->j<=k->(b.take j).drop i++(b.take k).drop j=(b.take k).drop i:=fun i j k h1 h2=>by
   rw [show (b.take k).drop i=((b.take k).drop i).take (j - i)++((b.take k).drop i).drop (j - i) from (List.take_append_drop ..).symm,List.drop_drop,show i+(j - i)=j by omega,List.take_drop,show i+(j - i)=j by omega,List.take_take,Nat.min_eq_left h2]
  have hfin:∀ k:Nat,(k:Int)=qh_ b->(b.take k).drop 4=r.take a3.toNat:=fun k hk=>by
   rw [hbd,show k=a3.toNat+4 by omega];rfl
  unfold Qm_ q9_
  by_cases hh:ZV_ b=true
  ·rw [if_pos hh,j1 _ _ _ hAn (by omega),j1 _ _ _ (by omega) (by omega)]
   refine hfin _ ?_
   unfold qh_;rw [if_pos hh];omega
  ·rw [if_neg hh,List.append_nil,j1 _ _ _ hAn (by omega)]
   refine hfin _ ?_
   unfold qh_;rw [if_neg hh];omega
 unfold ZH_
 rw [c2,hf,<- n8,hrl,hbody,d2,g3]
 rw [hbd,show (4+a3).toNat=a3.toNat+4 by omega];rfl
end Go.Eng
