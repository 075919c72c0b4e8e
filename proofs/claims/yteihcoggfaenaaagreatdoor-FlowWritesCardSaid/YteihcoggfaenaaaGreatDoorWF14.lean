/- Parts of the proof: O7, OA, OE, OI. No condition. -/
import Derived.Test.YteihcoggfaenaaaGreatDoorProg
import Derived.Test.YteihcoggfaenaaaGreatDoorWF10
import Derived.KernelRfl
import Derived.Test.YteihcoggfaenaaaGreatDoorWF13
namespace Go.Eng
open Go.Proofs
set_option linter.unusedVariables false
set_option linter.unusedSimpArgs false
set_option maxRecDepth 100000
set_option maxHeartbeats 1000000
theorem zi9_ (b:List Int):ZX_ [2,1,1] b=if b.length < 4 then ([],1) else ([Zz_ (b.take 2),b.getD 2 0,b.getD 3 0],0):=by
 have hr:z3_ [2,1,1]=true:=by decide
 have a2:zt_ 2=2:=by decide
 have a1:zt_ 1=1:=by decide
 unfold ZX_
 rw [if_pos hr]
 unfold ZG_;unfold ZG_;unfold ZG_;unfold ZG_
 rw [a2,a1]
 by_cases h2:b.length < 2
 ·rw [if_pos (by omega),if_pos (by omega)]
 ·rw [if_neg (by omega),if_pos (by decide)]
  by_cases h3:b.length < 3
  ·rw [if_pos (by rw [List.length_drop];omega),if_pos (by omega)]
  ·rw [if_neg (by rw [List.length_drop];omega),if_pos (by decide)]
   by_cases h4:b.length < 4
   ·rw [if_pos (by rw [List.length_drop,List.length_drop];omega),if_pos (by omega)]
   ·rw [if_neg (by rw [List.length_drop,List.length_drop];omega),if_pos (by decide),if_neg h4]
    obtain _ | ⟨x,_ | ⟨y,_ | ⟨z,_ | ⟨w,r⟩⟩⟩⟩:=b
    all_goals simp at h4
    simp [Zz_]
theorem get4 (b:List Int):ZX_ [4] b=if b.length < 4 then ([],1) else ([Zz_ (b.take 4)],0):=by
 have hr:z3_ [4]=true:=by decide
 have a4:zt_ 4=4:=by decide
 unfold ZX_
 rw [if_pos hr]
 unfold ZG_;unfold ZG_
 rw [a4]
 by_cases h4:b.length < 4
 ·rw [if_pos (by omega),if_pos h4]
 ·rw [if_neg (by omega),if_pos (by decide),if_neg h4];rfl
def zE_ (b:List Int):Int:=Zz_ (b.take 2)
def zT_ (b:List Int):Int:=(b.getD 2 0).tdiv 2
def ZN_ (b:List Int):Bool:=decide ((b.getD 2 0).tmod 2=1)
def QF_ (b:List Int):Int:=if zE_ b=65535 then Zz_ ((b.drop 4).take 4) else 0
def Kr_ (b:List Int):Int:=if zE_ b=65535 then 8 else 4
def ZC_ (b:List Int):Int:=U1_ (ZN_ b) (z5_ (zE_ b)) (qh_ (zE_ b) (zT_ b)) (b.getD 3 0)
def jB_ (b:List Int):Bool:=Yr_ (ZN_ b) (z5_ (zE_ b)) (qh_ (zE_ b) (zT_ b)) (b.getD 3 0)
def qs_ (b:List Int):List Int:=(b.take (Kr_ b+ZC_ b).toNat).drop (Kr_ b).toNat
def qo_ (b:List Int):List Int:=if ZN_ b=true then (b.take (Kr_ b+ZC_ b+ZC_ b).toNat).drop (Kr_ b+ZC_ b).toNat else []
def Zy_ (b:List Int):Int:=Kr_ b+ZC_ b+if ZN_ b=true then ZC_ b else 0
def zO_ (b:List Int):Int:=if b.length < 4 then 1026 else if Kd_ (zE_ b) (zT_ b)=false then 1031 else if ZN_ b=true/\qi_ (zE_ b) (zT_ b)=false then 1033 else if jB_ b=false\/(b.length:Int) - 4 < b.getD 3 0 then 1026 else QV_ (zT_ b) (ZN_ b) (qs_ b) (qo_ b) (Qk_ (zE_ b) (zT_ b)) (z5_ (zE_ b))
def Zw_ (b:List Int) (x:Int):Int:=if zO_ b=0 then x else 0
def qd_ (b:List Int) (l:List Int):List Int:=if zO_ b=0 then l else []
theorem cur4 {b:List Int} {sh od:Int} (h:4<=b.length):kk_ [2,1,1] b 0 0=[zE_ b,b.getD 2 0,b.getD 3 0]/\kC_ [2,1,1] b 0 0=4/\Ki_ [2,1,1] b 0 sh od 0=0:=by
 have e:ZX_ [2,1,1] (b.drop (0:Int).toNat)=([Zz_ (b.take 2),b.getD 2 0,b.getD 3 0],0):=by
  rw [show (0:Int).toNat=0 from rfl,List.drop_zero,zi9_,if_neg (by omega)]
 have es:zP_ [2,1,1]=4:=by decide
 unfold kk_ kC_ Ki_ Zq_ z7_
 rw [e,es];exact ⟨rfl,rfl,rfl⟩
theorem cur0 {b:List Int} {sh od:Int} (h:b.length < 4):kk_ [2,1,1] b 0 0=[]/\kC_ [2,1,1] b 0 0=0/\Ki_ [2,1,1] b 0 sh od 0=sh:=by
 have e:ZX_ [2,1,1] (b.drop (0:Int).toNat)=([],1):=by
  rw [show (0:Int).toNat=0 from rfl,List.drop_zero,zi9_,if_pos (by omega)]
 unfold kk_ kC_ Ki_ Zq_ z7_
 rw [e];exact ⟨rfl,rfl,rfl⟩
theorem num4 {b:List Int} {p sh od:Int} (hp:0<=p) (h:p+4<=b.length):Yj_ 4 b p 0=Zz_ ((b.drop p.toNat).take 4)/\xp_ 4 b p 0=p+4/\XF_ 4 b p sh od 0=0:=by
 have e:ZX_ [4] (b.drop p.toNat)=([Zz_ ((b.drop p.toNat).take 4)],0):=by
  rw [get4,if_neg (by rw [List.length_drop];omega)]
 have es:zP_ [4]=4:=by decide
 unfold Yj_ xp_ XF_ kk_ kC_ Ki_ Zq_ z7_
 rw [e,es];exact ⟨rfl,rfl,rfl⟩
theorem JU_ {n p sh:Int} {b:List Int} (hn:0<=n) (h:p+n<=b.length):Qp_ n b p sh 0=(b.take (p+n).toNat).drop p.toNat/\jD_ n b p sh 0=p+n/\ZZ_ n b p sh 0=0:=by
 have e:ZZ_ n b p sh 0=0:=by unfold ZZ_;rw [if_neg (by omega),if_neg (by omega)]
 unfold Qp_ jD_;rw [e];exact ⟨rfl,rfl,rfl⟩
theorem YF_ {b:List Int} (hb:∀ x ∈ b,0<=x/\x<=255) (i:Nat):0<=b.getD i 0/\b.getD i 0<=255:=by
 by_cases h:i < b.length
 ·exact hb _ (zu_ (α:=Int) h 0)
 ·rw [List.getD_eq_getElem?_getD,List.getElem?_eq_none (by omega)];decide
theorem zlN_ {b:List Int} (hb:∀ x ∈ b,0<=x/\x<=255):0<=zE_ b/\zE_ b<=65535:=by
 have:=Yl_ (b.take 2) fun x hx=>hb x (List.mem_of_mem_take hx)
 have h2:∀ k ≤ 2,(256:Int) ^ k<=65536:=by decide
 have:=h2 (b.take 2).length (by rw [List.length_take];omega)
 unfold zE_;omega
theorem zgr_ {b:List Int} (hn:0<=b.getD 3 0) (hof:0<=qh_ (zE_ b) (zT_ b)) (hk:jB_ b=true):0<=ZC_ b/\Zy_ b=4+b.getD 3 0/\ZC_ b<=qh_ (zE_ b) (zT_ b):=by
 unfold jB_ Yr_ at hk
 unfold Zy_ ZC_ U1_ Kr_
 by_cases hc:zE_ b=65535
 ·have he:z5_ (zE_ b)=true:=decide_eq_true hc
  rw [he] at hk ⊢
  rw [if_pos hc]
  rw [if_pos rfl] at hk ⊢
  simp only [Bool.and_eq_true,decide_eq_true_eq] at hk
  obtain ⟨⟨k1,k2⟩,k3⟩:=hk
  cases hh:ZN_ b with
  | true=>
    rw [hh] at k2 k3
    simp only [if_true] at k2 k3 ⊢
    rw [kP_ k1] at k2;rw [qp_ k1] at k3 ⊢;omega
  | false=>
    rw [hh] at k2 k3
    simp only [if_false,Bool.false_eq_true] at k2 k3 ⊢
    rw [qp_ k1] at k3 ⊢;omega
 ·have he:z5_ (zE_ b)=false:=decide_eq_false hc
  rw [he] at hk ⊢
  rw [if_neg hc]
  simp only [if_false,Bool.false_eq_true,decide_eq_true_eq] at hk ⊢
  cases hh:ZN_ b with
  | true=>rw [hh] at hk;simp only [if_true] at hk ⊢;omega
  | false=>rw [hh] at hk;simp only [if_false,Bool.false_eq_true] at hk ⊢;omega
theorem zkP_ {b:List Int} (hq:0<=b.getD 2 0/\b.getD 2 0<=255):0<=zT_ b/\zT_ b<=127:=by
 unfold zT_;rw [qp_ hq.1];omega
theorem ZP_ {b:List Int} {p n:Int} (hp:0<=p) (hn:0<=n) (h:p+n<=b.length):((((b.take (p+n).toNat).drop p.toNat).length:Nat):Int)=n:=by
 rw [List.length_drop,List.length_take];omega
theorem JD_ {b:List Int} (h4:¬ b.length < 4) (hok:Kd_ (zE_ b) (zT_ b)=true) (hm:ZN_ b=true->qi_ (zE_ b) (zT_ b)=true) (hk:jB_ b=true) (hl:¬ (b.length:Int) - 4 < b.getD 3 0):zO_ b=QV_ (zT_ b) (ZN_ b) (qs_ b) (qo_ b) (Qk_ (zE_ b) (zT_ b)) (z5_ (zE_ b)):=by
 unfold zO_
 rw [if_neg h4,if_neg (by rw [hok];decide),if_neg (fun h=>by rw [hm h.1] at h;exact absurd h.2 (by decide)),if_neg (fun h=>h.elim (by rw [hk];decide) hl)]
def ho_:IR:=
(sq (kr [0] [oD 2 (.box [.int .i64 0,.int .i64 0,.kb false,.int .u64 0,.imm (.int .u8) [],.imm (.int .u8) []]),
oD 3 (.mov (cI 0)),
oD 4 (.mov (cI 0))])
(sq (.reg [oM 14 0,
oC 15 41 [14,(cI 1026),(cI 1026)],
oM 5 15])
(sq (.reg [oM 16 5,
oD 17 (.sliceAll (.int .i64) 3 [(0,1,(cI 2)),(1,1,(cI 1)),(2,1,(cI 1))]),
oC 18 42 [16,17],
oM 6 18])
(sq (sq (kr [2,5,6] [oM 19 6,
oE 20 19,
oB 21 .eql 20 (cI 0)])
(.cond 21
(sq (kr [2,5] [oD 22 (.build [.int .i64 0,.int .i64 0,.kb false,.int .u64 0,.imm (.int .u8) [],.imm (.int .u8) []] []),
oM 23 5,
oC 24 43 [23],
oS 6 2 22,
oD 3 (.mov (cI 0)),
oM 4 24])
.ret)
.skip))
(sq (kd [2,5,6] [(oM 25 6,[]),
(oD 26 (.indexSl 1 25 (cI 0)),[]),
(oL 27 26,[]),
(oD 28 (.conv .i64 27),[]),
(oM 29 6,[0,0,0,0]),
(oD 30 (.indexSl 1 29 (cI 1)),[1,0,0,0]),
(oL 31 30,[2,0,0,0]),
(oB 32 .quo 31 (.c (.int .u64 2)),[3,0,0,0]),
(oD 33 (.conv .i64 32),[4,0,0,0]),
(oM 34 6,[0,0,0,0,0,0,0,0,0]),
(oD 35 (.indexSl 1 34 (cI 1)),[1,0,0,0,0,0,0,0,0]),
(oL 36 35,[2,0,0,0,0,0,0,0,0]),
(oB 37 .rem 36 (.c (.int .u64 2)),[3,0,0,0,0,0,0,0,0]),
(oB 38 .eql 37 (.c (.int .u64 1)),[4,0,0,0,0,0,0,0,0]),
(oD 39 (.build [.int .i64 0,.int .i64 0,.kb false,.int .u64 0,.imm (.int .u8) [],.imm (.int .u8) []] [(0,1,28),(1,1,33),(2,1,38)]),[]),
(oD 7 (.box [.int .i64 0,.int .i64 0,.kb false,.int .u64 0,.imm (.int .u8) [],.imm (.int .u8) []]),[0,0,0,0,0,0,0,0,0,0,0,0,0,0,0]),
(oS 6 7 39,[])])
(sq (kr [2,5,6,7] [oK 41 6 7,
oC 42 147 [41],
oM 40 42,
oX 43 40 0,
oX 44 40 1,
oD 8 (.box [.int .i64 0,.int .i64 0,.kb false,.kb false]),
oS 4 8 43,
oM 9 44])
(sq (kd [2,5,6,7,8,9] [(oK 46 6 7,[]),
(oK 47 4 8,[0]),
(oM 48 6,[0,0]),
(oD 49 (.indexSl 1 48 (cI 2)),[1,0]),
(oL 50 49,[2,0]),
(oD 51 (.conv .i64 50),[3,0]),
(oC 52 197 [46,47,51],[]),
(oM 45 52,[]),
(oX 53 45 0,[]),
(oX 54 45 1,[0]),
(oM 10 53,[0]),
(oM 11 54,[])])
(sq (.block 0
(sq (kr [2,5,6,7,8,9,10,11] [oM 56 9,
oD 57 (.un .not 56),
oM 55 57])
(.cond 55
(sq (.reg [oD 58 (.build [.int .i64 0,.int .i64 0,.kb false,.int .u64 0,.imm (.int .u8) [],.imm (.int .u8) []] []),
oS 6 2 58,
oD 3 (.mov (cI 0)),
oD 4 (.mov (cI 1031))])
.ret)
(sq (kr [2,5,6,7,8,10,11] [oA 60 2 7,
oL 61 60,
oM 62 61,
oT 62 63 (.fieldAddr 2 8),
oT 62 64 (.load none 63),
oT 62 65 (.un .not 64),
oP 66 62 65 cF,
oM 59 66])
(.cond 59
(sq (kr [2] [oD 67 (.build [.int .i64 0,.int .i64 0,.kb false,.int .u64 0,.imm (.int .u8) [],.imm (.int .u8) []] []),
oS 6 2 67,
oD 3 (.mov (cI 0)),
oD 4 (.mov (cI 1033))])
.ret)
(sq (kd [2,5,6,7,8,10,11] [(oM 69 11,[]),
(oD 70 (.un .not 69),[]),
(oM 71 70,[]),
(oF 71 72 (.mov 5),[]),
(oF 71 73 (.call false (.f 47) [72]),[]),
(oF 71 74 (.mov 6),[0,0]),
(oF 71 75 (.indexSl 1 74 (cI 2)),[1,0]),
(oF 71 76 (.load none 75),[2,0]),
(oF 71 77 (.conv .i64 76),[3,0]),
(oF 71 78 (.bin .lss 73 77),[]),
(oP 79 71 cT 78,[]),
(oM 68 79,[])])
(.cond 68
(sq (kr [2] [oD 80 (.build [.int .i64 0,.int .i64 0,.kb false,.int .u64 0,.imm (.int .u8) [],.imm (.int .u8) []] []),
oS 6 2 80,
oD 3 (.mov (cI 0)),
oD 4 (.mov (cI 1026))])
.ret)
(sq (kr [2,5,7,8,10] [oA 82 3 8,
oL 83 82,
oM 81 83])
(.cond 81
(.reg [oM 84 5,
oC 85 131 [84,(cI 4)],
oA 86 3 7,
oS 1 86 85])
.skip)))))))))
(sq (kr [2,5,7,8,10] [oM 87 5,
oD 88 (.mkfn 98 [87] []),
oM 12 88])
(sq (.reg [oM 89 12,
oM 90 10,
oD 91 (.call false 89 [90]),
oA 92 4 7,
oS 1 92 91])
(sq (sq (kr [2,5,7,8,10,12] [oA 93 2 7,
oL 94 93])
(.cond 94
(.reg [oM 95 12,
oM 96 10,
oD 97 (.call false 95 [96]),
oA 98 5 7,
oS 1 98 97])
.skip))
(sq (sq (kr [2,5,7,8] [oK 99 6 7,
oK 100 4 8,
oC 101 148 [99,100],
oM 13 101])
(sq (.reg [oM 102 13,
oB 103 .neq 102 (cI 0)])
(.cond 103
(sq (kr [2,13] [oD 104 (.build [.int .i64 0,.int .i64 0,.kb false,.int .u64 0,.imm (.int .u8) [],.imm (.int .u8) []] []),
oM 105 13,
oS 6 2 104,
oD 3 (.mov (cI 0)),
oM 4 105])
.ret)
.skip)))
(sq (kd [2,5,7] [(oK 106 6 7,[]),
(oM 107 5,[0]),
(oC 108 133 [107],[1]),
(oS 6 2 106,[]),
(oM 3 108,[]),
(oD 4 (.mov (cI 0)),[])])
.ret)))))))))))))
def Go_:List RD:=[.cell 2 (some 6) true [],.tmp 3 true none,.tmp 4 true none]
theorem GS_:zk_ Tryz.prog Tryz.f181 ho_ Go_=true:=by kernel_rfl
def KP_:List AV->List Obj->Option (Prop × AV)
 | [.imm (.int .u8) b],[]=>some ((b.length<=140737488355328,.tup [.agg [.int .i64 (Zw_ b (zE_ b)),.int .i64 (Zw_ b (zT_ b)),.bool ((if zO_ b=0 then ZN_ b else false)),.int .u64 (Zw_ b (QF_ b)),.imm (.int .u8) (qd_ b (qs_ b)),.imm (.int .u8) (qd_ b (qo_ b))],.int .i64 (Zw_ b (Zy_ b)),.int .i64 (zO_ b)]))
 | _,_=>none
theorem WZ_:zd_ Tryz.prog 181 (RoF KP_).sum:=by
 refine zi_ Tryz.func181 GS_ (za_ (s:=RwF Z5_) qf_ (za_ (s:=RwF z8_) Zt_ (za_ (s:=RoF zq_) zr_ (za_ (s:=RoF YK_) uU_ (za_ (s:=RoF yF_) H0_ (za_ (s:=RoF z0_) Zi_ (za_ (s:=RwF qe_) km_ (za_ (s:=RwF zL_) zV_ (za_ (s:=RoF jS_) XN_ (za_ (s:=RoF ZU_) qM_ (zc_ _))))))))))) fun args objs p v e=>?_
 unfold KP_ at e
 split at e
 ·rename_i b
  cases e
  refine ⟨rfl,fun hw ho hp=>?_⟩
  change List Int at b
  have hb:∀ x ∈ b,0<=x/\x<=255:=fun x hx=>(hw (.imm (.int .u8) b) (by simp)).1 x hx
  by_cases h4:b.length < 4
  ·obtain ⟨hL,hP,hE⟩:=cur0 (sh:=1026) (od:=1026) h4
   have hd:zO_ b=1026:=by unfold zO_;rw [if_pos h4]
   repeat'(intro t ht;first|(cases t<;>first|(cases ht;done)|(try simp only[zg_]at ht))|((first|refine zb_ ht ?_|refine ht ?_ ?_|refine ht.1 ?_ ?_|refine ht ?_)<;>clear ht))
   all_goals (try simp only [hL,hP,hE] at*)
   all_goals first
    | exact hp
    | exact absurd rfl ‹¬ ((([]:List Int).length:Int)=0)›
    | ((try simp only [zm_,zn_,zl_] at*);omega)
    | (simp only [Zw_,qd_,hd];exact ⟨rfl,by first | rfl | exact True.intro⟩)
  ·obtain ⟨hL,hP,hE⟩:=cur4 (b:=b) (sh:=1026) (od:=1026) (by omega)
   have hC:=zlN_ hb
   have hq:=YF_ hb 2
   have hn:=YF_ hb 3
   have hFl:=zkP_ hq
   have hof:=Ha_ (zE_ b) (zT_ b)
   have g0:∀ d,[zE_ b,b.getD 2 0,b.getD 3 0].getD (Int.toNat 0) d=zE_ b:=fun _=>rfl
   have g1:∀ d,[zE_ b,b.getD 2 0,b.getD 3 0].getD (Int.toNat 1) d=b.getD 2 0:=fun _=>rfl
   have g2:∀ d,[zE_ b,b.getD 2 0,b.getD 3 0].getD (Int.toNat 2) d=b.getD 3 0:=fun _=>rfl
   have gl:((([zE_ b,b.getD 2 0,b.getD 3 0]).length:Nat):Int)=3:=rfl
   have hF:(b.getD 2 0).tdiv 2=zT_ b:=rfl
   have hH:((b.getD 2 0).tmod 2=1)=(ZN_ b=true):=propext ⟨fun h=>decide_eq_true h,fun h=>of_decide_eq_true h⟩
   have hS:U1_ (ZN_ b) (z5_ (zE_ b)) (qh_ (zE_ b) (zT_ b)) (b.getD 3 0)=ZC_ b:=rfl
   have hK:Yr_ (ZN_ b) (z5_ (zE_ b)) (qh_ (zE_ b) (zT_ b)) (b.getD 3 0)=jB_ b:=rfl
   by_cases hs:jB_ b=true/\¬ (b.length:Int) - 4 < b.getD 3 0
   ·obtain ⟨hd1,hd2,hd3⟩:=zgr_ hn.1 hof.1 hs.1
    by_cases hx:zE_ b=65535
    ·have hx':z5_ (zE_ b)=true:=decide_eq_true hx
     have h8:(8:Int)<=b.length:=by
      have h:=hs.1
      unfold jB_ Yr_ at h
      rw [hx',if_pos rfl] at h
      simp only [Bool.and_eq_true,decide_eq_true_eq] at h
      omega
     cases hh:ZN_ b with
     | true=>
       have hd2':Zy_ b=Kr_ b+ZC_ b+ZC_ b:=by unfold Zy_;rw [hh];rfl
       have hA:Kr_ b=8:=if_pos hx
       obtain ⟨hN1,hN2,hN3⟩:=num4 (b:=b) (p:=4) (sh:=1026) (od:=1026) (by decide) (by omega)
       have hX:QF_ b=Zz_ ((b.drop (4:Int).toNat).take 4):=if_pos hx
       simp only [show (4:Int)+4=8 from rfl] at hN2
       obtain ⟨hT1,hT2,hT3⟩:=JU_ (n:=ZC_ b) (p:=8) (sh:=1026) (b:=b) hd1 (by omega)
       have hV:(b.take (8+ZC_ b).toNat).drop (8:Int).toNat=qs_ b:=by unfold qs_;rw [hA]
       have hVl:=ZP_ (b:=b) (p:=8) (n:=ZC_ b) (by decide) hd1 (by omega)
       rw [hV] at hT1 hVl
       obtain ⟨hU1,hU2,hU3⟩:=JU_ (n:=ZC_ b) (p:=8+ZC_ b) (sh:=1026) (b:=b) hd1 (by omega)
       have hM:(b.take (8+ZC_ b+ZC_ b).toNat).drop (8+ZC_ b).toNat=qo_ b:=by unfold qo_;rw [hh,hA];rfl
       have hMl:=ZP_ (b:=b) (p:=8+ZC_ b) (n:=ZC_ b) (by omega) hd1 (by omega)
       rw [hM] at hU1 hMl
       have hNN:8+ZC_ b+ZC_ b=Zy_ b:=by omega
       have hdw:Kd_ (zE_ b) (zT_ b)=true->qi_ (zE_ b) (zT_ b)=true->zO_ b=QV_ (zT_ b) true (qs_ b) (qo_ b) (Qk_ (zE_ b) (zT_ b)) true:=fun h1 h3=>by rw [JD_ h4 h1 (fun h2=>h3) hs.1 hs.2,hh,hx']
       have hdm:ZN_ b=true->qi_ (zE_ b) (zT_ b)=false->Kd_ (zE_ b) (zT_ b)=true->zO_ b=1033:=fun h1 h2 h3=>by unfold zO_;rw [if_neg h4,h3,h1,h2];rfl
       rw [hh] at hdm
       obtain ⟨c1,hc1⟩:∃ p:Prop,p=(jB_ b=true):=⟨_,rfl⟩
       repeat'(intro t ht;first|(cases t<;>first|(cases ht;done)|(try simp only[zg_]at ht))|((first|refine zb_ ht ?_|refine ht ?_ ?_|refine ht.1 ?_ ?_|refine ht ?_)<;>clear ht))
       all_goals (try simp only [hL,hP,hE,g0,g1,g2,gl,hF,hH,hS,hK,Bool.decide_eq_true] at*)
       all_goals (try simp only [hh,hx',hT1,hT2,hT3,hNN,Bool.false_eq_true,not_false_eq_true,not_true_eq_false,reduceCtorEq,hN1,hN2,hN3,hU1,hU2,hU3] at*)
       all_goals first
        | exact hp
        | exact (by decide)
        | omega
        | ((try simp only [zm_,zn_,zl_] at*);omega)
        | (refine ⟨fun h=>?_,?_,?_,?_⟩<;>first | omega | (simp only [List.length_nil];omega) | (cases h;done))
        | exact absurd hs.1 (by rw [‹jB_ b=false›];decide)
        | (have h0:zO_ b=1031:=by unfold zO_;rw [if_neg h4,if_pos (by assumption)]
           simp only [Zw_,qd_,h0];exact ⟨rfl,by first | rfl | exact True.intro⟩)
        | (have h0:zO_ b=1033:=hdm (by first | rfl | exact True.intro) (by assumption) (by assumption)
           simp only [Zw_,qd_,h0];exact ⟨rfl,by first | rfl | exact True.intro⟩)
        | (have hd:=hdw (by assumption) (by assumption)
           first
            | (have h0:zO_ b=0:=hd.trans (by assumption)
               refine ⟨?_,by first | rfl | exact True.intro⟩;first | (simp only [Zw_,qd_,if_pos h0,h0,ite_self,hX];done) | (simp only [Zw_,qd_,if_pos h0,h0,ite_self,hX];rfl))
            | (have h0:¬ zO_ b=0:=by rw [hd];assumption
               refine ⟨?_,by first | rfl | exact True.intro⟩;simp only [Zw_,qd_,if_neg h0,ite_self];rw [hd]))
     | false=>
       have hd2':Zy_ b=Kr_ b+ZC_ b:=by unfold Zy_;rw [hh];simp
       have hA:Kr_ b=8:=if_pos hx
       obtain ⟨hN1,hN2,hN3⟩:=num4 (b:=b) (p:=4) (sh:=1026) (od:=1026) (by decide) (by omega)
       have hX:QF_ b=Zz_ ((b.drop (4:Int).toNat).take 4):=if_pos hx
       simp only [show (4:Int)+4=8 from rfl] at hN2
       obtain ⟨hT1,hT2,hT3⟩:=JU_ (n:=ZC_ b) (p:=8) (sh:=1026) (b:=b) hd1 (by omega)
       have hV:(b.take (8+ZC_ b).toNat).drop (8:Int).toNat=qs_ b:=by unfold qs_;rw [hA]
       have hVl:=ZP_ (b:=b) (p:=8) (n:=ZC_ b) (by decide) hd1 (by omega)
       rw [hV] at hT1 hVl
       have hM:qo_ b=[]:=by unfold qo_;rw [hh];rfl
       have hMl:(((qo_ b).length:Nat):Int)=0:=by rw [hM];rfl
       have hNN:8+ZC_ b=Zy_ b:=by omega
       have hdw:Kd_ (zE_ b) (zT_ b)=true->zO_ b=QV_ (zT_ b) false (qs_ b) [] (Qk_ (zE_ b) (zT_ b)) true:=fun h1=>by rw [JD_ h4 h1 (fun h2=>absurd h2 (by rw [hh];decide)) hs.1 hs.2,hh,hx',hM]
       have hdm:ZN_ b=true->qi_ (zE_ b) (zT_ b)=false->Kd_ (zE_ b) (zT_ b)=true->zO_ b=1033:=fun h1 h2 h3=>by unfold zO_;rw [if_neg h4,h3,h1,h2];rfl
       rw [hh] at hdm
       obtain ⟨c1,hc1⟩:∃ p:Prop,p=(jB_ b=true):=⟨_,rfl⟩
       repeat'(intro t ht;first|(cases t<;>first|(cases ht;done)|(try simp only[zg_]at ht))|((first|refine zb_ ht ?_|refine ht ?_ ?_|refine ht.1 ?_ ?_|refine ht ?_)<;>clear ht))
       all_goals (try simp only [hL,hP,hE,g0,g1,g2,gl,hF,hH,hS,hK,Bool.decide_eq_true] at*)
       all_goals (try simp only [hh,hx',hT1,hT2,hT3,hNN,Bool.false_eq_true,not_false_eq_true,not_true_eq_false,reduceCtorEq,hN1,hN2,hN3] at*)
       all_goals first
        | exact hp
        | exact (by decide)
        | omega
        | ((try simp only [zm_,zn_,zl_] at*);omega)
        | (refine ⟨fun h=>?_,?_,?_,?_⟩<;>first | omega | (simp only [List.length_nil];omega) | (cases h;done))
        | exact absurd hs.1 (by rw [‹jB_ b=false›];decide)
        | (have h0:zO_ b=1031:=by unfold zO_;rw [if_neg h4,if_pos (by assumption)]
           simp only [Zw_,qd_,h0];exact ⟨rfl,by first | rfl | exact True.intro⟩)
        | (have h0:zO_ b=1033:=hdm (by first | rfl | exact True.intro) (by assumption) (by assumption)
           simp only [Zw_,qd_,h0];exact ⟨rfl,by first | rfl | exact True.intro⟩)
        | (have hd:=hdw (by assumption)
           first
            | (have h0:zO_ b=0:=hd.trans (by assumption)
               refine ⟨?_,by first | rfl | exact True.intro⟩;first | (simp only [Zw_,qd_,if_pos h0,h0,ite_self,hM,hX];done) | (simp only [Zw_,qd_,if_pos h0,h0,ite_self,hM,hX];rfl))
            | (have h0:¬ zO_ b=0:=by rw [hd];assumption
               refine ⟨?_,by first | rfl | exact True.intro⟩;simp only [Zw_,qd_,if_neg h0,ite_self];rw [hd]))
    ·have hx':z5_ (zE_ b)=false:=decide_eq_false hx
     cases hh:ZN_ b with
     | true=>
       have hd2':Zy_ b=Kr_ b+ZC_ b+ZC_ b:=by unfold Zy_;rw [hh];rfl
       have hA:Kr_ b=4:=if_neg hx
       have hX:QF_ b=0:=if_neg hx
       obtain ⟨hT1,hT2,hT3⟩:=JU_ (n:=ZC_ b) (p:=4) (sh:=1026) (b:=b) hd1 (by omega)
       have hV:(b.take (4+ZC_ b).toNat).drop (4:Int).toNat=qs_ b:=by unfold qs_;rw [hA]
       have hVl:=ZP_ (b:=b) (p:=4) (n:=ZC_ b) (by decide) hd1 (by omega)
       rw [hV] at hT1 hVl
       obtain ⟨hU1,hU2,hU3⟩:=JU_ (n:=ZC_ b) (p:=4+ZC_ b) (sh:=1026) (b:=b) hd1 (by omega)
       have hM:(b.take (4+ZC_ b+ZC_ b).toNat).drop (4+ZC_ b).toNat=qo_ b:=by unfold qo_;rw [hh,hA];rfl
       have hMl:=ZP_ (b:=b) (p:=4+ZC_ b) (n:=ZC_ b) (by omega) hd1 (by omega)
       rw [hM] at hU1 hMl
       have hNN:4+ZC_ b+ZC_ b=Zy_ b:=by omega
       have hdw:Kd_ (zE_ b) (zT_ b)=true->qi_ (zE_ b) (zT_ b)=true->zO_ b=QV_ (zT_ b) true (qs_ b) (qo_ b) (Qk_ (zE_ b) (zT_ b)) false:=fun h1 h3=>by rw [JD_ h4 h1 (fun h2=>h3) hs.1 hs.2,hh,hx']
       have hdm:ZN_ b=true->qi_ (zE_ b) (zT_ b)=false->Kd_ (zE_ b) (zT_ b)=true->zO_ b=1033:=fun h1 h2 h3=>by unfold zO_;rw [if_neg h4,h3,h1,h2];rfl
       rw [hh] at hdm
       obtain ⟨c1,hc1⟩:∃ p:Prop,p=(jB_ b=true):=⟨_,rfl⟩
       repeat'(intro t ht;first|(cases t<;>first|(cases ht;done)|(try simp only[zg_]at ht))|((first|refine zb_ ht ?_|refine ht ?_ ?_|refine ht.1 ?_ ?_|refine ht ?_)<;>clear ht))
       all_goals (try simp only [hL,hP,hE,g0,g1,g2,gl,hF,hH,hS,hK,Bool.decide_eq_true] at*)
       all_goals (try simp only [hh,hx',hT1,hT2,hT3,hNN,Bool.false_eq_true,not_false_eq_true,not_true_eq_false,reduceCtorEq,hU1,hU2,hU3] at*)
       all_goals first
        | exact hp
        | exact (by decide)
        | omega
        | ((try simp only [zm_,zn_,zl_] at*);omega)
        | (refine ⟨fun h=>?_,?_,?_,?_⟩<;>first | omega | (simp only [List.length_nil];omega) | (cases h;done))
        | exact absurd hs.1 (by rw [‹jB_ b=false›];decide)
        | (have h0:zO_ b=1031:=by unfold zO_;rw [if_neg h4,if_pos (by assumption)]
           simp only [Zw_,qd_,h0];exact ⟨rfl,by first | rfl | exact True.intro⟩)
        | (have h0:zO_ b=1033:=hdm (by first | rfl | exact True.intro) (by assumption) (by assumption)
           simp only [Zw_,qd_,h0];exact ⟨rfl,by first | rfl | exact True.intro⟩)
        | (have hd:=hdw (by assumption) (by assumption)
           first
            | (have h0:zO_ b=0:=hd.trans (by assumption)
               refine ⟨?_,by first | rfl | exact True.intro⟩;first | (simp only [Zw_,qd_,if_pos h0,h0,ite_self,hX];done) | (simp only [Zw_,qd_,if_pos h0,h0,ite_self,hX];rfl))
            | (have h0:¬ zO_ b=0:=by rw [hd];assumption
               refine ⟨?_,by first | rfl | exact True.intro⟩;simp only [Zw_,qd_,if_neg h0,ite_self];rw [hd]))
     | false=>
       have hd2':Zy_ b=Kr_ b+ZC_ b:=by unfold Zy_;rw [hh];simp
       have hA:Kr_ b=4:=if_neg hx
       have hX:QF_ b=0:=if_neg hx
       obtain ⟨hT1,hT2,hT3⟩:=JU_ (n:=ZC_ b) (p:=4) (sh:=1026) (b:=b) hd1 (by omega)
       have hV:(b.take (4+ZC_ b).toNat).drop (4:Int).toNat=qs_ b:=by unfold qs_;rw [hA]
       have hVl:=ZP_ (b:=b) (p:=4) (n:=ZC_ b) (by decide) hd1 (by omega)
       rw [hV] at hT1 hVl
       have hM:qo_ b=[]:=by unfold qo_;rw [hh];rfl
       have hMl:(((qo_ b).length:Nat):Int)=0:=by rw [hM];rfl
       have hNN:4+ZC_ b=Zy_ b:=by omega
       have hdw:Kd_ (zE_ b) (zT_ b)=true->zO_ b=QV_ (zT_ b) false (qs_ b) [] (Qk_ (zE_ b) (zT_ b)) false:=fun h1=>by rw [JD_ h4 h1 (fun h2=>absurd h2 (by rw [hh];decide)) hs.1 hs.2,hh,hx',hM]
       have hdm:ZN_ b=true->qi_ (zE_ b) (zT_ b)=false->Kd_ (zE_ b) (zT_ b)=true->zO_ b=1033:=fun h1 h2 h3=>by unfold zO_;rw [if_neg h4,h3,h1,h2];rfl
       rw [hh] at hdm
       obtain ⟨c1,hc1⟩:∃ p:Prop,p=(jB_ b=true):=⟨_,rfl⟩
       repeat'(intro t ht;first|(cases t<;>first|(cases ht;done)|(try simp only[zg_]at ht))|((first|refine zb_ ht ?_|refine ht ?_ ?_|refine ht.1 ?_ ?_|refine ht ?_)<;>clear ht))
       all_goals (try simp only [hL,hP,hE,g0,g1,g2,gl,hF,hH,hS,hK,Bool.decide_eq_true] at*)
       all_goals (try simp only [hh,hx',hT1,hT2,hT3,hNN,Bool.false_eq_true,not_false_eq_true,not_true_eq_false,reduceCtorEq] at*)
       all_goals first
        | exact hp
        | exact (by decide)
        | omega
        | ((try simp only [zm_,zn_,zl_] at*);omega)
        | (refine ⟨fun h=>?_,?_,?_,?_⟩<;>first | omega | (simp only [List.length_nil];omega) | (cases h;done))
        | exact absurd hs.1 (by rw [‹jB_ b=false›];decide)
        | (have h0:zO_ b=1031:=by unfold zO_;rw [if_neg h4,if_pos (by assumption)]
           simp only [Zw_,qd_,h0];exact ⟨rfl,by first | rfl | exact True.intro⟩)
        | (have h0:zO_ b=1033:=hdm (by first | rfl | exact True.intro) (by assumption) (by assumption)
           simp only [Zw_,qd_,h0];exact ⟨rfl,by first | rfl | exact True.intro⟩)
        | (have hd:=hdw (by assumption)
           first
            | (have h0:zO_ b=0:=hd.trans (by assumption)
               refine ⟨?_,by first | rfl | exact True.intro⟩;first | (simp only [Zw_,qd_,if_pos h0,h0,ite_self,hM,hX];done) | (simp only [Zw_,qd_,if_pos h0,h0,ite_self,hM,hX];rfl))
            | (have h0:¬ zO_ b=0:=by rw [hd];assumption
               refine ⟨?_,by first | rfl | exact True.intro⟩;simp only [Zw_,qd_,if_neg h0,ite_self];rw [hd]))
   ·have hs':jB_ b=false\/(b.length:Int) - 4 < b.getD 3 0:=by
     cases hk:jB_ b with
     | false=>exact .inl rfl
     | true=>exact .inr (Decidable.by_contra fun h=>hs ⟨hk,h⟩)
    have hd3:Kd_ (zE_ b) (zT_ b)=true->(ZN_ b=true->qi_ (zE_ b) (zT_ b)=true)->zO_ b=1026:=fun h1 h2=>by
     unfold zO_
     rw [if_neg h4,if_neg (by rw [h1];decide),if_neg (fun h=>by rw [h2 h.1] at h;exact absurd h.2 (by decide)),if_pos hs']
    repeat'(intro t ht;first|(cases t<;>first|(cases ht;done)|(try simp only[zg_]at ht))|((first|refine zb_ ht ?_|refine ht ?_ ?_|refine ht.1 ?_ ?_|refine ht ?_)<;>clear ht))
    all_goals (try simp only [hL,hP,hE,g0,g1,g2,gl,hF,hH,hS,hK,Bool.decide_eq_true] at*)
    all_goals first
     | exact hp
     | exact (by decide)
     | exact absurd ⟨by assumption,by assumption⟩ hs
     | omega
     | ((try simp only [zm_,zn_,zl_] at*);omega)
     | (have h0:zO_ b=1031:=by unfold zO_;rw [if_neg h4,if_pos (by assumption)]
        simp only [Zw_,qd_,h0];exact ⟨rfl,by first | rfl | exact True.intro⟩)
     | (have h0:zO_ b=1033:=by unfold zO_;rw [if_neg h4,if_neg (by simp_all;done),if_pos ⟨by assumption,by assumption⟩]
        simp only [Zw_,qd_,h0];exact ⟨rfl,by first | rfl | exact True.intro⟩)
     | (have h0:zO_ b=1026:=hd3 (by assumption) (fun h=>by first | assumption | exact absurd h (by assumption))
        simp only [Zw_,qd_,h0];exact ⟨rfl,by first | rfl | exact True.intro⟩)
 ·cases e
def BU_:IR:=
(sq (kr [0,1] [oD 2 (.boxv 0),
oD 3 (.boxv 1),
oD 4 (.mov cF)])
(sq (kr [2,3] [oA 5 0 2,
oL 6 5,
oA 7 0 3,
oL 8 7,
oB 9 .eql 6 8,
oM 10 9,
oT 10 11 (.fieldAddr 1 2),
oT 10 12 (.load none 11),
oT 10 13 (.fieldAddr 1 3),
oT 10 14 (.load none 13),
oT 10 15 (.bin .eql 12 14),
oP 16 10 15 cF,
oM 17 16,
oT 17 18 (.fieldAddr 3 2),
oT 17 19 (.load none 18),
oT 17 20 (.fieldAddr 3 3),
oT 17 21 (.load none 20),
oT 17 22 (.bin .eql 19 21),
oP 23 17 22 cF,
oM 4 23])
.ret))
def bu_:List RD:=[.tmp 4 true none]
theorem b7_:zk_ Tryz.prog Tryz.f140 BU_ bu_=true:=by kernel_rfl
def jQ_:List AV->List Obj->Option (Prop × AV)
 | [.agg [.int .i64 c,.int .i64 f,.bool h,.int .u64 x,.imm (.int .u8) v,.imm (.int .u8) m],.agg [.int .i64 c',.int .i64 f',.bool h',.int .u64 x',.imm (.int .u8) v',.imm (.int .u8) m']],[]=>some ((True,.bool (decide (c=c') && decide (f=f') && decide (x=x'))))
 | _,_=>none
theorem XL_:zd_ Tryz.prog 140 (RoF jQ_).sum:=by
 refine zi_ Tryz.func140 b7_ (zc_ _) fun args objs p v e=>?_
 unfold jQ_ at e
 split at e
 ·rename_i c f h x v m c' f' h' x' v' m'
  cases e
  refine ⟨rfl,fun hw ho hp=>?_⟩
  change List Int at v
  change List Int at m
  change List Int at v'
  change List Int at m'
  repeat'(intro t ht;first|(cases t<;>first|(cases ht;done)|(try simp only[zg_]at ht))|((first|refine zb_ ht ?_|refine ht ?_ ?_|refine ht.1 ?_ ?_|refine ht ?_)<;>clear ht))
  all_goals first
   | exact True.intro
   | (simp_all;done)
 ·cases e
def Kz_ (c f:Int) (h:Bool) (x:Int) (v m:List Int) (c' f':Int) (h':Bool) (x':Int) (v' m':List Int):Bool:=decide (c=c') && decide (f=f') && decide (x=x') && (h == h') && decide (v=v') && decide (m=m')
def zcm_:IR:=
(sq (kr [0,1] [oD 2 (.boxv 0),
oD 3 (.boxv 1),
oD 4 (.mov cF)])
(sq (kr [2,3] [oK 5 6 2,
oK 6 6 3,
oC 7 140 [5,6],
oM 8 7,
oT 8 9 (.fieldAddr 2 2),
oT 8 10 (.load none 9),
oT 8 11 (.fieldAddr 2 3),
oT 8 12 (.load none 11),
oT 8 13 (.eqb false 10 12),
oP 14 8 13 cF,
oM 15 14,
oT 15 16 (.fieldAddr 4 2),
oT 15 17 (.load none 16),
oT 15 18 (.fieldAddr 4 3),
oT 15 19 (.load none 18),
oT 15 20 (.call false (.f 13) [17,19]),
oP 21 15 20 cF,
oM 22 21,
oT 22 23 (.fieldAddr 5 2),
oT 22 24 (.load none 23),
oT 22 25 (.fieldAddr 5 3),
oT 22 26 (.load none 25),
oT 22 27 (.call false (.f 13) [24,26]),
oP 28 22 27 cF,
oM 4 28])
.ret))
def zbc_:List RD:=[.tmp 4 true none]
theorem zbG_:zk_ Tryz.prog Tryz.f110 zcm_ zbc_=true:=by kernel_rfl
def yA_:List AV->List Obj->Option (Prop × AV)
 | [.agg [.int .i64 c,.int .i64 f,.bool h,.int .u64 x,.imm (.int .u8) v,.imm (.int .u8) m],.agg [.int .i64 c',.int .i64 f',.bool h',.int .u64 x',.imm (.int .u8) v',.imm (.int .u8) m']],[]=>some ((True,.bool (Kz_ c f h x v m c' f' h' x' v' m')))
 | _,_=>none
theorem HV_:zd_ Tryz.prog 110 (RoF yA_).sum:=by
 refine zi_ Tryz.func110 zbG_ (za_ (s:=RoF jQ_) XL_ (za_ (s:=RoF Kp_) j0_ (zc_ _))) fun args objs p v e=>?_
 unfold yA_ at e
 split at e
 ·rename_i c f h x v m c' f' h' x' v' m'
  cases e
  refine ⟨rfl,fun hw ho hp=>?_⟩
  change List Int at v
  change List Int at m
  change List Int at v'
  change List Int at m'
  repeat'(intro t ht;first|(cases t<;>first|(cases ht;done)|(try simp only[zg_]at ht))|((first|refine zb_ ht ?_|refine ht ?_ ?_|refine ht.1 ?_ ?_|refine ht ?_)<;>clear ht))
  all_goals first
   | exact True.intro
   | (refine ⟨?_,rfl⟩;unfold Kz_;simp_all;done)
   | (refine ⟨?_,rfl⟩;unfold Kz_;cases h<;>cases h'<;>simp_all;done)
   | (refine ⟨?_,rfl⟩;unfold Kz_;rcases ‹(¬c=c'\/¬f=f')\/¬x=x'› with (h1 | h1) | h1<;>rw [decide_eq_false h1]<;>simp)
 ·cases e
def ze1_:IR:=
(sq (kr [0] [oD 1 (.boxv 0),
oD 2 (.mov cF)])
(sq (kr [1] [oA 3 4 1,
oL 4 3,
oE 5 4,
oB 6 .leq 5 (cI 300),
oM 7 6,
oT 7 8 (.fieldAddr 5 1),
oT 7 9 (.load none 8),
oT 7 10 (.len 9),
oT 7 11 (.bin .leq 10 (cI 300)),
oP 12 7 11 cF,
oM 2 12])
.ret))
def zdX_:List RD:=[.tmp 2 true none]
theorem zeq_:zk_ Tryz.prog Tryz.f62 ze1_ zdX_=true:=by kernel_rfl
def Xx_:List AV->List Obj->Option (Prop × AV)
 | [.agg [.int .i64 c,.int .i64 f,.bool h,.int .u64 x,.imm (.int .u8) v,.imm (.int .u8) m]],[]=>some ((True,.bool (decide (v.length<=300) && decide (m.length<=300))))
 | _,_=>none
theorem Vg_:zd_ Tryz.prog 62 (RoF Xx_).sum:=by
 refine zi_ Tryz.func62 zeq_ (zc_ _) fun args objs p v e=>?_
 unfold Xx_ at e
 split at e
 ·rename_i c f h x v m
  cases e
  refine ⟨rfl,fun hw ho hp=>?_⟩
  change List Int at v
  change List Int at m
  repeat'(intro t ht;first|(cases t<;>first|(cases ht;done)|(try simp only[zg_]at ht))|((first|refine zb_ ht ?_|refine ht ?_ ?_|refine ht.1 ?_ ?_|refine ht ?_)<;>clear ht))
  all_goals first
   | exact True.intro
   | (simp_all;done)
   | (have e:decide (v.length<=300)=false:=decide_eq_false (by omega)
      rw [e];exact ⟨rfl,rfl⟩)
   | (have e:decide (v.length<=300)=true:=decide_eq_true (by omega)
      rw [e];refine ⟨?_,rfl⟩;rw [Bool.true_and];congr 1;rw [Bool.eq_iff_iff];simp only [decide_eq_true_eq];omega)
 ·cases e
theorem zh8_ (f:Int):0<=z2_ f/\z2_ f<=16:=by
 cases h:fIs f with
 | true=>
   have hn:=ql_.1 h
   have:=zds_ f.toNat (by omega)
   rw [Int.toNat_of_nonneg hn.1] at this
   omega
 | false=>unfold z2_;rw [h];exact ⟨Int.le_refl _,show (0:Int)<=16 by decide⟩
theorem zm4_:∀ k < 40,Kh_ (k:Nat)=qc_ (k:Nat)/\kp_ (k:Nat)=z2_ (k:Nat)/\Hl_ (k:Nat)=KB_ (k:Nat):=by decide+kernel
theorem law8 (f:Int):Kh_ f=qc_ f/\kp_ f=z2_ f/\Hl_ f=KB_ f:=by
 cases h:fIs f with
 | true=>
   have hn:=ql_.1 h
   have:=zm4_ f.toNat (by omega)
   rwa [Int.toNat_of_nonneg hn.1] at this
 | false=>
   unfold Kh_ qc_ kp_ z2_ Hl_ KB_;rw [h];exact ⟨rfl,rfl,rfl⟩
theorem zmt_ {n:Nat} (x y:BitVec n):x &&& ~~~y=0#n ↔ x &&& y=x:=by
 constructor
 ·intro h
  refine BitVec.eq_of_getLsbD_eq fun i hi=>?_
  have h1:(x &&& ~~~y).getLsbD i=(0#n).getLsbD i:=by rw [h]
  rw [BitVec.getLsbD_and,BitVec.getLsbD_not,BitVec.getLsbD_zero,decide_eq_true hi,Bool.true_and] at h1
  rw [BitVec.getLsbD_and]
  cases hx:x.getLsbD i<;>cases hy:y.getLsbD i<;>simp_all
 ·intro h
  refine BitVec.eq_of_getLsbD_eq fun i hi=>?_
  have h1:(x &&& y).getLsbD i=x.getLsbD i:=by rw [h]
  rw [BitVec.getLsbD_and] at h1
  rw [BitVec.getLsbD_and,BitVec.getLsbD_not,BitVec.getLsbD_zero,decide_eq_true hi,Bool.true_and]
  cases hx:x.getLsbD i<;>cases hy:y.getLsbD i<;>simp_all
theorem zgA_ {k:IntKind} (hk:k.signed=false) {a:Int} (b:Int) (ha:k.min<=a/\a<=k.max):Zp_ .andNot k a b=0 ↔ Zp_ .and k a b=a:=by
 have hw:∀ v:BitVec k.bits,k.wrap (v.toNat:Int)=v.toNat:=fun v=>by
  refine jC_ ⟨?_,?_⟩
  ·cases k<;>simp_all [IntKind.min,IntKind.signed,IntKind.bits]<;>omega
  ·have:=v.isLt
   cases k<;>simp_all [IntKind.max,IntKind.signed,IntKind.bits]<;>omega
 have hx:((BitVec.ofInt k.bits a).toNat:Int)=a:=by
  rw [BitVec.toNat_ofInt]
  cases k<;>simp_all [IntKind.min,IntKind.max,IntKind.signed,IntKind.bits]<;>omega
 have h:=zmt_ (BitVec.ofInt k.bits a) (BitVec.ofInt k.bits b)
 show k.wrap (((BitVec.ofInt k.bits a) &&& ~~~(BitVec.ofInt k.bits b)).toNat:Int)=0 ↔ k.wrap (((BitVec.ofInt k.bits a) &&& (BitVec.ofInt k.bits b)).toNat:Int)=a
 rw [hw,hw]
 constructor
 ·intro e
  have:(BitVec.ofInt k.bits a) &&& ~~~(BitVec.ofInt k.bits b)=0#k.bits:=BitVec.eq_of_toNat_eq (by rw [BitVec.toNat_zero];omega)
  rw [h.1 this,hx]
 ·intro e
  have:(BitVec.ofInt k.bits a) &&& (BitVec.ofInt k.bits b)=BitVec.ofInt k.bits a:=BitVec.eq_of_toNat_eq (by omega)
  rw [h.2 this,BitVec.toNat_zero];rfl
theorem ion:∀ x < 256,∀ y < 256,(Zp_ .andNot .u8 ((x:Nat):Int) ((y:Nat):Int)=0 ↔ Zp_ .and .u8 ((x:Nat):Int) ((y:Nat):Int)=((x:Nat):Int)):=fun x hx y _=>
 zgA_ rfl _ ⟨by show (0:Int)<=x;omega,by show (x:Int)<=255;omega⟩
theorem zil_:∀ (v m:List Int),(∀ x ∈ v,0<=x/\x<=255)->(∀ x ∈ m,0<=x/\x<=255)->ve_ v m=!inA v m
 | [],_,_,_=>by simp [ve_,inA]
 | _ :: _,[],_,_=>by simp [ve_,inA]
 | x :: r,y :: l,hv,hm=>by
   have hx:=hv x (by simp)
   have hy:=hm y (by simp)
   have ih:=zil_ r l (fun a ha=>hv a (by simp [ha])) (fun a ha=>hm a (by simp [ha]))
   have h:=ion x.toNat (by omega) y.toNat (by omega)
   rw [Int.toNat_of_nonneg hx.1,Int.toNat_of_nonneg hy.1] at h
   unfold ve_ inA
   by_cases h1:Zp_ .andNot .u8 x y=0
   ·rw [if_pos h1,if_pos (h.1 h1),ih]
   ·rw [if_neg h1,if_neg (fun h2=>h1 (h.2 h2))];rfl
theorem za2_ (b:List Int):∀ (f g:Nat) (i:Int),jz_ b (f+g) i=(jz_ b f i && jz_ b g (i+f))
 | 0,g,i=>by rw [Nat.zero_add,show i+((0:Nat):Int)=i by omega];unfold jz_;rfl
 | f+1,g,i=>by
   rw [show f+1+g=(f+g)+1 by omega]
   by_cases h:Zp_ .and .u8 ((b.getD (b.length - 1 - i.tdiv 8:Int).toNat 0).fdiv (2 ^ (min (i.tmod 8).toNat 8))) 1=0
   ·rw [X6_ h,X6_ h,Bool.false_and]
   ·rw [X5_ h,X5_ h,za2_ b f g (i+1),show i+1+(f:Int)=i+((f+1:Nat):Int) by omega]
theorem Y7_ (x:Int) (r:List Int):∀ (f:Nat) (i:Int),0<=i->i+f<=8*r.length->jz_ (x :: r) f i=jz_ r f i
 | 0,_,_,_=>rfl
 | f+1,i,h0,h=>by
   have ih:=Y7_ x r f (i+1) (by omega) (by omega)
   have e:(x :: r).getD (((x :: r).length:Int) - 1 - i.tdiv 8).toNat 0=r.getD ((r.length:Int) - 1 - i.tdiv 8).toNat 0:=by
    rw [qp_ h0,List.length_cons,show (((r.length+1:Nat):Int) - 1 - i / 8).toNat=((r.length:Int) - 1 - i / 8).toNat+1 by omega];rfl
   by_cases hc:Zp_ .and .u8 ((r.getD ((r.length:Int) - 1 - i.tdiv 8).toNat 0).fdiv (2 ^ (min (i.tmod 8).toNat 8))) 1=0
   ·rw [X6_ hc,X6_ (by rw [e];exact hc)]
   ·rw [X5_ hc,X5_ (by rw [e];exact hc),ih]
theorem h1_ (x:Int) (r:List Int):∀ (f:Nat) (i:Int),0<=i->i+f<=8->jz_ (x :: r) f (8*r.length+i)=jz_ [x] f i
 | 0,_,_,_=>rfl
 | f+1,i,h0,h=>by
   have ih:=h1_ x r f (i+1) (by omega) (by omega)
   have h8:0<=8*(r.length:Int)+i:=by omega
   have e:(x :: r).getD (((x :: r).length:Int) - 1 - (8*(r.length:Int)+i).tdiv 8).toNat 0=[x].getD ((([x]:List Int).length:Int) - 1 - i.tdiv 8).toNat 0:=by
    rw [qp_ h8,qp_ h0,List.length_cons,List.length_cons,List.length_nil,show (((r.length+1:Nat):Int) - 1 - (8*(r.length:Int)+i) / 8).toNat=0 by omega,show (((0+1:Nat):Int) - 1 - i / 8).toNat=0 by omega];rfl
   have e2:(8*(r.length:Int)+i).tmod 8=i.tmod 8:=by rw [kP_ h8,kP_ h0];omega
   by_cases hc:Zp_ .and .u8 (([x].getD ((([x]:List Int).length:Int) - 1 - i.tdiv 8).toNat 0).fdiv (2 ^ (min (i.tmod 8).toNat 8))) 1=0
   ·rw [X6_ hc,X6_ (by rw [e,e2];exact hc)]
   ·rw [X5_ hc,X5_ (by rw [e,e2];exact hc),Int.add_assoc,ih]
theorem zmT_:∀ s < 8,∀ x < 256,Zg_ (s:Nat) [((x:Nat):Int)]=true->(((x:Nat):Int)=bO_ (s:Nat) ↔ jz_ [((x:Nat):Int)] (8 - s) 0=true):=by decide+kernel
theorem own0:bO_ 0=255:=by decide
theorem vg_:∀ (r:List Int) (s:Int),s<=0->KA_ r s=KA_ r 0
 | [],_,_=>by simp [KA_]
 | x :: r,s,h=>by
   have h1:bO_ s=255:=if_neg (by omega)
   have ih:=vg_ r (s - 8) (by omega)
   have ih0:=vg_ r (0 - 8) (by omega)
   unfold KA_
   rw [h1,own0,ih,ih0]
theorem zgT_ {s x:Int} (r:List Int) (hs:s<=8) (h:Zg_ s (x :: r)=true):Zg_ s [x]=true:=by
 by_cases h1:x.fdiv (2 ^ (min (8 - (if 8 < s then 8 else s)).toNat 8))=0
 ·exact if_pos h1
 ·have e:Zg_ s (x :: r)=false:=if_neg h1
  rw [e] at h;cases h
theorem Yd_:∀ (m:List Int) (s:Int),(∀ x ∈ m,0<=x/\x<=255)->0<=s->s<=8*m.length->Zg_ s m=true->KA_ m s=jz_ m (8*m.length - s).toNat 0
 | [],s,_,h0,h1,_=>by
   have:s=0:=by simp at h1;omega
   subst this;rfl
 | x :: r,s,hm,h0,h1,hs=>by
   have hx:=hm x (by simp)
   have hr:∀ a ∈ r,0<=a/\a<=255:=fun a ha=>hm a (by simp [ha])
   rw [List.length_cons] at h1
   by_cases h8:8<=s
   ·have hsp:x=0/\Zg_ (s - 8) r=true:=by
     have h8':(if 8 < s then 8 else s)=8:=by split<;>omega
     have e:Zg_ s (x :: r)=if x.fdiv (2 ^ (min (8 - (if 8 < s then 8 else s)).toNat 8))=0 then Zg_ (s - (if 8 < s then 8 else s)) r else false:=rfl
     rw [h8',show (min (8 - 8:Int).toNat 8)=0 from rfl,Int.pow_zero,Int.fdiv_one] at e
     rw [e] at hs
     by_cases h9:x=0
     ·rw [if_pos h9] at hs;exact ⟨h9,hs⟩
     ·rw [if_neg h9] at hs;cases hs
    have ho:bO_ s=0:=by
     unfold bO_
     rw [if_pos (by omega)]
     by_cases h9:8 < s
     ·rw [if_pos h9];decide
     ·rw [if_neg h9,show s=8 by omega];decide
    have ih:=Yd_ r (s - 8) hr (by omega) (by omega) hsp.2
    have hn:(8*(((x :: r).length:Nat):Int) - s).toNat=(8*(r.length:Int) - (s - 8)).toNat:=by rw [List.length_cons];omega
    unfold KA_
    rw [if_pos (by rw [ho];exact hsp.1),ih,hn,Y7_ x r _ 0 (by omega) (by omega)]
   ·have hs1:=zgT_ r (by omega) hs
    have h2:=zmT_ s.toNat (by omega) x.toNat (by omega)
    rw [Int.toNat_of_nonneg h0,Int.toNat_of_nonneg hx.1] at h2
    have h3:=h2 hs1
    have hsr:Zg_ 0 r=true:=uO_ r hr
    have ih:=Yd_ r 0 hr (Int.le_refl _) (by omega) hsr
    have hn:(8*(((x :: r).length:Nat):Int) - s).toNat=8*r.length+(8 - s.toNat):=by rw [List.length_cons];omega
    have hn0:(8*(r.length:Int) - 0).toNat=8*r.length:=by omega
    have hhd:=h1_ x r (8 - s.toNat) 0 (Int.le_refl _) (by omega)
    rw [Int.add_zero] at hhd
    rw [hn0] at ih
    unfold KA_
    rw [hn,za2_,Y7_ x r _ 0 (by omega) (by omega),show (0:Int)+((8*r.length:Nat):Int)=8*(r.length:Int) by omega,hhd,vg_ r (s - 8) (by omega),ih]
    by_cases hc:x=bO_ s
    ·rw [if_pos hc,h3.1 hc,Bool.and_true]
    ·rw [if_neg hc,show jz_ [x] (8 - s.toNat) 0=false by
      cases hq:jz_ [x] (8 - s.toNat) 0 with
      | false=>rfl
      | true=>exact absurd (h3.2 hq) hc,Bool.and_false]
theorem zd4_ {f:Int} {m:List Int} (hm:∀ x ∈ m,0<=x/\x<=255) (h:KC_ f m=true):Vj_ m (Kh_ f)=jz_ m (qc_ f).toNat 0:=by
 unfold KC_ at h
 split at h
 ·rename_i hh
  have hi:fIs f=true:=ql_.2 hh.1
  have hz:=H6_ f.toNat (by omega)
  rw [Int.toNat_of_nonneg hh.1.1] at hz
  have hb:Kh_ f=KD_.getD f.toNat 0:=if_pos hi
  have hbl:=zat_ f.toNat (by omega)
  have ho:=Yd_ m (m.length*8 - Kh_ f) hm (by omega) (by omega) (by rw [hb,show (m.length:Int)*8 - KD_.getD f.toNat 0=8*jd_ f - KD_.getD f.toNat 0 by omega];exact h)
  unfold Vj_
  rw [ho,<- (law8 f).1,show (8*(m.length:Int) - (m.length*8 - Kh_ f))=Kh_ f by omega]
 ·cases h
theorem zd3_ {m:List Int} (hm:∀ x ∈ m,0<=x/\x<=255):Vj_ m (m.length*8)=jz_ m (8*(m.length:Int)).toNat 0:=by
 have ho:=Yd_ m 0 hm (Int.le_refl _) (by omega) (uO_ m hm)
 unfold Vj_
 rw [show (m.length:Int)*8 - m.length*8=0 by omega,ho,Int.sub_zero]
theorem hS_ {c f:Int} {h:Bool} {v m:List Int} (hv:∀ x ∈ v,0<=x/\x<=255) (hm:∀ x ∈ m,0<=x/\x<=255) (hc:c=32768\/c=65535):QV_ f h v m (Qk_ c f) (z5_ c)=be_ c f h v m:=by
 have hoi:=zil_ v m hv hm
 have hio:(ve_ v m=true)=(inA v m=false):=by rw [hoi];simp
 rcases hc with hc | hc
 ·have he:z5_ c=false:=decide_eq_false (by omega)
  have hb:Qk_ c f=Kh_ f:=if_neg (by omega)
  have f1:=zcP_ (n:=f) hv
  have f2:=zcP_ (n:=f) hm
  unfold QV_ be_
  rw [he,hb,f1,f2]
  simp only [hio,hc,true_and,if_true,Bool.false_eq_true,if_false]
  cases h4:Z0_ f m with
  | true=>
    have ho:=zd4_ hm (f2.trans h4)
    rw [ho]
  | false=>
    cases h with
    | true=>simp
    | false=>simp
 ·have he:z5_ c=true:=decide_eq_true hc
  have hn:¬ c=32768:=by omega
  have ho:=zd3_ hm
  unfold QV_ be_
  rw [he]
  simp only [hio,hn,false_and,if_true,if_false,reduceCtorEq,ho,and_false]
theorem zf (x:Int) (h:x=0):x.fdiv (2 ^ (min (Int.toNat 32) IntKind.u64.bits))=0:=by subst h;decide
theorem zu (x:Int) (h0:0<=x):x.fdiv (2 ^ (min (Int.toNat 32) IntKind.u64.bits))=0 ↔ x < 4294967296:=by
 rw [show (2:Int) ^ (min (Int.toNat 32) IntKind.u64.bits)=4294967296 from by decide,Int.fdiv_eq_ediv_of_nonneg _ (by decide)];omega
theorem zie_ {f:Int} {h:Bool} {v m:List Int} (hw:be_ 32768 f h v m=0):Z0_ f v=true:=by
 cases hh:Z0_ f v with
 | true=>rfl
 | false=>unfold be_ at hw;rw [if_pos ⟨rfl,hh⟩] at hw;exact absurd hw (by decide)
theorem Y6_ {c f:Int} {h:Bool} {x:Int} {v m:List Int} (hx:0<=x) (hv:∀ x ∈ v,0<=x/\x<=255) (hm:∀ x ∈ m,0<=x/\x<=255):zG_ c f h x v m=KH_ c f h x v m:=by
 by_cases hb:c=32768
 ·have hw:=hS_ (f:=f) (h:=h) hv hm (.inl hb)
  have hok:Kd_ c f=fIs f:=by unfold Kd_;rw [if_neg (by omega),decide_eq_true hb,Bool.and_true]
  have hmk:qi_ c f=KB_ f:=by unfold qi_;rw [if_neg (by omega)];exact (law8 f).2.2
  have he:z5_ c=false:=decide_eq_false (by omega)
  have hz:qh_ c f=z2_ f:=by unfold qh_;rw [if_neg (by omega)];exact (law8 f).2.1
  rw [Bool.eq_iff_iff]
  constructor
  ·intro hr
   obtain ⟨r1,r2,r3,r4,r5,r6,r7,r8⟩:=kx_ hr
   unfold KH_
   rw [if_neg (fun hh=>hh.elim (fun hh=>by have:=r3 hh.1;omega) fun hh=>hh.2 (r2 hh.1)),if_pos hb]
   rw [hw] at r8;rw [hok] at r4;rw [hmk] at r5;rw [he] at r6
   have hx0:x=0:=by simpa using r6
   rw [r4,hx0,r8]
   cases h with
   | true=>rw [r5 rfl];rfl
   | false=>rfl
  ·intro hr
   unfold KH_ at hr
   by_cases hn:(h=false/\0 < m.length)\/(h=true/\¬ (m.length:Int)=v.length)
   ·rw [if_pos hn] at hr;cases hr
   ·rw [if_neg hn,if_pos hb] at hr
    simp only [Bool.and_eq_true,Bool.or_eq_true,decide_eq_true_eq] at hr
    obtain ⟨⟨⟨h1,h2⟩,h3⟩,h4⟩:=hr
    have hfit:=zie_ (hb ▸ h4)
    have hsz:=bd_ hfit
    unfold zG_
    rw [hw,hok,hmk,he,hz,h1,h4,zf x h2,decide_eq_true h2]
    have hvl:decide ((v.length:Int)<=z2_ f)=true:=decide_eq_true (by omega)
    rw [hvl]
    cases h with
    | true=>
      have:(m.length:Int)=v.length:=Decidable.by_contra fun hh=>hn (.inr ⟨rfl,hh⟩)
      rw [decide_eq_true this]
      simpa using h3
    | false=>
      have:m.length=0:=by have:¬ 0 < m.length:=fun hh=>hn (.inl ⟨rfl,hh⟩);omega
      rw [decide_eq_true this];rfl
 ·by_cases hc:c=65535
  ·have hw:=hS_ (f:=f) (h:=h) hv hm (.inr hc)
   have hok:Kd_ c f=(decide (0<=f) && decide (f<=127)):=if_pos hc
   have hmk:qi_ c f=true:=if_pos hc
   have he:z5_ c=true:=decide_eq_true hc
   have hz:qh_ c f=100:=if_pos hc
   rw [Bool.eq_iff_iff]
   constructor
   ·intro hr
    obtain ⟨r1,r2,r3,r4,r5,r6,r7,r8⟩:=kx_ hr
    unfold KH_
    rw [if_neg (fun hh=>hh.elim (fun hh=>by have:=r3 hh.1;omega) fun hh=>hh.2 (r2 hh.1)),if_neg hb]
    rw [hw] at r8;rw [hok] at r4;rw [hz] at r1
    have h7:=(zu x hx).1 r7
    simp only [Bool.and_eq_true,decide_eq_true_eq] at r4 ⊢
    exact ⟨⟨⟨⟨⟨hc,r4.1⟩,r4.2⟩,h7⟩,r1⟩,r8⟩
   ·intro hr
    unfold KH_ at hr
    by_cases hn:(h=false/\0 < m.length)\/(h=true/\¬ (m.length:Int)=v.length)
    ·rw [if_pos hn] at hr;cases hr
    ·rw [if_neg hn,if_neg hb] at hr
     simp only [Bool.and_eq_true,decide_eq_true_eq] at hr
     obtain ⟨⟨⟨⟨⟨h1,h2⟩,h3⟩,h4⟩,h5⟩,h6⟩:=hr
     unfold zG_
     rw [hw,hok,hmk,he,hz,h6,(zu x hx).2 h4,decide_eq_true h2,decide_eq_true h3,decide_eq_true h5]
     cases h with
     | true=>
       have:(m.length:Int)=v.length:=Decidable.by_contra fun hh=>hn (.inr ⟨rfl,hh⟩)
       rw [decide_eq_true this];rfl
     | false=>
       have:m.length=0:=by have:¬ 0 < m.length:=fun hh=>hn (.inl ⟨rfl,hh⟩);omega
       rw [decide_eq_true this];rfl
  ·have hok:Kd_ c f=false:=by unfold Kd_;rw [if_neg hc,decide_eq_false hb,Bool.and_false]
   have h1:zG_ c f h x v m=false:=by unfold zG_;rw [hok];rfl
   have h2:KH_ c f h x v m=false:=by
    unfold KH_;split
    ·rfl
    ·first | (rw [decide_eq_false hc];rfl) | (rw [if_neg hb,decide_eq_false hc];rfl)
   rw [h1,h2]
theorem zjx_ {n:Int} (h:0<=n/\n<=255):ze_ n 1=[n]:=by
 show [(n.fdiv (2 ^ (min (8*((1:Int) - 1 - ((0:Nat):Int))).toNat 64))) % 256]=[n]
 rw [show (min (8*((1:Int) - 1 - ((0:Nat):Int))).toNat 64)=0 from by decide,Int.pow_zero,Int.fdiv_one]
 congr 1;omega
theorem Z8_ {c f:Int} {h:Bool} {x:Int} {v m:List Int} (hr:zG_ c f h x v m=true):0<=f/\f<=127/\(c=65535\/c=32768)/\(v.length:Int)<=100/\(m.length:Int)<=100/\0<=Zd_ c v m/\Zd_ c v m<=204/\Zd_ c v m=(JJ_ c x v m).length:=by
 obtain ⟨r1,r2,r3,r4,_⟩:=kx_ hr
 have hof:=Ha_ c f
 have hm:(m.length:Int)<=100:=by cases h;have:=r3 rfl;omega;have:=r2 rfl;omega
 have hb:Zd_ c v m=(JJ_ c x v m).length:=by
  have l4:=zj_ (n:=x) (w:=4) (by decide)
  unfold Zd_ JJ_
  split
  ·rw [List.length_append,List.length_append];omega
  ·rw [List.length_append,List.length_append,List.length_nil];omega
 have h0:0<=Zd_ c v m/\Zd_ c v m<=204:=by unfold Zd_;split<;>omega
 have hcf:0<=f/\f<=127/\(c=65535\/c=32768):=by
  unfold Kd_ at r4
  split at r4
  ·simp at r4;omega
  ·simp at r4;have:=ql_.1 r4.1;omega
 exact ⟨hcf.1,hcf.2.1,hcf.2.2,by omega,hm,h0.1,h0.2,hb⟩
theorem YB_ {c f:Int} {h:Bool} {x:Int} {v m:List Int} (hr:zG_ c f h x v m=true):Zv_ c f h x v m=Zx_ c f h x v m:=by
 obtain ⟨n1,n2,n3,n4,n5,n6,n7,n8⟩:=Z8_ hr
 unfold Zv_ zgk_ Zx_
 rw [zjx_ (n:=2*f+if h=true then 1 else 0) (by split<;>omega),zjx_ (n:=Zd_ c v m) (by omega),n8]
 unfold JJ_
 simp only [List.append_assoc,List.cons_append,List.nil_append]
theorem zh7_ {c f:Int} {h:Bool} {x:Int} {v m:List Int}:Qi_ c f h x v m=((if zG_ c f h x v m=true then Zx_ c f h x v m else []).length:Int):=by
 unfold Qi_
 split
 ·rename_i hr
  obtain ⟨n1,n2,n3,n4,n5,n6,n7,n8⟩:=Z8_ hr
  have l2:=zj_ (n:=c) (w:=2) (by decide)
  unfold Zx_
  rw [n8]
  simp only [List.length_append,List.length_cons,List.length_nil];omega
 ·rfl
def L1:List Int:=[128,0,10,2,8,0,7]
def L2:List Int:=[128,0,11,4,8,0,8,0]
theorem s1:zO_ L1=0/\Zw_ L1 (zE_ L1)=32768/\Zw_ L1 (zT_ L1)=5/\ZN_ L1=false/\Zw_ L1 (QF_ L1)=0/\qd_ L1 (qs_ L1)=[8,0]/\qd_ L1 (qo_ L1)=[]/\Zw_ L1 (Zy_ L1)=6/\zO_ L2=1033:=by decide+kernel
theorem s2:zG_ 32768 5 false 0 [8,0] []=true/\Zv_ 32768 5 false 0 [8,0] []=[128,0,10,2,8,0]:=by decide+kernel
def gh_:IR:=
(sq (kr [0,1] [oD 4 (.mov cF)])
(sq (kr [0,1] [oM 5 0,
oD 6 (.b2s 5),
oM 7 1,
oD 8 (.b2s 7),
oB 9 .eql 6 8,
oM 4 9])
.ret))
def Up_:List RD:=[.tmp 4 true none]
theorem US_:zk_ Tryz.prog Tryz.f229 gh_ Up_=true:=by kernel_rfl
def Jf_:List AV->List Obj->Option (Prop × AV)
 | [.imm (.int .u8) a,.imm (.int .u8) b],[]=>some ((True,.bool (decide (a=b))))
 | _,_=>none
theorem VP_:zd_ Tryz.prog 229 (RoF Jf_).sum:=by
 refine zi_ Tryz.func229 US_ (zc_ _) fun args objs p v e=>?_
 unfold Jf_ at e
 split at e
 ·rename_i a b
  cases e
  refine ⟨rfl,fun hw ho hp=>?_⟩
  change List Int at a
  change List Int at b
  repeat'(intro t ht;first|(cases t<;>first|(cases ht;done)|(try simp only[zg_]at ht))|((first|refine zb_ ht ?_|refine ht ?_ ?_|refine ht.1 ?_ ?_|refine ht ?_)<;>clear ht))
  all_goals first
   | exact True.intro
   | exact ⟨rfl,rfl⟩
 ·cases e
def B2_:IR:=
(sq (kr [0,1] [oD 2 (.boxv 0),
oD 3 (.boxv 1),
oD 4 (.mov cF)])
(sq (kr [2,3] [oA 5 0 2,
oL 6 5,
oA 7 0 3,
oL 8 7,
oB 9 .eql 6 8,
oM 10 9,
oT 10 11 (.fieldAddr 1 2),
oT 10 12 (.load none 11),
oT 10 13 (.fieldAddr 1 3),
oT 10 14 (.load none 13),
oT 10 15 (.bin .eql 12 14),
oP 16 10 15 cF,
oM 17 16,
oT 17 18 (.fieldAddr 3 2),
oT 17 19 (.load none 18),
oT 17 20 (.fieldAddr 3 3),
oT 17 21 (.load none 20),
oT 17 22 (.bin .eql 19 21),
oP 23 17 22 cF,
oM 4 23])
.ret))
def bC_:List RD:=[.tmp 4 true none]
theorem Bf_:zk_ Tryz.prog Tryz.f150 B2_ bC_=true:=by kernel_rfl
def jT_:List AV->List Obj->Option (Prop × AV)
 | [.agg [.int .i64 c,.int .i64 f,.bool h,.int .u64 x,.imm (.int .u8) v,.imm (.int .u8) m],.agg [.int .i64 c',.int .i64 f',.bool h',.int .u64 x',.imm (.int .u8) v',.imm (.int .u8) m']],[]=>some ((True,.bool (decide (c=c') && decide (f=f') && decide (x=x'))))
 | _,_=>none
theorem XO_:zd_ Tryz.prog 150 (RoF jT_).sum:=by
 refine zi_ Tryz.func150 Bf_ (zc_ _) fun args objs p v e=>?_
 unfold jT_ at e
 split at e
 ·rename_i c f h x v m c' f' h' x' v' m'
  cases e
  refine ⟨rfl,fun hw ho hp=>?_⟩
  change List Int at v
  change List Int at m
  change List Int at v'
  change List Int at m'
  repeat'(intro t ht;first|(cases t<;>first|(cases ht;done)|(try simp only[zg_]at ht))|((first|refine zb_ ht ?_|refine ht ?_ ?_|refine ht.1 ?_ ?_|refine ht ?_)<;>clear ht))
  all_goals first
   | exact True.intro
   | (simp_all;done)
 ·cases e
def zcu_:IR:=
(sq (kr [0,1] [oD 2 (.boxv 0),
oD 3 (.boxv 1),
oD 4 (.mov cF)])
(sq (kr [2,3] [oK 5 6 2,
oK 6 6 3,
oC 7 150 [5,6],
oM 8 7,
oT 8 9 (.fieldAddr 2 2),
oT 8 10 (.load none 9),
oT 8 11 (.fieldAddr 2 3),
oT 8 12 (.load none 11),
oT 8 13 (.eqb false 10 12),
oP 14 8 13 cF,
oM 15 14,
oT 15 16 (.fieldAddr 4 2),
oT 15 17 (.load none 16),
oT 15 18 (.fieldAddr 4 3),
oT 15 19 (.load none 18),
oT 15 20 (.call false (.f 229) [17,19]),
oP 21 15 20 cF,
oM 22 21,
oT 22 23 (.fieldAddr 5 2),
oT 22 24 (.load none 23),
oT 22 25 (.fieldAddr 5 3),
oT 22 26 (.load none 25),
oT 22 27 (.call false (.f 229) [24,26]),
oP 28 22 27 cF,
oM 4 28])
.ret))
def zbk_:List RD:=[.tmp 4 true none]
theorem zbO_:zk_ Tryz.prog Tryz.f228 zcu_ zbk_=true:=by kernel_rfl
def yG_:List AV->List Obj->Option (Prop × AV)
 | [.agg [.int .i64 c,.int .i64 f,.bool h,.int .u64 x,.imm (.int .u8) v,.imm (.int .u8) m],.agg [.int .i64 c',.int .i64 f',.bool h',.int .u64 x',.imm (.int .u8) v',.imm (.int .u8) m']],[]=>some ((True,.bool (Kz_ c f h x v m c' f' h' x' v' m')))
 | _,_=>none
theorem H1_:zd_ Tryz.prog 228 (RoF yG_).sum:=by
 refine zi_ Tryz.func228 zbO_ (za_ (s:=RoF jT_) XO_ (za_ (s:=RoF Jf_) VP_ (zc_ _))) fun args objs p v e=>?_
 unfold yG_ at e
 split at e
 ·rename_i c f h x v m c' f' h' x' v' m'
  cases e
  refine ⟨rfl,fun hw ho hp=>?_⟩
  change List Int at v
  change List Int at m
  change List Int at v'
  change List Int at m'
  repeat'(intro t ht;first|(cases t<;>first|(cases ht;done)|(try simp only[zg_]at ht))|((first|refine zb_ ht ?_|refine ht ?_ ?_|refine ht.1 ?_ ?_|refine ht ?_)<;>clear ht))
  all_goals first
   | exact True.intro
   | (refine ⟨?_,rfl⟩;unfold Kz_;simp_all;done)
   | (refine ⟨?_,rfl⟩;unfold Kz_;cases h<;>cases h'<;>simp_all;done)
   | (refine ⟨?_,rfl⟩;unfold Kz_;rcases ‹(¬c=c'\/¬f=f')\/¬x=x'› with (h1 | h1) | h1<;>rw [decide_eq_false h1]<;>simp)
 ·cases e
end Go.Eng
