/- Parts of the proof: S4, SA, SC, F6, F7, F8, F9, G2, G3, G4. No condition. -/
import Derived.Test.YtmkcbchflaoakaaProg
import Derived.Test.YtmkcbchflaoakaaXB10
import Derived.KernelRfl
import Derived.Test.YtmkcbchflaoakaaXB15
import Derived.Test.YtmkcbchflaoakaaXB11
import Derived.Test.YtmkcbchflaoakaaXB14
namespace Go.Eng
open Go.Proofs
set_option linter.unusedVariables false
set_option linter.unusedSimpArgs false
set_option maxRecDepth 100000
set_option maxHeartbeats 1000000
def lnT:List Int:=[0,1,2,2,3,3,3,3,4,4,4,4,4,4,4,4,5,5,5,5,5,5,5,5,5,5,5,5,5,5,5,5,6,6,6,6,6,6,6,6,6,6,6,6,6,6,6,6,6,6,6,6,6,6,6,6,6,6,6,6,6,6,6,6,7,7,7,7,7,7,7,7,7,7,7,7,7,7,7,7,7,7,7,7,7,7,7,7,7,7,7,7,7,7,7,7,7,7,7,7,7,7,7,7,7,7,7,7,7,7,7,7,7,7,7,7,7,7,7,7,7,7,7,7,7,7,7,7,8,8,8,8,8,8,8,8,8,8,8,8,8,8,8,8,8,8,8,8,8,8,8,8,8,8,8,8,8,8,8,8,8,8,8,8,8,8,8,8,8,8,8,8,8,8,8,8,8,8,8,8,8,8,8,8,8,8,8,8,8,8,8,8,8,8,8,8,8,8,8,8,8,8,8,8,8,8,8,8,8,8,8,8,8,8,8,8,8,8,8,8,8,8,8,8,8,8,8,8,8,8,8,8,8,8,8,8,8,8,8,8,8,8,8,8,8,8,8,8,8,8,8,8,8,8,8,8]
def lnF (x:Int):Int:=if x < 256 then lnT.getD x.toNat 0 else 8+lnT.getD (x / 256).toNat 0
theorem Xk_ (k:Nat):0<=lnT.getD k 0/\lnT.getD k 0<=8:=by
 by_cases h:k < lnT.length
 ·exact (by decide:∀ z ∈ lnT,(0:Int)<=z/\z<=8) _ (ZM_ h 0)
 ·rw [List.getD_eq_getElem?_getD,List.getElem?_eq_none (by omega)];exact ⟨by decide,by decide⟩
theorem bD_ (x:Int):0<=lnF x/\lnF x<=16:=by
 unfold lnF
 have h1:=Xk_ x.toNat
 have h2:=Xk_ (x / 256).toNat
 split<;>omega
def npF (x:Int):Int:=2 ^ (lnF x).toNat
theorem GP_:∀ k < 256,0 < k->(2 ^ (lnT.getD k 0).toNat:Nat)<=2*k/\k < (2 ^ (lnT.getD k 0).toNat:Nat):=by decide+kernel
theorem bx_ {x:Int} (h0:1<=x) (h:x<=65535):1<=npF x/\npF x<=2*x:=by
 have key:∃ n:Nat,npF x=(n:Int)/\1<=n/\(n:Int)<=2*x:=by
  unfold npF lnF
  by_cases c:x < 256
  ·rw [if_pos c]
   have:=GP_ x.toNat (by omega) (by omega)
   exact ⟨2 ^ (lnT.getD x.toNat 0).toNat,by rw [Int.natCast_pow];rfl,Nat.one_le_two_pow,by omega⟩
  ·rw [if_neg c]
   have:=GP_ (x / 256).toNat (by omega) (by omega)
   have hr:=Xk_ (x / 256).toNat
   refine ⟨2 ^ (8+lnT.getD (x / 256).toNat 0).toNat,by rw [Int.natCast_pow];rfl,Nat.one_le_two_pow,?_⟩
   rw [show (8+lnT.getD (x / 256).toNat 0).toNat=8+(lnT.getD (x / 256).toNat 0).toNat by omega,Nat.pow_add]
   omega
 obtain ⟨n,e,h1,h2⟩:=key
 rw [e];omega
theorem bh_ (x:Int) {m:Int} (h0:0<=m) (h1:m<=18446744073709551615):0<=ZW_ .and .u64 x m/\ZW_ .and .u64 x m<=m:=by
 have e2:(BitVec.ofInt 64 m).toNat=m.toNat:=by rw [BitVec.toNat_ofInt];omega
 have e3:(BitVec.ofInt 64 x &&& BitVec.ofInt 64 m).toNat<=m.toNat:=by rw [BitVec.toNat_and,e2];exact Nat.and_le_right
 have e4:ZW_ .and .u64 x m=((BitVec.ofInt 64 x &&& BitVec.ofInt 64 m).toNat:Int):=by
  show IntKind.u64.wrap ((BitVec.ofInt 64 x &&& BitVec.ofInt 64 m).toNat:Int)=_
  exact K1_ ⟨by rw [wu_];omega,by rw [xw_];omega⟩
 rw [e4];omega
def JT_:IR:=
(sq (kr [0] [oD 2 (.mov (cI 0))])
(sq (sq (.reg [oM 3 0,
oB 4 .geq 3 (.c (.int .u64 4294967296))])
(.cond 4
(sq (.reg [oM 5 0,
oB 6 .shr 5 (.c (.int .u64 32)),
oM 0 6])
(kr [0] [oD 2 (.mov (cI 32))]))
.skip))
(sq (sq (.reg [oM 7 0,
oB 8 .geq 7 (.c (.int .u64 65536))])
(.cond 8
(sq (kr [0,2] [oM 9 0,
oB 10 .shr 9 (.c (.int .u64 16)),
oM 0 10])
(.reg [oM 11 2,
oB 12 .add 11 (cI 16),
oM 2 12]))
.skip))
(sq (sq (kr [0,2] [oM 13 0,
oB 14 .geq 13 (.c (.int .u64 256))])
(.cond 14
(sq (.reg [oM 15 0,
oB 16 .shr 15 (.c (.int .u64 8)),
oM 0 16])
(.reg [oM 17 2,
oB 18 .add 17 (cI 8),
oM 2 18]))
.skip))
(sq (kr [0,2] [oM 19 2,
oM 20 0,
oD 21 (.conv .u8 20),
oD 22 (.sindex (.c (.str [0,1,2,2,3,3,3,3,4,4,4,4,4,4,4,4,5,5,5,5,5,5,5,5,5,5,5,5,5,5,5,5,6,6,6,6,6,6,6,6,6,6,6,6,6,6,6,6,6,6,6,6,6,6,6,6,6,6,6,6,6,6,6,6,7,7,7,7,7,7,7,7,7,7,7,7,7,7,7,7,7,7,7,7,7,7,7,7,7,7,7,7,7,7,7,7,7,7,7,7,7,7,7,7,7,7,7,7,7,7,7,7,7,7,7,7,7,7,7,7,7,7,7,7,7,7,7,7,8,8,8,8,8,8,8,8,8,8,8,8,8,8,8,8,8,8,8,8,8,8,8,8,8,8,8,8,8,8,8,8,8,8,8,8,8,8,8,8,8,8,8,8,8,8,8,8,8,8,8,8,8,8,8,8,8,8,8,8,8,8,8,8,8,8,8,8,8,8,8,8,8,8,8,8,8,8,8,8,8,8,8,8,8,8,8,8,8,8,8,8,8,8,8,8,8,8,8,8,8,8,8,8,8,8,8,8,8,8,8,8,8,8,8,8,8,8,8,8,8,8,8,8,8,8,8,8])) 21),
oD 23 (.conv .i64 22),
oB 24 .add 19 23,
oM 2 24])
.ret)))))
def JL_:List RD:=[.tmp 2 true none]
theorem JO_:zl_ Try.prog Try.f70 JT_ JL_=true:=by kernel_rfl
def Qp_:List AV->List Obj->Option (Prop × AV)
 | [.int .u64 x],[]=>some ((0<=x/\x<=65535,.int .i64 (lnF x)))
 | _,_=>none
theorem Jq_:zf_ Try.prog 70 (RoF Qp_).sum:=by
 refine zo_ Try.func70 JO_ (ze_ _) fun args objs p v e=>?_
 unfold Qp_ at e
 split at e
 ·rename_i x
  cases e
  refine ⟨rfl,fun hw ho hp=>?_⟩
  clear hw ho
  obtain ⟨h0,h5⟩:=hp
  have hsh:x.fdiv (2 ^ min (Int.toNat 8) IntKind.u64.bits)=x / 256:=by
   show x.fdiv (2 ^ 8)=_
   rw [Int.fdiv_eq_ediv_of_nonneg _ (by decide)];rfl
  have hw8:IntKind.u8.wrap (x / 256)=x / 256:=by rw [Yx_];omega
  by_cases c:x < 256
  ·have hwr:IntKind.u8.wrap x=x:=by rw [Yx_];omega
   repeat'(intro t ht;first|(cases t<;>first|(cases ht;done)|(try simp only[zh_]at ht;try(exfalso;first|contradiction|omega)))|((first|refine za_ ht ?_|refine ht ?_ ?_|refine ht.1 ?_ ?_|refine ht ?_)<;>clear ht))
   all_goals (try simp only [hwr] at*)
   all_goals first
    | exact True.intro
    | omega
    | exact ⟨h0,show x < ((256:Nat):Int) by omega⟩
    | (simp only [zi_];omega)
    | (have hq:=Xk_ x.toNat;show IntKind.i64.min<=lnT.getD x.toNat 0/\lnT.getD x.toNat 0<=IntKind.i64.max;simp only [zi_];omega)
    | (have hq:=Xk_ x.toNat;show IntKind.i64.min<=0+lnT.getD x.toNat 0/\0+lnT.getD x.toNat 0<=IntKind.i64.max;simp only [zi_];omega)
    | (refine ⟨congrArg (AV.int .i64) ((Int.zero_add _).trans (if_pos c).symm),?_⟩;first | rfl | exact True.intro)
  ·repeat'(intro t ht;first|(cases t<;>first|(cases ht;done)|(try simp only[zh_]at ht;try(exfalso;first|contradiction|omega)))|((first|refine za_ ht ?_|refine ht ?_ ?_|refine ht.1 ?_ ?_|refine ht ?_)<;>clear ht))
   all_goals (try simp only [hsh,hw8] at*)
   all_goals first
    | exact True.intro
    | omega
    | exact ⟨by omega,show x / 256 < ((256:Nat):Int) by omega⟩
    | (simp only [zi_];omega)
    | (have hq:=Xk_ (x / 256).toNat;show IntKind.i64.min<=lnT.getD (x / 256).toNat 0/\lnT.getD (x / 256).toNat 0<=IntKind.i64.max;simp only [zi_];omega)
    | (have hq:=Xk_ (x / 256).toNat;show IntKind.i64.min<=8+lnT.getD (x / 256).toNat 0/\8+lnT.getD (x / 256).toNat 0<=IntKind.i64.max;simp only [zi_];omega)
    | (refine ⟨congrArg (AV.int .i64) ((if_neg c).symm),?_⟩;first | rfl | exact True.intro)
 ·cases e
def Wh_:IR:=
(sq (kr [0] [oD 2 (.mov (cI 0))])
(sq (.cond (.c (.kb false))
(sq (.reg [oM 3 0,
oD 4 (.conv .u32 3),
oC 5 69 [4],
oM 2 5])
.ret)
.skip)
(sq (.reg [oM 6 0,
oC 7 70 [6],
oM 2 7])
.ret)))
def w1_:List RD:=[.tmp 2 true none]
theorem w8_:zl_ Try.prog Try.f53 Wh_ w1_=true:=by kernel_rfl
def qB_:List AV->List Obj->Option (Prop × AV)
 | [.int .u64 x],[]=>some ((0<=x/\x<=65535,.int .i64 (lnF x)))
 | _,_=>none
theorem Kp_:zf_ Try.prog 53 (RoF qB_).sum:=by
 refine zo_ Try.func53 w8_ (zc_ (s:=RoF Qp_) Jq_ (ze_ _)) fun args objs p v e=>?_
 unfold qB_ at e
 split at e
 ·rename_i x
  cases e
  refine ⟨rfl,fun hw ho hp=>?_⟩
  repeat'(intro t ht;first|(cases t<;>first|(cases ht;done)|(try simp only[zh_]at ht;try(exfalso;first|contradiction|omega)))|((first|refine za_ ht ?_|refine ht ?_ ?_|refine ht.1 ?_ ?_|refine ht ?_)<;>clear ht))
  all_goals first
   | exact True.intro
   | exact hp
   | exact ⟨rfl,rfl⟩
 ·cases e
def KE_:IR:=
(sq (kr [0] [oD 2 (.mov (.c (.int .u64 0)))])
(sq (kr [0] [oM 3 0,
oD 4 (.conv .u64 3),
oC 5 53 [4],
oB 6 .shl (.c (.int .u64 1)) 5,
oM 2 6])
.ret))
def KB_:List RD:=[.tmp 2 true none]
theorem KC_:zl_ Try.prog Try.f74 KE_ KB_=true:=by kernel_rfl
def Zz_:List AV->List Obj->Option (Prop × AV)
 | [.int .i64 x],[]=>some ((1<=x/\x<=65535,.int .u64 (npF x)))
 | _,_=>none
theorem Ki_:zf_ Try.prog 74 (RoF Zz_).sum:=by
 refine zo_ Try.func74 KC_ (zc_ (s:=RoF qB_) Kp_ (ze_ _)) fun args objs p v e=>?_
 unfold Zz_ at e
 split at e
 ·rename_i x
  cases e
  refine ⟨rfl,fun hw ho hp=>?_⟩
  clear hw ho
  have hr:=bD_ x
  have hn:=bx_ hp.1 hp.2
  have hs:(1:Int)*2 ^ min (lnF x).toNat IntKind.u64.bits=npF x:=by
   rw [Nat.min_eq_left (show (lnF x).toNat<=IntKind.u64.bits by show _<=64;omega),Int.one_mul];rfl
  repeat'(intro t ht;first|(cases t<;>first|(cases ht;done)|(try simp only[zh_]at ht;try(exfalso;first|contradiction|omega)))|((first|refine za_ ht ?_|refine ht ?_ ?_|refine ht.1 ?_ ?_|refine ht ?_)<;>clear ht))
  all_goals (try simp only [hs])
  all_goals first
   | exact True.intro
   | omega
   | (constructor<;>omega)
   | (simp only [zi_];omega)
   | exact ⟨rfl,rfl⟩
   | exact ⟨True.intro,True.intro⟩
 ·cases e
def KP_:IR:=
(sq (kr [0] [oD 2 (.mov (.c (.int .u64 0)))])
(sq (kd [0] [(oM 3 0,[]),
(oD 4 (.nilck 3),[]),
(oL 5 4,[]),
(oM 6 0,[0,0,0]),
(oD 7 (.nilck 6),[1,0,0]),
(oL 8 7,[2,0,0]),
(oB 9 .shl 8 (.c (.int .u64 13)),[3,0,0]),
(oB 10 .xor 5 9,[]),
(oD 11 (.nilck 3),[]),
(oS 1 11 10,[])])
(sq (kd [0] [(oM 12 0,[]),
(oD 13 (.nilck 12),[]),
(oL 14 13,[]),
(oM 15 0,[0,0,0]),
(oD 16 (.nilck 15),[1,0,0]),
(oL 17 16,[2,0,0]),
(oB 18 .shr 17 (.c (.int .u64 7)),[3,0,0]),
(oB 19 .xor 14 18,[]),
(oD 20 (.nilck 12),[]),
(oS 1 20 19,[])])
(sq (kd [0] [(oM 21 0,[]),
(oD 22 (.nilck 21),[]),
(oL 23 22,[]),
(oM 24 0,[0,0,0]),
(oD 25 (.nilck 24),[1,0,0]),
(oL 26 25,[2,0,0]),
(oB 27 .shl 26 (.c (.int .u64 17)),[3,0,0]),
(oB 28 .xor 23 27,[]),
(oD 29 (.nilck 21),[]),
(oS 1 29 28,[])])
(sq (kr [0] [oM 30 0,
oD 31 (.nilck 30),
oL 32 31,
oM 2 32])
.ret)))))
def KL_:List RD:=[.tmp 2 true none]
theorem KM_:zl_ Try.prog Try.f75 KP_ KL_=true:=by kernel_rfl
def ZD_:List AV->List Obj->Option NdR
 | [.ptr 0 0],[.box [.int .u64 s]]=>some (⟨True,SrI,fun _=>True,fun x=>.int .u64 x.s,fun x=>[.box [.int .u64 x.s]]⟩)
 | _,_=>none
theorem Kz_:KW_ Try.prog 75 (NdF ZD_):=by
 refine WQ_ Try.func75 KM_ (ze_ _) fun args objs r e=>?_
 unfold ZD_ at e
 split at e
 ·rename_i s
  cases e
  refine ⟨rfl,fun hw ho hp=>?_⟩
  clear hw ho
  repeat'(intro t ht;first|(cases t<;>first|(cases ht;done)|(try simp only[zh_]at ht))|((first|refine za_ ht ?_|refine ht ?_ ?_)<;>clear ht)|(refine ht.1 (by simp only[zi_];omega) ?_;clear ht)|(refine ht.2 ?_;clear ht)|(refine ht ?_;clear ht))
  all_goals first
   | exact True.intro
   | decide
   | exact ⟨⟨_⟩,True.intro,rfl,rfl⟩
 ·cases e
def qN_:IR:=
(sq (kr [0,1,2] [oM 11 2,
oM 12 1,
oB 13 .sub 11 12,
oM 6 13])
(sq (.reg [oM 14 6,
oB 15 .geq 14 (cI 8)])
(.cond 15
(sq (kr [0,1,6] [oM 16 6,
oD 17 (.conv .u64 16),
oD 7 (.box [.int .u64 0]),
oS 1 7 17])
(sq (.reg [oM 18 6,
oC 19 74 [18],
oM 8 19])
(sq (kr [0,1,6,7,8] [oM 20 1,
oM 21 6,
oB 22 .quo 21 (cI 4),
oB 23 .mul 22 (cI 2),
oB 24 .add 20 23,
oB 25 .sub 24 (cI 1),
oM 9 25])
(.block 0
(.loop
(sq (sq (kr [0,1,6,7,8,9] [oM 26 9,
oM 27 1,
oM 28 6,
oB 29 .quo 28 (cI 4),
oB 30 .mul 29 (cI 2),
oB 31 .add 27 30,
oB 32 .add 31 (cI 1),
oB 33 .leq 26 32])
(.cond 33
.skip
(.exit 0)))
(sq (.block 1
(sq (kr [0,1,6,7,8,9] [oD 36 (.calln (.f 75) [7]),
oM 37 8,
oB 38 .sub 37 (.c (.int .u64 1)),
oB 39 .and 36 38,
oD 40 (.conv .i64 39),
oM 10 40])
(sq (sq (.reg [oM 41 10,
oM 42 6,
oB 43 .geq 41 42])
(.cond 43
(kr [0,1,6,7,8,9,10] [oM 44 10,
oM 45 6,
oB 46 .sub 44 45,
oM 10 46])
.skip))
(kd [0,1,6,7,8,9,10] [(oM 47 0,[]),
(oM 48 9,[0]),
(oM 49 0,[0,0]),
(oM 50 1,[0,0,0]),
(oM 51 10,[0,0,0,0]),
(oB 52 .add 50 51,[2,0,0]),
(oM 53 0,[0,0,0,0,0,0]),
(oM 54 1,[0,0,0,0,0,0,0]),
(oM 55 10,[0,0,0,0,0,0,0,0]),
(oB 56 .add 54 55,[2,0,0,0,0,0,0]),
(oI 57 1 53 56,[4,0,0,0,0,0]),
(oL 58 57,[5,0,0,0,0,0]),
(oM 59 0,[0,0,0,0,0,0,0,0,0,0,0,0]),
(oM 60 9,[0,0,0,0,0,0,0,0,0,0,0,0,0]),
(oI 61 1 59 60,[2,0,0,0,0,0,0,0,0,0,0,0]),
(oL 62 61,[3,0,0,0,0,0,0,0,0,0,0,0]),
(oI 63 1 47 48,[10,0,0,0]),
(oS 1 63 58,[11,0,0,0]),
(oI 64 1 49 52,[]),
(oS 1 64 62,[])]))))
(kr [0,1,6,7,8,9] [oM 34 9,
oB 35 .add 34 (cI 1),
oM 9 35]))))))))
.skip)))
def qH_:List RD:=[]
theorem qK_:zl_ Try.prog Try.f62 qN_ qH_=true:=by kernel_rfl
def zN_:List AV->List Obj->Option NdR
 | [.own 0,.int .i64 a,.int .i64 b],[.row false (.int .i64) l]=>some (⟨0<=a/\a<=b/\b<=l.length/\l.length<=60000,SrX,fun x=>Rear l a.toNat b.toNat x.r,fun _=>.tup [],fun x=>[.row false (.int .i64) x.r]⟩)
 | _,_=>none
theorem qm_:KW_ Try.prog 62 (NdF zN_):=by
 refine WQ_ Try.func62 qK_ (zc_ (s:=RoF Zz_) Ki_ (zc_ (s:=NdF ZD_) Kz_ (ze_ _))) fun args objs r e=>?_
 unfold zN_ at e
 split at e
 ·rename_i a b l
  cases e
  refine ⟨rfl,fun hw ho hp=>?_⟩
  change List Int at l
  clear hw ho
  change List Int at l
  obtain ⟨g1,g2,g3,g4⟩:=hp
  obtain ⟨a,rfl⟩:=Int.eq_ofNat_of_zero_le g1
  obtain ⟨b,rfl⟩:=Int.eq_ofNat_of_zero_le (show 0<=b by omega)
  have hq:((b:Int) - (a:Int)).tdiv 4=(((b - a) / 4:Nat):Int):=by rw [Int.tdiv_eq_ediv_of_nonneg (by omega)];omega
  have hnp:8<=(b:Int) - (a:Int)->1<=npF ((b:Int) - (a:Int))/\npF ((b:Int) - (a:Int))<=2*((b:Int) - (a:Int)):=fun c=>bx_ (by omega) (by omega)
  have hi:8<=(b:Int) - (a:Int)->(a:Int)+((b:Int) - (a:Int)).tdiv 4*2 - 1=((a+((b - a) / 4)*2 - 1:Nat):Int):=fun c=>by rw [hq];omega
  repeat'(intro t ht;first|(cases t<;>first|(cases ht;done)|(try simp only[zh_]at ht;try(exfalso;first|contradiction|omega)))|((first|refine za_ ht ?_|refine ht ?_ ?_|refine ht.1 ?_ ?_|refine ht ?_)<;>clear ht))
  all_goals first
   | exact True.intro
   | decide
   | omega
   | (constructor<;>omega)
   | (simp only [zi_];omega)
   | exact ⟨⟨l⟩,Rear.refl _ _ _,rfl,rfl⟩
   | (intro r h1 h2;clear h1;refine h2 ⟨[0,1,6,7,8,9],Nat × List Int × Int,(fun z=>a+1<=z.1/\z.1<=a+((b - a) / 4)*2+2/\Rear l a b z.2.1),fun z=>[.own 0,.int .i64 a,.int .i64 ((b:Int) - (a:Int)),.ptr 1 0,.int .u64 (npF ((b:Int) - (a:Int))),.int .i64 z.1],fun z=>[.row false (.int .i64) z.2.1,.box [.int .u64 z.2.2]],fun z=>b+5 - z.1,⟨(a+((b - a) / 4)*2 - 1,l,(b:Int) - (a:Int)),⟨by dsimp only;omega,by dsimp only;omega,Rear.refl _ _ _⟩,(by rw [hi (by assumption)];rfl),rfl⟩,?_⟩;clear h2)
  rintro ⟨i,u,s⟩ ⟨hi1,hi2,hR⟩
  dsimp only at hi1 hi2 hR
  have hl:=hR.len
  have hn:=hnp (by assumption)
  clear hi hnp
  have hx:∀ x,0<=ZW_ .and .u64 x (npF ((b:Int) - (a:Int)) - 1)/\ZW_ .and .u64 x (npF ((b:Int) - (a:Int)) - 1)<=npF ((b:Int) - (a:Int)) - 1:=fun x=>bh_ x (by omega) (by omega)
  repeat'(intro t ht;first|(cases t<;>first|(cases ht;done)|(try simp only[zh_]at ht;try(exfalso;first|contradiction|omega)))|((first|refine za_ ht ?_|refine ht ?_ ?_|refine ht.1 ?_ ?_|refine ht ?_)<;>clear ht))
  all_goals (try simp only [hq,Int.toNat_natCast] at ht ⊢)
  all_goals first
   | exact True.intro
   | decide
   | omega
   | (constructor<;>omega)
   | (simp only [zi_];omega)
   | exact ⟨⟨u⟩,hR,by first | rfl | exact True.intro,by first | rfl | exact True.intro⟩
   | skip
  all_goals (rename Int=>s9;have hv:=hx s9;clear hx)
  all_goals generalize ZW_ .and .u64 _ (npF ((b:Int) - (a:Int)) - 1)=v at*
  all_goals first
   | omega
   | (constructor<;>omega)
   | (simp only [zi_];omega)
   | (simp only [List.length_set];omega)
   | (simp only [List.length_set];constructor<;>omega)
   | (refine ⟨(i+1,swp u i ((a:Int)+v).toNat,_),⟨?_,?_,hR.trans (Rear.swp (by omega) (by omega) (by omega))⟩,?_,rfl,rfl⟩
      ·dsimp only;omega
      ·dsimp only;omega
      ·dsimp only;omega)
   | (refine ⟨(i+1,swp u i ((a:Int)+(v - ((b:Int) - (a:Int)))).toNat,_),⟨?_,?_,hR.trans (Rear.swp (by omega) (by omega) (by omega))⟩,?_,rfl,rfl⟩
      ·dsimp only;omega
      ·dsimp only;omega
      ·dsimp only;omega)
 ·cases e
structure PdqJ (l u:List Int) (a b i j:Nat):Prop where
 n:u.length=l.length
 ai:a<=i
 ij:i<=j
 jb:j<=b
 e:srt u i j=srt l a b
 lo:kr_ u i j
theorem gj_ {l:List Int} {a b:Nat} (hab:a<=b) (h:kr_ l a b):PdqJ l l a b a b:=⟨rfl,Nat.le_refl _,hab,Nat.le_refl _,rfl,h⟩
theorem vR_ {l u r:List Int} {a b i j:Nat} (hb:b<=l.length) (J:PdqJ l u a b i j) (hR:Rear u i j r):PdqJ l r a b i j:=by
 obtain ⟨h1,h2,h3,h4,h5,h6⟩:=J
 exact ⟨by rw [hR.len,h1],h2,h3,h4,by rw [Ja_ h3 (by omega) hR,h5],h6.rear hR h3 (by omega)⟩
theorem GG_ {l u r:List Int} {a b i j:Nat} (hb:b<=l.length) (J:PdqJ l u a b i j) (hR:Rear u i j r) (hS:kA_ r i j):r=srt l a b:=by
 obtain ⟨h1,h2,h3,h4,h5,h6⟩:=J
 rw [JG_ h3 (by omega) hR hS,h5]
theorem GF_ {l u r:List Int} {a b i j m:Nat} (hb:b<=l.length) (J:PdqJ l u a b i j) (P:PartR u r i j m):kr_ r i m/\PdqJ l (srt r i m) a b (m+1) j:=by
 obtain ⟨h1,h2,h3,h4,h5,h6⟩:=J
 obtain ⟨e,lo⟩:=gl_ (by omega) P
 have hl:=P.R.len
 have p1:=P.am
 have p2:=P.mb
 exact ⟨(h6.rear P.R h3 (by omega)).sub (Nat.le_of_lt p2),⟨by rw [Uj_ r p1,hl,h1],by omega,by omega,h4,by rw [<- e,h5],lo⟩⟩
theorem gk_ {l u r:List Int} {a b i j m:Nat} (hb:b<=l.length) (J:PdqJ l u a b i j) (P:PartR u r i j m):kr_ r (m+1) j/\PdqJ l (srt r (m+1) j) a b i m:=by
 obtain ⟨h1,h2,h3,h4,h5,h6⟩:=J
 have e:=ul_ (by omega) P
 have hl:=P.R.len
 have p1:=P.am
 have p2:=P.mb
 have hs:=Q6_ r (a:=m+1) (b:=j) (by omega) (by omega)
 refine ⟨fun _ k k1 k2=>by rw [show m+1 - 1=m by omega];exact P.hi k (by omega) k2,⟨by rw [Uj_ r (by omega),hl,h1],h2,p1,by omega,by rw [<- e,h5],fun h0 k k1 k2=>?_⟩⟩
 rw [hs.get (.inl (by omega)),hs.get (.inl (by omega))]
 exact h6.rear P.R h3 (by omega) h0 k k1 (by omega)
theorem HL_ {l u r:List Int} {a b i j m:Nat} {x:Int} (hb:b<=l.length) (J:PdqJ l u a b i j) (E:EqlR u r i j m x) (h0:0 < i) (hx:¬ u.getD (i - 1) 0 < x):PdqJ l r a b m j:=by
 obtain ⟨h1,h2,h3,h4,h5,h6⟩:=J
 have p1:=E.am
 have p2:=E.mb
 have hl:=E.R.len
 obtain ⟨e,lo⟩:=hF_ (by omega) E fun k k1 k2=>by
  have:=h6.rear E.R h3 (by omega) h0 k k1 k2
  rw [E.R.get (.inl (by omega))] at this
  rw [E.pv];omega
 exact ⟨by rw [hl,h1],by omega,p2,h4,by rw [<- e,h5],lo⟩
def kx_:IR:=
(sq (kr [0,1,2,3] [oD 8 (.mov cT)])
(sq (.reg [oD 9 (.mov cT)])
(.block 0
(.loop
(.block 1
(sq (kr [0,1,2,3,8,9] [oM 19 2,
oM 20 1,
oB 21 .sub 19 20,
oM 10 21])
(sq (sq (.reg [oM 22 10,
oB 23 .leq 22 (cI 12)])
(.cond 23
(sq (kr [0,1,2] [oM 24 0,
oM 25 1,
oM 26 2,
oD 27 (.call true (.f 60) [24,25,26])])
.ret)
.skip))
(sq (sq (kr [0,1,2,3,8,9,10] [oM 28 3,
oB 29 .eql 28 (cI 0)])
(.cond 29
(sq (.reg [oM 30 0,
oM 31 1,
oM 32 2,
oD 33 (.call true (.f 61) [30,31,32])])
.ret)
.skip))
(sq (sq (kr [0,1,2,3,8,9,10] [oM 34 8,
oD 35 (.un .not 34)])
(.cond 35
(sq (.reg [oM 36 0,
oM 37 1,
oM 38 2,
oD 39 (.calln (.f 62) [36,37,38])])
(kr [0,1,2,3,8,9,10] [oM 40 3,
oB 41 .sub 40 (cI 1),
oM 3 41]))
.skip))
(sq (kr [0,1,2,3,8,9,10] [oM 43 0,
oM 44 1,
oM 45 2,
oD 46 (.calln (.f 63) [43,44,45]),
oM 42 46,
oX 47 42 0,
oX 48 42 1,
oM 11 47,
oM 12 48])
(sq (sq (kr [0,1,2,3,8,9,10,11,12] [oM 49 12,
oB 50 .eql 49 (cI 2)])
(.cond 50
(sq (.reg [oM 51 0,
oM 52 1,
oM 53 2,
oD 54 (.calln (.f 64) [51,52,53])])
(sq (kr [0,1,2,3,8,9,10,11] [oM 55 2,
oB 56 .sub 55 (cI 1),
oM 57 11,
oM 58 1,
oB 59 .sub 57 58,
oB 60 .sub 56 59,
oM 11 60])
(kr [0,1,2,3,8,9,10,11] [oD 12 (.mov (cI 1))])))
.skip))
(sq (sq (kr [0,1,2,3,8,9,10,11,12] [oM 61 8,
oM 62 61,
oT 62 63 (.mov 9),
oP 64 62 63 cF,
oM 65 64,
oT 65 66 (.mov 12),
oT 65 67 (.bin .eql 66 (cI 1)),
oP 68 65 67 cF])
(.cond 68
(sq (kr [0,1,2,3,8,9,10,11] [oM 69 0,
oM 70 1,
oM 71 2,
oD 72 (.calln (.f 65) [69,70,71])])
(.cond 72
.ret
.skip))
.skip))
(sq (sq (kd [0,1,2,3,8,9,10,11] [(oM 73 1,[]),
(oB 74 .gtr 73 (cI 0),[]),
(oM 75 74,[]),
(oT 75 76 (.mov 0),[]),
(oT 75 77 (.mov 1),[0]),
(oT 75 78 (.bin .sub 77 (cI 1)),[1]),
(oT 75 79 (.indexSl 1 76 78),[]),
(oT 75 80 (.load none 79),[]),
(oT 75 81 (.mov 0),[0,0,0,0,0]),
(oT 75 82 (.mov 11),[0,0,0,0,0,0]),
(oT 75 83 (.indexSl 1 81 82),[2,0,0,0,0]),
(oT 75 84 (.load none 83),[3,0,0,0,0]),
(oT 75 85 (.call false (.f 66) [80,84]),[]),
(oT 75 86 (.un .not 85),[]),
(oP 87 75 86 cF,[])])
(.cond 87
(sq (kr [0,1,2,3,8,9,11] [oM 88 0,
oM 89 1,
oM 90 2,
oM 91 11,
oD 92 (.calln (.f 67) [88,89,90,91]),
oM 13 92])
(sq (.reg [oM 93 13,
oM 1 93])
(.exit 1)))
.skip))
(sq (kr [0,1,2,3,10,11] [oM 95 0,
oM 96 1,
oM 97 2,
oM 98 11,
oD 99 (.calln (.f 68) [95,96,97,98]),
oM 94 99,
oX 100 94 0,
oX 101 94 1,
oM 14 100,
oM 15 101])
(sq (kr [0,1,2,3,10,14,15] [oM 102 15,
oM 9 102])
(sq (kr [0,1,2,3,9,10,14] [oM 103 14,
oM 104 1,
oB 105 .sub 103 104,
oM 106 2,
oM 107 14,
oB 108 .sub 106 107,
oM 16 105,
oM 17 108])
(sq (kr [0,1,2,3,9,10,14,16,17] [oM 109 10,
oB 110 .quo 109 (cI 8),
oM 18 110])
(sq (.reg [oM 111 16,
oM 112 17,
oB 113 .lss 111 112])
(.cond 113
(sq (kr [0,1,2,3,9,14,16,18] [oM 114 16,
oM 115 18,
oB 116 .geq 114 115,
oM 8 116])
(sq (kr [0,1,2,3,8,9,14] [oM 117 0,
oM 118 1,
oM 119 14,
oM 120 3,
oD 121 (.call true (.f 52) [117,118,119,120])])
(.reg [oM 122 14,
oB 123 .add 122 (cI 1),
oM 1 123])))
(sq (kr [0,1,2,3,9,14,17,18] [oM 124 17,
oM 125 18,
oB 126 .geq 124 125,
oM 8 126])
(sq (kr [0,1,2,3,8,9,14] [oM 127 0,
oM 128 14,
oB 129 .add 128 (cI 1),
oM 130 2,
oM 131 3,
oD 132 (.call true (.f 52) [127,129,130,131])])
(.reg [oM 133 14,
oM 2 133]))))))))))))))))))))))
def ku_:List RD:=[]
theorem kv_:zl_ Try.prog Try.f52 kx_ ku_=true:=by kernel_rfl
def Ze_:List AV->List Obj->Option (Prop × AV × List Obj)
 | [.own 0,.int .i64 a,.int .i64 b,.int .i64 n],[.row false (.int .i64) l]=>some ((0<=a/\a<=b/\b<=l.length/\l.length<=60000/\0<=n/\n<=64/\kr_ l a.toNat b.toNat,.tup [],[.row false (.int .i64) (srt l a.toNat b.toNat)]))
 | _,_=>none
theorem Q7_:zf_ Try.prog 52 (RwF Ze_).sum:=by
 refine Gj_ (fun args=>match args with | [_,.int _ a,.int _ b,_]=>(b - a).toNat | _=>0) Try.func52 kv_ (zc_ (s:=RwF zM_) ql_ (zc_ (s:=RwF Zb_) QF_ (zc_ (s:=NdF zN_) qm_ (zc_ (s:=NdF zT_) qS_ (zc_ (s:=NdF zP_) qE_ (zc_ (s:=NdF zs_) ZB_ (zc_ (s:=RoF zR_) zZ_ (zc_ (s:=NdF zH_) qh_ (zc_ (s:=NdF z8_) Qt_ (ze_ _)))))))))) fun args objs p v o e=>?_
 unfold Ze_ at e
 split at e
 ·rename_i a b n l
  cases e
  refine ⟨rfl,fun hw ho hp=>?_⟩
  change List Int at l
  clear hw ho
  change List Int at l
  obtain ⟨g1,g2,g3,g4,g5,g6,g7⟩:=hp
  obtain ⟨a,rfl⟩:=Int.eq_ofNat_of_zero_le g1
  obtain ⟨b,rfl⟩:=Int.eq_ofNat_of_zero_le (show 0<=b by omega)
  obtain ⟨n,rfl⟩:=Int.eq_ofNat_of_zero_le g5
  simp only [Int.toNat_natCast] at g7 ⊢
  have hb:b<=l.length:=by omega
  have hab:a<=b:=by omega
  repeat'(intro t ht;first|(cases t<;>first|(cases ht;done)|(try simp only[zh_]at ht;try(exfalso;first|contradiction|omega)))|((first|refine za_ ht ?_|refine ht ?_ ?_|refine ht.1 ?_ ?_|refine ht ?_)<;>clear ht))
  all_goals first
   | exact True.intro
   | omega
   | (intro r h1 h2;clear h1;refine h2 ⟨[0,1,2,3,8,9],Nat × Nat × Nat × Bool × Bool × List Int,(fun s=>PdqJ l s.2.2.2.2.2 a b s.1 s.2.1/\s.2.2.1<=64),fun s=>[.own 0,.int .i64 s.1,.int .i64 s.2.1,.int .i64 s.2.2.1,.bool s.2.2.2.1,.bool s.2.2.2.2.1],fun s=>[.row false (.int .i64) s.2.2.2.2.2],fun s=>s.2.1 - s.1,⟨(a,b,n,true,true,l),⟨gj_ hab g7,by (try dsimp only);omega⟩,rfl,rfl⟩,?_⟩;clear h2)
  rintro ⟨i,j,k,wb,wp,u⟩ ⟨hJ,hk⟩
  dsimp only at hJ hk
  have hn:=hJ.n
  have k1:=hJ.ai
  have k2:=hJ.ij
  have k3:=hJ.jb
  cases wb<;>cases wp
  all_goals repeat'(intro t ht;first|(cases t<;>first|(cases ht;done)|(try simp only[zh_]at ht;try(exfalso;first|contradiction|omega)))|((first|refine za_ ht ?_|refine ht ?_ ?_|refine ht.1 ?_ ?_|refine ht ?_)<;>clear ht))
  all_goals (try dsimp only)
  all_goals (try simp only [Int.toNat_natCast] at ht ⊢)
  all_goals (have ei:((i:Int) - 1).toNat=i - 1:=by omega)
  all_goals (repeat (replace hJ:=vR_ hb hJ (by assumption)))
  all_goals first
   | exact True.intro
   | (rename Rear _ _ _ _/\_=>hA
      obtain ⟨hA,hB⟩:=hA
      first
       | (have e9:=GG_ hb hJ hA (hB ht)
          exact ⟨by first | exact True.intro | rfl,congrArg (fun x=>[Obj.row false _ x]) e9⟩)
       | replace hJ:=vR_ hb hJ hA)
   | skip
  all_goals (replace hn:=hJ.n)
  all_goals (have h8:(((j:Int) - (i:Int)).tdiv 8)=((j:Int) - (i:Int)) / 8:=Int.tdiv_eq_ediv_of_nonneg (by omega))
  all_goals (try simp only [h8])
  all_goals first
   | (have ek:(k:Int) - 1=((k - 1:Nat):Int):=by omega
      simp only [ek])
   | skip
  all_goals first
   | omega
   | (simp only [zi_];omega)
   | (constructor<;>omega)
   | (refine ⟨?_,?_,?_,?_,hJ.lo⟩<;>omega)
   | (refine ⟨?_,?_,?_,?_⟩<;>omega)
   | (refine ⟨?_,?_,?_,?_,?_,?_⟩<;>omega)
   | exact ⟨by first | exact True.intro | rfl,congrArg (fun x=>[Obj.row false _ x]) hJ.e⟩
   | (rename PartR _ _ _ _ _=>hP
      have hPL:=GF_ hb hJ hP
      have hPR:=gk_ hb hJ hP
      have p1:=hP.am
      have p2:=hP.mb
      have pl:=hP.R.len
      first
       | omega
       | (simp only [zi_];omega)
       | (refine ⟨⟨?_,?_,?_,?_,?_,?_,hPR.1⟩,?_⟩<;>omega)
       | (refine ⟨⟨?_,?_,?_,?_,?_,?_,hPL.1⟩,?_⟩<;>omega)
       | (refine ⟨(_,_,_,_,_,_),⟨hPL.2,?_⟩,?_,rfl,rfl⟩
          ·(try dsimp only);omega
          ·(try dsimp only);omega)
       | (refine ⟨(_,_,_,_,_,_),⟨hPR.2,?_⟩,?_,rfl,rfl⟩
          ·(try dsimp only);omega
          ·(try dsimp only);omega))
   | (rename EqlR _ _ _ _ _ _=>hE
      have hEJ:=HL_ hb hJ hE (by omega) (by rw [<- ei];assumption)
      have p1:=hE.am
      have p2:=hE.mb
      have pl:=hE.R.len
      refine ⟨(_,_,_,_,_,_),⟨hEJ,?_⟩,?_,rfl,rfl⟩
      ·(try dsimp only);omega
      ·(try dsimp only);omega)
 ·cases e
def jn_:IR:=
(sq (kr [0] [oM 3 0,
oE 4 3,
oM 2 4])
(kr [0,2] [oM 5 0,
oM 6 2,
oM 7 2,
oD 8 (.conv .u64 7),
oC 9 53 [8],
oD 10 (.call true (.f 52) [5,(cI 0),6,9])]))
def jf_:List RD:=[]
theorem jg_:zl_ Try.prog Try.f30 jn_ jf_=true:=by kernel_rfl
def ZR_:List AV->List Obj->Option (Prop × AV × List Obj)
 | [.own 0],[.row false (.int .i64) l]=>some ((l.length<=60000,.tup [],[.row false (.int .i64) (srt l 0 l.length)]))
 | _,_=>none
theorem KJ_:zf_ Try.prog 30 (RwF ZR_).sum:=by
 refine kF_ Try.func30 jg_ (zc_ (s:=RoF qB_) Kp_ (zc_ (s:=RwF Ze_) Q7_ (ze_ _))) fun args objs p v o e=>?_
 unfold ZR_ at e
 split at e
 ·rename_i l
  cases e
  refine ⟨rfl,fun hw ho hp=>?_⟩
  change List Int at l
  clear hw ho
  change List Int at l
  have hr:=bD_ l.length
  have hlo:kr_ l 0 l.length:=fun h0=>absurd h0 (by omega)
  repeat'(intro t ht;first|(cases t<;>first|(cases ht;done)|(try simp only[zh_]at ht;try(exfalso;first|contradiction|omega)))|((first|refine za_ ht ?_|refine ht ?_ ?_|refine ht.1 ?_ ?_|refine ht ?_)<;>clear ht))
  all_goals first
   | exact True.intro
   | omega
   | (simp only [zi_];omega)
   | (constructor<;>omega)
   | (refine ⟨?_,?_,?_,?_,?_,?_,hlo⟩<;>omega)
   | exact ⟨rfl,rfl⟩
 ·cases e
def wh_ (n:Int):Bool:=fIs n && decide (0<=z9_ n)
def Y3_:Nat->Int->List Int
 | 0,_=>[]
 | k+1,n=>match wh_ n with | true=>Y3_ k (z9_ n)++[z9_ n] | false=>[]
def ZP_ (n:Int):List Int:=Y3_ 4 n
theorem B3_:∀ k < 40,wh_ (k:Nat)=true->0<=z9_ (k:Nat)/\z9_ (k:Nat) < (k:Nat)/\ZP_ (k:Nat)=ZP_ (z9_ (k:Nat))++[z9_ (k:Nat)]/\(ZP_ (k:Nat)).length<=3:=by decide+kernel
theorem YI_ {n:Int} (h:wh_ n=true):0<=n/\0<=z9_ n/\z9_ n < n/\ZP_ n=ZP_ (z9_ n)++[z9_ n]/\(ZP_ n).length<=3:=by
 have h0:fIs n=true:=by unfold wh_ at h;simp at h;exact h.1
 have h1:=Qj_.1 h0
 have:=B3_ n.toNat (by omega)
 rw [Int.toNat_of_nonneg h1.1] at this
 exact ⟨h1.1,this h⟩
theorem wg_ {n:Int} (h:wh_ n=false):ZP_ n=[]:=by unfold ZP_ Y3_;rw [h]
def W2_:List AV->List Obj->Option (Prop × Res)
 | [.int .i64 n],[]=>some (True,.br (wh_ n) (.one (.own 0) [.row false (.int .i64) (ZP_ n)]) (.one .nils []))
 | _,_=>none
def vc_:IR:=
(sq (kr [0] [oD 2 (.mov (.c (.nils)))])
(sq (kr [0] [oM 6 0,
oC 7 28 [6],
oM 5 7,
oX 8 5 0,
oX 9 5 1,
oD 3 (.box [.str [],.int .i64 0,.int .i64 0,.kb false,.int .i64 0,.nils]),
oS 6 3 8,
oM 4 9])
(sq (sq (kr [3,4] [oM 10 4,
oD 11 (.un .not 10),
oM 12 11,
oF 12 13 (.fieldAddr 4 3),
oF 12 14 (.load none 13),
oF 12 15 (.bin .lss 14 (cI 0)),
oP 16 12 cT 15])
(.cond 16
(sq (kr [] [oD 2 (.mov (.c (.nils)))])
.ret)
.skip))
(sq (kd [3] [(oA 17 4 3,[]),
(oL 18 17,[]),
(oC 19 31 [18],[]),
(oA 20 4 3,[0,0,0]),
(oL 21 20,[1,0,0]),
(oD 22 (.sliceAll (.int .i64) 1 [(0,1,21)]),[2,0,0]),
(oD 23 (.append (.int .i64) 8 19 22),[]),
(oM 2 23,[])])
.ret))))
def YL_:List RD:=[.tmp 2 false none]
theorem YW_:zl_ Try.prog Try.f31 vc_ YL_=true:=by kernel_rfl
def j4_:List AV->List Obj->Option (Prop × AV)
 | [.int .i64 n],[]=>some (True,.imm (.int .i64) (ZP_ n))
 | _,_=>none
theorem X6_:zf_ Try.prog 31 (RcF W2_).sum:=by
 refine b4_ (fun a=>match a with | [.int .i64 n]=>n.toNat | _=>0) Try.func31 YW_ (zc_ (s:=RoF wP_) xN_ (ze_ _)) fun args objs p v e=>?_
 unfold W2_ at e
 split at e
 ·rename_i n
  cases e
  refine ⟨rfl,fun hw ho hp=>?_⟩
  repeat'(intro t ht;first|(cases t<;>first|(cases ht;done)|(try simp only[zh_]at ht))|((first|refine za_ ht ?_|refine ht ?_ ?_|refine ht.1 ?_ ?_|refine ht ?_)<;>clear ht))
  all_goals first
   | exact True.intro
   | (have hb:wh_ n=true:=by (unfold wh_;simp only [*,Bool.true_and,decide_eq_true_eq];omega)
      obtain ⟨h0,h1,h2,h3,h4⟩:=YI_ hb
      first
       | (refine ⟨True.intro,?_⟩;show (z9_ n).toNat < n.toNat;omega)
       | (simp only [WW_,List.length_cons,List.length_nil];omega)
       | (obtain ⟨_,_,_,_,h5⟩:=YI_ (n:=z9_ n) (by assumption);simp only [WW_,List.length_cons,List.length_nil];omega)
       | (have h5:=wg_ (n:=z9_ n) (by assumption);rw [hb];refine ⟨rfl,?_⟩;rw [h3,h5];rfl)
       | (rw [hb];refine ⟨rfl,?_⟩;rw [h3];rfl))
   | (have hb:wh_ n=false:=by (unfold wh_;simp only [*,Bool.true_and,Bool.false_and,decide_eq_false_iff_not];try omega)
      rw [hb];exact ⟨rfl,rfl⟩)
 ·cases e
theorem X8_:zf_ Try.prog 31 (RoF j4_).sum:=by
 refine Gr_ (t:=.int .i64) X6_ fun args objs p v e=>?_
 unfold j4_ at e
 split at e
 ·rename_i n
  cases e
  refine ⟨rfl,_,_,rfl,rfl,?_⟩
  cases hb:wh_ n with
  | true=>exact .inl rfl
  | false=>exact .inr ⟨rfl,wg_ hb⟩
 ·cases e
theorem lawK:∀ k < 40,JB_ (k:Nat)=QD_ (k:Nat)/\ZV_ (k:Nat)=Zf_ (k:Nat)/\JA_ (k:Nat)=kG_ (k:Nat)/\zz_ (k:Nat)=z9_ (k:Nat)/\zY_ (k:Nat)=qP_ (k:Nat)/\GY_ (k:Nat)=KN_ (k:Nat)/\zC_ (k:Nat)=ZP_ (k:Nat):=by decide+kernel
theorem Bd_ (n:Int):JB_ n=QD_ n/\ZV_ n=Zf_ n/\JA_ n=kG_ n/\zz_ n=z9_ n/\zY_ n=qP_ n/\GY_ n=KN_ n/\zC_ n=ZP_ n:=by
 cases h:fIs n with
 | true=>
   have hn:=Qj_.1 h
   have:=lawK n.toNat (by omega)
   rwa [Int.toNat_of_nonneg hn.1] at this
 | false=>
   have hr:wh_ n=false:=by unfold wh_;rw [h];rfl
   unfold JB_ QD_ ZV_ Zf_ JA_ kG_ zz_ z9_ zY_ qP_ GY_ KN_ zC_
   rw [wg_ hr,if_neg (Ya_.1 h),h]
   exact ⟨rfl,rfl,rfl,rfl,rfl,rfl,rfl⟩
theorem GU_ {n:Int}:(ZP_ n).length<=3:=by
 cases h:wh_ n with
 | true=>exact (YI_ h).2.2.2.2
 | false=>rw [wg_ h];exact Nat.zero_le _
def jU_ (l:List OV) (z:Int):Bool:=l.any fun o=>decide (o.1=32768) && decide (o.2.1=z)
def nfO (o:OV):List Int:=if o.1=32768 then zC_ o.2.1 else []
def ndL (l:List OV):List Int:=l.flatMap nfO
def xj_ (l:List OV):List Int:=(ndL l).filter fun z=>!jU_ l z
theorem wt_ (n:Int):(zC_ n).length<=3:=by rw [(Bd_ n).2.2.2.2.2.2];exact GU_
theorem GV_:∀ k < 40,∀ z ∈ zC_ (k:Nat),0<=z/\z < 40:=by decide+kernel
theorem yZ_ {n z:Int} (h:z ∈ zC_ n):0<=z/\z < 40:=by
 by_cases c:0<=n/\n < 40
 ·have:=GV_ n.toNat (by omega) z
  rw [Int.toNat_of_nonneg c.1] at this
  exact this h
 ·unfold zC_ at h
  rw [if_neg c] at h;cases h
theorem HX_ {l:List OV} {z:Int} (h:z ∈ ndL l):0<=z/\z < 40:=by
 obtain ⟨o,_,ho⟩:=List.mem_flatMap.1 h
 unfold nfO at ho
 split at ho
 ·exact yZ_ ho
 ·cases ho
theorem GX_ (l:List OV) (o:OV):ndL (l++[o])=ndL l++nfO o:=by unfold ndL;rw [List.flatMap_append];simp
theorem HY_ (l:List OV):(ndL l).length<=3*l.length:=by
 induction l with
 | nil=>exact Nat.le_refl _
 | cons o r ih=>
   have h:(nfO o).length<=3:=by unfold nfO;split;exact wt_ _;exact Nat.zero_le _
   show ((nfO o)++ndL r).length<=_
   rw [List.length_append,List.length_cons];omega
theorem Wn_ (l:List OV) (o:OV) (z:Int):jU_ (l++[o]) z=(jU_ l z || (decide (o.1=32768) && decide (o.2.1=z))):=by unfold jU_;rw [List.any_append,List.any_cons,List.any_nil,Bool.or_false]
structure HasJ (m:List (Int × Int)) (l:List OV):Prop where
 r:∀ z,0<=(zE_ m z).getD 0/\(zE_ m z).getD 0<=l.length
 z:∀ z,(zE_ m z).getD 0=0 ↔ jU_ l z=false
 n:m.length<=l.length
theorem hv_:HasJ [] []:=⟨fun _=>⟨Int.le_refl _,Int.le_refl _⟩,fun z=>⟨fun _=>rfl,fun _=>rfl⟩,Nat.le_refl _⟩
theorem GZ_ (m:List (Int × Int)) (k v:Int):(Wf_ m k v).length<=m.length+1:=by
 have h:=congrArg List.length (bC_ m k v)
 rw [List.length_map] at h
 rw [h]
 split
 ·rw [List.length_map];omega
 ·rw [List.length_append,List.length_map,List.length_singleton];omega
theorem gG_ {m:List (Int × Int)} {l:List OV} {o:OV} (J:HasJ m l) (h:¬ o.1=32768):HasJ m (l++[o]):=by
 refine ⟨fun z=>?_,fun z=>?_,?_⟩
 ·have:=J.r z
  rw [List.length_append,List.length_singleton];omega
 ·rw [Wn_,decide_eq_false h,Bool.false_and,Bool.or_false];exact J.z z
 ·have:=J.n
  rw [List.length_append,List.length_singleton];omega
theorem hw_ {m:List (Int × Int)} {l:List OV} {o:OV} (J:HasJ m l) (h:o.1=32768):HasJ (Wf_ m o.2.1 ((zE_ m o.2.1).getD 0+1)) (l++[o]):=by
 refine ⟨fun z=>?_,fun z=>?_,?_⟩
 ·have h1:=J.r o.2.1
  have h2:=J.r z
  rw [Xi_,List.length_append,List.length_singleton]
  split
  ·show 0<=(zE_ m o.2.1).getD 0+1/\(zE_ m o.2.1).getD 0+1<=((l.length+1:Nat):Int);omega
  ·omega
 ·have h1:=J.r o.2.1
  rw [Xi_,Wn_,decide_eq_true h,Bool.true_and]
  split
  ·rename_i e
   rw [decide_eq_true e,Bool.or_true]
   constructor
   ·intro c
    change (zE_ m o.2.1).getD 0+1=0 at c;omega
   ·intro c;cases c
  ·rename_i e
   rw [decide_eq_false e,Bool.or_false];exact J.z z
 ·have:=J.n
  have:=GZ_ m o.2.1 ((zE_ m o.2.1).getD 0+1)
  rw [List.length_append,List.length_singleton];omega
structure MisJ (l:List OV) (seen:List Int) (m:List (Int × Int)) (out:List Int):Prop where
 nd:out.Nodup
 mem:∀ z,z ∈ out ↔ z ∈ seen/\jU_ l z=false
 zer:∀ z,(zE_ m z).getD 0=0 ↔ jU_ l z=false/\z ∉ out
 r:∀ z,0<=(zE_ m z).getD 0/\(zE_ m z).getD 0<=l.length+1
 n:out.length<=seen.length
theorem uv_ {l:List OV} {m:List (Int × Int)} (J:HasJ m l):MisJ l [] m []:=
 ⟨List.Pairwise.nil,fun z=>by simp,fun z=>by rw [J.z z];simp,fun z=>by have:=J.r z;omega,Nat.le_refl _⟩
theorem gy_ {l:List OV} {seen:List Int} {m:List (Int × Int)} {out:List Int} {x:Int} (J:MisJ l seen m out) (h:¬ (zE_ m x).getD 0=0):MisJ l (seen++[x]) m out:=by
 refine ⟨J.nd,fun z=>?_,J.zer,J.r,by have:=J.n;rw [List.length_append];omega⟩
 rw [J.mem z,List.mem_append,List.mem_singleton]
 constructor
 ·rintro ⟨a,b⟩;exact ⟨.inl a,b⟩
 ·rintro ⟨a | a,b⟩
  ·exact ⟨a,b⟩
  ·subst a
   apply Classical.byContradiction;intro c
   exact h ((J.zer z).2 ⟨b,fun d=>c ((J.mem z).1 d)⟩)
theorem G6_ {l:List OV} {seen:List Int} {m:List (Int × Int)} {out:List Int} {x:Int} (J:MisJ l seen m out) (h:(zE_ m x).getD 0=0):MisJ l (seen++[x]) (Wf_ m x ((zE_ m x).getD 0+1)) (out++[x]):=by
 obtain ⟨h1,h2⟩:=(J.zer x).1 h
 refine ⟨List.nodup_append.2 ⟨J.nd,List.pairwise_singleton ..,fun a ha b hb e=>?_⟩,fun z=>?_,fun z=>?_,fun z=>?_,?_⟩
 ·rw [List.mem_singleton.1 hb] at e;exact h2 (e ▸ ha)
 ·rw [List.mem_append,List.mem_append,List.mem_singleton,J.mem z]
  constructor
  ·rintro (⟨a,b⟩ | a)
   ·exact ⟨.inl a,b⟩
   ·rw [a];exact ⟨.inr rfl,h1⟩
  ·rintro ⟨a | a,b⟩
   ·exact .inl ⟨a,b⟩
   ·exact .inr a
 ·rw [Xi_,List.mem_append,List.mem_singleton]
  split
  ·rename_i e
   subst e
   constructor
   ·intro c
    have:=J.r x
    change (zE_ m x).getD 0+1=0 at c;omega
   ·rintro ⟨_,c⟩;exact absurd (.inr rfl) c
  ·rename_i e
   rw [J.zer z]
   constructor
   ·rintro ⟨a,b⟩;exact ⟨a,fun c=>c.elim b fun c=>e c.symm⟩
   ·rintro ⟨a,b⟩;exact ⟨a,fun c=>b (.inl c)⟩
 ·rw [Xi_]
  split
  ·show 0<=(zE_ m x).getD 0+1/\(zE_ m x).getD 0+1<=(l.length:Int)+1;omega
  ·exact J.r z
 ·have:=J.n
  rw [List.length_append,List.length_append];simp only [List.length_singleton];omega
theorem G5_ {l:List OV} {m:List (Int × Int)} {out:List Int} (J:MisJ l (ndL l) m out):srt out 0 out.length=poF (xj_ l):=by
 refine bX_ J.nd fun z=>?_
 unfold xj_
 rw [J.mem z,List.mem_filter,Bool.not_eq_true']
theorem v9_ {l:List OV} {i:Nat} (h:i < l.length) (d:OV):ndL (l.take (i+1))=ndL (l.take i)++nfO (l.getD i d):=by rw [tkS (d:=d) h,GX_]
theorem by_ {o:OV} (h:o.1=32768):nfO o=zC_ o.2.1:=if_pos h
theorem bz_ {o:OV} (h:¬ o.1=32768):nfO o=[]:=if_neg h
def xl_:IR:=
(sq (kr [0] [oD 2 (.nilrow (.int .i64))])
(sq (.reg [oD 10 (.mkmap (.int .i64) (.int .i64)),
oM 3 10])
(sq (sq (.reg [oM 11 0,
oE 12 11,
oD 13 (.mov (cI 0))])
(.block 0
(.loop
(sq (kr [0,2,3,11,12,13] [oB 14 .lss 13 12])
(sq (.cond 14
.skip
(.exit 0))
(sq (.block 1
(sq (.reg [oI 15 6 11 13,
oK 16 6 15,
oD 5 (.box [.int .i64 0,.int .i64 0,.kb false,.int .u64 0,.imm (.int .u8) [],.imm (.int .u8) []]),
oS 6 5 16])
(sq (.reg [oA 17 0 5,
oL 18 17,
oB 19 .eql 18 (cI 32768)])
(.cond 19
(kr [0,2,3,5,11,12,13] [oM 20 3,
oA 21 1 5,
oL 22 21,
oD 23 (.mget (.int .i64) (.int .i64) (0:Int) false 20 22),
oB 24 .add 23 (cI 1),
oN (.mput (.int .i64) (.int .i64) 20 22 24)])
.skip))))
(kr [0,2,3,11,12,13] [oB 25 .add 13 (cI 1),
oM 13 25])))))))
(sq (sq (kr [0,2,3] [oM 26 0,
oE 27 26,
oD 28 (.mov (cI 0))])
(.block 2
(.loop
(sq (kr [2,3,26,27,28] [oB 29 .lss 28 27])
(sq (.cond 29
.skip
(.exit 2))
(sq (.block 3
(sq (.reg [oI 30 6 26 28,
oK 31 6 30,
oD 7 (.box [.int .i64 0,.int .i64 0,.kb false,.int .u64 0,.imm (.int .u8) [],.imm (.int .u8) []]),
oS 6 7 31])
(sq (sq (.reg [oA 32 0 7,
oL 33 32,
oB 34 .neq 33 (cI 32768)])
(.cond 34
(.exit 3)
.skip))
(sq (kr [2,3,7,26,27,28] [oA 35 1 7,
oL 36 35,
oC 37 19 [36],
oE 38 37,
oD 39 (.mov (cI 0))])
(.block 4
(.loop
(sq (kr [2,3,26,27,28,37,38,39] [oB 40 .lss 39 38])
(sq (.cond 40
.skip
(.exit 4))
(sq (.block 5
(sq (.reg [oI 41 1 37 39,
oL 42 41,
oM 9 42])
(sq (.reg [oM 43 3,
oM 44 9,
oD 45 (.mget (.int .i64) (.int .i64) (0:Int) false 43 44),
oB 46 .eql 45 (cI 0)])
(.cond 46
(sq (kr [2,3,9,26,27,28,37,38,39] [oM 47 3,
oM 48 9,
oD 49 (.mget (.int .i64) (.int .i64) (0:Int) false 47 48),
oB 50 .add 49 (cI 1),
oN (.mput (.int .i64) (.int .i64) 47 48 50)])
(kr [2,3,9,26,27,28,37,38,39] [oM 51 2,
oM 52 9,
oD 53 (.sliceAll (.int .i64) 1 [(0,1,52)]),
oD 54 (.append (.int .i64) 8 51 53),
oM 2 54]))
.skip))))
(kr [2,3,26,27,28,37,38,39] [oB 55 .add 39 (cI 1),
oM 39 55]))))))))))
(kr [2,3,26,27,28] [oB 56 .add 28 (cI 1),
oM 28 56])))))))
(sq (kr [2] [oM 57 2,
oD 58 (.call true (.f 30) [57])])
(sq (.reg [oM 59 2,
oM 2 59])
.ret))))))
def W9_:List RD:=[.tmp 2 true (some (.int .i64))]
theorem xe_:zl_ Try.prog Try.f13 xl_ W9_=true:=by kernel_rfl
def ZA_:List AV->List Obj->Option (Prop × AV)
 | [.imm (.cons (.int .i64) (.cons (.int .i64) (.cons .bool (.cons (.int .u64) (.cons (.sl (.int .u8)) (.cons (.sl (.int .u8)) .nil)))))) l],[]=>some ((l.length<=10000,.imm (.int .i64) (poF (xj_ (l:List OV)))))
 | _,_=>none
theorem qb_:zf_ Try.prog 13 (RoF ZA_).sum:=by
 refine zo_ Try.func13 xe_ (zc_ (s:=RoF KI_) W7_ (zc_ (s:=RwF ZR_) KJ_ (ze_ _))) fun args objs p v e=>?_
 unfold ZA_ at e
 split at e
 ·rename_i l
  cases e
  refine ⟨rfl,fun hw ho hp=>?_⟩
  change List OV at l
  clear hw ho
  repeat'(intro t ht;first|(cases t<;>first|(cases ht;done)|(try simp only[zh_]at ht;try(exfalso;first|contradiction|omega)))|((first|refine za_ ht ?_|refine ht ?_ ?_|refine ht.1 ?_ ?_|refine ht ?_)<;>clear ht))
  all_goals first
   | exact True.intro
   | (intro r h1 h2;clear h1;refine h2 ⟨[0,2,3,11,12,13],Nat × List (Int × Int),(fun s=>s.1<=l.length/\HasJ s.2 (l.take s.1)),fun s=>[.imm Y1 l,.own 0,.mapv 1,.imm Y1 l,.int .i64 l.length,.int .i64 s.1],fun s=>[.row false (.int .i64) [],.map true (.int .i64) (.int .i64) s.2],fun s=>l.length - s.1,⟨(0,[]),⟨Nat.zero_le _,hv_⟩,rfl,rfl⟩,?_⟩;clear h2)
  rintro ⟨i,m⟩ ⟨hi,hJ⟩
  dsimp only at hi hJ
  have hr:=hJ.r
  have htl:(l.take i).length=i:=k4_ hi
  rw [htl] at hr
  repeat'(intro t ht;first|(cases t<;>first|(cases ht;done)|(try simp only[zh_]at ht;try(exfalso;first|contradiction|omega)))|((first|refine za_ ht ?_|refine ht ?_ ?_|refine ht.1 ?_ ?_|refine ht ?_)<;>clear ht))
  all_goals (try simp only [Int.toNat_natCast] at ht ⊢)
  all_goals first
   | exact True.intro
   | omega
   | ((try dsimp only);simp only [zi_];omega)
   | (have h9:=hr (l.getD i (Ty.dflt Y1)).2.1
      show IntKind.i64.min<=(zE_ m (l.getD i (Ty.dflt Y1)).2.1).getD 0+1/\(zE_ m (l.getD i (Ty.dflt Y1)).2.1).getD 0+1<=IntKind.i64.max
      simp only [zi_];omega)
   | (refine ⟨(i+1,m),⟨by (try dsimp only);omega,?_⟩,by (try dsimp only);omega,rfl,by first | rfl | exact True.intro⟩
      dsimp only
      rw [tkS (d:=(Ty.dflt Y1)) (by omega)];exact gG_ hJ ht)
   | (refine ⟨(i+1,Wf_ m (l.getD i (Ty.dflt Y1)).2.1 ((zE_ m (l.getD i (Ty.dflt Y1)).2.1).getD 0+1)),⟨by (try dsimp only);omega,?_⟩,by (try dsimp only);omega,rfl,by first | rfl | exact True.intro⟩
      dsimp only
      rw [tkS (d:=(Ty.dflt Y1)) (by omega)];exact hw_ hJ ht)
   | (rw [List.take_of_length_le (show l.length<=i by omega)] at hJ
      (intro r h1 h2;clear h1;refine h2 ⟨[2,3,26,27,28],Nat × List (Int × Int) × List Int,(fun s=>s.1<=l.length/\MisJ l (ndL (l.take s.1)) s.2.1 s.2.2),fun s=>[.own 0,.mapv 1,.imm Y1 l,.int .i64 l.length,.int .i64 s.1],fun s=>[.row false (.int .i64) s.2.2,.map true (.int .i64) (.int .i64) s.2.1],fun s=>l.length - s.1,⟨(0,m,[]),⟨Nat.zero_le _,uv_ hJ⟩,rfl,rfl⟩,?_⟩;clear h2))
  clear hJ hr htl hi
  rintro ⟨i,m,out⟩ ⟨hi,hJ⟩
  dsimp only at hi hJ
  have hr:=hJ.r
  have hn:=hJ.n
  have hnl:=HY_ (l.take i)
  have htl:(l.take i).length=i:=k4_ hi
  rw [htl] at hnl
  have hst:=fun h=>v9_ (l:=l) (i:=i) h (Ty.dflt Y1)
  have hn3:=wt_ (l.getD i (Ty.dflt Y1)).2.1
  repeat'(intro t ht;first|(cases t<;>first|(cases ht;done)|(try simp only[zh_]at ht;try(exfalso;first|contradiction|omega)))|((first|refine za_ ht ?_|refine ht ?_ ?_|refine ht.1 ?_ ?_|refine ht ?_)<;>clear ht))
  all_goals (try simp only [Int.toNat_natCast] at ht ⊢)
  all_goals first
   | exact True.intro
   | omega
   | ((try dsimp only);simp only [zi_];omega)
   | (rw [List.take_of_length_le (show l.length<=i by omega)] at hJ
      have e9:=G5_ hJ
      rw [e9];exact ⟨rfl,by first | rfl | exact True.intro⟩)
   | (refine ⟨(i+1,m,out),⟨by (try dsimp only);omega,?_⟩,by (try dsimp only);omega,rfl,by first | rfl | exact True.intro⟩
      dsimp only
      rw [hst (by omega),bz_ ht,List.append_nil];exact hJ)
   | (intro r h1 h2;clear h1;refine h2 ⟨[2,3,26,27,28,37,38,39],Nat × List (Int × Int) × List Int,(fun s=>s.1<=(zC_ (l.getD i (Ty.dflt Y1)).2.1).length/\MisJ l (ndL (l.take i)++(zC_ (l.getD i (Ty.dflt Y1)).2.1).take s.1) s.2.1 s.2.2),fun s=>[.own 0,.mapv 1,.imm Y1 l,.int .i64 l.length,.int .i64 i,.imm (.int .i64) (zC_ (l.getD i (Ty.dflt Y1)).2.1),.int .i64 (zC_ (l.getD i (Ty.dflt Y1)).2.1).length,.int .i64 s.1],fun s=>[.row false (.int .i64) s.2.2,.map true (.int .i64) (.int .i64) s.2.1],fun s=>(zC_ (l.getD i (Ty.dflt Y1)).2.1).length - s.1,⟨(0,m,out),⟨Nat.zero_le _,by (try dsimp only);rw [List.take_zero,List.append_nil];exact hJ⟩,rfl,rfl⟩,?_⟩;clear h2)
  have hc:(l.getD i (Ty.dflt Y1)).1=32768:=by first | assumption | (apply Classical.byContradiction;assumption)
  have hst':=hst (by omega)
  rw [by_ hc] at hst'
  clear hst hJ hr hn
  rintro ⟨j,m,out⟩ ⟨hj,hJ⟩
  dsimp only at hj hJ
  have hr:=hJ.r
  have hn:=hJ.n
  generalize zC_ (l.getD i (Ty.dflt Y1)).2.1=q at*
  have hql:(q.take j).length=j:=k4_ hj
  rw [List.length_append,hql] at hn
  repeat'(intro t ht;first|(cases t<;>first|(cases ht;done)|(try simp only[zh_]at ht;try(exfalso;first|contradiction|omega)))|((first|refine za_ ht ?_|refine ht ?_ ?_|refine ht.1 ?_ ?_|refine ht ?_)<;>clear ht))
  all_goals (try simp only [Int.toNat_natCast] at ht ⊢)
  all_goals first
   | exact True.intro
   | omega
   | ((try dsimp only);simp only [zi_];omega)
   | (simp only [List.length_cons,List.length_nil];constructor<;>omega)
   | (have h9:=hr (q.getD j 0)
      show IntKind.i64.min<=(zE_ m (q.getD j 0)).getD 0+1/\(zE_ m (q.getD j 0)).getD 0+1<=IntKind.i64.max
      simp only [zi_];omega)
   | (have e9:=gy_ hJ ht
      rw [List.append_assoc,<- tkS (by omega)] at e9
      exact ⟨(j+1,m,out),⟨by (try dsimp only);omega,e9⟩,by (try dsimp only);omega,rfl,by first | rfl | exact True.intro⟩)
   | (have e9:=G6_ hJ ht
      rw [List.append_assoc,<- tkS (by omega)] at e9
      exact ⟨(j+1,_,_),⟨by (try dsimp only);omega,e9⟩,by (try dsimp only);omega,rfl,by first | rfl | exact True.intro⟩)
   | (rw [List.take_of_length_le (show q.length<=j by omega),<- hst'] at hJ
      exact ⟨(i+1,m,out),⟨by (try dsimp only);omega,hJ⟩,by (try dsimp only);omega,rfl,by first | rfl | exact True.intro⟩)
 ·cases e
def rfM (l:List OV) (n:Nat):List Int:=((List.range n).map fun k:Nat=>(k:Int)).filter fun z=>XY_ (ndL l) z && !jU_ l z
theorem Gt_ (l:List OV) (n:Nat):rfM l (n+1)=rfM l n++(if (XY_ (ndL l) n && !jU_ l n)=true then [(n:Int)] else []):=by
 unfold rfM
 rw [List.range_succ,List.map_append,List.filter_append]
 congr 1
 show List.filter _ [(n:Int)]=_
 rw [List.filter_cons];rfl
theorem Up_:∀ n:Nat,Sst ((List.range n).map fun k:Nat=>(k:Int))
 | 0=>List.Pairwise.nil
 | n+1=>by
   rw [List.range_succ,List.map_append]
   refine List.pairwise_append.2 ⟨Up_ n,List.pairwise_singleton ..,fun a ha b hb=>?_⟩
   obtain ⟨k,hk,rfl⟩:=List.mem_map.1 ha
   rw [List.mem_singleton.1 hb]
   have:=List.mem_range.1 hk
   show (k:Int) < (n:Int)
   omega
theorem HD_ (l:List OV) (n:Nat):(rfM l n).length<=n:=by
 unfold rfM
 refine Nat.le_trans (List.length_filter_le _ _) ?_
 rw [List.length_map,List.length_range];exact Nat.le_refl _
theorem HE_ (l:List OV):rfM l 40=poF (xj_ l):=by
 refine bW_ (List.Pairwise.filter _ (Up_ 40)) (YQ_ _) fun z=>?_
 unfold rfM xj_
 rw [Ur_,List.mem_filter,List.mem_filter,Bool.and_eq_true,Bool.not_eq_true',h6_]
 constructor
 ·rintro ⟨_,a,b⟩;exact ⟨a,b⟩
 ·rintro ⟨a,b⟩
  have:=HX_ a
  exact ⟨List.mem_map.2 ⟨z.toNat,List.mem_range.2 (by omega),by omega⟩,a,b⟩
theorem gH_ {l:List OV} {i:Nat} {z:Int} (h:i < l.length) (d:OV):jU_ (l.take (i+1)) z=(jU_ (l.take i) z || (decide ((l.getD i d).1=32768) && decide ((l.getD i d).2.1=z))):=by rw [tkS (d:=d) h,Wn_]
theorem h7_ {A q:List Int} {k:Nat} {x:Int} (h:k < q.length):XY_ (A++q.take (k+1)) x=(XY_ (A++q.take k) x || decide (q.getD k 0=x)):=by
 rw [tkS (d:=0) h,<- List.append_assoc]
 unfold XY_
 rw [List.any_append,List.any_cons,List.any_nil,Bool.or_false]
def Xr_:IR:=
(sq (kr [0] [oD 2 (.nilrow (.int .i64))])
(sq (.reg [oD 3 (.nilrow (.int .i64))])
(sq (sq (.reg [oD 4 (.mov (cI 0))])
(.block 0
(.loop
(sq (sq (kr [0,3,4] [oM 10 4,
oB 11 .lss 10 (cI 40)])
(.cond 11
.skip
(.exit 0)))
(sq (.block 1
(sq (.reg [oD 5 (.mov cF),
oD 6 (.mov cF)])
(sq (sq (.reg [oD 7 (.mov (cI 0))])
(.block 2
(.loop
(sq (sq (kr [0,3,4,5,6,7] [oM 14 7,
oM 15 0,
oE 16 15,
oB 17 .lss 14 16])
(.cond 17
.skip
(.exit 2)))
(sq (.block 3
(sq (sq (kr [0,3,4,5,6,7] [oM 20 0,
oM 21 7,
oI 22 6 20 21,
oA 23 0 22,
oL 24 23,
oB 25 .neq 24 (cI 32768)])
(.cond 25
(.exit 3)
.skip))
(sq (kr [0,3,4,5,6,7] [oM 26 5,
oM 27 26,
oF 27 28 (.mov 0),
oF 27 29 (.mov 7),
oF 27 30 (.indexSl 6 28 29),
oF 27 31 (.fieldAddr 1 30),
oF 27 32 (.load none 31),
oF 27 33 (.mov 4),
oF 27 34 (.bin .eql 32 33),
oP 35 27 cT 34,
oM 5 35])
(sq (kr [0,3,4,5,6,7] [oM 36 0,
oM 37 7,
oI 38 6 36 37,
oA 39 1 38,
oL 40 39,
oC 41 31 [40],
oM 8 41])
(sq (kr [0,3,4,5,6,7,8] [oD 9 (.mov (cI 0))])
(.block 4
(.loop
(sq (sq (kr [0,3,4,5,6,7,8,9] [oM 42 9,
oM 43 8,
oE 44 43,
oB 45 .lss 42 44])
(.cond 45
.skip
(.exit 4)))
(sq (.block 5
(kr [0,3,4,5,6,7,8,9] [oM 48 6,
oM 49 48,
oF 49 50 (.mov 8),
oF 49 51 (.mov 9),
oF 49 52 (.indexSl 1 50 51),
oF 49 53 (.load none 52),
oF 49 54 (.mov 4),
oF 49 55 (.bin .eql 53 54),
oP 56 49 cT 55,
oM 6 56]))
(kr [0,3,4,5,6,7,8,9] [oM 46 9,
oB 47 .add 46 (cI 1),
oM 9 47]))))))))))
(kr [0,3,4,5,6,7] [oM 18 7,
oB 19 .add 18 (cI 1),
oM 7 19]))))))
(sq (kr [0,3,4,5,6] [oM 57 6,
oM 58 57,
oT 58 59 (.mov 5),
oT 58 60 (.un .not 59),
oP 61 58 60 cF])
(.cond 61
(kr [0,3,4] [oM 62 3,
oM 63 4,
oD 64 (.sliceAll (.int .i64) 1 [(0,1,63)]),
oD 65 (.append (.int .i64) 8 62 64),
oM 3 65])
.skip)))))
(kr [0,3,4] [oM 12 4,
oB 13 .add 12 (cI 1),
oM 4 13]))))))
(sq (kr [3] [oM 66 3,
oM 2 66])
.ret))))
def xW_:List RD:=[.tmp 2 true (some (.int .i64))]
theorem Xa_:zl_ Try.prog Try.f14 Xr_ xW_=true:=by kernel_rfl
def KG_:List AV->List Obj->Option (Prop × AV)
 | [.imm (.cons (.int .i64) (.cons (.int .i64) (.cons .bool (.cons (.int .u64) (.cons (.sl (.int .u8)) (.cons (.sl (.int .u8)) .nil)))))) l],[]=>some ((l.length<=10000,.imm (.int .i64) (poF (xj_ (l:List OV)))))
 | _,_=>none
theorem W5_:zf_ Try.prog 14 (RoF KG_).sum:=by
 refine zo_ Try.func14 Xa_ (zc_ (s:=RoF j4_) X8_ (ze_ _)) fun args objs p v e=>?_
 unfold KG_ at e
 split at e
 ·rename_i l
  cases e
  refine ⟨rfl,fun hw ho hp=>?_⟩
  change List OV at l
  clear hw ho
  repeat'(intro t ht;first|(cases t<;>first|(cases ht;done)|(try simp only[zh_]at ht;try(exfalso;first|contradiction|omega)))|((first|refine za_ ht ?_|refine ht ?_ ?_|refine ht.1 ?_ ?_|refine ht ?_)<;>clear ht))
  all_goals first
   | exact True.intro
   | (intro r h1 h2;clear h1;refine h2 ⟨[0,3,4],Nat,(fun n=>n<=40),fun n=>[.imm Y1 l,.own 0,.int .i64 n],fun n=>[.row false (.int .i64) (rfM l n)],fun n=>40 - n,⟨0,Nat.zero_le _,rfl,rfl⟩,?_⟩;clear h2)
  rintro n hn
  have hfl:=HD_ l n
  have hfs:=Gt_ l n
  have hfe:=HE_ l
  repeat'(intro t ht;first|(cases t<;>first|(cases ht;done)|(try simp only[zh_]at ht;try(exfalso;first|contradiction|omega)))|((first|refine za_ ht ?_|refine ht ?_ ?_|refine ht.1 ?_ ?_|refine ht ?_)<;>clear ht))
  all_goals (try simp only [Int.toNat_natCast] at ht ⊢)
  all_goals first
   | exact True.intro
   | omega
   | ((try dsimp only);simp only [zi_];omega)
   | (have e:n=40:=by omega
      rw [e,hfe];exact ⟨rfl,by first | rfl | exact True.intro⟩)
   | (intro r h1 h2;clear h1;refine h2 ⟨[0,3,4,5,6,7],Nat,(fun i=>i<=l.length),fun i=>[.imm Y1 l,.own 0,.int .i64 n,.bool (jU_ (l.take i) n),.bool (XY_ (ndL (l.take i)) n),.int .i64 i],fun _=>[.row false (.int .i64) (rfM l n)],fun i=>l.length - i,⟨0,Nat.zero_le _,rfl,rfl⟩,?_⟩;clear h2)
  rintro i hi
  have hb:=fun h=>gH_ (l:=l) (i:=i) (z:=(n:Int)) h (Ty.dflt Y1)
  have hst:=fun h=>v9_ (l:=l) (i:=i) h (Ty.dflt Y1)
  have hte:=fun h:l.length<=i=>List.take_of_length_le h
  have hq3:=wt_ (l.getD i (Ty.dflt Y1)).2.1
  rw [(Bd_ _).2.2.2.2.2.2] at hq3
  repeat'(intro t ht;first|(cases t<;>first|(cases ht;done)|(try simp only[zh_]at ht;try(exfalso;first|contradiction|omega)))|((first|refine za_ ht ?_|refine ht ?_ ?_|refine ht.1 ?_ ?_|refine ht ?_)<;>clear ht))
  all_goals (try simp only [Int.toNat_natCast] at ht ⊢)
  all_goals (try rename jU_ _ _=_=>hh)
  all_goals (try rename XY_ _ _=_=>ha)
  all_goals first
   | exact True.intro
   | omega
   | ((try dsimp only);simp only [zi_];omega)
   | (simp only [List.length_cons,List.length_nil];constructor<;>omega)
   | (refine ⟨i+1,by (try dsimp only);omega,by (try dsimp only);omega,?_,by first | rfl | exact True.intro⟩
      (try dsimp only)
      rw [hb (by omega),hst (by omega),bz_ ht,decide_eq_false ht,Bool.false_and,Bool.or_false,List.append_nil];try rfl)
   | (have hc:(l.getD i (Ty.dflt Y1)).1=32768:=by first | assumption | (apply Classical.byContradiction;assumption)
      have hb':=hb (by omega)
      rw [decide_eq_true hc,Bool.true_and] at hb'
      (intro r h1 h2;clear h1;refine h2 ⟨[0,3,4,5,6,7,8,9],Nat,(fun k=>k<=(ZP_ (l.getD i (Ty.dflt Y1)).2.1).length),fun k=>[.imm Y1 l,.own 0,.int .i64 n,.bool (jU_ (l.take (i+1)) n),.bool (XY_ (ndL (l.take i)++(ZP_ (l.getD i (Ty.dflt Y1)).2.1).take k) n),.int .i64 i,.imm (.int .i64) (ZP_ (l.getD i (Ty.dflt Y1)).2.1),.int .i64 k],fun _=>[.row false (.int .i64) (rfM l n)],fun k=>(ZP_ (l.getD i (Ty.dflt Y1)).2.1).length - k,⟨0,Nat.zero_le _,(by (try dsimp only);rw [List.take_zero,List.append_nil,hb',hh];try rfl),rfl⟩,?_⟩;clear h2))
   | (rw [hte (by omega)] at hh ha
      rw [hh,ha] at hfs
      refine ⟨n+1,by (try dsimp only);omega,by (try dsimp only);omega,rfl,?_⟩
      (try dsimp only)
      rw [hfs];first | rfl | (simp only [Bool.false_and,Bool.true_and,Bool.not_true,Bool.not_false];first | rfl | (rw [if_pos rfl];rfl) | (rw [if_neg (by decide),List.append_nil])))
   | (rw [hte (by omega)] at ha
      rw [ha] at hfs
      refine ⟨n+1,by (try dsimp only);omega,by (try dsimp only);omega,rfl,?_⟩
      (try dsimp only)
      rw [hfs,Bool.false_and,if_neg (by decide),List.append_nil])
  all_goals rintro k hk
  all_goals have hc:(l.getD i (Ty.dflt Y1)).1=32768:=by first | assumption | (apply Classical.byContradiction;assumption)
  all_goals have hst':=hst (by omega)
  all_goals rw [by_ hc,(Bd_ _).2.2.2.2.2.2] at hst'
  all_goals clear hb hst hte hfs hfe
  all_goals generalize ZP_ (l.getD i (Ty.dflt Y1)).2.1=q at*
  all_goals have hq:=fun h=>h7_ (A:=ndL (l.take i)) (q:=q) (k:=k) (x:=(n:Int)) h
  all_goals have hte:=fun h:q.length<=k=>List.take_of_length_le h
  all_goals repeat'(intro t ht;first|(cases t<;>first|(cases ht;done)|(try simp only[zh_]at ht;try(exfalso;first|contradiction|omega)))|((first|refine za_ ht ?_|refine ht ?_ ?_|refine ht.1 ?_ ?_|refine ht ?_)<;>clear ht))
  all_goals (try simp only [Int.toNat_natCast] at ht ⊢)
  all_goals (try rename XY_ (_++_) _=_=>ha)
  all_goals first
   | exact True.intro
   | omega
   | ((try dsimp only);simp only [zi_];omega)
   | (refine ⟨k+1,by (try dsimp only);omega,by (try dsimp only);omega,?_,by first | rfl | exact True.intro⟩
      (try dsimp only)
      rw [hq (by omega),ha];try rfl)
   | (have e9:=hte (by omega)
      refine ⟨i+1,by (try dsimp only);omega,by (try dsimp only);omega,?_,by first | rfl | exact True.intro⟩
      (try dsimp only)
      rw [hst',e9];try rfl)
 ·cases e
def Vl_:IR:=
(sq (kr [0,1] [oD 4 (.mov cF)])
(sq (sq (kr [0,1] [oM 6 0,
oE 7 6,
oM 8 1,
oE 9 8,
oB 10 .neq 7 9])
(.cond 10
(sq (.reg [oD 4 (.mov cF)])
.ret)
.skip))
(sq (sq (kr [0,1] [oD 5 (.mov (cI 0))])
(.block 0
(.loop
(sq (sq (kr [0,1,5] [oM 11 5,
oM 12 0,
oE 13 12,
oB 14 .lss 11 13])
(.cond 14
.skip
(.exit 0)))
(sq (.block 1
(sq (kd [0,1,5] [(oM 17 0,[]),
(oM 18 5,[0]),
(oI 19 1 17 18,[]),
(oL 20 19,[]),
(oM 21 1,[0,0,0,0]),
(oM 22 5,[0,0,0,0,0]),
(oI 23 1 21 22,[2,0,0,0]),
(oL 24 23,[3,0,0,0]),
(oB 25 .neq 20 24,[])])
(.cond 25
(sq (kr [] [oD 4 (.mov cF)])
.ret)
.skip)))
(kr [0,1,5] [oM 15 5,
oB 16 .add 15 (cI 1),
oM 5 16]))))))
(sq (kr [] [oD 4 (.mov cT)])
.ret))))
def vK_:List RD:=[.tmp 4 true none]
theorem vX_:zl_ Try.prog Try.f12 Vl_ vK_=true:=by kernel_rfl
def jx_:List AV->List Obj->Option (Prop × AV)
 | [.imm (.int .i64) a,.imm (.int .i64) b],[]=>some ((True,.bool (decide ((a:List Int)=b))))
 | _,_=>none
theorem wb_:zf_ Try.prog 12 (RoF jx_).sum:=by
 refine zo_ Try.func12 vX_ (ze_ _) fun args objs p v e=>?_
 unfold jx_ at e
 split at e
 ·rename_i a b
  cases e
  refine ⟨rfl,fun hw ho hp=>?_⟩
  change List Int at a
  change List Int at b
  change List Int at a
  change List Int at b
  have hl:a.length<=maxLen:=(hw (.imm (.int .i64) a) (by simp)).2
  unfold maxLen at hl
  clear hw ho
  repeat'(intro t ht;first|(cases t<;>first|(cases ht;done)|(try simp only[zh_]at ht))|((first|refine za_ ht ?_|refine ht ?_ ?_|refine ht.1 ?_ ?_|refine ht ?_)<;>clear ht))
  all_goals first
   | (have hne:a ≠ b:=fun h=>(by assumption:¬ (a.length:Int)=b.length) (by rw [h])
      refine ⟨?_,rfl⟩;rw [decide_eq_false hne];done)
   | (intro r h1 h2;clear h1;refine h2 ⟨[0,1,5],Nat,(fun i=>i<=a.length/\a.take i=b.take i),fun i=>[.imm (.int .i64) a,.imm (.int .i64) b,.int .i64 i],fun _=>[],fun i=>a.length - i,⟨0,⟨Nat.zero_le _,rfl⟩,rfl,rfl⟩,?_⟩;clear h2)
  rintro i ⟨hi,he⟩
  have hl2:a.length=b.length:=by omega
  repeat'(intro t ht;first|(cases t<;>first|(cases ht;done)|(try simp only[zh_]at ht;try(exfalso;first|contradiction|omega)))|((first|refine za_ ht ?_|refine ht ?_ ?_|refine ht.1 ?_ ?_|refine ht ?_)<;>clear ht))
  all_goals first
   | exact True.intro
   | ((try simp only [z0_,z1_,zi_] at*);omega)
   | (have e:=Gb_ he (by omega) hl2
      refine ⟨?_,rfl⟩;rw [decide_eq_true e];done)
   | (have hne:a ≠ b:=bT_ (d:=0) (i:=i) (by assumption)
      refine ⟨?_,rfl⟩;rw [decide_eq_false hne];done)
   | exact ⟨i+1,⟨by omega,V2_ he (by omega) hl2 (d:=0) (by assumption)⟩,by (try simp only [z0_,z1_,zi_] at*);omega,rfl,rfl⟩
   | skip
 ·cases e
def L91:List OV:=[(32768,13,false,0,[0,80],[],())]
def L93:List OV:=[(32768,5,false,0,[8,0],[],()),(32768,10,false,0,[6],[],()),(32768,13,false,0,[0,80],[],())]
def L9p:List OV:=[(32768,13,false,0,[0,80],[],()),(32768,5,false,0,[8,0],[],()),(32768,10,false,0,[6],[],())]
theorem s91:ckS [] L91=(0,1034):=by decide+kernel
theorem s93:ckS [] L93=(0,0):=by decide+kernel
theorem s9m:poF (xj_ L91)=[5,10]:=by decide+kernel
theorem s9t:Qy_ L93 32768 13=true:=by decide+kernel
theorem s9s:isG ltO L9p=L93:=by decide+kernel
theorem s9l:allLen L9p:=⟨fun o ho=>by
 rcases List.mem_cons.1 ho with rfl | ho
 ·exact ⟨by decide,by decide⟩
 ·rcases List.mem_cons.1 ho with rfl | ho
  ·exact ⟨by decide,by decide⟩
  ·rcases List.mem_singleton.1 ho with rfl
   exact ⟨by decide,by decide⟩⟩
def Vp_:IR:=
(sq (kr [] [oD 0 (.mov cF)])
(sq (.reg [oD 7 (.sliceAll (.int .u8) 2 [(0,1,(.c (.int .u8 0))),(1,1,(.c (.int .u8 80)))]),
oD 8 (.build [.int .i64 0,.int .i64 0,.kb false,.int .u64 0,.imm (.int .u8) [],.imm (.int .u8) []] [(0,1,(cI 32768)),(1,1,(cI 13)),(4,1,7)]),
oD 1 (.box [.int .i64 0,.int .i64 0,.kb false,.int .u64 0,.imm (.int .u8) [],.imm (.int .u8) []]),
oS 6 1 8])
(sq (kr [1] [oK 10 6 1,
oD 11 (.sliceAll Y1 1 [(0,6,10)]),
oC 12 8 [11],
oM 9 12,
oX 13 9 0,
oX 14 9 1,
oM 2 13,
oM 3 14])
(sq (kr [1,2,3] [oD 15 (.sliceAll (.int .u8) 2 [(0,1,(.c (.int .u8 8))),(1,1,(.c (.int .u8 0)))]),
oD 16 (.build [.int .i64 0,.int .i64 0,.kb false,.int .u64 0,.imm (.int .u8) [],.imm (.int .u8) []] [(0,1,(cI 32768)),(1,1,(cI 5)),(4,1,15)]),
oD 17 (.sliceAll (.int .u8) 1 [(0,1,(.c (.int .u8 6)))]),
oD 18 (.build [.int .i64 0,.int .i64 0,.kb false,.int .u64 0,.imm (.int .u8) [],.imm (.int .u8) []] [(0,1,(cI 32768)),(1,1,(cI 10)),(4,1,17)]),
oK 19 6 1,
oD 20 (.sliceAll Y1 3 [(0,6,16),(6,6,18),(12,6,19)]),
oM 4 20])
(sq (kr [1,2,3,4] [oM 22 4,
oC 23 8 [22],
oM 21 23,
oX 24 21 0,
oX 25 21 1,
oM 5 24,
oM 6 25])
(sq (kd [1,2,3,4,5,6] [(oM 26 2,[]),
(oB 27 .eql 26 (cI 0),[]),
(oM 28 27,[]),
(oT 28 29 (.mov 3),[]),
(oT 28 30 (.bin .eql 29 (cI 1034)),[]),
(oP 31 28 30 cF,[]),
(oM 32 31,[]),
(oT 32 33 (.mov 5),[]),
(oT 32 34 (.bin .eql 33 (cI 0)),[]),
(oP 35 32 34 cF,[]),
(oM 36 35,[]),
(oT 36 37 (.mov 6),[]),
(oT 36 38 (.bin .eql 37 (cI 0)),[]),
(oP 39 36 38 cF,[]),
(oM 40 39,[]),
(oT 40 41 (.load (some 6) 1),[]),
(oT 40 42 (.sliceAll Y1 1 [(0,6,41)]),[]),
(oT 40 43 (.call false (.f 13) [42]),[]),
(oT 40 44 (.sliceAll (.int .i64) 2 [(0,1,(cI 5)),(1,1,(cI 10))]),[0,0,0]),
(oT 40 45 (.call false (.f 12) [43,44]),[]),
(oP 46 40 45 cF,[]),
(oM 47 46,[]),
(oT 47 48 (.mov 4),[]),
(oT 47 49 (.load (some 6) 1),[0]),
(oT 47 50 (.call false (.f 10) [48,49]),[]),
(oP 51 47 50 cF,[]),
(oM 52 51,[]),
(oT 52 53 (.mov 4),[]),
(oT 52 54 (.indexSl 6 53 (cI 2)),[]),
(oT 52 55 (.load (some 6) 54),[]),
(oT 52 56 (.mov 4),[0,0,0]),
(oT 52 57 (.indexSl 6 56 (cI 0)),[1,0,0]),
(oT 52 58 (.load (some 6) 57),[2,0,0]),
(oT 52 59 (.mov 4),[0,0,0,0,0,0]),
(oT 52 60 (.indexSl 6 59 (cI 1)),[1,0,0,0,0,0]),
(oT 52 61 (.load (some 6) 60),[2,0,0,0,0,0]),
(oT 52 62 (.sliceAll Y1 3 [(0,6,55),(6,6,58),(12,6,61)]),[]),
(oT 52 63 (.call false (.f 16) [62]),[]),
(oT 52 64 (.mov 4),[0,0,0,0,0,0,0,0,0,0,0]),
(oT 52 65 (.call false (.f 15) [63,64]),[]),
(oP 66 52 65 cF,[]),
(oM 0 66,[])])
.ret))))))
def vO_:List RD:=[.tmp 0 true none]
theorem v1_:zl_ Try.prog Try.f7 Vp_ vO_=true:=by kernel_rfl
def Kd_:List AV->List Obj->Option (Prop × AV)
 | [],[]=>some ((True,.bool true))
 | _,_=>none
theorem K7_:zf_ Try.prog 7 (RoF Kd_).sum:=by
 refine zo_ Try.func7 v1_ (zc_ (s:=RoF qf_) q5_ (zc_ (s:=RoF ZA_) qb_ (zc_ (s:=RoF jx_) wb_ (zc_ (s:=RoF Kc_) K6_ (zc_ (s:=RoF kp_) KA_ (zc_ (s:=RoF Kb_) K5_ (ze_ _))))))) fun args objs p v e=>?_
 unfold Kd_ at e
 split at e
 ·cases e
  refine ⟨rfl,fun hw ho hp=>?_⟩
  clear hw ho
  have z1:=s91
  have z2:=s93
  have z3:=s9m
  have z4:=s9t
  have z5:=s9s
  have z6:=s9l
  unfold L91 at z1 z3
  unfold L93 at z2 z4 z5
  unfold L9p at z5 z6
  repeat'(intro t ht;first|(cases t<;>first|(cases ht;done)|(try simp only[zh_]at ht;try(exfalso;first|contradiction|omega)))|((first|refine za_ ht ?_|refine ht ?_ ?_|refine ht.1 ?_ ?_|refine ht ?_)<;>clear ht))
  all_goals first
   | exact True.intro
   | exact z6
   | (simp only [List.length_cons,List.length_nil];omega)
   | (constructor<;>(try simp only [List.length_cons,List.length_nil])<;>omega)
   | exact ⟨(by decide:(3:Nat)<=120),z6⟩
   | exact ⟨congrArg AV.bool (decide_eq_true z5),by first | rfl | exact True.intro⟩
 ·cases e
def Wi_:IR:=
(sq (kr [0,1] [oD 3 (.boxv 1),
oD 4 (.mov cF)])
(sq (sq (.reg [oM 9 0,
oC 10 6 [9],
oD 11 (.un .not 10)])
(.cond 11
(sq (.reg [oC 12 7 [],
oM 4 12])
.ret)
.skip))
(sq (kr [0,3] [oM 14 0,
oC 15 8 [14],
oM 13 15,
oX 16 13 0,
oX 17 13 1,
oM 5 16,
oM 6 17])
(sq (kr [0,3,5,6] [oM 19 0,
oC 20 9 [19],
oM 18 20,
oX 21 18 0,
oX 22 18 1,
oM 7 21,
oM 8 22])
(sq (kd [0,3,5,6,7,8] [(oM 23 5,[]),
(oM 24 7,[0]),
(oB 25 .eql 23 24,[]),
(oM 26 25,[]),
(oT 26 27 (.mov 6),[]),
(oT 26 28 (.mov 8),[0]),
(oT 26 29 (.bin .eql 27 28),[]),
(oP 30 26 29 cF,[]),
(oM 31 30,[]),
(oT 31 32 (.mov 0),[]),
(oT 31 33 (.load (some 6) 3),[0]),
(oT 31 34 (.call false (.f 10) [32,33]),[]),
(oT 31 35 (.mov 0),[0,0,0]),
(oT 31 36 (.load (some 6) 3),[0,0,0,0]),
(oT 31 37 (.call false (.f 11) [35,36]),[]),
(oT 31 38 (.eqb false 34 37),[]),
(oP 39 31 38 cF,[]),
(oM 40 39,[]),
(oT 40 41 (.mov 0),[]),
(oT 40 42 (.call false (.f 13) [41]),[]),
(oT 40 43 (.mov 0),[0,0]),
(oT 40 44 (.call false (.f 14) [43]),[]),
(oT 40 45 (.call false (.f 12) [42,44]),[]),
(oP 46 40 45 cF,[]),
(oM 47 46,[]),
(oT 47 48 (.mov 0),[]),
(oT 47 49 (.call false (.f 16) [48]),[]),
(oT 47 50 (.mov 0),[0,0]),
(oT 47 51 (.call false (.f 17) [50]),[]),
(oT 47 52 (.call false (.f 15) [49,51]),[]),
(oP 53 47 52 cF,[]),
(oM 54 53,[]),
(oT 54 55 (.call false (.f 7) []),[]),
(oP 56 54 55 cF,[]),
(oM 4 56,[])])
.ret)))))
def w2_:List RD:=[.tmp 4 true none]
theorem w9_:zl_ Try.prog Try.f3 Wi_ w2_=true:=by kernel_rfl
def kB_:List AV->List Obj->Option (Prop × AV)
 | [.imm (.cons (.int .i64) (.cons (.int .i64) (.cons .bool (.cons (.int .u64) (.cons (.sl (.int .u8)) (.cons (.sl (.int .u8)) .nil)))))) l,.agg [.int .i64 c,.int .i64 f,.bool h,.int .u64 x,.imm (.int .u8) v,.imm (.int .u8) m]],[]=>some ((True,.bool true))
 | _,_=>none
theorem wc_:zf_ Try.prog 3 (RoF kB_).sum:=by
 refine zo_ Try.func3 w9_ (zc_ (s:=RoF Jl_) WK_ (zc_ (s:=RoF Kd_) K7_ (zc_ (s:=RoF qf_) q5_ (zc_ (s:=RoF j3_) X7_ (zc_ (s:=RoF Kc_) K6_ (zc_ (s:=RoF Jk_) WJ_ (zc_ (s:=RoF ZA_) qb_ (zc_ (s:=RoF KG_) W5_ (zc_ (s:=RoF jx_) wb_ (zc_ (s:=RoF kp_) KA_ (zc_ (s:=RoF JZ_) YC_ (zc_ (s:=RoF Kb_) K5_ (ze_ _))))))))))))) fun args objs p v e=>?_
 unfold kB_ at e
 split at e
 ·rename_i l c f h x v m
  cases e
  refine ⟨rfl,fun hw ho hp=>?_⟩
  change List Int at v
  change List Int at m
  change List OV at l
  clear hw ho
  cases hf:VD_ l with
  | false=>
    repeat'(intro t ht;first|(cases t<;>first|(cases ht;done)|(try simp only[zh_]at ht;try(exfalso;first|contradiction|omega)))|((first|refine za_ ht ?_|refine ht ?_ ?_|refine ht.1 ?_ ?_|refine ht ?_)<;>clear ht))
    all_goals first
     | exact True.intro
     | exact ⟨rfl,rfl⟩
     | (exfalso;simp_all;done)
  | true=>
    obtain ⟨ha,hn⟩:=hD_ hf
    repeat'(intro t ht;first|(cases t<;>first|(cases ht;done)|(try simp only[zh_]at ht;try(exfalso;first|contradiction|omega)))|((first|refine za_ ht ?_|refine ht ?_ ?_|refine ht.1 ?_ ?_|refine ht ?_)<;>clear ht))
    all_goals first
     | exact True.intro
     | exact ⟨rfl,by first | rfl | exact True.intro⟩
     | exact (show l.length<=120/\allLen l from ⟨by omega,ha.1⟩)
     | exact (show l.length<=10000 by omega)
     | exact (show l.length<=100000 by omega)
     | (exfalso;simp_all;done)
 ·cases e
end Go.Eng
