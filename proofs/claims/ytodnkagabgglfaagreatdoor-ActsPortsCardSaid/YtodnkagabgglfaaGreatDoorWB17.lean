/- Parts of the proof: A6, A7, A8, A9, H1, H2. No condition. -/
import Derived.Test.YtodnkagabgglfaaGreatDoorProg
import Derived.Test.YtodnkagabgglfaaGreatDoorWB10
import Derived.KernelRfl
import Derived.Test.YtodnkagabgglfaaGreatDoorWB16
import Derived.Test.YtodnkagabgglfaaGreatDoorWB15
namespace Go.Eng
open Go.Proofs
set_option linter.unusedVariables false
set_option linter.unusedSimpArgs false
set_option maxRecDepth 100000
set_option maxHeartbeats 1000000
def gb_ (b:List Int):Int:=if z5_ b=0 then (if ¬ (zu_ b=32768/\W2_ (zN_ b)=true) then 526 else if ZV_ b=true then 528 else if qh_ b+8<=b.length then 527 else if ZJ_ (b.drop (qh_ b).toNat)=true then 0 else 528) else if z5_ b=1026 then 527 else if z5_ b=1031 then 526 else 528
def plE (t:Int) (y:List Int):Int:=if ¬ t=65535/\¬ (y.length:Int)=Zl_ (zt_ t) then 514 else if qZ_ (zt_ t) y=1 then 514 else if qZ_ (zt_ t) y=2 then 518 else uS_ t ((k6_ (zt_ t) y).getD 0 0)
def acE (b:List Int):Int:=if ¬ tlE b 8 8 514=0 then tlE b 8 8 514 else if tT b=25 then gb_ (bd b) else if VW_ (tT b)=true then plE (tT b) (bd b) else 513
def acI (b:List Int) (x:Int):Int:=if acE b=0 then x else 0
def acA (b:List Int) (k:Nat):Int:=acI b (if tT b=25 then 0 else (k6_ (zt_ (tT b)) (bd b)).getD k 0)
def acS (b:List Int) (x:Int):Int:=acI b (if tT b=25 then x else 0)
def acH (b:List Int):Bool:=decide (acE b=0) && decide (tT b=25) && ZV_ (bd b)
def acV (b l:List Int):List Int:=if acE b=0 then (if tT b=25 then l else []) else []
def acD (b:List Int):List Int:=if acE b=0 then (if tT b=25 then [] else (bd b).drop (Zl_ (zt_ (tT b))).toNat) else []
theorem yt_:∀ (w b o:List Int),(Z7_ w b o).2=0\/(Z7_ w b o).2=1\/(Z7_ w b o).2=2
 | [],b,o=>.inl rfl
 | n :: r,b,o=>by
   simp only [Z7_]
   split
   ·exact .inr (.inl rfl)
   ·split
    ·exact yt_ r _ _
    ·split
     ·exact yt_ r _ _
     ·exact .inr (.inr rfl)
theorem zdQ_ (w b:List Int):qZ_ w b=0\/qZ_ w b=1\/qZ_ w b=2:=by
 unfold qZ_ QT_;split
 ·exact yt_ w b []
 ·exact .inr (.inr rfl)
theorem zbO_ {t a b:Int} (h2:2<=zw_ (zt_ t)\/b=0) (h1:1<=zw_ (zt_ t)\/a=0):(KN_ t a b).getD 0 0=a/\(KN_ t a b).getD 1 0=b:=by
 have hc:=Vm_ t
 unfold KN_
 generalize zw_ (zt_ t)=n at*
 have:n=0\/n=1\/n=2:=by omega
 rcases this with rfl | rfl | rfl
 ·have ha:a=0:=by omega
  have hb:b=0:=by omega
  subst ha;subst hb;exact ⟨rfl,rfl⟩
 ·have hb:b=0:=by omega
  subst hb;exact ⟨rfl,rfl⟩
 ·exact ⟨rfl,rfl⟩
theorem zaj_ {c f:Int} {h:Bool} {x:Int} {v m:List Int} (hs:Kg_ c f h x v m 0 0 false 0 [] []=true):c=0/\f=0/\h=false/\x=0/\v=[]/\m=[]:=by
 unfold Kg_ at hs
 simp only [Bool.and_eq_true,decide_eq_true_eq,beq_iff_eq] at hs
 obtain ⟨⟨⟨⟨⟨h1,h2⟩,h3⟩,h4⟩,h5⟩,h6⟩:=hs
 exact ⟨h1,h2,h4,h3,h5,h6⟩
theorem zcp_ {t N:Int} {body rest:List Int} (ht:0<=t/\t<=65535) (hN:N=4+body.length) (h8:8<=N) (hm:(4+body.length) % 8=0) (hN2:N<=65535):
 tT (zf_ t 2++zf_ N 2++body++rest)=t/\tN (zf_ t 2++zf_ N 2++body++rest)=N/\tlE (zf_ t 2++zf_ N 2++body++rest) 8 8 514=0/\bd (zf_ t 2++zf_ N 2++body++rest)=body:=by
 have l2:(zf_ t 2).length=2:=by have:=zk_ (n:=t) (w:=2) (by decide);omega
 have l3:(zf_ N 2).length=2:=by have:=zk_ (n:=N) (w:=2) (by decide);omega
 have e1:tT (zf_ t 2++zf_ N 2++body++rest)=t:=by
  unfold tT;rw [List.append_assoc,List.append_assoc,List.take_left' l2];exact num2 ht
 have e2:tN (zf_ t 2++zf_ N 2++body++rest)=N:=by
  unfold tN;rw [List.append_assoc,List.append_assoc,List.drop_left' l2,List.take_left' l3];exact num2 (by omega)
 have hl:(zf_ t 2++zf_ N 2++body++rest).length=4+body.length+rest.length:=by simp only [List.length_append];omega
 refine ⟨e1,e2,?_,?_⟩
 ·unfold tlE
  rw [e2,hl,if_neg (by omega),if_neg (by rw [Int.tmod_eq_emod_of_nonneg (by omega)];omega),if_neg (by omega)]
 ·unfold bd
  rw [e2,List.take_left' (by simp only [List.length_append];omega)]
  exact List.drop_left' (by rw [List.length_append];omega)
theorem zfi_ {t a b c f:Int} {h:Bool} {x:Int} {v m d rest:List Int} (hr:zH_ (zv_ c f h x v m) t a b c f h x v m d=true) (ha:0<=a/\a<=18446744073709551615) (hb:0<=b/\b<=18446744073709551615) (hx:0<=x):
 (let y:=xC_ t a b (Zj_ c f h x v m) d++rest
  acE y=0/\tT y=t/\tN y=4+(ZB_ t a b (Zj_ c f h x v m) d).length/\acA y 0=a/\acA y 1=b/\acS y (zu_ (bd y))=c/\acS y (zN_ (bd y))=f/\acH y=h/\acS y (Kw_ (bd y))=x/\acV y (Qm_ (bd y))=v/\acV y (q9_ (bd y))=m/\acD y=d):=by
 obtain ⟨_,s1,s2,s3⟩:=jC_ hr
 have htt:0<=t/\t<=65535:=by
  by_cases h25:t=25
  ·omega
  ·exact YN_ (.inl (kh_ h25 hr).1)
 have hd:xC_ t a b (Zj_ c f h x v m) d++rest=zf_ t 2++zf_ (4+(ZB_ t a b (Zj_ c f h x v m) d).length) 2++ZB_ t a b (Zj_ c f h x v m) d++rest:=rfl
 obtain ⟨e1,e2,e3,e4⟩:=zcp_ (rest:=rest) htt rfl (by omega) s2 (by omega)
 dsimp only
 rw [hd]
 generalize zf_ t 2++zf_ (4+(ZB_ t a b (Zj_ c f h x v m) d).length) 2++ZB_ t a b (Zj_ c f h x v m) d++rest=y at*
 by_cases h25:t=25
 ·obtain ⟨rfl,rfl,rfl,rfl,rfl,k6,k7⟩:=jD_ h25 hr
  have hB:ZB_ t 0 0 (Zj_ 32768 f false x v m) []=ZH_ 32768 f false x v m++List.replicate ((8 - (4+(Zj_ 32768 f false x v m).length) % 8) % 8) 0:=by unfold ZB_;rw [if_pos h25,YV_ k7]
  obtain ⟨D1,D2,D3,D4,D5,D6,D7,D8⟩:=zdZ_ (b:=List.replicate ((8 - (4+(Zj_ 32768 f false x v m).length) % 8) % 8) (0:Int)) k7 hx
  rw [<- hB,<- e4] at D1 D2 D3 D4 D5 D6 D7 D8
  have hbl:(bd y).length=(ZH_ 32768 f false x v m).length+(8 - (4+(Zj_ 32768 f false x v m).length) % 8) % 8:=by rw [e4,hB,List.length_append,List.length_replicate]
  have hdz:ZJ_ ((bd y).drop (qh_ (bd y)).toNat)=true:=by
   rw [D8,e4,hB,Int.toNat_natCast,List.drop_left];exact uU_ _
  have hs:gb_ (bd y)=0:=by
   unfold gb_
   rw [if_pos D1,D2,D3,D4,if_neg (not_not_intro ⟨rfl,k6⟩),if_neg (by decide),if_neg (by rw [D8,hbl];omega),if_pos hdz]
  have hE:acE y=0:=by unfold acE;rw [if_neg (not_not_intro e3),e1,if_pos h25];exact hs
  unfold acA acS acH acV acD acI
  rw [hE,e1,D2,D3,D4,D5,D6,D7]
  simp only [if_pos h25,if_true]
  exact ⟨trivial,trivial,e2,trivial,trivial,trivial,trivial,by simp,trivial,trivial,trivial,trivial⟩
 ·obtain ⟨k1,k2,k3,k4,k5,k6,k7⟩:=kh_ h25 hr
  obtain ⟨rfl,rfl,rfl,rfl,rfl,rfl⟩:=zaj_ k2
  have hB:ZB_ t a b (Zj_ 0 0 false 0 [] []) d=qd_ (zt_ t) (KN_ t a b)++d:=if_neg h25
  have hn64:∀ z ∈ KN_ t a b,0<=z/\z<=18446744073709551615:=fun z hz=>by
   have:=List.mem_of_mem_take hz
   simp only [List.mem_cons,List.not_mem_nil,or_false] at this
   rcases this with rfl | rfl<;>assumption
  obtain ⟨g1,g2⟩:=zaq_ d hn64 k4
  rw [<- hB,<- e4] at g1
  have gL:k6_ (zt_ t) (bd y)=KN_ t a b:=congrArg Prod.fst g1
  have gK:qZ_ (zt_ t) (bd y)=0:=congrArg Prod.snd g1
  obtain ⟨n1,n2⟩:=zbO_ k5 k6
  have hz:=vh_ t
  have hbl:((bd y).length:Int)=Zl_ (zt_ t)+d.length:=by rw [e4,hB,List.length_append];omega
  have hs:plE t (bd y)=0:=by
   unfold plE
   rw [gK,gL,n1,if_neg (by
    rintro ⟨q1,q2⟩
    rcases k7 with ⟨q3,_⟩ | ⟨_,rfl⟩
    ·exact q1 q3
    ·simp only [List.length_nil] at hbl;omega),if_neg (by decide),if_neg (by decide)]
   exact k3
  have hE:acE y=0:=by unfold acE;rw [if_neg (not_not_intro e3),e1,if_neg h25,if_pos k1];exact hs
  have hdd:(bd y).drop (Zl_ (zt_ t)).toNat=d:=by rw [e4,hB];exact List.drop_left' (by omega)
  unfold acA acS acH acV acD acI
  rw [hE,e1,gL,n1,n2,hdd]
  simp only [if_neg h25,if_true]
  exact ⟨trivial,trivial,e2,trivial,trivial,trivial,trivial,by simp [h25],trivial,trivial,trivial,trivial⟩
def wi_:IR:=
(sq (kr [0] [oD 2 (.mov (.c (.imm (.int .u8) [])))])
(sq (kr [0] [oM 3 0,
oM 4 0,
oC 5 70 [4],
oC 6 25 [3,5],
oM 2 6])
.ret))
def JV_:List RD:=[.tmp 2 true (some (.int .u8))]
theorem J7_:zl_ Tryz.prog Tryz.f130 wi_ JV_=true:=by kernel_rfl
def qJ_:List AV->List Obj->Option (Prop × AV × List Obj)
 | [.ptr 0 0],[.box [.imm (.int .u8) b,.int .i64 p,.int .i64 sh,.int .i64 od,.int .i64 e,.bool true]]=>some ((0<=p/\p<=b.length/\b.length<=140737488355328/\sh ≠ 0,.imm (.int .u8) (if e=0 then b.drop p.toNat else []),[.box [.imm (.int .u8) b,.int .i64 ((if e=0 then (b.length:Int) else p)),.int .i64 sh,.int .i64 od,.int .i64 e,.bool true]]))
 | _,_=>none
theorem j5_:ze_ Tryz.prog 130 (RwF qJ_).sum:=by
 refine qn_ Tryz.func130 J7_ (zb_ (s:=RoF Zo_) Z6_ (zb_ (s:=RwF Zi_) ZW_ (zd_ _))) fun args objs p v o e=>?_
 unfold qJ_ at e
 split at e
 ·rename_i b p sh od e
  cases e
  refine ⟨rfl,fun hw ho hp=>?_⟩
  change List Int at b
  clear hw ho
  obtain ⟨h1,h2,h3,h4⟩:=hp
  have hE:QG_ ((b.length:Int) - p) b p sh e=e:=by unfold QG_;rw [if_neg (by omega),if_neg (by omega)]
  have hL:jy_ ((b.length:Int) - p) b p sh e=if e=0 then b.drop p.toNat else []:=by
   unfold jy_;rw [hE,show (p+((b.length:Int) - p)).toNat=b.length by omega,List.take_length]
  have hP:wu_ ((b.length:Int) - p) b p sh e=if e=0 then (b.length:Int) else p:=by
   unfold wu_;rw [hE,show p+((b.length:Int) - p)=b.length by omega]
  repeat'(intro t ht;first|(cases t<;>first|(cases ht;done)|(try simp only[zh_]at ht))|((first|refine za_ ht ?_|refine ht ?_ ?_|refine ht.1 ?_ ?_|refine ht ?_)<;>clear ht))
  all_goals first
   | exact True.intro
   | exact ⟨h1,h2⟩
   | exact ⟨h1,h2,h3,h4⟩
   | (rw [hE,hL,hP];exact ⟨rfl,rfl⟩)
 ·cases e
def uO_:IR:=
(sq (kr [0] [oD 2 (.box [.int .i64 0,.int .i64 0,.kb false,.int .u64 0,.imm (.int .u8) [],.imm (.int .u8) []]),
oD 3 (.mov (cI 0))])
(sq (kr [0,2] [oM 8 0,
oC 9 128 [8],
oM 7 9,
oX 10 7 0,
oX 11 7 1,
oX 12 7 2,
oD 4 (.box [.int .i64 0,.int .i64 0,.kb false,.int .u64 0,.imm (.int .u8) [],.imm (.int .u8) []]),
oS 6 4 10,
oM 5 11,
oM 6 12])
(sq (sq (kr [0,2,4,5,6] [oM 13 6])
(.block 0
(sq (.reg [oB 16 .eql 13 (cI 0),
oM 15 16])
(.cond 15
.skip
(sq (.reg [oB 18 .eql 13 (cI 1026),
oM 17 18])
(.cond 17
(sq (kr [2,4] [oK 19 6 4,
oS 6 2 19,
oD 3 (.mov (cI 527))])
.ret)
(sq (kr [2,4,13] [oB 21 .eql 13 (cI 1031),
oM 20 21])
(.cond 20
(sq (.reg [oK 22 6 4,
oS 6 2 22,
oD 3 (.mov (cI 526))])
.ret)
(sq (.reg [oK 14 6 4,
oS 6 2 14,
oD 3 (.mov (cI 528))])
.ret)))))))))
(sq (.block 1
(sq (kr [0,2,4,5] [oA 24 0 4,
oL 25 24,
oB 26 .neq 25 (cI 32768),
oM 27 26,
oF 27 28 (.fieldAddr 1 4),
oF 27 29 (.load none 28),
oF 27 30 (.call false (.f 113) [29]),
oF 27 31 (.un .not 30),
oP 32 27 cT 31,
oM 23 32])
(.cond 23
(sq (kr [2,4] [oK 33 6 4,
oS 6 2 33,
oD 3 (.mov (cI 526))])
.ret)
(sq (kr [0,2,4,5] [oA 35 2 4,
oL 36 35,
oM 34 36])
(.cond 34
(sq (.reg [oK 37 6 4,
oS 6 2 37,
oD 3 (.mov (cI 528))])
.ret)
(sq (kr [0,2,4,5] [oM 39 0,
oE 40 39,
oM 41 5,
oB 42 .add 41 (cI 8),
oB 43 .geq 40 42,
oM 38 43])
(.cond 38
(sq (kr [2,4] [oK 44 6 4,
oS 6 2 44,
oD 3 (.mov (cI 527))])
.ret)
(sq (kr [0,2,4,5] [oM 46 0,
oM 47 5,
oD 48 (.slice 1 46 (some 47) none none),
oC 49 129 [48,(.c (.str [0]))],
oE 50 49,
oB 51 .gtr 50 (cI 0),
oM 45 51])
(.cond 45
(sq (kr [2,4] [oK 52 6 4,
oS 6 2 52,
oD 3 (.mov (cI 528))])
.ret)
.skip)))))))))
(sq (kr [2,4] [oK 53 6 4,
oS 6 2 53,
oD 3 (.mov (cI 0))])
.ret)))))
def uf_:List RD:=[.cell 2 (some 6) true [],.tmp 3 true none]
theorem uw_:zl_ Tryz.prog Tryz.f100 uO_ uf_=true:=by kernel_rfl
def JI_:List AV->List Obj->Option (Prop × AV)
 | [.imm (.int .u8) b],[]=>some ((b.length<=140737488355328,.tup [.agg [.int .i64 (qi_ b (zu_ b)),.int .i64 (qi_ b (zN_ b)),.bool ((if z5_ b=0 then ZV_ b else false)),.int .u64 (qi_ b (Kw_ b)),.imm (.int .u8) (Qr_ b (Qm_ b)),.imm (.int .u8) (Qr_ b (q9_ b))],.int .i64 (gb_ b)]))
 | _,_=>none
theorem vf_:ze_ Tryz.prog 100 (RoF JI_).sum:=by
 refine zm_ Tryz.func100 uw_ (zb_ (s:=RoF JC_) vb_ (zb_ (s:=RoF q0_) KH_ (zb_ (s:=RoF Ky_) wz_ (zd_ _)))) fun args objs p v e=>?_
 unfold JI_ at e
 split at e
 ·rename_i b
  cases e
  refine ⟨rfl,fun hw ho hp=>?_⟩
  change List Int at b
  have hb:∀ x ∈ (b:List Int),(0:Int)<=x/\x<=255:=fun x hx=>(hw (.imm (.int .u8) b) (by simp)).1 x hx
  clear hw ho
  by_cases h0:z5_ b=0
  ·obtain ⟨E1,E2,E3,E4⟩:=zdY_ hb h0
   have htz:=uZ_ (b.drop (qh_ b).toNat)
   have hS:gb_ b=if ¬ (zu_ b=32768/\W2_ (zN_ b)=true) then 526 else if ZV_ b=true then 528 else if qh_ b+8<=b.length then 527 else if ZJ_ (b.drop (qh_ b).toNat)=true then 0 else 528:=if_pos h0
   repeat'(intro t ht;first|(cases t<;>first|(cases ht;done)|(try simp only[zh_]at ht;try(exfalso;first|contradiction|omega)))|((first|refine za_ ht ?_|refine ht ?_ ?_|refine ht.1 ?_ ?_|refine ht ?_)<;>clear ht))
   all_goals (try simp only [qi_,h0,if_true] at*)
   all_goals first
    | exact True.intro
    | exact hp
    | omega
    | ((try simp only [zn_,zo_,zi_] at*);omega)
    | (rw [List.length_drop];omega)
    | (exfalso;simp_all;done)
    | (refine ⟨congrArg (fun z=>AV.tup [_,AV.int .i64 z]) ?_,by first | rfl | exact True.intro⟩;rw [hS];clear hS;simp_all;done)
    | (refine ⟨?_,by first | rfl | exact True.intro⟩;rw [hS];clear hS;simp_all;done)
    | (have hz:ZJ_ (b.drop (qh_ b).toNat)=true:=by rw [<- htz];exact decide_eq_true (by omega)
       refine ⟨?_,by first | rfl | exact True.intro⟩;rw [hS];clear hS;simp_all;done)
    | (have hz:ZJ_ (b.drop (qh_ b).toNat)=false:=by rw [<- htz];exact decide_eq_false (by omega)
       refine ⟨?_,by first | rfl | exact True.intro⟩;rw [hS];clear hS;simp_all;done)
  ·have hS:gb_ b=if z5_ b=1026 then 527 else if z5_ b=1031 then 526 else 528:=if_neg h0
   repeat'(intro t ht;first|(cases t<;>first|(cases ht;done)|(try simp only[zh_]at ht;try(exfalso;first|contradiction|omega)))|((first|refine za_ ht ?_|refine ht ?_ ?_|refine ht.1 ?_ ?_|refine ht ?_)<;>clear ht))
   all_goals first
    | exact True.intro
    | exact hp
    | (exfalso;omega)
    | (refine ⟨congrArg (fun z=>AV.tup [_,AV.int .i64 z]) ?_,by first | rfl | exact True.intro⟩;rw [hS];clear hS;simp_all;done)
 ·cases e
theorem Ve_:∀ (w b o:List Int),(Z7_ w b o).2 ≠ 0->(Z7_ w b o).1=[]
 | [],b,o,h=>absurd rfl h
 | n :: r,b,o,h=>by
   simp only [Z7_] at h ⊢
   split at h
   ·rename_i c;rw [if_pos c]
   ·rename_i c
    rw [if_neg c]
    split at h
    ·rename_i c2;rw [if_pos c2];exact Ve_ r _ _ h
    ·rename_i c2
     rw [if_neg c2]
     split at h
     ·rename_i c3;rw [if_pos c3];exact Ve_ r _ _ h
     ·rename_i c3;rw [if_neg c3]
theorem zcs_ {w b:List Int} (h:qZ_ w b ≠ 0):k6_ w b=[]:=by
 unfold qZ_ QT_ at h;unfold k6_ QT_
 split at h
 ·rename_i c;rw [if_pos c];exact Ve_ _ _ _ h
 ·rename_i c;rw [if_neg c]
theorem zcr_ {w b:List Int} (hb:∀ x ∈ b,0<=x/\x<=255) (h:qZ_ w b=0):((k6_ w b).length:Int)=zw_ w:=by
 obtain ⟨p1,_,_⟩:=Un_ hb (show QT_ w b=(k6_ w b,0) from Prod.ext rfl h)
 unfold QN_ at p1
 obtain ⟨r,hr⟩:=Option.isSome_iff_exists.1 p1
 unfold Kq_ at hr
 split at hr
 ·rename_i h;exact h.2.symm
 ·cases hr
def plA (q:Int) (y:List Int) (k:Nat):Int:=if ¬ q=65535/\¬ (y.length:Int)=Zl_ (zt_ q) then 0 else (k6_ (zt_ q) y).getD k 0
def plD (q:Int) (y:List Int):List Int:=if plE q y=0 then y.drop (Zl_ (zt_ q)).toNat else []
def YG_:IR:=
(sq (kr [0,1,2] [oD 3 (.boxv 0),
oD 6 (.box [.int .i64 0,.int .u64 0,.int .u64 0,.int .i64 0,.int .i64 0,.kb false,.int .u64 0,.imm (.int .u8) [],.imm (.int .u8) [],.imm (.int .u8) []]),
oD 7 (.mov (cI 0))])
(sq (sq (kr [1,2,3,6] [oA 11 0 3,
oL 12 11,
oB 13 .neq 12 (cI 65535),
oM 14 13,
oT 14 15 (.mov 2),
oT 14 16 (.len 15),
oT 14 17 (.mov 1),
oT 14 18 (.call false (.f 58) [17]),
oT 14 19 (.bin .neq 16 18),
oP 20 14 19 cF])
(.cond 20
(sq (kr [3,6] [oK 21 10 3,
oS 10 6 21,
oD 7 (.mov (cI 514))])
.ret)
.skip))
(sq (kr [1,2,3,6] [oM 22 2,
oC 23 24 [22,(cI 514),(cI 518)],
oM 8 23])
(sq (sq (kr [1,3,6,8] [oM 24 8,
oM 25 1,
oC 26 125 [24,25],
oE 27 26,
oD 28 (.mov (cI 0))])
(.block 0
(.loop
(sq (kr [3,6,8,26,27,28] [oB 29 .lss 28 27])
(sq (.cond 29
.skip
(.exit 0))
(sq (.block 1
(sq (kr [3,6,8,26,27,28] [oM 30 28,
oI 31 1 26 28,
oL 32 31,
oM 9 30,
oM 10 32])
(sq (.reg [oM 33 9,
oB 34 .eql 33 (cI 0)])
(.cond 34
(kr [3,6,8,10,26,27,28] [oM 35 10,
oA 36 1 3,
oS 1 36 35])
(kr [3,6,8,10,26,27,28] [oM 37 10,
oA 38 2 3,
oS 1 38 37])))))
(kr [3,6,8,26,27,28] [oB 39 .add 28 (cI 1),
oM 28 39])))))))
(sq (kr [3,6,8] [oM 40 8,
oA 41 0 3,
oL 42 41,
oA 43 1 3,
oL 44 43,
oC 45 81 [42,44],
oC 46 43 [40,45]])
(sq (kr [3,6,8] [oM 47 8,
oC 48 130 [47],
oA 49 9 3,
oS 1 49 48])
(sq (.regD [(oK 50 10 3,[]),
(oM 51 8,[0]),
(oC 52 27 [51],[1]),
(oS 10 6 50,[]),
(oM 7 52,[])])
.ret)))))))
def Yw_:List RD:=[.cell 6 (some 10) true [],.tmp 7 true none]
theorem YB_:zl_ Tryz.prog Tryz.f101 YG_ Yw_=true:=by kernel_rfl
def KX_:List AV->List Obj->Option (Prop × AV)
 | [.agg [.int .i64 q,.int .u64 0,.int .u64 0,.int .i64 c,.int .i64 f,.bool h,.int .u64 x,.imm (.int .u8) v,.imm (.int .u8) m,.imm (.int .u8) ([])],.imm (.int .i64) w,.imm (.int .u8) y],[]=>some ((w=zt_ q/\y.length<=1000000,.tup [.agg [.int .i64 q,.int .u64 (plA q y 0),.int .u64 (plA q y 1),.int .i64 c,.int .i64 f,.bool h,.int .u64 x,.imm (.int .u8) v,.imm (.int .u8) m,.imm (.int .u8) (plD q y)],.int .i64 (plE q y)]))
 | _,_=>none
theorem XZ_:ze_ Tryz.prog 101 (RoF KX_).sum:=by
 refine zm_ Tryz.func101 YB_ (zb_ (s:=RoF kA_) Ko_ (zb_ (s:=RwF Q3_) KI_ (zb_ (s:=RwF Zb_) ZG_ (zb_ (s:=RoF Q6_) jA_ (zb_ (s:=RwF z0_) Zv_ (zb_ (s:=RwF qJ_) j5_ (zb_ (s:=RoF zQ_) Zf_ (zd_ _)))))))) fun args objs p v e=>?_
 unfold KX_ at e
 split at e
 ·rename_i q c f h x v m w y
  cases e
  refine ⟨rfl,fun hw ho hp=>?_⟩
  change List Int at v
  change List Int at m
  change List Int at w
  change List Int at y
  have hyb:∀ x ∈ (y:List Int),(0:Int)<=x/\x<=255:=fun x hx=>(hw (.imm (.int .u8) y) (by simp)).1 x hx
  clear hw ho
  obtain ⟨rfl,hy⟩:=hp
  have hz:=vh_ q
  have hcn:=Vm_ q
  have hd0:y.drop (0:Int).toNat=y:=rfl
  have hf0:∀ e,Zh_ 0 e=e:=fun e=>if_pos rfl
  by_cases hm:¬ q=65535/\¬ (y.length:Int)=Zl_ (zt_ q)
  ·have e1:plE q y=514:=if_pos hm
   have e2:∀ k,plA q y k=0:=fun k=>if_pos hm
   have e3:plD q y=[]:=by unfold plD;rw [e1];rfl
   rw [e1,e2,e2,e3]
   repeat'(intro t ht;first|(cases t<;>first|(cases ht;done)|(try simp only[zh_]at ht;try(exfalso;first|contradiction|omega)))|((first|refine za_ ht ?_|refine ht ?_ ?_|refine ht.1 ?_ ?_|refine ht ?_)<;>clear ht))
   all_goals first
    | exact True.intro
    | omega
    | exact ⟨rfl,rfl⟩
  ·have e2:∀ k,plA q y k=(k6_ (zt_ q) y).getD k 0:=fun k=>if_neg hm
   have e1:plE q y=if qZ_ (zt_ q) y=1 then 514 else if qZ_ (zt_ q) y=2 then 518 else uS_ q ((k6_ (zt_ q) y).getD 0 0):=if_neg hm
   have hcL:yw_ (zt_ q) y 0 0=k6_ (zt_ q) y:=by unfold yw_;rw [if_pos rfl,hd0]
   have hcE:YK_ (zt_ q) y 0 514 518 0=if qZ_ (zt_ q) y=1 then 514 else if qZ_ (zt_ q) y=2 then 518 else 0:=by unfold YK_;rw [if_pos rfl,hd0]
   have hcP:YJ_ (zt_ q) y 0 0=if qZ_ (zt_ q) y=1 then 0 else if qZ_ (zt_ q) y=2 then 0 else 0+Zl_ (zt_ q):=by unfold YJ_;rw [if_pos rfl,hd0]
   by_cases hK0:qZ_ (zt_ q) y=0
   ·have hl:=zcr_ hyb hK0
    rw [hK0,if_neg (by decide),if_neg (by decide)] at hcE hcP e1
    unfold plD
    rw [e1,e2,e2]
    have hsz:Zl_ (zt_ q)<=y.length:=by
     have hpf:=Un_ hyb (show QT_ (zt_ q) y=(k6_ (zt_ q) y,0) from Prod.ext rfl hK0)
     have:=X8_ hpf.1
     rw [hpf.2.1,List.length_take] at this
     omega
    rcases hL:k6_ (zt_ q) y with _ | ⟨u,_ | ⟨w,_ | ⟨w2,r2⟩⟩⟩
    ·rw [hL] at hcL hl e1
     repeat'(intro t ht;first|(cases t<;>first|(cases ht;done)|(try simp only[zh_]at ht;try(exfalso;first|contradiction|omega)))|((first|refine za_ ht ?_|refine ht ?_ ?_|refine ht.1 ?_ ?_|refine ht ?_)<;>clear ht))
     all_goals (try simp only [hcL,hcE,hcP] at*)
     all_goals first
      | exact True.intro
      | omega
      | exact ⟨by omega,by omega,by omega⟩
      | (intro r h1 h2;refine h1 ⟨1,?_⟩;clear h1 h2)
     all_goals repeat'(intro t ht;first|(cases t<;>first|(cases ht;done)|(try simp only[zh_]at ht;try(exfalso;first|contradiction|omega)))|((first|refine za_ ht ?_|refine ht ?_ ?_|refine ht.1 ?_ ?_|refine ht ?_)<;>clear ht))
     all_goals (try simp only [hcL,hcE,hcP,List.getD_cons_zero,List.getD_cons_succ,List.getD_nil] at*)
     all_goals first
      | exact True.intro
      | omega
      | ((try simp only [zn_,zo_,zi_] at*);omega)
      | exact ⟨by omega,by omega,by omega,by decide⟩
      | (refine ⟨?_,by first | rfl | exact True.intro⟩;simp only [hf0,Int.zero_add];rfl)
    ·rw [hL] at hcL hl e1
     repeat'(intro t ht;first|(cases t<;>first|(cases ht;done)|(try simp only[zh_]at ht;try(exfalso;first|contradiction|omega)))|((first|refine za_ ht ?_|refine ht ?_ ?_|refine ht.1 ?_ ?_|refine ht ?_)<;>clear ht))
     all_goals (try simp only [hcL,hcE,hcP] at*)
     all_goals first
      | exact True.intro
      | omega
      | exact ⟨by omega,by omega,by omega⟩
      | (intro r h1 h2;refine h1 ⟨2,?_⟩;clear h1 h2)
     all_goals repeat'(intro t ht;first|(cases t<;>first|(cases ht;done)|(try simp only[zh_]at ht;try(exfalso;first|contradiction|omega)))|((first|refine za_ ht ?_|refine ht ?_ ?_|refine ht.1 ?_ ?_|refine ht ?_)<;>clear ht))
     all_goals (try simp only [hcL,hcE,hcP,List.getD_cons_zero,List.getD_cons_succ,List.getD_nil] at*)
     all_goals first
      | exact True.intro
      | omega
      | ((try simp only [zn_,zo_,zi_] at*);omega)
      | exact ⟨by omega,by omega,by omega,by decide⟩
      | (refine ⟨?_,by first | rfl | exact True.intro⟩;simp only [hf0,Int.zero_add];rfl)
    ·rw [hL] at hcL hl e1
     repeat'(intro t ht;first|(cases t<;>first|(cases ht;done)|(try simp only[zh_]at ht;try(exfalso;first|contradiction|omega)))|((first|refine za_ ht ?_|refine ht ?_ ?_|refine ht.1 ?_ ?_|refine ht ?_)<;>clear ht))
     all_goals (try simp only [hcL,hcE,hcP] at*)
     all_goals first
      | exact True.intro
      | omega
      | exact ⟨by omega,by omega,by omega⟩
      | (intro r h1 h2;refine h1 ⟨3,?_⟩;clear h1 h2)
     all_goals repeat'(intro t ht;first|(cases t<;>first|(cases ht;done)|(try simp only[zh_]at ht;try(exfalso;first|contradiction|omega)))|((first|refine za_ ht ?_|refine ht ?_ ?_|refine ht.1 ?_ ?_|refine ht ?_)<;>clear ht))
     all_goals (try simp only [hcL,hcE,hcP,List.getD_cons_zero,List.getD_cons_succ,List.getD_nil] at*)
     all_goals first
      | exact True.intro
      | omega
      | ((try simp only [zn_,zo_,zi_] at*);omega)
      | exact ⟨by omega,by omega,by omega,by decide⟩
      | (refine ⟨?_,by first | rfl | exact True.intro⟩;simp only [hf0,Int.zero_add];rfl)
    ·rw [hL] at hl;simp only [List.length_cons] at hl;omega
   ·have hL:=zcs_ hK0
    have hE:∃ e,e ≠ 0/\(if qZ_ (zt_ q) y=1 then (514:Int) else if qZ_ (zt_ q) y=2 then 518 else 0)=e/\(if qZ_ (zt_ q) y=1 then (514:Int) else if qZ_ (zt_ q) y=2 then 518 else uS_ q (([]:List Int).getD 0 0))=e:=by
     rcases zdQ_ (zt_ q) y with h | h | h
     ·exact absurd h hK0
     ·rw [h];exact ⟨514,by decide,rfl,rfl⟩
     ·rw [h];exact ⟨518,by decide,rfl,rfl⟩
    obtain ⟨e,he,h1,h2⟩:=hE
    rw [h1] at hcE;rw [hL] at hcL e1;rw [h2] at e1
    unfold plD
    rw [e1,e2,e2,hL,if_neg he]
    repeat'(intro t ht;first|(cases t<;>first|(cases ht;done)|(try simp only[zh_]at ht;try(exfalso;first|contradiction|omega)))|((first|refine za_ ht ?_|refine ht ?_ ?_|refine ht.1 ?_ ?_|refine ht ?_)<;>clear ht))
    all_goals (try simp only [hcL,hcE] at*)
    all_goals first
     | exact True.intro
     | omega
     | exact ⟨by omega,by omega,by omega⟩
     | (intro r h1 h2;refine h1 ⟨1,?_⟩;clear h1 h2)
    all_goals repeat'(intro t ht;first|(cases t<;>first|(cases ht;done)|(try simp only[zh_]at ht;try(exfalso;first|contradiction|omega)))|((first|refine za_ ht ?_|refine ht ?_ ?_|refine ht.1 ?_ ?_|refine ht ?_)<;>clear ht))
    all_goals (try simp only [hcL,hcE] at*)
    all_goals first
     | exact True.intro
     | omega
     | ((try simp only [zn_,zo_,zi_] at*);omega)
     | (refine ⟨?_,by first | rfl | exact True.intro⟩;simp only [Zh_,if_neg he];done)
     | (refine ⟨?_,by first | rfl | exact True.intro⟩;simp only [Zh_,if_neg he];rfl)
 ·cases e
theorem GI_ {b:List Int} (h:acE b ≠ 0):(∀ x,acI b x=0)/\(∀ k,acA b k=0)/\(∀ x,acS b x=0)/\acH b=false/\(∀ l,acV b l=[])/\acD b=[]:=by
 have hI:∀ x,acI b x=0:=fun x=>if_neg h
 refine ⟨hI,fun k=>hI _,fun x=>hI _,?_,fun l=>if_neg h,if_neg h⟩
 unfold acH;rw [decide_eq_false h];rfl
theorem zfg_ {b:List Int} (h:acE b=0) (h25:tT b=25):(∀ x,acI b x=x)/\(∀ k,acA b k=0)/\(∀ x,acS b x=x)/\acH b=ZV_ (bd b)/\(∀ l,acV b l=l)/\acD b=[]:=by
 have hI:∀ x,acI b x=x:=fun x=>if_pos h
 refine ⟨hI,fun k=>(hI _).trans (if_pos h25),fun x=>(hI _).trans (if_pos h25),?_,fun l=>(if_pos h).trans (if_pos h25),(if_pos h).trans (if_pos h25)⟩
 unfold acH;rw [decide_eq_true h,decide_eq_true h25];rfl
theorem zfh_ {b:List Int} (h:acE b=0) (h25:¬ tT b=25):(∀ x,acI b x=x)/\(∀ k,acA b k=(k6_ (zt_ (tT b)) (bd b)).getD k 0)/\(∀ x,acS b x=0)/\acH b=false/\(∀ l,acV b l=[])/\acD b=(bd b).drop (Zl_ (zt_ (tT b))).toNat:=by
 have hI:∀ x,acI b x=x:=fun x=>if_pos h
 refine ⟨hI,fun k=>(hI _).trans (if_neg h25),fun x=>(hI _).trans (if_neg h25),?_,fun l=>(if_pos h).trans (if_neg h25),(if_pos h).trans (if_neg h25)⟩
 unfold acH;rw [decide_eq_false h25];simp
def yq_:IR:=
(sq (kr [0] [oD 2 (.box [.int .i64 0,.int .u64 0,.int .u64 0,.int .i64 0,.int .i64 0,.kb false,.int .u64 0,.imm (.int .u8) [],.imm (.int .u8) [],.imm (.int .u8) []]),
oD 3 (.mov (cI 0)),
oD 4 (.mov (cI 0))])
(sq (kr [0,2] [oD 12 (.build [.int .i64 0,.int .i64 0,.kb false,.int .i64 0,.int .i64 0] [(0,1,(cI 8)),(1,1,(cI 8)),(3,1,(cI 514)),(4,1,(cI 514))]),
oM 13 0,
oC 14 99 [12,13],
oM 11 14,
oX 15 11 0,
oX 16 11 1,
oX 17 11 2,
oD 5 (.box [.int .i64 0,.imm (.int .u8) []]),
oS 2 5 15,
oM 6 16,
oM 7 17])
(sq (sq (kr [2,5,6,7] [oM 18 7,
oB 19 .neq 18 (cI 0)])
(.cond 19
(sq (.reg [oD 20 (.build [.int .i64 0,.int .u64 0,.int .u64 0,.int .i64 0,.int .i64 0,.kb false,.int .u64 0,.imm (.int .u8) [],.imm (.int .u8) [],.imm (.int .u8) []] []),
oM 21 7,
oS 10 2 20,
oD 3 (.mov (cI 0)),
oM 4 21])
.ret)
.skip))
(sq (kr [2,5,6] [oA 22 0 5,
oL 23 22,
oD 24 (.build [.int .i64 0,.int .u64 0,.int .u64 0,.int .i64 0,.int .i64 0,.kb false,.int .u64 0,.imm (.int .u8) [],.imm (.int .u8) [],.imm (.int .u8) []] [(0,1,23)]),
oD 8 (.box [.int .i64 0,.int .u64 0,.int .u64 0,.int .i64 0,.int .i64 0,.kb false,.int .u64 0,.imm (.int .u8) [],.imm (.int .u8) [],.imm (.int .u8) []]),
oS 10 8 24])
(sq (kr [2,5,6,8] [oA 26 0 5,
oL 27 26,
oC 28 55 [27],
oM 25 28,
oX 29 25 0,
oX 30 25 1,
oM 9 29,
oM 10 30])
(sq (.block 0
(sq (kr [2,5,6,8,9,10] [oA 32 0 5,
oL 33 32,
oB 34 .eql 33 (cI 25),
oM 31 34])
(.cond 31
(kr [2,5,6,8] [oA 36 1 5,
oL 37 36,
oC 38 100 [37],
oM 35 38,
oX 39 35 0,
oX 40 35 1,
oA 41 3 8,
oS 6 41 39,
oM 7 40])
(sq (.reg [oM 43 10,
oM 42 43])
(.cond 42
(kr [2,5,6,8,9] [oK 45 10 8,
oM 46 9,
oA 47 1 5,
oL 48 47,
oC 49 101 [45,46,48],
oM 44 49,
oX 50 44 0,
oX 51 44 1,
oS 10 8 50,
oM 7 51])
(kr [2,6,8] [oD 7 (.mov (cI 513))]))))))
(sq (sq (kr [2,6,7,8] [oM 52 7,
oB 53 .neq 52 (cI 0)])
(.cond 53
(sq (.reg [oD 54 (.build [.int .i64 0,.int .u64 0,.int .u64 0,.int .i64 0,.int .i64 0,.kb false,.int .u64 0,.imm (.int .u8) [],.imm (.int .u8) [],.imm (.int .u8) []] []),
oM 55 7,
oS 10 2 54,
oD 3 (.mov (cI 0)),
oM 4 55])
.ret)
.skip))
(sq (kr [2,6,8] [oK 56 10 8,
oM 57 6,
oS 10 2 56,
oM 3 57,
oD 4 (.mov (cI 0))])
.ret))))))))
def X7_:List RD:=[.cell 2 (some 10) true [],.tmp 3 true none,.tmp 4 true none]
theorem yh_:zl_ Tryz.prog Tryz.f62 yq_ X7_=true:=by kernel_rfl
def Kd_:List AV->List Obj->Option (Prop × AV)
 | [.imm (.int .u8) b],[]=>some ((b.length<=140737488355328,.tup [.agg [.int .i64 (acI b (tT b)),.int .u64 (acA b 0),.int .u64 (acA b 1),.int .i64 (acS b (zu_ (bd b))),.int .i64 (acS b (zN_ (bd b))),.bool (acH b),.int .u64 (acS b (Kw_ (bd b))),.imm (.int .u8) (acV b (Qm_ (bd b))),.imm (.int .u8) (acV b (q9_ (bd b))),.imm (.int .u8) (acD b)],.int .i64 (acI b (tN b)),.int .i64 (acE b)]))
 | _,_=>none
theorem x8_:ze_ Tryz.prog 62 (RoF Kd_).sum:=by
 refine zm_ Tryz.func62 yh_ (zb_ (s:=RoF yJ_) GR_ (zb_ (s:=RoF qf_) Qo_ (zb_ (s:=RoF JI_) vf_ (zb_ (s:=RoF KX_) XZ_ (zd_ _))))) fun args objs p v e=>?_
 unfold Kd_ at e
 split at e
 ·rename_i b
  cases e
  refine ⟨rfl,fun hw ho hp=>?_⟩
  change List Int at b
  have hb:∀ x ∈ (b:List Int),(0:Int)<=x/\x<=255:=fun x hx=>(hw (.imm (.int .u8) b) (by simp)).1 x hx
  clear hw ho
  have hbl:=zfI_ hb
  have hs:(False=False)/\(4<=(8:Int)/\(8:Int)<=60000/\1<=(8:Int)/\(8:Int)<=64/\(514:Int) ≠ 0/\(514:Int) ≠ 0):=⟨rfl,by decide,by decide,by decide,by decide,by decide,by decide⟩
  by_cases hT:tlE b 8 8 514=0
  ·have hI:∀ x,tlI b 8 8 514 x=x:=fun x=>if_pos hT
   have hR:tlR b 8 8 514=bd b:=if_pos hT
   by_cases h25:tT b=25
   ·have hE:acE b=gb_ (bd b):=by unfold acE;rw [if_neg (not_not_intro hT),if_pos h25]
    by_cases h0:gb_ (bd b)=0
    ·have hd0:z5_ (bd b)=0:=Classical.byContradiction fun h=>by
      unfold gb_ at h0;rw [if_neg h] at h0
      split at h0
      ·cases h0
      ·split at h0<;>cases h0
     have hdI:∀ x,qi_ (bd b) x=x:=fun x=>if_pos hd0
     have hdR:∀ l,Qr_ (bd b) l=l:=fun l=>if_pos hd0
     obtain ⟨n1,n2,n3,n4,n5,n6⟩:=zfg_ (hE.trans h0) h25
     rw [n1,n2,n2,n3,n3,n3,n4,n5,n5,n6,n1,hE,h0]
     repeat'(intro t ht;first|(cases t<;>first|(cases ht;done)|(try simp only[zh_]at ht;try(exfalso;first|contradiction|omega)))|((first|refine za_ ht ?_|refine ht ?_ ?_|refine ht.1 ?_ ?_|refine ht ?_)<;>clear ht))
     all_goals (try simp only [hT,hI,hR,h0,h25,hdI,hdR,if_pos hd0,not_true_eq_false] at*)
     all_goals first
      | exact True.intro
      | omega
      | exact ⟨by first | rfl | exact True.intro,⟨by decide,by decide,by decide,by decide,by decide,by decide⟩,hp⟩
      | exact ⟨rfl,by first | rfl | exact True.intro⟩
         | exact ⟨True.intro,True.intro⟩
    ·obtain ⟨n1,n2,n3,n4,n5,n6⟩:=GI_ (b:=b) (by rw [hE];exact h0)
     rw [n1,n2,n2,n3,n3,n3,n4,n5,n5,n6,n1,hE]
     repeat'(intro t ht;first|(cases t<;>first|(cases ht;done)|(try simp only[zh_]at ht;try(exfalso;first|contradiction|omega)))|((first|refine za_ ht ?_|refine ht ?_ ?_|refine ht.1 ?_ ?_|refine ht ?_)<;>clear ht))
     all_goals (try simp only [hT,hI,hR,h25,not_true_eq_false] at*)
     all_goals first
      | exact True.intro
      | omega
      | exact ⟨by first | rfl | exact True.intro,⟨by decide,by decide,by decide,by decide,by decide,by decide⟩,hp⟩
      | exact ⟨rfl,by first | rfl | exact True.intro⟩
         | exact ⟨True.intro,True.intro⟩
   ·cases hK:VW_ (tT b) with
    | false=>
      have hE:acE b=513:=by unfold acE;rw [if_neg (not_not_intro hT),if_neg h25,hK];rfl
      obtain ⟨n1,n2,n3,n4,n5,n6⟩:=GI_ (b:=b) (by rw [hE];decide)
      rw [n1,n2,n2,n3,n3,n3,n4,n5,n5,n6,n1,hE]
      repeat'(intro t ht;first|(cases t<;>first|(cases ht;done)|(try simp only[zh_]at ht;try(exfalso;first|contradiction|omega)))|((first|refine za_ ht ?_|refine ht ?_ ?_|refine ht.1 ?_ ?_|refine ht ?_)<;>clear ht))
      all_goals (try simp only [hT,hI,hR,not_true_eq_false] at*)
      all_goals first
       | exact True.intro
       | omega
       | exact ⟨by first | rfl | exact True.intro,⟨by decide,by decide,by decide,by decide,by decide,by decide⟩,hp⟩
       | exact ⟨rfl,by first | rfl | exact True.intro⟩
          | exact ⟨True.intro,True.intro⟩
       | (exfalso;simp_all;done)
    | true=>
      have hE:acE b=plE (tT b) (bd b):=by unfold acE;rw [if_neg (not_not_intro hT),if_neg h25,if_pos hK]
      by_cases h0:plE (tT b) (bd b)=0
      ·obtain ⟨n1,n2,n3,n4,n5,n6⟩:=zfh_ (hE.trans h0) h25
       have hm:¬ (¬ tT b=65535/\¬ ((bd b).length:Int)=Zl_ (zt_ (tT b))):=fun h=>by unfold plE at h0;rw [if_pos h] at h0;cases h0
       have hA:∀ k,plA (tT b) (bd b) k=(k6_ (zt_ (tT b)) (bd b)).getD k 0:=fun k=>if_neg hm
       have hD:plD (tT b) (bd b)=(bd b).drop (Zl_ (zt_ (tT b))).toNat:=if_pos h0
       rw [n1,n2,n2,n3,n3,n3,n4,n5,n5,n6,n1,hE,h0]
       repeat'(intro t ht;first|(cases t<;>first|(cases ht;done)|(try simp only[zh_]at ht;try(exfalso;first|contradiction|omega)))|((first|refine za_ ht ?_|refine ht ?_ ?_|refine ht.1 ?_ ?_|refine ht ?_)<;>clear ht))
       all_goals (try simp only [hT,hI,hR,h0,hA,hD,not_true_eq_false] at*)
       all_goals first
        | exact True.intro
        | omega
        | exact ⟨by first | rfl | exact True.intro,⟨by decide,by decide,by decide,by decide,by decide,by decide⟩,hp⟩
        | exact ⟨rfl,by first | rfl | exact True.intro⟩
          | exact ⟨True.intro,True.intro⟩
        | exact ⟨trivial,by omega⟩
        | (exfalso;simp_all;done)
      ·obtain ⟨n1,n2,n3,n4,n5,n6⟩:=GI_ (b:=b) (by rw [hE];exact h0)
       rw [n1,n2,n2,n3,n3,n3,n4,n5,n5,n6,n1,hE]
       repeat'(intro t ht;first|(cases t<;>first|(cases ht;done)|(try simp only[zh_]at ht;try(exfalso;first|contradiction|omega)))|((first|refine za_ ht ?_|refine ht ?_ ?_|refine ht.1 ?_ ?_|refine ht ?_)<;>clear ht))
       all_goals (try simp only [hT,hI,hR,not_true_eq_false] at*)
       all_goals first
        | exact True.intro
        | omega
        | exact ⟨by first | rfl | exact True.intro,⟨by decide,by decide,by decide,by decide,by decide,by decide⟩,hp⟩
        | exact ⟨rfl,by first | rfl | exact True.intro⟩
          | exact ⟨True.intro,True.intro⟩
        | exact ⟨trivial,by omega⟩
        | (exfalso;simp_all;done)
  ·have hE:acE b=tlE b 8 8 514:=by unfold acE;rw [if_pos hT]
   obtain ⟨n1,n2,n3,n4,n5,n6⟩:=GI_ (b:=b) (by rw [hE];exact hT)
   rw [n1,n2,n2,n3,n3,n3,n4,n5,n5,n6,n1,hE]
   repeat'(intro t ht;first|(cases t<;>first|(cases ht;done)|(try simp only[zh_]at ht;try(exfalso;first|contradiction|omega)))|((first|refine za_ ht ?_|refine ht ?_ ?_|refine ht.1 ?_ ?_|refine ht ?_)<;>clear ht))
   all_goals first
    | exact True.intro
    | exact ⟨by first | rfl | exact True.intro,⟨by decide,by decide,by decide,by decide,by decide,by decide⟩,hp⟩
    | exact ⟨rfl,by first | rfl | exact True.intro⟩
            | exact ⟨True.intro,True.intro⟩
 ·cases e
def bQ_:IR:=
(sq (kr [0] [oD 1 (.boxv 0),
oD 2 (.mov cF)])
(sq (kr [1] [oA 3 3 1,
oK 4 6 3,
oC 5 48 [4],
oM 6 5,
oT 6 7 (.fieldAddr 9 1),
oT 6 8 (.load none 7),
oT 6 9 (.len 8),
oT 6 10 (.bin .leq 9 (cI 500)),
oP 11 6 10 cF,
oM 2 11])
.ret))
def bg_:List RD:=[.tmp 2 true none]
theorem bv_:zl_ Tryz.prog Tryz.f31 bQ_ bg_=true:=by kernel_rfl
def yN_:List AV->List Obj->Option (Prop × AV)
 | [.agg [.int .i64 q,.int .u64 a,.int .u64 b,.int .i64 c,.int .i64 f,.bool h,.int .u64 x,.imm (.int .u8) v,.imm (.int .u8) m,.imm (.int .u8) d]],[]=>some ((True,.bool (decide (v.length<=300) && decide (m.length<=300) && decide (d.length<=500))))
 | _,_=>none
theorem GV_:ze_ Tryz.prog 31 (RoF yN_).sum:=by
 refine zm_ Tryz.func31 bv_ (zb_ (s:=RoF yO_) GW_ (zd_ _)) fun args objs p v e=>?_
 unfold yN_ at e
 split at e
 ·rename_i q a b c f h x v m d
  cases e
  refine ⟨rfl,fun hw ho hp=>?_⟩
  change List Int at v
  change List Int at m
  change List Int at d
  clear hw ho
  repeat'(intro t ht;first|(cases t<;>first|(cases ht;done)|(try simp only[zh_]at ht;try(exfalso;first|contradiction|omega)))|((first|refine za_ ht ?_|refine ht ?_ ?_|refine ht.1 ?_ ?_|refine ht ?_)<;>clear ht))
  all_goals first
   | exact True.intro
   | (refine ⟨congrArg AV.bool ?_,rfl⟩;simp_all;done)
   | (refine ⟨congrArg AV.bool ?_,rfl⟩;simp_all;omega)
 ·cases e
abbrev AC:=Int × Int × Int × OV × List Int × Unit
instance:DecidableEq (OV × List Int × Unit):=inferInstance
instance:DecidableEq (Int × OV × List Int × Unit):=inferInstance
instance:DecidableEq AC:=inferInstance
def rgA (a:AC):Bool:=zH_ (zv_ a.2.2.2.1.1 a.2.2.2.1.2.1 a.2.2.2.1.2.2.1 a.2.2.2.1.2.2.2.1 a.2.2.2.1.2.2.2.2.1 a.2.2.2.1.2.2.2.2.2.1) a.1 a.2.1 a.2.2.1 a.2.2.2.1.1 a.2.2.2.1.2.1 a.2.2.2.1.2.2.1 a.2.2.2.1.2.2.2.1 a.2.2.2.1.2.2.2.2.1 a.2.2.2.1.2.2.2.2.2.1 a.2.2.2.2.1
def szA (a:AC):Int:=x9_ (zv_ a.2.2.2.1.1 a.2.2.2.1.2.1 a.2.2.2.1.2.2.1 a.2.2.2.1.2.2.2.1 a.2.2.2.1.2.2.2.2.1 a.2.2.2.1.2.2.2.2.2.1) (Qe_ a.2.2.2.1.1 a.2.2.2.1.2.1 a.2.2.2.1.2.2.1 a.2.2.2.1.2.2.2.1 a.2.2.2.1.2.2.2.2.1 a.2.2.2.1.2.2.2.2.2.1) a.1 a.2.1 a.2.2.1 a.2.2.2.1.1 a.2.2.2.1.2.1 a.2.2.2.1.2.2.1 a.2.2.2.1.2.2.2.1 a.2.2.2.1.2.2.2.2.1 a.2.2.2.1.2.2.2.2.2.1 a.2.2.2.2.1
def ebA (a:AC):List Int:=xC_ a.1 a.2.1 a.2.2.1 (Zj_ a.2.2.2.1.1 a.2.2.2.1.2.1 a.2.2.2.1.2.2.1 a.2.2.2.1.2.2.2.1 a.2.2.2.1.2.2.2.2.1 a.2.2.2.1.2.2.2.2.2.1) a.2.2.2.2.1
def exA (a:AC):List Int:=if rgA a=true then ebA a else []
def eeA (a:AC):Int:=if rgA a=true then 0 else 10001
def lenA (a:AC):Prop:=a.2.2.2.1.2.2.2.2.1.length<=100000/\a.2.2.2.1.2.2.2.2.2.1.length<=100000/\a.2.2.2.2.1.length<=100000
theorem zcb_ {a:AC} (h:lenA a):a.2.2.2.1.2.2.2.2.1.length<=1000000/\a.2.2.2.1.2.2.2.2.2.1.length<=1000000:=⟨Nat.le_trans h.1 (by decide),Nat.le_trans h.2.1 (by decide)⟩
structure okL (l:List AC):Prop where
 a:∀ o ∈ l,lenA o
 n:l.length<=1000000
def fwA (a:AC):Bool:=decide (a.2.2.2.1.2.2.2.2.1.length<=300) && decide (a.2.2.2.1.2.2.2.2.2.1.length<=300) && decide (a.2.2.2.2.1.length<=500)
theorem zfB_ {a:AC} (h:(a.2.2.2.1.2.2.2.2.1.length<=300/\a.2.2.2.1.2.2.2.2.2.1.length<=300)/\a.2.2.2.2.1.length<=500):fwA a=true:=by unfold fwA;simp [h.1.1,h.1.2,h.2]
theorem zfC_ {a:AC} (h:(¬ a.2.2.2.1.2.2.2.2.1.length<=300\/¬ a.2.2.2.1.2.2.2.2.2.1.length<=300)\/¬ a.2.2.2.2.1.length<=500):fwA a=false:=by unfold fwA;rcases h with (h | h) | h<;>simp [h]
def Ht_ (l:List AC):Bool:=l.all fwA && decide (l.length<=80)
theorem Gu_ {l:List AC} (h:Ht_ l=true):okL l/\l.length<=80:=by
 unfold Ht_ at h
 simp only [Bool.and_eq_true,decide_eq_true_eq] at h
 refine ⟨⟨fun o ho=>?_,by omega⟩,h.2⟩
 have:=List.all_eq_true.1 h.1 o ho
 unfold fwA at this
 simp only [Bool.and_eq_true,decide_eq_true_eq] at this
 exact ⟨by omega,by omega,by omega⟩
def bO_:IR:=
(sq (kr [0] [oD 2 (.mov cF)])
(sq (sq (.reg [oD 3 (.mov (cI 0))])
(.block 0
(.loop
(sq (sq (kr [0,3] [oM 4 3,
oM 5 0,
oE 6 5,
oB 7 .lss 4 6])
(.cond 7
.skip
(.exit 0)))
(sq (.block 1
(sq (kr [0,3] [oM 10 0,
oM 11 3,
oI 12 10 10 11,
oK 13 10 12,
oC 14 31 [13],
oD 15 (.un .not 14)])
(.cond 15
(sq (kr [] [oD 2 (.mov cF)])
.ret)
.skip)))
(kr [0,3] [oM 8 3,
oB 9 .add 8 (cI 1),
oM 3 9]))))))
(sq (kr [0] [oM 16 0,
oE 17 16,
oB 18 .leq 17 (cI 80),
oM 2 18])
.ret)))
def be_:List RD:=[.tmp 2 true none]
theorem bt_:zl_ Tryz.prog Tryz.f7 bO_ be_=true:=by kernel_rfl
def WH_:List AV->List Obj->Option (Prop × AV)
 | [.imm ty0 l],[]=>ja_ ty0 Y2 l fun l=>some ((True,.bool (Ht_ l)))
 | _,_=>none
theorem y0_:ze_ Tryz.prog 7 (RoF WH_).sum:=by
 refine zm_ Tryz.func7 bt_ (zb_ (s:=RoF yN_) GV_ (zd_ _)) fun args objs p v e=>?_
 unfold WH_ at e
 split at e
 ·rename_i ty0 l
  obtain rfl:=QW_ e
  replace e:=QX_ e
  cases e
  refine ⟨rfl,fun hw ho hp=>?_⟩
  change List AC at l
  have hl:l.length<=maxLen:=(hw (.imm Y2 l) (by simp)).2
  unfold maxLen at hl
  clear hw ho
  repeat'(intro t ht;first|(cases t<;>first|(cases ht;done)|(try simp only[zh_]at ht))|((first|refine za_ ht ?_|refine ht ?_ ?_|refine ht.1 ?_ ?_|refine ht ?_)<;>clear ht))
  all_goals first
   | (intro r h1 h2;clear h1;refine h2 ⟨[0,3],Nat,(fun i=>i<=l.length/\(l.take i).all fwA=true),fun i=>[.imm Y2 l,.int .i64 i],fun _=>[],fun i=>l.length - i,⟨0,⟨Nat.zero_le _,rfl⟩,rfl,rfl⟩,?_⟩;clear h2)
  rintro i ⟨hi,he⟩
  repeat'(intro t ht;first|(cases t<;>first|(cases ht;done)|(try simp only[zh_]at ht;try(exfalso;first|contradiction|omega)))|((first|refine za_ ht ?_|refine ht ?_ ?_|refine ht.1 ?_ ?_|refine ht ?_)<;>clear ht))
  all_goals (try generalize (Ty.dflt Y2)=od at*)
  all_goals first
   | exact True.intro
   | ((try simp only [zn_,zo_,zi_] at*);omega)
   | (have h:=Vz_ (by omega) he
      refine ⟨?_,rfl⟩;unfold Ht_;rw [h,Bool.true_and];congr 1;exact decide_eq_decide.2 (by omega))
   | (have hf:=zfB_ ht
      exact ⟨i+1,⟨by omega,yH_ (d:=od) (by omega) he hf⟩,by dsimp only;omega,rfl,rfl⟩)
   | (have hf:=zfC_ ht
      have h:Ht_ l=false:=by unfold Ht_;rw [HN_ (d:=od) (show i < l.length by omega) hf,Bool.false_and]
      refine ⟨?_,rfl⟩;rw [h];done)
 ·cases e
theorem zeg_ {a:AC} (h:rgA a=false):szA a=0:=by
 unfold szA x9_;unfold rgA at h;rw [h];rfl
theorem Y1_ {a:AC} (h:rgA a=true):szA a=(ebA a).length/\8<=szA a/\szA a<=65528/\(ebA a).length % 8=0:=by
 obtain ⟨s0,s1,s2,s3⟩:=jC_ h
 have l2:=zk_ (n:=a.1) (w:=2) (by decide)
 have hb:(ebA a).length=4+(ZB_ a.1 a.2.1 a.2.2.1 (Zj_ a.2.2.2.1.1 a.2.2.2.1.2.1 a.2.2.2.1.2.2.1 a.2.2.2.1.2.2.2.1 a.2.2.2.1.2.2.2.2.1 a.2.2.2.1.2.2.2.2.2.1) a.2.2.2.2.1).length:=by
  have l3:=zk_ (n:=(4+(ZB_ a.1 a.2.1 a.2.2.1 (Zj_ a.2.2.2.1.1 a.2.2.2.1.2.1 a.2.2.2.1.2.2.1 a.2.2.2.1.2.2.2.1 a.2.2.2.1.2.2.2.2.1 a.2.2.2.1.2.2.2.2.2.1) a.2.2.2.2.1).length)) (w:=2) (by decide)
  unfold ebA xC_;simp only [List.length_append];omega
 have e:szA a=4+((ZB_ a.1 a.2.1 a.2.2.1 (Zj_ a.2.2.2.1.1 a.2.2.2.1.2.1 a.2.2.2.1.2.2.1 a.2.2.2.1.2.2.2.1 a.2.2.2.1.2.2.2.2.1 a.2.2.2.1.2.2.2.2.2.1) a.2.2.2.2.1).length:Int):=s0
 omega
theorem zbl_ (a:AC):0<=szA a/\szA a<=65528:=by
 cases h:rgA a with
 | true=>have:=Y1_ h;omega
 | false=>rw [zeg_ h];decide
def smT (l:List AC) (i:Nat):Int:=((l.take i).map szA).sum
def smL (l:List AC):Int:=(l.map szA).sum
theorem GY_ {l:List AC} {i:Nat} {d:AC} (h:i < l.length):smT l (i+1)=smT l i+szA (l.getD i d):=by
 unfold smT
 rw [List.take_succ_eq_append_getElem h,List.map_append,List.sum_append,List.getD_eq_getElem?_getD,List.getElem?_eq_getElem h]
 simp
theorem U8_ {l:List AC} {i:Nat} (h:l.length<=i):smT l i=smL l:=by unfold smT smL;rw [List.take_of_length_le h]
theorem H1_ {l:List AC} (i:Nat) (hi:i<=l.length):0<=smT l i/\smT l i<=65528*i:=by
 induction i with
 | zero=>unfold smT;simp
 | succ i ih=>
   have:=ih (by omega)
   have d:AC:=(0,0,0,(0,0,false,0,[],[],()),[],())
   have hs:=zbl_ (l.getD i d)
   rw [GY_ (d:=d) (by omega)];omega
def szL (l:List AC):Int:=if 64 < l.length then 0 else if l.all rgA=true then (if 65528 < smL l then 0 else smL l) else 0
def Gp_:IR:=
(sq (kr [0] [oD 2 (.mov (cI 0))])
(sq (sq (.reg [oM 6 0,
oE 7 6,
oB 8 .gtr 7 (cI 64)])
(.cond 8
(sq (.reg [oD 2 (.mov (cI 0))])
.ret)
.skip))
(sq (sq (.reg [oM 9 0,
oE 10 9,
oD 11 (.mov (cI 0))])
(.block 0
(.loop
(sq (kr [2,9,10,11] [oB 12 .lss 11 10])
(sq (.cond 12
.skip
(.exit 0))
(sq (.block 1
(sq (.reg [oI 13 10 9 11,
oK 14 10 13,
oD 4 (.box [.int .i64 0,.int .u64 0,.int .u64 0,.int .i64 0,.int .i64 0,.kb false,.int .u64 0,.imm (.int .u8) [],.imm (.int .u8) [],.imm (.int .u8) []]),
oS 10 4 14])
(sq (.reg [oK 15 10 4,
oC 16 37 [15],
oM 5 16])
(sq (sq (kr [2,5,9,10,11] [oM 17 5,
oB 18 .eql 17 (cI 0)])
(.cond 18
(sq (.reg [oD 2 (.mov (cI 0))])
.ret)
.skip))
(.reg [oM 19 2,
oM 20 5,
oB 21 .add 19 20,
oM 2 21])))))
(kr [2,9,10,11] [oB 22 .add 11 (cI 1),
oM 11 22])))))))
(sq (sq (kr [2] [oM 23 2,
oB 24 .gtr 23 (cI 65528)])
(.cond 24
(sq (.reg [oD 2 (.mov (cI 0))])
.ret)
.skip))
(sq (.reg [oM 25 2,
oM 2 25])
.ret)))))
def gy_:List RD:=[.tmp 2 true none]
theorem gW_:zl_ Tryz.prog Tryz.f16 Gp_ gy_=true:=by kernel_rfl
def kZ_:List AV->List Obj->Option (Prop × AV)
 | [.imm ty0 l],[]=>ja_ ty0 Y2 l fun l=>some ((okL l,.int .i64 (szL l)))
 | _,_=>none
theorem jj_:ze_ Tryz.prog 16 (RoF kZ_).sum:=by
 refine zm_ Tryz.func16 gW_ (zb_ (s:=RoF kL_) JL_ (zd_ _)) fun args objs p v e=>?_
 unfold kZ_ at e
 split at e
 ·rename_i ty0 l
  obtain rfl:=QW_ e
  replace e:=QX_ e
  cases e
  refine ⟨rfl,fun hw ho hp=>?_⟩
  change List AC at l
  clear hw ho
  have hn:=hp.n
  by_cases h64:64 < l.length
  ·have e:szL l=0:=if_pos h64
   rw [e]
   repeat'(intro t ht;first|(cases t<;>first|(cases ht;done)|(try simp only[zh_]at ht;try(exfalso;first|contradiction|omega)))|((first|refine za_ ht ?_|refine ht ?_ ?_|refine ht.1 ?_ ?_|refine ht ?_)<;>clear ht))
   all_goals first
    | exact True.intro
    | exact ⟨rfl,rfl⟩
    | (exfalso;omega)
  ·have e:szL l=if l.all rgA=true then (if 65528 < smL l then 0 else smL l) else 0:=if_neg h64
   repeat'(intro t ht;first|(cases t<;>first|(cases ht;done)|(try simp only[zh_]at ht;try(exfalso;first|contradiction|omega)))|((first|refine za_ ht ?_|refine ht ?_ ?_|refine ht.1 ?_ ?_|refine ht ?_)<;>clear ht))
   all_goals first
    | exact True.intro
    | (intro r h1 h2;clear h1;refine h2 ⟨[2,9,10,11],Nat,(fun i=>i<=l.length/\(l.take i).all rgA=true),fun i=>[.int .i64 (smT l i),.imm Y2 l,.int .i64 l.length,.int .i64 i],fun _=>[],fun i=>l.length - i,⟨0,⟨Nat.zero_le _,rfl⟩,rfl,rfl⟩,?_⟩;clear h2)
   rintro i ⟨hi,he⟩
   have hle:=H1_ (l:=l) i hi
   repeat'(intro t ht;first|(cases t<;>first|(cases ht;done)|(try simp only[zh_]at ht;try(exfalso;first|contradiction|omega)))|((first|refine za_ ht ?_|refine ht ?_ ?_|refine ht.1 ?_ ?_|refine ht ?_)<;>clear ht))
   all_goals (try generalize (Ty.dflt Y2)=od at*)
   all_goals first
    | exact True.intro
    | ((try simp only [zn_,zo_,zi_] at*);omega)
    | (have ha:=Vz_ (by omega) he
       have hs:=U8_ (l:=l) (i:=i) (by omega)
       rw [e,if_pos ha,<- hs]
       first
        | (rw [if_pos (by assumption)];exact ⟨rfl,rfl⟩)
        | (rw [if_neg (by assumption)];exact ⟨rfl,rfl⟩))
    | (have hlt:i < l.length:=by omega
       have hln:=hp.a _ (zZ_ hlt od)
       have hsz:=zbl_ (l.getD i od)
       first
        | exact zcb_ hln
        | (unfold szA at hsz;simp only [zi_,Int.toNat_natCast];omega)
        | (have h0:szA (l.getD i od)=0:=by assumption
           have hr:rgA (l.getD i od)=false:=by
            cases hk:rgA (l.getD i od) with
            | false=>rfl
            | true=>have:=Y1_ hk;omega
           rw [e,if_neg (by rw [HN_ hlt hr];decide)];exact ⟨rfl,rfl⟩)
        | (have h0:¬ szA (l.getD i od)=0:=by assumption
           have hr:rgA (l.getD i od)=true:=by
            cases hk:rgA (l.getD i od) with
            | true=>rfl
            | false=>exact absurd (zeg_ hk) h0
           refine ⟨i+1,⟨by omega,yH_ hlt he hr⟩,by dsimp only;omega,?_,rfl⟩
           dsimp only;rw [GY_ (d:=od) hlt];rfl))
 ·cases e
def rgL (l:List AC):Bool:=decide (l.length=0) || decide (0 < szL l)
def uM_:IR:=
(sq (kr [0] [oD 2 (.mov cF)])
(sq (kr [0] [oM 3 0,
oE 4 3,
oB 5 .eql 4 (cI 0),
oM 6 5,
oF 6 7 (.mov 0),
oF 6 8 (.call false (.f 16) [7]),
oF 6 9 (.bin .gtr 8 (cI 0)),
oP 10 6 cT 9,
oM 2 10])
.ret))
def ud_:List RD:=[.tmp 2 true none]
theorem uu_:zl_ Tryz.prog Tryz.f15 uM_ ud_=true:=by kernel_rfl
def Kz_:List AV->List Obj->Option (Prop × AV)
 | [.imm ty0 l],[]=>ja_ ty0 Y2 l fun l=>some ((okL l,.bool (rgL l)))
 | _,_=>none
theorem wA_:ze_ Tryz.prog 15 (RoF Kz_).sum:=by
 refine zm_ Tryz.func15 uu_ (zb_ (s:=RoF kZ_) jj_ (zd_ _)) fun args objs p v e=>?_
 unfold Kz_ at e
 split at e
 ·rename_i ty0 l
  obtain rfl:=QW_ e
  replace e:=QX_ e
  cases e
  refine ⟨rfl,fun hw ho hp=>?_⟩
  change List AC at l
  clear hw ho
  have hok:=hp
  by_cases h0:l.length=0
  ·repeat'(intro t ht;first|(cases t<;>first|(cases ht;done)|(try simp only[zh_]at ht;try(exfalso;first|contradiction|omega)))|((first|refine za_ ht ?_|refine ht ?_ ?_|refine ht.1 ?_ ?_|refine ht ?_)<;>clear ht))
   all_goals first
    | exact True.intro
    | exact hok
    | (refine ⟨congrArg AV.bool ?_,rfl⟩;unfold rgL;rw [decide_eq_true h0];rfl)
    | (exfalso;omega)
  ·repeat'(intro t ht;first|(cases t<;>first|(cases ht;done)|(try simp only[zh_]at ht;try(exfalso;first|contradiction|omega)))|((first|refine za_ ht ?_|refine ht ?_ ?_|refine ht.1 ?_ ?_|refine ht ?_)<;>clear ht))
   all_goals first
    | exact True.intro
    | exact hok
    | (refine ⟨congrArg AV.bool ?_,rfl⟩;unfold rgL;rw [decide_eq_false h0];rfl)
    | (exfalso;omega)
 ·cases e
def wrS {α:Type} (x:α->List Int) (f:α->Int) (room:Int):List α->List Int->Int->List Int × Int
 | [],l,e=>(l,e)
 | o :: r,l,e=>wrS x f room r (Jt_ (x o) l room (Zh_ e (f o))) (WW_ (x o) l room (Zh_ e (f o)))
theorem GP_ {α:Type} {x:α->List Int} {f:α->Int} {room:Int} {l:List α} {i:Nat} {d:α} {b:List Int} {e:Int} (h:i < l.length):wrS x f room (l.drop i) b e=wrS x f room (l.drop (i+1)) (Jt_ (x (l.getD i d)) b room (Zh_ e (f (l.getD i d)))) (WW_ (x (l.getD i d)) b room (Zh_ e (f (l.getD i d)))):=by
 rw [zz_ h d];rfl
def apB (x:List AC) (l:List Int) (room e:Int):List Int:=if rgL x=true then (wrS exA eeA room x l e).1 else l
def apE (x:List AC) (l:List Int) (room e:Int):Int:=if rgL x=true then (wrS exA eeA room x l e).2 else Zh_ e 10001
theorem zcE_ {a:AC}:(exA a).length<=1000000:=by
 unfold exA;split
 ·have:=Y1_ (by assumption);omega
 ·simp
def Hi_:IR:=
(sq (sq (kr [0,1] [oM 8 1,
oC 9 15 [8],
oD 10 (.un .not 9)])
(.cond 10
(sq (.reg [oM 11 0,
oC 12 34 [11,(cI 10001)]])
.ret)
.skip))
(sq (.reg [oM 13 1,
oE 14 13,
oD 15 (.mov (cI 0))])
(.block 0
(.loop
(sq (kr [0,13,14,15] [oB 16 .lss 15 14])
(sq (.cond 16
.skip
(.exit 0))
(sq (.block 1
(sq (.reg [oI 17 10 13 15,
oK 18 10 17,
oD 5 (.box [.int .i64 0,.int .u64 0,.int .u64 0,.int .i64 0,.int .i64 0,.kb false,.int .u64 0,.imm (.int .u8) [],.imm (.int .u8) [],.imm (.int .u8) []]),
oS 10 5 18])
(sq (kr [0,5,13,14,15] [oK 20 10 5,
oC 21 35 [20],
oM 19 21,
oX 22 19 0,
oX 23 19 1,
oM 6 22,
oM 7 23])
(sq (kr [0,6,7,13,14,15] [oM 24 0,
oM 25 7,
oC 26 34 [24,25]])
(.reg [oM 27 0,
oM 28 6,
oC 29 12 [27,28]])))))
(kr [0,13,14,15] [oB 30 .add 15 (cI 1),
oM 15 30]))))))))
def hm_:List RD:=[]
theorem hK_:zl_ Tryz.prog Tryz.f13 Hi_ hm_=true:=by kernel_rfl
def VD_:List AV->List Obj->Option (Prop × Res)
 | [.ptr 0 0,.imm (.cons (.int .i64) (.cons (.int .u64) (.cons (.int .u64) (.cons (.cons (.int .i64) (.cons (.int .i64) (.cons .bool (.cons (.int .u64) (.cons (.sl (.int .u8)) (.cons (.sl (.int .u8)) .nil)))))) (.cons (.sl (.int .u8)) .nil))))) x],[.box [.own 1,.int .i64 room,.mapv 2,.int .i64 e],.row false (.int .u8) l,.map sq (.int .i64) (.int .i64) h]=>some (okL x/\0<=room/\room<=1000000/\l.length<=1000000,.br (rgL x && decide (0 < x.length)) (.one (.tup []) [.box [.own 3,.int .i64 room,.mapv 2,.int .i64 (apE x l room e)],.dead,.map sq (.int .i64) (.int .i64) h,.row false (.int .u8) (apB x l room e)]) (.one (.tup []) [.box [.own 1,.int .i64 room,.mapv 2,.int .i64 (apE x l room e)],.row false (.int .u8) l,.map sq (.int .i64) (.int .i64) h]))
 | _,_=>none
def JH_:List AV->List Obj->Option (Prop × AV × List Obj)
 | [.ptr 0 0,.imm (.cons (.int .i64) (.cons (.int .u64) (.cons (.int .u64) (.cons (.cons (.int .i64) (.cons (.int .i64) (.cons .bool (.cons (.int .u64) (.cons (.sl (.int .u8)) (.cons (.sl (.int .u8)) .nil)))))) (.cons (.sl (.int .u8)) .nil))))) x],[.box [.own 1,.int .i64 room,.mapv 2,.int .i64 e],.row false (.int .u8) l,.map sq (.int .i64) (.int .i64) h]=>some (okL x/\0<=room/\room<=1000000/\l.length<=1000000,.tup [],[.box [.own 3,.int .i64 room,.mapv 2,.int .i64 (apE x l room e)],.dead,.map sq (.int .i64) (.int .i64) h,.row false (.int .u8) (apB x l room e)])
 | _,_=>none
theorem UQ_:ze_ Tryz.prog 13 (RcF VD_).sum:=by
 refine hn_ Tryz.func13 hK_ (zb_ (s:=RoF Kz_) wA_ (zb_ (s:=RwF zG_) z8_ (zb_ (s:=RoF Kc_) x7_ (zb_ (s:=RwF zx_) zD_ (zd_ _))))) fun args objs p v e=>?_
 unfold VD_ at e
 split at e
 ·rename_i x room e l sq h
  cases e
  change List Int at l
  change List AC at x
  refine ⟨rfl,fun hw' ho hp=>?_⟩
  clear hw' ho
  obtain ⟨hok,hp1,hp2,hp3⟩:=hp
  have hok':=hok
  have hn:=hok.n
  cases hr:rgL x with
  | false=>
    have e1:apE x l room e=Zh_ e 10001:=by unfold apE;rw [hr];rfl
    rw [e1]
    repeat'(intro t ht;first|(cases t<;>first|(cases ht;done)|(try simp only[zh_]at ht;try(exfalso;first|contradiction|omega)))|((first|refine za_ ht ?_|refine ht ?_ ?_|refine ht.1 ?_ ?_|refine ht ?_)<;>clear ht))
    all_goals first
     | exact True.intro
     | exact hok
     | (exfalso;simp_all;done)
     | exact ⟨rfl,rfl⟩
  | true=>
    have q1:apE x l room e=(wrS exA eeA room x l e).2:=if_pos hr
    have q2:apB x l room e=(wrS exA eeA room x l e).1:=if_pos hr
    rw [q1,q2]
    repeat'(intro t ht;first|(cases t<;>first|(cases ht;done)|(try simp only[zh_]at ht;try(exfalso;first|contradiction|omega)))|((first|refine za_ ht ?_|refine ht ?_ ?_|refine ht.1 ?_ ?_|refine ht ?_)<;>clear ht))
    all_goals first
     | exact True.intro
     | exact hok
     | (exfalso;simp_all;done)
     | (intro r h1 h2;clear h1;refine h2 ⟨[0,13,14,15],Option (Nat × List Int × Int),(fun a=>match a with | none=>True | some a=>0 < a.1/\a.1<=x.length/\a.2.1.length<=1000000/\wrS exA eeA room x l e=wrS exA eeA room (x.drop a.1) a.2.1 a.2.2),(fun a=>match a with | none=>[.ptr 0 0,.imm Y2 x,.int .i64 x.length,.int .i64 0] | some a=>[.ptr 0 0,.imm Y2 x,.int .i64 x.length,.int .i64 a.1]),(fun a=>match a with | none=>[.box [.own 1,.int .i64 room,.mapv 2,.int .i64 e],.row false (.int .u8) l,.map sq (.int .i64) (.int .i64) h] | some a=>[.box [.own 3,.int .i64 room,.mapv 2,.int .i64 a.2.2],.dead,.map sq (.int .i64) (.int .i64) h,.row false (.int .u8) a.2.1]),(fun a=>match a with | none=>x.length+1 | some a=>x.length - a.1),⟨none,True.intro,rfl,rfl⟩,?_⟩;clear h2)
    rintro (_ | ⟨i,b,f⟩) hJ
    ·repeat'(intro t ht;first|(cases t<;>first|(cases ht;done)|(try simp only[zh_]at ht;try(exfalso;first|contradiction|omega)))|((first|refine za_ ht ?_|refine ht ?_ ?_|refine ht.1 ?_ ?_|refine ht ?_)<;>clear ht))
     all_goals (try generalize (Ty.dflt Y2)=od at*)
     all_goals first
      | exact True.intro
      | ((try simp only [zn_,zo_,zi_] at*);omega)
      | exact ⟨hp1,hp2,hp3,zcE_ (a:=x.getD 0 od)⟩
      | exact zcb_ (hok'.a _ (zZ_ (show 0 < x.length by omega) od))
      | (have hx:x=[]:=List.eq_nil_of_length_eq_zero (by omega)
         subst hx;exact ⟨rfl,rfl⟩)
      | (have hs:=GP_ (x:=exA) (f:=eeA) (room:=room) (l:=x) (i:=0) (d:=od) (b:=l) (e:=e) (by omega)
         refine ⟨some (1,Jt_ (exA (x.getD 0 od)) l room (Zh_ e (eeA (x.getD 0 od))),WW_ (exA (x.getD 0 od)) l room (Zh_ e (eeA (x.getD 0 od)))),⟨Nat.one_pos,?_,?_,hs⟩,?_,rfl,rfl⟩
         ·dsimp only;omega
         ·exact HG_ hp3 hp2
         ·dsimp only;omega)
    ·obtain ⟨hi0,hi,hb,he⟩:=hJ
     dsimp only at hi0 hi hb he
     repeat'(intro t ht;first|(cases t<;>first|(cases ht;done)|(try simp only[zh_]at ht;try(exfalso;first|contradiction|omega)))|((first|refine za_ ht ?_|refine ht ?_ ?_|refine ht.1 ?_ ?_|refine ht ?_)<;>clear ht))
     all_goals (try generalize (Ty.dflt Y2)=od at*)
     all_goals first
      | exact True.intro
      | ((try simp only [zn_,zo_,zi_] at*);omega)
      | exact ⟨hp1,hp2,hb,zcE_ (a:=x.getD i od)⟩
      | exact zcb_ (hok'.a _ (zZ_ (show i < x.length by omega) od))
      | (rw [List.drop_of_length_le (show x.length<=i by omega)] at he
         have h1:wrS exA eeA room x l e=(b,f):=he
         rw [h1,decide_eq_true (show 0 < x.length by omega)];exact ⟨rfl,rfl⟩)
      | (refine ⟨some (i+1,Jt_ (exA (x.getD i od)) b room (Zh_ f (eeA (x.getD i od))),WW_ (exA (x.getD i od)) b room (Zh_ f (eeA (x.getD i od)))),⟨?_,?_,?_,he.trans (GP_ (d:=od) (show i < x.length by omega))⟩,?_,rfl,rfl⟩
         ·dsimp only;omega
         ·dsimp only;omega
         ·exact HG_ hb hp2
         ·dsimp only;omega)
 ·cases e
theorem x6_:ze_ Tryz.prog 13 (RwF JH_).sum:=by
 refine YP_ UQ_ fun args objs p v o e=>?_
 unfold JH_ at e
 split at e
 ·rename_i x room e l sq h
  cases e
  cases hb:(rgL x && decide (0 < x.length)) with
  | true=>exact ⟨_,_,rfl,Je_ hb,.inl rfl⟩
  | false=>
    refine ⟨_,_,rfl,Jf_ hb,.inr ⟨0,1,[],[.int .i64 room,.mapv 2,.int .i64 (apE x l room e)],.int .u8,l,rfl,rfl,?_⟩⟩
    have e1:apB x l room e=l:=by
     unfold apB
     split
     ·rename_i hr
      rw [hr,Bool.true_and,decide_eq_false_iff_not] at hb
      have hx:x=[]:=List.eq_nil_of_length_eq_zero (by omega)
      subst hx;rfl
     ·rfl
    rw [e1];rfl
 ·cases e
def boA (l:List AC):List Int:=l.flatMap ebA
theorem XI_ (o:AC) (r:List AC):boA (o :: r)=ebA o++boA r:=List.flatMap_cons
theorem YX_:∀ (l:List AC),l.all rgA=true->((boA l).length:Int)=smL l/\8*l.length<=(boA l).length
 | [],_=>⟨rfl,Nat.le_refl _⟩
 | o :: r,h=>by
   rw [List.all_cons,Bool.and_eq_true] at h
   obtain ⟨i1,i2⟩:=YX_ r h.2
   have hs:=Y1_ h.1
   unfold smL at i1 ⊢
   rw [XI_,List.length_append,List.map_cons,List.sum_cons,List.length_cons];omega
theorem ki_ {l:List AC} (h:rgL l=true):l.all rgA=true/\l.length<=64/\(boA l).length<=65528/\szL l=(boA l).length:=by
 unfold rgL at h
 rw [Bool.or_eq_true,decide_eq_true_eq,decide_eq_true_eq] at h
 rcases h with h | h
 ·have:l=[]:=List.eq_nil_of_length_eq_zero h
  subst this;exact ⟨rfl,Nat.zero_le _,Nat.zero_le _,rfl⟩
 ·unfold szL at h ⊢
  by_cases h1:64 < l.length
  ·rw [if_pos h1] at h;omega
  ·rw [if_neg h1] at h ⊢
   by_cases h2:l.all rgA=true
   ·rw [if_pos h2] at h ⊢
    by_cases h3:65528 < smL l
    ·rw [if_pos h3] at h;omega
    ·rw [if_neg h3]
     obtain ⟨b1,b2⟩:=YX_ l h2
     exact ⟨h2,by omega,by omega,b1.symm⟩
   ·rw [if_neg h2] at h;omega
theorem zeO_ {l:List AC} (h1:l.all rgA=true) (h2:l.length<=64) (h3:(boA l).length<=65528):rgL l=true:=by
 obtain ⟨b1,b2⟩:=YX_ l h1
 unfold rgL szL
 rw [if_neg (by omega),if_pos h1,if_neg (by omega),Bool.or_eq_true,decide_eq_true_eq,decide_eq_true_eq]
 omega
theorem zeD_ {l:List AC} (h:rgL l=false):szL l=0:=by
 unfold rgL at h
 rw [Bool.or_eq_false_iff,decide_eq_false_iff_not,decide_eq_false_iff_not] at h
 have:0<=szL l:=by
  unfold szL;repeat' split
  all_goals first | omega | skip
  have:=H1_ (l:=l) l.length (Nat.le_refl _)
  rw [U8_ (Nat.le_refl _)] at this;omega
 omega
theorem zfD_ {a:AC} (h:rgA a=true):exA a=ebA a/\eeA a=0:=⟨if_pos h,if_pos h⟩
theorem za9_ {room:Int}:∀ (r:List AC) (l:List Int),r.all rgA=true->(l.length:Int)+(boA r).length<=room->wrS exA eeA room r l 0=(l++boA r,0)
 | [],l,_,_=>by unfold boA wrS;simp
 | o :: r,l,h,hl=>by
   rw [List.all_cons,Bool.and_eq_true] at h
   obtain ⟨h2,h3⟩:=zfD_ h.1
   rw [XI_,List.length_append] at hl
   obtain ⟨b1,b2⟩:=xF_ (x:=ebA o) (l:=l) (room:=room) (by omega)
   have f0:Zh_ 0 0=0:=rfl
   unfold wrS
   rw [h2,h3,f0,b1,b2,za9_ r (l++ebA o) h.2 (by rw [List.length_append];omega),XI_,List.append_assoc]
theorem zeu_ {x:List AC} {l:List Int} {room:Int} (h:rgL x=true) (hl:(l.length:Int)+(boA x).length<=room):apB x l room 0=l++boA x/\apE x l room 0=0:=by
 unfold apB apE
 rw [if_pos h,if_pos h,za9_ x l (ki_ h).1 hl];exact ⟨rfl,rfl⟩
theorem zcZ_ {x:List AC} {l:List Int} {room e:Int} (h:rgL x=false):apB x l room e=l/\apE x l room e=Zh_ e 10001:=by
 unfold apB apE;rw [h];exact ⟨rfl,rfl⟩
def alL (l:List AC):List Int:=if rgL l=true then boA l else []
def alE (l:List AC):Int:=if rgL l=true then 0 else 10001
def v4_:IR:=
(sq (kr [0] [oD 2 (.mov (.c (.imm (.int .u8) []))),
oD 3 (.mov (cI 0))])
(sq (.reg [oC 5 11 [(cI 65528)],
oM 4 5])
(sq (.reg [oM 6 4,
oM 7 0,
oC 8 13 [6,7]])
(sq (kr [4] [oM 9 4,
oC 10 14 [9],
oX 11 10 0,
oX 12 10 1,
oM 2 11,
oM 3 12])
.ret))))
def vt_:List RD:=[.tmp 2 true (some (.int .u8)),.tmp 3 true none]
theorem vL_:zl_ Tryz.prog Tryz.f9 v4_ vt_=true:=by kernel_rfl
def kK_:List AV->List Obj->Option (Prop × AV)
 | [.imm ty0 x],[]=>ja_ ty0 Y2 x fun x=>some ((okL x,.tup [.imm (.int .u8) (alL x),.int .i64 (alE x)]))
 | _,_=>none
theorem JK_:ze_ Tryz.prog 9 (RoF kK_).sum:=by
 refine zm_ Tryz.func9 vL_ (zb_ (s:=RwF q1_) QJ_ (zb_ (s:=RwF JH_) x6_ (zb_ (s:=RwF z2_) Zx_ (zd_ _)))) fun args objs p v e=>?_
 unfold kK_ at e
 split at e
 ·rename_i ty0 x
  obtain rfl:=QW_ e
  replace e:=QX_ e
  cases e
  refine ⟨rfl,fun hw ho hp=>?_⟩
  change List AC at x
  clear hw ho
  have hroom:W3_ 65528=65528:=by decide
  have hok:=hp
  cases hr:rgL x with
  | false=>
    obtain ⟨b1,b2⟩:=zcZ_ (x:=x) (l:=[]) (room:=65528) (e:=0) hr
    have e1:alL x=[]:=by unfold alL;rw [hr];rfl
    have e2:alE x=10001:=by unfold alE;rw [hr];rfl
    have f1:Zh_ 0 10001=10001:=rfl
    rw [e1,e2]
    repeat'(intro t ht;first|(cases t<;>first|(cases ht;done)|(try simp only[zh_]at ht))|((first|refine za_ ht ?_|refine ht ?_ ?_|refine ht.1 ?_ ?_|refine ht ?_)<;>clear ht))
    all_goals (try simp only [hroom,b1,b2,f1] at*)
    all_goals first
     | exact True.intro
     | exact ⟨hok,by decide,by decide,by decide⟩
     | exact ⟨rfl,by first | rfl | exact True.intro⟩
     | (constructor<;>(try simp only [List.length_nil])<;>omega)
     | (exfalso;simp_all;done)
  | true=>
    obtain ⟨h1,h2,h3,h4⟩:=ki_ hr
    obtain ⟨b1,b2⟩:=zeu_ (x:=x) (l:=[]) (room:=65528) hr (by simp only [List.length_nil];omega)
    rw [List.nil_append] at b1
    have e1:alL x=boA x:=if_pos hr
    have e2:alE x=0:=if_pos hr
    rw [e1,e2]
    repeat'(intro t ht;first|(cases t<;>first|(cases ht;done)|(try simp only[zh_]at ht))|((first|refine za_ ht ?_|refine ht ?_ ?_|refine ht.1 ?_ ?_|refine ht ?_)<;>clear ht))
    all_goals (try simp only [hroom,b1,b2] at*)
    all_goals first
     | exact True.intro
     | exact ⟨hok,by decide,by decide,by decide⟩
     | exact ⟨rfl,by first | rfl | exact True.intro⟩
     | (constructor<;>(try simp only [List.length_nil])<;>omega)
     | (exfalso;simp_all;done)
 ·cases e
end Go.Eng
