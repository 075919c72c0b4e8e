/- Parts of the proof: PC, M5, PD, PE. No condition. -/
import Derived.Test.YtjajlkddpekdjaaGreatDoorProg
import Derived.Test.YtjajlkddpekdjaaGreatDoorXD10
import Derived.KernelRfl
import Derived.Test.YtjajlkddpekdjaaGreatDoorXD17
import Derived.Test.YtjajlkddpekdjaaGreatDoorXD15
namespace Go.Eng
open Go.Proofs
set_option linter.unusedVariables false
set_option linter.unusedSimpArgs false
set_option maxRecDepth 100000
set_option maxHeartbeats 1000000
structure PBo (a b:OV):Prop where
 n:lnV a<=1000
 ln:lnV a=lnV b
 la:a.2.2.1=true->a.2.2.2.2.2.1.length=lnV a
 lb:b.2.2.1=true->b.2.2.2.2.2.1.length=lnV b
 w:a.1=32768->fIs a.2.1=true/\0<=zB_ a.2.1/\zB_ a.2.1<=8*(lnV a:Int)
theorem by_ {o:OV} (h:o.2.2.1=true->o.2.2.2.2.2.1.length=lnV o):(mkO o).length=lnV o:=by
 unfold mkO mkL
 split
 ·exact h ‹_›
 ·exact List.length_replicate
def J4_ (M:List Int) (t:Nat):Bool:=decide (zk_ .and .u8 ((M.getD ((M.length:Int) - 1 - (t:Int).tdiv 8).toNat 0).fdiv (2 ^ (min ((t:Int).tmod 8).toNat 8))) 1=1)
theorem zbj_ {j:Nat} (h:j < 8):tb 1 j=decide (j=0):=by
 have:j=0\/j=1\/j=2\/j=3\/j=4\/j=5\/j=6\/j=7:=by omega
 rcases this with rfl | rfl | rfl | rfl | rfl | rfl | rfl | rfl<;>decide
theorem zbm_ {x:Int} (hx:isB x) (k:Nat):isB (x.fdiv (2 ^ k))/\∀ j,tb (x.fdiv (2 ^ k)) j=tb x (k+j):=by
 have e:x.fdiv (2 ^ k)=((x.toNat / 2 ^ k:Nat):Int):=by
  have h0:x=(x.toNat:Int):=by have:=hx.1;omega
  have h2:((2:Int) ^ k)=((2 ^ k:Nat):Int):=by rw [Int.natCast_pow];rfl
  rw [h2,Int.fdiv_eq_ediv_of_nonneg _ (Int.natCast_nonneg _)]
  conv=>lhs;rw [h0]
  exact (Int.natCast_ediv _ _).symm
 have hle:x.toNat / 2 ^ k<=x.toNat:=Nat.div_le_self _ _
 have h1:=hx.1
 have h2:=hx.2
 refine ⟨by rw [e];exact ⟨Int.natCast_nonneg _,by omega⟩,fun j=>?_⟩
 unfold tb
 rw [e,Int.toNat_natCast,Nat.testBit_div_two_pow]
 rw [Nat.add_comm]
theorem Bp_ {M:List Int} (hm:∀ z ∈ M,isB z) {t:Nat} (h:t < 8*M.length):J4_ M t=tb (M.getD (M.length - 1 - t / 8) 0) (t % 8):=by
 unfold J4_
 have e1:((M.length:Int) - 1 - (t:Int).tdiv 8).toNat=M.length - 1 - t / 8:=by
  rw [Int.tdiv_eq_ediv_of_nonneg (by omega)];omega
 have e2:min ((t:Int).tmod 8).toNat 8=t % 8:=by
  rw [Int.tmod_eq_emod_of_nonneg (by omega)];omega
 rw [e1,e2]
 obtain ⟨b1,b2⟩:=zbm_ (Go_ hm (M.length - 1 - t / 8)) (t % 8)
 have b3:=b2 0
 rw [Nat.add_zero] at b3
 rw [<- b3]
 have o1:isB (1:Int):=⟨by decide,by decide⟩
 rw [Bool.eq_iff_iff,decide_eq_true_eq]
 constructor
 ·intro k
  have k2:tb (zk_ .and .u8 ((M.getD (M.length - 1 - t / 8) 0).fdiv (2 ^ (t % 8))) 1) 0=tb 1 0:=by rw [k]
  rw [jz_ b1 o1,show tb 1 0=true by decide,Bool.and_true] at k2
  exact k2
 ·intro k
  refine v9_ (Kl_ _ _ _ (.inl rfl)) o1 fun j hj=>?_
  rw [jz_ b1 o1,zbj_ hj]
  by_cases e:j=0
  ·subst e;rw [k];rfl
  ·rw [decide_eq_false e,Bool.and_false]
theorem HC_ {c f:Int} {M:List Int} {w:Int} (hm:∀ z ∈ M,isB z) (hw:wdM c f M.length=w) (h0:0<=w) (hl:w<=8*(M.length:Int)) {t:Nat} (ht:w=t):(List.range t).all (J4_ M)=JD_ c f M:=by
 rw [Bool.eq_iff_iff,b0_ hm,hw,List.all_eq_true]
 constructor
 ·intro h i k hi hk ho
  have h1:=h (8*(M.length - 1 - i)+k) (List.mem_range.2 (by omega))
  rw [Bp_ hm (by omega)] at h1
  rw [show M.length - 1 - (8*(M.length - 1 - i)+k) / 8=i by omega,show (8*(M.length - 1 - i)+k) % 8=k by omega] at h1
  exact h1
 ·intro h s hs
  have hs:=List.mem_range.1 hs
  rw [Bp_ hm (by omega)]
  exact h _ _ (by omega) (by omega) (by omega)
theorem zaJ_ {c f:Int} {n:Nat} (h:c=32768->fIs f=true):wdM c f n=if c=32768 then zB_ f else 8*(n:Int):=by
 unfold wdM
 by_cases e:c=32768
 ·rw [if_pos ⟨e,h e⟩,if_pos e,(He_ f).1]
 ·rw [if_neg fun k=>e k.1,if_neg e]
theorem x4_ {l:List Int} {i:Nat} {y:Int} (h:i < l.length) (e:l.getD i 0=y):l.take i++[y]=l.take (i+1):=by
 rw [<- e,List.take_add_one,List.getD_eq_getElem?_getD,List.getElem?_eq_getElem h];rfl
theorem bj_ {c f:Int} {h:Bool} {x:Int} {v m:List Int} {c' f':Int} {h':Bool} {x':Int} {v' m':List Int} {i:Nat} (k:i < v.length) (e:v.length=v'.length):(orM (c,f,h,x,v,m,()) (c',f',h',x',v',m',())).getD i 0=zk_ .or .u8 ((mkL h v m).getD i 0) ((mkL h' v' m').getD i 0):=by
 have h1:(mkL h v m).getD i 0=mB (c,f,h,x,v,m,()) i:=hd_ (o:=(c,f,h,x,v,m,())) k
 have h2:(mkL h' v' m').getD i 0=mB (c',f',h',x',v',m',()) i:=hd_ (o:=(c',f',h',x',v',m',())) (show i < v'.length by omega)
 rw [h1,h2];exact wv_ k
def UQ_:IR:=
(sq (kr [0,1] [oD 2 (.boxv 0),
oD 3 (.boxv 1),
oD 4 (.box [.int .i64 0,.int .i64 0,.kb false,.int .u64 0,.nils,.nils])])
(sq (kd [2,3,4] [(oK 14 6 2,[]),
(oC 15 52 [14],[]),
(oK 16 6 3,[0,0]),
(oC 17 52 [16],[]),
(oM 5 15,[]),
(oM 6 17,[])])
(sq (kr [2,3,4,5,6] [oA 18 0 2,
oL 19 18,
oA 20 1 2,
oL 21 20,
oA 22 3 2,
oL 23 22,
oA 24 2 2,
oL 25 24,
oM 26 25,
oT 26 27 (.fieldAddr 2 3),
oT 26 28 (.load none 27),
oP 29 26 28 cF,
oD 30 (.build [.int .i64 0,.int .i64 0,.kb false,.int .u64 0,.nils,.nils] [(0,1,19),(1,1,21),(3,1,23),(2,1,29)]),
oD 7 (.box [.int .i64 0,.int .i64 0,.kb false,.int .u64 0,.nils,.nils]),
oS 6 7 30])
(sq (kr [2,3,4,5,6,7] [oA 32 1 2,
oL 33 32,
oC 34 53 [33],
oM 31 34,
oX 35 31 0,
oX 36 31 1,
oD 8 (.box [.str [],.int .i64 0,.int .i64 0,.kb false,.int .i64 0,.nils]),
oS 6 8 35,
oM 9 36])
(sq (kr [2,3,4,5,6,7,8] [oD 10 (.mov cT)])
(sq (sq (.reg [oD 11 (.mov (cI 0))])
(.block 0
(.loop
(sq (sq (kr [2,3,4,5,6,7,8,10,11] [oM 37 11,
oA 38 4 2,
oL 39 38,
oE 40 39,
oB 41 .lss 37 40])
(.cond 41
.skip
(.exit 0)))
(sq (.block 1
(sq (kd [2,3,4,5,6,7,8,10,11] [(oA 44 4 7,[]),
(oL 45 44,[]),
(oA 46 4 2,[0,0]),
(oL 47 46,[1,0]),
(oM 48 11,[0,0,0,0]),
(oI 49 1 47 48,[3,0]),
(oL 50 49,[4,0]),
(oA 51 4 3,[0,0,0,0,0,0,0]),
(oL 52 51,[1,0,0,0,0,0,0]),
(oM 53 11,[0,0,0,0,0,0,0,0,0]),
(oI 54 1 52 53,[3,0,0,0,0,0,0]),
(oL 55 54,[4,0,0,0,0,0,0]),
(oB 56 .or 50 55,[10,0]),
(oD 57 (.sliceAll (.int .u8) 1 [(0,1,56)]),[11,0]),
(oD 58 (.append (.int .u8) 1 45 57),[]),
(oA 59 4 7,[]),
(oS 1 59 58,[])])
(kd [2,3,4,5,6,7,8,10,11] [(oA 60 5 7,[]),
(oL 61 60,[]),
(oM 62 5,[0,0]),
(oM 63 11,[0,0,0]),
(oI 64 1 62 63,[2,0]),
(oL 65 64,[3,0]),
(oM 66 6,[0,0,0,0,0,0]),
(oM 67 11,[0,0,0,0,0,0,0]),
(oI 68 1 66 67,[2,0,0,0,0,0]),
(oL 69 68,[3,0,0,0,0,0]),
(oB 70 .or 65 69,[8,0]),
(oD 71 (.sliceAll (.int .u8) 1 [(0,1,70)]),[9,0]),
(oD 72 (.append (.int .u8) 1 61 71),[]),
(oA 73 5 7,[]),
(oS 1 73 72,[])])))
(kr [2,3,4,5,6,7,8,10,11] [oM 42 11,
oB 43 .add 42 (cI 1),
oM 11 43]))))))
(sq (kr [2,4,7,8,10] [oA 74 5 7,
oL 75 74,
oE 76 75,
oB 77 .mul (cI 8) 76,
oM 12 77])
(sq (sq (.reg [oA 78 0 2,
oL 79 78,
oB 80 .eql 79 (cI 32768)])
(.cond 80
(kr [4,7,8,10] [oA 81 1 8,
oL 82 81,
oM 12 82])
.skip))
(sq (sq (kr [4,7,10,12] [oD 13 (.mov (cI 0))])
(.block 2
(.loop
(sq (sq (kr [4,7,10,12,13] [oM 83 13,
oM 84 12,
oB 85 .lss 83 84])
(.cond 85
.skip
(.exit 2)))
(sq (.block 3
(kr [4,7,10,12,13] [oM 88 10,
oM 89 88,
oT 89 90 (.fieldAddr 5 7),
oT 89 91 (.load none 90),
oT 89 92 (.fieldAddr 5 7),
oT 89 93 (.load none 92),
oT 89 94 (.len 93),
oT 89 95 (.bin .sub 94 (cI 1)),
oT 89 96 (.mov 13),
oT 89 97 (.bin .quo 96 (cI 8)),
oT 89 98 (.bin .sub 95 97),
oT 89 99 (.indexSl 1 91 98),
oT 89 100 (.load none 99),
oT 89 101 (.mov 13),
oT 89 102 (.bin .rem 101 (cI 8)),
oT 89 103 (.bin .shr 100 102),
oT 89 104 (.bin .and 103 (.c (.int .u8 1))),
oT 89 105 (.bin .eql 104 (.c (.int .u8 1))),
oP 106 89 105 cF,
oM 10 106]))
(kr [4,7,10,12,13] [oM 86 13,
oB 87 .add 86 (cI 1),
oM 13 87]))))))
(sq (sq (kr [4,7,10] [oA 107 2 7,
oL 108 107,
oD 109 (.un .not 108),
oM 110 109,
oF 110 111 (.mov 10),
oP 112 110 cT 111])
(.cond 112
(sq (kr [4,7] [oA 113 2 7,
oN (.store 1 113 cF)])
(.reg [oA 114 5 7,
oN (.store 1 114 (.c (.nils)))]))
.skip))
(sq (kr [4,7] [oK 115 6 7,
oS 6 4 115])
.ret)))))))))))
def u4_:List RD:=[.cell 4 (some 6) true [none,none,none,none,(some (.int .u8)),(some (.int .u8))]]
theorem Um_:zl_ Tryz.prog Tryz.f24 UQ_ u4_=true:=by kernel_rfl
def J5_:List AV->List Obj->Option (Prop × AV)
 | [.agg [.int .i64 c,.int .i64 f,.bool h,.int .u64 x,.imm (.int .u8) v,.imm (.int .u8) m],.agg [.int .i64 c',.int .i64 f',.bool h',.int .u64 x',.imm (.int .u8) v',.imm (.int .u8) m']],[]=>some ((PBo (c,f,h,x,v,m,()) (c',f',h',x',v',m',()),.agg [.int .i64 c,.int .i64 f,.bool (vc_ (c,f,h,x,v,m,()) (c',f',h',x',v',m',())),.int .u64 x,.imm (.int .u8) (orV (c,f,h,x,v,m,()) (c',f',h',x',v',m',())),.imm (.int .u8) (if vc_ (c,f,h,x,v,m,()) (c',f',h',x',v',m',())=true then orM (c,f,h,x,v,m,()) (c',f',h',x',v',m',()) else [])]))
 | _,_=>none
theorem Vb_:zf_ Tryz.prog 24 (RoF J5_).sum:=by
 refine zh_ Tryz.func24 Um_ (zb_ (s:=RoF K7_) wp_ (zb_ (s:=RoF kV_) kK_ (zd_ _))) fun args objs p v e=>?_
 unfold J5_ at e
 split at e
 ·rename_i c f h x v m c' f' h' x' v' m'
  cases e
  refine ⟨rfl,fun hw ho hp=>?_⟩
  change List Int at v
  change List Int at m
  change List Int at v'
  change List Int at m'
  clear hw ho
  obtain ⟨p1,p2,p3,p4,p5⟩:=hp
  have k1:=by_ p3
  have k2:=by_ p4
  have p1:v.length<=1000:=p1
  have p2:v.length=v'.length:=p2
  have k1:(mkL h v m).length=v.length:=k1
  have k2:(mkL h' v' m').length=v'.length:=k2
  have p5:c=32768->fIs f=true/\0<=zB_ f/\zB_ f<=8*(v.length:Int):=p5
  clear p3 p4
  cases h with
  | false=>
    have hl0:v.length=0->v=[]:=fun h=>List.eq_nil_of_length_eq_zero h
    have oV:(orV (c,f,false,x,v,m,()) (c',f',h',x',v',m',())).length=v.length:=by unfold orV;rw [List.length_map,List.length_range];rfl
    have oM:(orM (c,f,false,x,v,m,()) (c',f',h',x',v',m',())).length=v.length:=x8_ _ _
    have gV:=fun i (k:i < v.length)=>x4_ (l:=orV (c,f,false,x,v,m,()) (c',f',h',x',v',m',())) (i:=i) (y:=zk_ .or .u8 (v.getD i 0) (v'.getD i 0)) (by omega) (wv_ k)
    have gM:=fun i (k:i < v.length)=>x4_ (l:=orM (c,f,false,x,v,m,()) (c',f',h',x',v',m',())) (i:=i) (y:=zk_ .or .u8 ((mkL false v m).getD i 0) ((mkL h' v' m').getD i 0)) (by omega) (bj_ k p2)
    repeat'(intro t ht;first|(cases t<;>first|(cases ht;done)|(try simp only[zg_]at ht;try(exfalso;first|contradiction|omega)))|((first|refine za_ ht ?_|refine ht ?_ ?_|refine ht.1 ?_ ?_|refine ht ?_)<;>clear ht))
    all_goals first
     | exact True.intro
     | omega
     | (refine ⟨?_,?_⟩<;>omega)
     | (intro r h1 h2;clear h1;refine h2 ⟨[2,3,4,5,6,7,8,10,11],Option Nat,(fun a=>match a with | none=>True | some i=>i+1<=v.length),(fun a=>[.ptr 0 0,.ptr 1 0,.ptr 2 0,.imm (.int .u8) (mkL false v m),.imm (.int .u8) (mkL h' v' m'),.ptr 3 0,.ptr 4 0,.bool true,.int .i64 (match a with | none=>(0:Int) | some i=>((i+1:Nat):Int))]),(fun a=>match a with | none=>[.box [.int .i64 c,.int .i64 f,.bool false,.int .u64 x,.imm (.int .u8) v,.imm (.int .u8) m],.box [.int .i64 c',.int .i64 f',.bool h',.int .u64 x',.imm (.int .u8) v',.imm (.int .u8) m'],.box [.int .i64 0,.int .i64 0,.bool false,.int .u64 0,.nils,.nils],.box [.int .i64 c,.int .i64 f,.bool false,.int .u64 x,.nils,.nils],.box [.str (kO_ f),.int .i64 (zB_ f),.int .i64 (zy_ f),.bool (qX_ f),.int .i64 (qv_ f),.imm (.int .u64) (qu_ f)]] | some i=>[.box [.int .i64 c,.int .i64 f,.bool false,.int .u64 x,.imm (.int .u8) v,.imm (.int .u8) m],.box [.int .i64 c',.int .i64 f',.bool h',.int .u64 x',.imm (.int .u8) v',.imm (.int .u8) m'],.box [.int .i64 0,.int .i64 0,.bool false,.int .u64 0,.nils,.nils],.box [.int .i64 c,.int .i64 f,.bool false,.int .u64 x,.own 5,.own 6],.box [.str (kO_ f),.int .i64 (zB_ f),.int .i64 (zy_ f),.bool (qX_ f),.int .i64 (qv_ f),.imm (.int .u64) (qu_ f)],.row false (.int .u8) ((orV (c,f,false,x,v,m,()) (c',f',h',x',v',m',())).take (i+1)),.row false (.int .u8) ((orM (c,f,false,x,v,m,()) (c',f',h',x',v',m',())).take (i+1))]),(fun a=>match a with | none=>v.length | some i=>v.length - (i+1)),⟨none,True.intro,rfl,rfl⟩,?_⟩;clear h2)
    rintro (_ | i) hJ
    ·clear hJ
     repeat'(intro t ht;first|(cases t<;>first|(cases ht;done)|(try simp only[zg_]at ht;try(exfalso;first|contradiction|omega)))|((first|refine za_ ht ?_|refine ht ?_ ?_|refine ht.1 ?_ ?_|refine ht ?_)<;>clear ht))
     all_goals (try dsimp only at*)
     all_goals first
      | exact True.intro
      | omega
      | ((try dsimp only);simp only [zj_];omega)
      | (refine ⟨?_,?_⟩<;>omega)
      | (simp only [List.length_cons,List.length_nil];constructor<;>omega)
      | (simp only [zj_,List.length_nil];omega)
      | (refine ⟨some 0,by show 0+1<=v.length;omega,by dsimp only;omega,rfl,?_⟩
         dsimp only
         rw [<- gV 0 (by omega),<- gM 0 (by omega)]
         rfl)
      | (intro r h1 h2;clear h1;refine h2 ⟨[4,7,10,12,13],Nat,(fun t=>t=0),fun t=>[.ptr 0 0,.ptr 1 0,.bool true,.int .i64 (zB_ f),.int .i64 t],fun t=>[.box [.int .i64 0,.int .i64 0,.bool false,.int .u64 0,.nils,.nils],.box [.int .i64 c,.int .i64 f,.bool false,.int .u64 x,.nils,.nils]],fun t=>0 - t,⟨0,rfl,rfl,rfl⟩,?_⟩;clear h2)
      | (intro r h1 h2;clear h1;refine h2 ⟨[4,7,10,12,13],Nat,(fun t=>t=0),fun t=>[.ptr 0 0,.ptr 1 0,.bool true,.int .i64 (0),.int .i64 t],fun t=>[.box [.int .i64 0,.int .i64 0,.bool false,.int .u64 0,.nils,.nils],.box [.int .i64 c,.int .i64 f,.bool false,.int .u64 x,.nils,.nils]],fun t=>0 - t,⟨0,rfl,rfl,rfl⟩,?_⟩;clear h2)
     all_goals rintro q rfl
     all_goals have v0:v=[]:=hl0 (by omega)
     all_goals have q5:=fun k=>p5 k
     all_goals subst v0
     all_goals (try dsimp only [List.length_nil] at q5)
     all_goals repeat'(intro t ht;first|(cases t<;>first|(cases ht;done)|(try simp only[zg_]at ht;try(exfalso;first|contradiction|omega)))|((first|refine za_ ht ?_|refine ht ?_ ?_|refine ht.1 ?_ ?_|refine ht ?_)<;>clear ht))
     all_goals first
      | exact True.intro
      | omega
      | (exfalso;have:=q5 (by assumption);omega)
      | exact ⟨rfl,rfl⟩
      | (cases h'<;>exact ⟨rfl,rfl⟩)
      | (exfalso;simp only [List.length_nil] at*;omega)
    ·have hJ:i+1<=v.length:=hJ
     have tV:((orV (c,f,false,x,v,m,()) (c',f',h',x',v',m',())).take (i+1)).length=i+1:=by rw [List.length_take];omega
     have tM:((orM (c,f,false,x,v,m,()) (c',f',h',x',v',m',())).take (i+1)).length=i+1:=by rw [List.length_take];omega
     repeat'(intro t ht;first|(cases t<;>first|(cases ht;done)|(try simp only[zg_]at ht;try(exfalso;first|contradiction|omega)))|((first|refine za_ ht ?_|refine ht ?_ ?_|refine ht.1 ?_ ?_|refine ht ?_)<;>clear ht))
     all_goals (try dsimp only at*)
     all_goals first
      | exact True.intro
      | omega
      | ((try dsimp only);simp only [zj_];omega)
      | (refine ⟨?_,?_⟩<;>omega)
      | (simp only [List.length_cons,List.length_nil,tV,tM];constructor<;>omega)
      | (simp only [zj_,List.length_nil];omega)
      | (refine ⟨some (i+1),by show i+1+1<=v.length;omega,by dsimp only;omega,rfl,?_⟩
         dsimp only
         rw [<- gV (i+1) (by omega),<- gM (i+1) (by omega)]
         rfl)
      | (intro r h1 h2;clear h1;refine h2 ⟨[4,7,10,12,13],Nat,(fun t=>(t:Int)<=zB_ f),fun t=>[.ptr 0 0,.ptr 1 0,.bool ((List.range t).all (J4_ ((orM (c,f,false,x,v,m,()) (c',f',h',x',v',m',())).take (i+1)))),.int .i64 (zB_ f),.int .i64 t],fun t=>[.box [.int .i64 0,.int .i64 0,.bool false,.int .u64 0,.nils,.nils],.box [.int .i64 c,.int .i64 f,.bool false,.int .u64 x,.own 2,.own 3],.row false (.int .u8) ((orV (c,f,false,x,v,m,()) (c',f',h',x',v',m',())).take (i+1)),.row false (.int .u8) ((orM (c,f,false,x,v,m,()) (c',f',h',x',v',m',())).take (i+1))],fun t=>(zB_ f).toNat - t,⟨0,(by have:=p5 (by assumption);omega),rfl,rfl⟩,?_⟩;clear h2)
      | (intro r h1 h2;clear h1;refine h2 ⟨[4,7,10,12,13],Nat,(fun t=>(t:Int)<=8*(((orM (c,f,false,x,v,m,()) (c',f',h',x',v',m',())).take (i+1)).length:Int)),fun t=>[.ptr 0 0,.ptr 1 0,.bool ((List.range t).all (J4_ ((orM (c,f,false,x,v,m,()) (c',f',h',x',v',m',())).take (i+1)))),.int .i64 (8*(((orM (c,f,false,x,v,m,()) (c',f',h',x',v',m',())).take (i+1)).length:Int)),.int .i64 t],fun t=>[.box [.int .i64 0,.int .i64 0,.bool false,.int .u64 0,.nils,.nils],.box [.int .i64 c,.int .i64 f,.bool false,.int .u64 x,.own 2,.own 3],.row false (.int .u8) ((orV (c,f,false,x,v,m,()) (c',f',h',x',v',m',())).take (i+1)),.row false (.int .u8) ((orM (c,f,false,x,v,m,()) (c',f',h',x',v',m',())).take (i+1))],fun t=>(8*(((orM (c,f,false,x,v,m,()) (c',f',h',x',v',m',())).take (i+1)).length:Int)).toNat - t,⟨0,(by omega),rfl,rfl⟩,?_⟩;clear h2)
     all_goals rintro q htW
     all_goals have htd:(q:Int).tdiv 8=q / 8:=ku_ (by omega)
     all_goals have htm:(q:Int).tmod 8=q % 8:=Jf_ (by omega)
     all_goals repeat'(intro t ht;first|(cases t<;>first|(cases ht;done)|(try simp only[zg_]at ht;try(exfalso;first|contradiction|omega)))|((first|refine za_ ht ?_|refine ht ?_ ?_|refine ht.1 ?_ ?_|refine ht ?_)<;>clear ht))
     all_goals first
      | exact True.intro
      | exact (by decide)
      | omega
      | ((try dsimp only);simp only [zj_];omega)
      | ((try simp only [zq_,zr_,zj_] at*);simp only [htd,htm];omega)
      | (have e:(List.range (q+1)).all (J4_ ((orM (c,f,false,x,v,m,()) (c',f',h',x',v',m',())).take (i+1)))=J4_ ((orM (c,f,false,x,v,m,()) (c',f',h',x',v',m',())).take (i+1)) q:=by rw [List.range_succ,List.all_append,ht];simp
         refine ⟨q+1,by dsimp only;omega,by dsimp only;omega,?_,rfl⟩
         dsimp only
         rw [e];rfl)
      | (have e:(List.range (q+1)).all (J4_ ((orM (c,f,false,x,v,m,()) (c',f',h',x',v',m',())).take (i+1)))=false:=by rw [List.range_succ,List.all_append,ht];rfl
         refine ⟨q+1,by dsimp only;omega,by dsimp only;omega,?_,rfl⟩
         dsimp only
         rw [e];rfl)
      | (have eM:(orM (c,f,false,x,v,m,()) (c',f',h',x',v',m',())).take (i+1)=orM (c,f,false,x,v,m,()) (c',f',h',x',v',m',()):=List.take_of_length_le (by omega)
         have eV:(orV (c,f,false,x,v,m,()) (c',f',h',x',v',m',())).take (i+1)=orV (c,f,false,x,v,m,()) (c',f',h',x',v',m',()):=List.take_of_length_le (by omega)
         refine ⟨?_,rfl⟩
         rw [eV];rfl)
  | true=>
    have hl0:v.length=0->v=[]:=fun h=>List.eq_nil_of_length_eq_zero h
    have oV:(orV (c,f,true,x,v,m,()) (c',f',h',x',v',m',())).length=v.length:=by unfold orV;rw [List.length_map,List.length_range];rfl
    have oM:(orM (c,f,true,x,v,m,()) (c',f',h',x',v',m',())).length=v.length:=x8_ _ _
    have gV:=fun i (k:i < v.length)=>x4_ (l:=orV (c,f,true,x,v,m,()) (c',f',h',x',v',m',())) (i:=i) (y:=zk_ .or .u8 (v.getD i 0) (v'.getD i 0)) (by omega) (wv_ k)
    have gM:=fun i (k:i < v.length)=>x4_ (l:=orM (c,f,true,x,v,m,()) (c',f',h',x',v',m',())) (i:=i) (y:=zk_ .or .u8 ((mkL true v m).getD i 0) ((mkL h' v' m').getD i 0)) (by omega) (bj_ k p2)
    repeat'(intro t ht;first|(cases t<;>first|(cases ht;done)|(try simp only[zg_]at ht;try(exfalso;first|contradiction|omega)))|((first|refine za_ ht ?_|refine ht ?_ ?_|refine ht.1 ?_ ?_|refine ht ?_)<;>clear ht))
    all_goals first
     | exact True.intro
     | omega
     | (refine ⟨?_,?_⟩<;>omega)
     | (intro r h1 h2;clear h1;refine h2 ⟨[2,3,4,5,6,7,8,10,11],Option Nat,(fun a=>match a with | none=>True | some i=>i+1<=v.length),(fun a=>[.ptr 0 0,.ptr 1 0,.ptr 2 0,.imm (.int .u8) (mkL true v m),.imm (.int .u8) (mkL h' v' m'),.ptr 3 0,.ptr 4 0,.bool true,.int .i64 (match a with | none=>(0:Int) | some i=>((i+1:Nat):Int))]),(fun a=>match a with | none=>[.box [.int .i64 c,.int .i64 f,.bool true,.int .u64 x,.imm (.int .u8) v,.imm (.int .u8) m],.box [.int .i64 c',.int .i64 f',.bool h',.int .u64 x',.imm (.int .u8) v',.imm (.int .u8) m'],.box [.int .i64 0,.int .i64 0,.bool false,.int .u64 0,.nils,.nils],.box [.int .i64 c,.int .i64 f,.bool h',.int .u64 x,.nils,.nils],.box [.str (kO_ f),.int .i64 (zB_ f),.int .i64 (zy_ f),.bool (qX_ f),.int .i64 (qv_ f),.imm (.int .u64) (qu_ f)]] | some i=>[.box [.int .i64 c,.int .i64 f,.bool true,.int .u64 x,.imm (.int .u8) v,.imm (.int .u8) m],.box [.int .i64 c',.int .i64 f',.bool h',.int .u64 x',.imm (.int .u8) v',.imm (.int .u8) m'],.box [.int .i64 0,.int .i64 0,.bool false,.int .u64 0,.nils,.nils],.box [.int .i64 c,.int .i64 f,.bool h',.int .u64 x,.own 5,.own 6],.box [.str (kO_ f),.int .i64 (zB_ f),.int .i64 (zy_ f),.bool (qX_ f),.int .i64 (qv_ f),.imm (.int .u64) (qu_ f)],.row false (.int .u8) ((orV (c,f,true,x,v,m,()) (c',f',h',x',v',m',())).take (i+1)),.row false (.int .u8) ((orM (c,f,true,x,v,m,()) (c',f',h',x',v',m',())).take (i+1))]),(fun a=>match a with | none=>v.length | some i=>v.length - (i+1)),⟨none,True.intro,rfl,rfl⟩,?_⟩;clear h2)
    rintro (_ | i) hJ
    ·clear hJ
     repeat'(intro t ht;first|(cases t<;>first|(cases ht;done)|(try simp only[zg_]at ht;try(exfalso;first|contradiction|omega)))|((first|refine za_ ht ?_|refine ht ?_ ?_|refine ht.1 ?_ ?_|refine ht ?_)<;>clear ht))
     all_goals (try dsimp only at*)
     all_goals first
      | exact True.intro
      | omega
      | ((try dsimp only);simp only [zj_];omega)
      | (refine ⟨?_,?_⟩<;>omega)
      | (simp only [List.length_cons,List.length_nil];constructor<;>omega)
      | (simp only [zj_,List.length_nil];omega)
      | (refine ⟨some 0,by show 0+1<=v.length;omega,by dsimp only;omega,rfl,?_⟩
         dsimp only
         rw [<- gV 0 (by omega),<- gM 0 (by omega)]
         rfl)
      | (intro r h1 h2;clear h1;refine h2 ⟨[4,7,10,12,13],Nat,(fun t=>t=0),fun t=>[.ptr 0 0,.ptr 1 0,.bool true,.int .i64 (zB_ f),.int .i64 t],fun t=>[.box [.int .i64 0,.int .i64 0,.bool false,.int .u64 0,.nils,.nils],.box [.int .i64 c,.int .i64 f,.bool h',.int .u64 x,.nils,.nils]],fun t=>0 - t,⟨0,rfl,rfl,rfl⟩,?_⟩;clear h2)
      | (intro r h1 h2;clear h1;refine h2 ⟨[4,7,10,12,13],Nat,(fun t=>t=0),fun t=>[.ptr 0 0,.ptr 1 0,.bool true,.int .i64 (0),.int .i64 t],fun t=>[.box [.int .i64 0,.int .i64 0,.bool false,.int .u64 0,.nils,.nils],.box [.int .i64 c,.int .i64 f,.bool h',.int .u64 x,.nils,.nils]],fun t=>0 - t,⟨0,rfl,rfl,rfl⟩,?_⟩;clear h2)
     all_goals rintro q rfl
     all_goals have v0:v=[]:=hl0 (by omega)
     all_goals have q5:=fun k=>p5 k
     all_goals subst v0
     all_goals (try dsimp only [List.length_nil] at q5)
     all_goals repeat'(intro t ht;first|(cases t<;>first|(cases ht;done)|(try simp only[zg_]at ht;try(exfalso;first|contradiction|omega)))|((first|refine za_ ht ?_|refine ht ?_ ?_|refine ht.1 ?_ ?_|refine ht ?_)<;>clear ht))
     all_goals first
      | exact True.intro
      | omega
      | (exfalso;have:=q5 (by assumption);omega)
      | exact ⟨rfl,rfl⟩
      | (cases h'<;>exact ⟨rfl,rfl⟩)
      | (exfalso;simp only [List.length_nil] at*;omega)
    ·have hJ:i+1<=v.length:=hJ
     have tV:((orV (c,f,true,x,v,m,()) (c',f',h',x',v',m',())).take (i+1)).length=i+1:=by rw [List.length_take];omega
     have tM:((orM (c,f,true,x,v,m,()) (c',f',h',x',v',m',())).take (i+1)).length=i+1:=by rw [List.length_take];omega
     repeat'(intro t ht;first|(cases t<;>first|(cases ht;done)|(try simp only[zg_]at ht;try(exfalso;first|contradiction|omega)))|((first|refine za_ ht ?_|refine ht ?_ ?_|refine ht.1 ?_ ?_|refine ht ?_)<;>clear ht))
     all_goals (try dsimp only at*)
     all_goals first
      | exact True.intro
      | omega
      | ((try dsimp only);simp only [zj_];omega)
      | (refine ⟨?_,?_⟩<;>omega)
      | (simp only [List.length_cons,List.length_nil,tV,tM];constructor<;>omega)
      | (simp only [zj_,List.length_nil];omega)
      | (refine ⟨some (i+1),by show i+1+1<=v.length;omega,by dsimp only;omega,rfl,?_⟩
         dsimp only
         rw [<- gV (i+1) (by omega),<- gM (i+1) (by omega)]
         rfl)
      | (intro r h1 h2;clear h1;refine h2 ⟨[4,7,10,12,13],Nat,(fun t=>(t:Int)<=zB_ f),fun t=>[.ptr 0 0,.ptr 1 0,.bool ((List.range t).all (J4_ ((orM (c,f,true,x,v,m,()) (c',f',h',x',v',m',())).take (i+1)))),.int .i64 (zB_ f),.int .i64 t],fun t=>[.box [.int .i64 0,.int .i64 0,.bool false,.int .u64 0,.nils,.nils],.box [.int .i64 c,.int .i64 f,.bool h',.int .u64 x,.own 2,.own 3],.row false (.int .u8) ((orV (c,f,true,x,v,m,()) (c',f',h',x',v',m',())).take (i+1)),.row false (.int .u8) ((orM (c,f,true,x,v,m,()) (c',f',h',x',v',m',())).take (i+1))],fun t=>(zB_ f).toNat - t,⟨0,(by have:=p5 (by assumption);omega),rfl,rfl⟩,?_⟩;clear h2)
      | (intro r h1 h2;clear h1;refine h2 ⟨[4,7,10,12,13],Nat,(fun t=>(t:Int)<=8*(((orM (c,f,true,x,v,m,()) (c',f',h',x',v',m',())).take (i+1)).length:Int)),fun t=>[.ptr 0 0,.ptr 1 0,.bool ((List.range t).all (J4_ ((orM (c,f,true,x,v,m,()) (c',f',h',x',v',m',())).take (i+1)))),.int .i64 (8*(((orM (c,f,true,x,v,m,()) (c',f',h',x',v',m',())).take (i+1)).length:Int)),.int .i64 t],fun t=>[.box [.int .i64 0,.int .i64 0,.bool false,.int .u64 0,.nils,.nils],.box [.int .i64 c,.int .i64 f,.bool h',.int .u64 x,.own 2,.own 3],.row false (.int .u8) ((orV (c,f,true,x,v,m,()) (c',f',h',x',v',m',())).take (i+1)),.row false (.int .u8) ((orM (c,f,true,x,v,m,()) (c',f',h',x',v',m',())).take (i+1))],fun t=>(8*(((orM (c,f,true,x,v,m,()) (c',f',h',x',v',m',())).take (i+1)).length:Int)).toNat - t,⟨0,(by omega),rfl,rfl⟩,?_⟩;clear h2)
     all_goals rintro q htW
     all_goals have htd:(q:Int).tdiv 8=q / 8:=ku_ (by omega)
     all_goals have htm:(q:Int).tmod 8=q % 8:=Jf_ (by omega)
     all_goals repeat'(intro t ht;first|(cases t<;>first|(cases ht;done)|(try simp only[zg_]at ht;try(exfalso;first|contradiction|omega)))|((first|refine za_ ht ?_|refine ht ?_ ?_|refine ht.1 ?_ ?_|refine ht ?_)<;>clear ht))
     all_goals first
      | exact True.intro
      | exact (by decide)
      | omega
      | ((try dsimp only);simp only [zj_];omega)
      | ((try simp only [zq_,zr_,zj_] at*);simp only [htd,htm];omega)
      | (have e:(List.range (q+1)).all (J4_ ((orM (c,f,true,x,v,m,()) (c',f',h',x',v',m',())).take (i+1)))=J4_ ((orM (c,f,true,x,v,m,()) (c',f',h',x',v',m',())).take (i+1)) q:=by rw [List.range_succ,List.all_append,ht];simp
         refine ⟨q+1,by dsimp only;omega,by dsimp only;omega,?_,rfl⟩
         dsimp only
         rw [e];rfl)
      | (have e:(List.range (q+1)).all (J4_ ((orM (c,f,true,x,v,m,()) (c',f',h',x',v',m',())).take (i+1)))=false:=by rw [List.range_succ,List.all_append,ht];rfl
         refine ⟨q+1,by dsimp only;omega,by dsimp only;omega,?_,rfl⟩
         dsimp only
         rw [e];rfl)
      | (have eM:(orM (c,f,true,x,v,m,()) (c',f',h',x',v',m',())).take (i+1)=orM (c,f,true,x,v,m,()) (c',f',h',x',v',m',()):=List.take_of_length_le (by omega)
         have eV:(orV (c,f,true,x,v,m,()) (c',f',h',x',v',m',())).take (i+1)=orV (c,f,true,x,v,m,()) (c',f',h',x',v',m',()):=List.take_of_length_le (by omega)
         have hb:(List.range q).all (J4_ (orM (c,f,true,x,v,m,()) (c',f',h',x',v',m',())))=JD_ c f (orM (c,f,true,x,v,m,()) (c',f',h',x',v',m',())):=by
          refine HC_ (w:=(q:Int)) (zcb_ _ _) ?_ (by omega) (by rw [oM];first | omega | (have:=p5 (by assumption);omega)) rfl
          rw [zaJ_ fun e=>(p5 e).1]
          first | (rw [if_pos (by assumption)];omega) | (rw [if_neg (by assumption),oM];omega)
         have hH:vc_ (c,f,true,x,v,m,()) (c',f',h',x',v',m',())=(h' && !(List.range q).all (J4_ (orM (c,f,true,x,v,m,()) (c',f',h',x',v',m',())))):=by
          unfold vc_;dsimp only;rw [hb,Bool.true_and]
         refine ⟨?_,rfl⟩
         rw [eV]
         (try rw [eM])
         rw [hH]
         (try rw [eM] at ht)
         first
          | (rw [ht];first | rfl | (cases h'<;>first | rfl | contradiction))
          | (cases h'<;>first | rfl | contradiction)
          | (cases h'<;>simp_all))
 ·cases e
def boO (l:List OV):List Int:=l.flatMap ecO
def meN (l:List OV):Int:=4+((boO l).length:Int)
theorem Vn_ {o:OV} (h:rgO o=true):szO o=(ecO o).length/\exO o=ecO o/\eeO o=0/\(ecO o).length<=300:=by
 have h1:=uY_ h
 have h2:=hr_ h
 refine ⟨?_,?_,if_pos h,?_⟩
 ·unfold szO ecO;rw [h1.1,h2]
 ·unfold exO ecO;rw [if_pos h,h2]
 ·unfold ecO;rw [<- h2];exact h1.2
theorem hh_:∀ (l:List OV),l.all rgO=true->(l.map szO).sum=((boO l).length:Int)
 | [],_=>rfl
 | o :: r,h=>by
   rw [List.all_cons,Bool.and_eq_true] at h
   have ih:=hh_ r h.2
   unfold boO at ih ⊢
   rw [List.flatMap_cons,List.length_append,List.map_cons,List.sum_cons,ih,(Vn_ h.1).1];omega
theorem ba_ {o:OV} (h:rgO o=true):0<=o.2.1/\o.2.1<=127/\0<=o.1/\o.1<=65535/\o.2.2.2.2.1.length<=100/\o.2.2.2.2.2.1.length<=100:=by
 have hn:=KP_ h
 refine ⟨hn.1,hn.2.1,?_,?_,?_,?_⟩<;>omega
def zb9_ (o:OV):Bool:=XK_ o.1 o.2.1 o.2.2.1 o.2.2.2.1 o.2.2.2.2.1 o.2.2.2.2.2.1
theorem be_ {o:OV} (h:qV_ o):zb9_ o=rgO o:=(hU_ h.1 h.2.1 h.2.2).symm
theorem Bo_ {l:List OV} {i:Nat} {d:OV} (h:i < l.length):boO (l.take (i+1))=boO (l.take i)++ecO (l.getD i d):=by
 unfold boO
 rw [List.take_succ_eq_append_getElem h,List.flatMap_append,List.getD_eq_getElem?_getD,List.getElem?_eq_getElem h];simp
theorem zbT_ {l:List OV} (h:l.all rgO=true):(boO l).length<=300*l.length:=by
 induction l with
 | nil=>simp [boO]
 | cons o r ih=>
   rw [List.all_cons,Bool.and_eq_true] at h
   have e1:boO (o :: r)=ecO o++boO r:=List.flatMap_cons
   have:=ih h.2
   have h2:=(Vn_ h.1).2.2.2
   rw [e1,List.length_append,List.length_cons];omega
def uh_:IR:=
(sq (kr [0] [oD 2 (.mov cF)])
(sq (.reg [oD 3 (.mov (cI 4))])
(sq (sq (.reg [oD 4 (.mov (cI 0))])
(.block 0
(.loop
(sq (sq (kr [0,3,4] [oM 7 4,
oM 8 0,
oE 9 8,
oB 10 .lss 7 9])
(.cond 10
.skip
(.exit 0)))
(sq (.block 1
(sq (sq (kr [0,3,4] [oM 13 0,
oM 14 4,
oI 15 6 13 14,
oK 16 6 15,
oC 17 32 [16],
oD 18 (.un .not 17)])
(.cond 18
(sq (kr [] [oD 2 (.mov cF)])
.ret)
.skip))
(kr [0,3,4] [oM 19 3,
oM 20 0,
oM 21 4,
oI 22 6 20 21,
oK 23 6 22,
oC 24 49 [23],
oE 25 24,
oB 26 .add 19 25,
oM 3 26])))
(kr [0,3,4] [oM 11 4,
oB 12 .add 11 (cI 1),
oM 4 12]))))))
(sq (kr [0,3] [oM 28 0,
oC 29 50 [28],
oM 27 29,
oX 30 27 0,
oX 31 27 1,
oM 5 30,
oM 6 31])
(sq (kr [3,6] [oM 32 6,
oB 33 .eql 32 (cI 0),
oM 34 33,
oT 34 35 (.mov 3),
oT 34 36 (.bin .leq 35 (cI 65528)),
oP 37 34 36 cF,
oM 2 37])
.ret)))))
def Vu_:List RD:=[.tmp 2 true none]
theorem VN_:zl_ Tryz.prog Tryz.f21 uh_ Vu_=true:=by kernel_rfl
def j1_:List AV->List Obj->Option (Prop × AV)
 | [.imm (.cons (.int .i64) (.cons (.int .i64) (.cons .bool (.cons (.int .u64) (.cons (.sl (.int .u8)) (.cons (.sl (.int .u8)) .nil)))))) l],[]=>some ((okM l,.bool (rgM l)))
 | _,_=>none
theorem Ye_:zf_ Tryz.prog 21 (RoF j1_).sum:=by
 refine zh_ Tryz.func21 VN_ (zb_ (s:=RoF j5_) Yi_ (zb_ (s:=RoF j6_) Yj_ (zb_ (s:=RoF j2_) Yf_ (zd_ _)))) fun args objs p v e=>?_
 unfold j1_ at e
 split at e
 ·rename_i l
  cases e
  refine ⟨rfl,fun hw ho hp=>?_⟩
  change List OV at l
  have hby:=VH_ (l:=l) (hw (.imm Y1 l) (by simp))
  clear hw ho
  have hok:=hp
  have hn:=hok.n
  repeat'(intro t ht;first|(cases t<;>first|(cases ht;done)|(try simp only[zg_]at ht))|((first|refine za_ ht ?_|refine ht ?_ ?_|refine ht.1 ?_ ?_|refine ht ?_)<;>clear ht))
  all_goals first
   | exact True.intro
   | (intro r h1 h2;clear h1;refine h2 ⟨[0,3,4],Nat,(fun i=>i<=l.length/\(l.take i).all rgO=true),fun i=>[.imm Y1 l,.int .i64 (meN (l.take i)),.int .i64 i],fun _=>[],fun i=>l.length - i,⟨0,⟨Nat.zero_le _,rfl⟩,rfl,rfl⟩,?_⟩;clear h2)
  rintro i ⟨hi,he⟩
  repeat'(intro t ht;first|(cases t<;>first|(cases ht;done)|(try simp only[zg_]at ht;try(exfalso;first|contradiction|omega)))|((first|refine za_ ht ?_|refine ht ?_ ?_|refine ht.1 ?_ ?_|refine ht ?_)<;>clear ht))
  all_goals (try generalize (Ty.dflt Y1)=od at*)
  all_goals first
   | exact True.intro
   | ((try simp only [zq_,zr_,zj_] at*);omega)
   | (have ha:=w7_ (by omega) he
      rw [List.take_of_length_le (show l.length<=i by omega)] at*
      refine ⟨congrArg AV.bool ?_,rfl⟩
      have h3:vy_ l=meN l:=by unfold vy_ meN;rw [hh_ l ha]
      unfold rgM;rw [ha,h3];simp_all;done)
   | (have hlt:i < l.length:=by omega
      have hb:=hby _ (zu_ hlt od)
      have hq:=be_ hb
      have hlen:=hok.a.h _ (zu_ hlt od)
      first
       | exact hlen.2
       | (have hr:rgO (l.getD i od)=false:=hq.symm.trans ht
          have hm:rgM l=false:=by unfold rgM;rw [w6_ hlt hr];rfl
          rw [hm];exact ⟨rfl,rfl⟩)
       | (have hr:rgO (l.getD i od)=true:=hq.symm.trans ht
          have hnu:=ba_ hr
          first
           | exact hnu
           | (have h3:=zbT_ he
              rw [jA_ (show i<=l.length by omega)] at h3
              have h4:(XL_ (l.getD i od).1 (l.getD i od).2.1 (l.getD i od).2.2.1 (l.getD i od).2.2.2.1 (l.getD i od).2.2.2.2.1 (l.getD i od).2.2.2.2.2.1).length<=300:=(Vn_ hr).2.2.2
              unfold meN
              simp only [he_,hg_,Int.toNat_natCast];omega)
           | (refine ⟨i+1,⟨by omega,Jp_ (by omega) he hr⟩,by dsimp only;omega,?_,rfl⟩
              have h5:meN (l.take (i+1))=meN (l.take i)+((ecO (l.getD i od)).length:Int):=by unfold meN;rw [Bo_ (d:=od) hlt,List.length_append];omega
              dsimp only;rw [h5];rfl)))
 ·cases e
def keep (a:List OV) (y:OV):Bool:=!a.any fun x=>alO x y
theorem bB_ {b:List OV} (hb:Sep b) {k:Nat} (hk:k < b.length) {o:OV} (h:alO (mgO (b.take k) o) (b.getD k odO)=true):mgO (b.take (k+1)) o=KB_ (mgO (b.take k) o) (b.getD k odO)/\mgO (b.take k) o=o:=by
 rw [bC_] at h
 have hg:b.getD k odO=b[k]:=by rw [List.getD_eq_getElem?_getD,List.getElem?_eq_getElem hk];rfl
 have hs:Sep (b.take (k+1)):=hb.sublist (List.take_sublist _ _)
 have e:b.take (k+1)=b.take k++[b.getD k odO]:=by rw [hg,List.take_add_one,List.getElem?_eq_getElem hk];rfl
 have hn:mgO (b.take k) o=o:=wR_ fun y hy=>by
  rw [e] at hs
  cases c:alO o y with
  | false=>rfl
  | true=>
    have:=(Ku_ hs).2 y hy
    rw [W0_ (W1_ c) h] at this;cases this
 refine ⟨?_,hn⟩
 rw [hn]
 exact wQ_ hs (by rw [e];simp) h
theorem zaq_ {b:List OV} {k:Nat} (hk:k < b.length) {o:OV} (h:alO (mgO (b.take k) o) (b.getD k odO)=false):mgO (b.take (k+1)) o=mgO (b.take k) o:=by
 rw [bC_] at h
 have e:b.take (k+1)=b.take k++[b.getD k odO]:=by rw [List.take_add_one,List.getD_eq_getElem?_getD,List.getElem?_eq_getElem hk];rfl
 unfold mgO
 rw [e,List.find?_append]
 have:[b.getD k odO].find? (fun y=>alO o y)=none:=by rw [List.find?_eq_none];intro y hy;rw [List.mem_singleton] at hy;rw [hy,h];decide
 rw [this,Option.or_none]
theorem B2_ {o:OV} (hr:rgO o=true) (hb:qV_ o) (e:o.1=32768):fIs o.2.1=true/\0<=zB_ o.2.1/\zB_ o.2.1<=8*(lnV o:Int):=by
 obtain ⟨c,f,h,x,v,m,u⟩:=o
 have hv:∀ z ∈ v,isB z:=hb.2.1
 have hr':z7_ c f h x v m=true:=hr
 have e:c=32768:=e
 unfold z7_ at hr'
 simp only [Bool.and_eq_true,Bool.or_eq_true,decide_eq_true_eq] at hr'
 obtain ⟨⟨⟨⟨⟨⟨a1,a2⟩,a3⟩,a4⟩,a5⟩,a6⟩,a7⟩:=hr'
 unfold Kh_ at a7
 have hx:zT_ c=false:=decide_eq_false (by omega)
 have hf:qY_ f v=true:=tOf fun k=>by rw [if_pos ⟨hx,k⟩] at a7;omega
 obtain ⟨h1,h2,_⟩:=Jl_ hv hf
 have hk:=ZG_.1 h1
 have hs:=wt_ f.toNat (by omega)
 rw [Int.toNat_of_nonneg hk.1] at hs
 have hb2:Zz_ f=QI_.getD f.toNat 0:=by unfold Zz_;rw [h1];rfl
 have hl:=(f_le f).2.2.1
 have hq:=(He_ f).1
 refine ⟨h1,?_,?_⟩
 ·show 0<=zB_ f;omega
 ·show zB_ f<=8*(v.length:Int);omega
theorem zca_ {a b:List OV} (ra:rgM a=true) (rb:rgM b=true) (ba:∀ o ∈ a,qV_ o) (bb:∀ o ∈ b,qV_ o) (ap:qc_ a b=false) {i k:Nat} (hi:i < a.length) (hk:k < b.length) (h:alO (mgO (b.take k) (a.getD i odO)) (b.getD k odO)=true):
 PBo (mgO (b.take k) (a.getD i odO)) (b.getD k odO):=by
 have ma:=xl_ ra ba
 have mb:=xl_ rb bb
 have hm:=(bB_ mb.sp hk h).2
 rw [hm] at h ⊢
 have hx:=zu_ hi odO
 have hy:=zu_ hk odO
 have P:=hz_ ma mb ap hx hy h
 have hl:=WQ_ ra rb (List.mem_append_left b hx)
 exact ⟨by unfold lnV;omega,P.ln,P.ra.ml,P.rb.ml,fun e=>B2_ (gS_ ra _ hx) (ba _ hx) e⟩
theorem bF_ {a b:List OV} {i:Nat} (hi:i < a.length):(a.take i).map (mgO b)++[mgO b (a.getD i odO)]=(a.take (i+1)).map (mgO b):=by
 rw [List.take_add_one,List.getD_eq_getElem?_getD,List.getElem?_eq_getElem hi,List.map_append];rfl
theorem b4_ {a b:List OV} {k:Nat} (hk:k < b.length) (h:a.any (fun x=>alO x (b.getD k odO))=false):(b.take (k+1)).filter (keep a)=(b.take k).filter (keep a)++[b.getD k odO]:=by
 have e:b.take (k+1)=b.take k++[b.getD k odO]:=by rw [List.take_add_one,List.getD_eq_getElem?_getD,List.getElem?_eq_getElem hk];rfl
 rw [e,List.filter_append]
 have:keep a (b.getD k odO)=true:=by unfold keep;rw [h];rfl
 rw [List.filter_cons,this];rfl
theorem b5_ {a b:List OV} {k:Nat} (hk:k < b.length) (h:a.any (fun x=>alO x (b.getD k odO))=true):(b.take (k+1)).filter (keep a)=(b.take k).filter (keep a):=by
 have e:b.take (k+1)=b.take k++[b.getD k odO]:=by rw [List.take_add_one,List.getD_eq_getElem?_getD,List.getElem?_eq_getElem hk];rfl
 rw [e,List.filter_append]
 have:keep a (b.getD k odO)=false:=by unfold keep;rw [h];rfl
 rw [List.filter_cons,this];simp
theorem zan_ {a b:List OV} {i k:Nat} (hi:a.length<=i) (hk:b.length<=k):(a.take i).map (mgO b)++(b.take k).filter (keep a)=mrg a b:=by
 rw [List.take_of_length_le hi,List.take_of_length_le hk];rfl
theorem Bv_ {α:Type} {p:α->Bool} {l:List α} {n:Nat} {d:α} (h:n < l.length):(l.take (n+1)).any p=((l.take n).any p || p (l.getD n d)):=by
 rw [List.take_add_one,List.any_append,List.getD_eq_getElem?_getD,List.getElem?_eq_getElem h];simp
def UR_:IR:=
(sq (kr [0,1] [oD 4 (.nilrow Y1),
oD 5 (.mov cF)])
(sq (sq (kr [0,1] [oM 13 0,
oC 14 21 [13],
oD 15 (.un .not 14),
oM 16 15,
oF 16 17 (.mov 1),
oF 16 18 (.call false (.f 21) [17]),
oF 16 19 (.un .not 18),
oP 20 16 cT 19,
oM 21 20,
oF 21 22 (.mov 0),
oF 21 23 (.mov 1),
oF 21 24 (.call false (.f 22) [22,23]),
oP 25 21 cT 24])
(.cond 25
(sq (kr [] [oD 4 (.nilrow Y1),
oD 5 (.mov cF)])
.ret)
.skip))
(sq (kr [0,1] [oD 6 (.nilrow Y1)])
(sq (sq (.reg [oD 7 (.mov (cI 0))])
(.block 0
(.loop
(sq (sq (kr [0,1,6,7] [oM 26 7,
oM 27 0,
oE 28 27,
oB 29 .lss 26 28])
(.cond 29
.skip
(.exit 0)))
(sq (.block 1
(sq (kr [0,1,6,7] [oM 32 0,
oM 33 7,
oI 34 6 32 33,
oK 35 6 34,
oD 8 (.box [.int .i64 0,.int .i64 0,.kb false,.int .u64 0,.imm (.int .u8) [],.imm (.int .u8) []]),
oS 6 8 35])
(sq (sq (.reg [oD 9 (.mov (cI 0))])
(.block 2
(.loop
(sq (sq (kr [0,1,6,7,8,9] [oM 36 9,
oM 37 1,
oE 38 37,
oB 39 .lss 36 38])
(.cond 39
.skip
(.exit 2)))
(sq (.block 3
(sq (kd [0,1,6,7,8,9] [(oK 42 6 8,[]),
(oM 43 1,[0]),
(oM 44 9,[0,0]),
(oI 45 6 43 44,[2]),
(oK 46 6 45,[3]),
(oC 47 23 [42,46],[])])
(.cond 47
(kd [0,1,6,7,8,9] [(oK 48 6 8,[]),
(oM 49 1,[0]),
(oM 50 9,[0,0]),
(oI 51 6 49 50,[2]),
(oK 52 6 51,[3]),
(oC 53 24 [48,52],[]),
(oS 6 8 53,[])])
.skip)))
(kr [0,1,6,7,8,9] [oM 40 9,
oB 41 .add 40 (cI 1),
oM 9 41]))))))
(kr [0,1,6,7,8] [oM 54 6,
oK 55 6 8,
oD 56 (.sliceAll Y1 1 [(0,6,55)]),
oD 57 (.append Y1 80 54 56),
oM 6 57]))))
(kr [0,1,6,7] [oM 30 7,
oB 31 .add 30 (cI 1),
oM 7 31]))))))
(sq (sq (kr [0,1,6] [oD 10 (.mov (cI 0))])
(.block 4
(.loop
(sq (sq (kr [0,1,6,10] [oM 58 10,
oM 59 1,
oE 60 59,
oB 61 .lss 58 60])
(.cond 61
.skip
(.exit 4)))
(sq (.block 5
(sq (.reg [oD 11 (.mov cF)])
(sq (sq (.reg [oD 12 (.mov (cI 0))])
(.block 6
(.loop
(sq (sq (kr [0,1,6,10,11,12] [oM 64 12,
oM 65 0,
oE 66 65,
oB 67 .lss 64 66])
(.cond 67
.skip
(.exit 6)))
(sq (.block 7
(kd [0,1,6,10,11,12] [(oM 70 11,[]),
(oM 71 70,[]),
(oF 71 72 (.mov 0),[]),
(oF 71 73 (.mov 12),[0]),
(oF 71 74 (.indexSl 6 72 73),[]),
(oF 71 75 (.load (some 6) 74),[]),
(oF 71 76 (.mov 1),[0,0,0,0]),
(oF 71 77 (.mov 10),[0,0,0,0,0]),
(oF 71 78 (.indexSl 6 76 77),[2,0,0,0]),
(oF 71 79 (.load (some 6) 78),[3,0,0,0]),
(oF 71 80 (.call false (.f 23) [75,79]),[]),
(oP 81 71 cT 80,[]),
(oM 11 81,[])]))
(kr [0,1,6,10,11,12] [oM 68 12,
oB 69 .add 68 (cI 1),
oM 12 69]))))))
(sq (kr [0,1,6,10,11] [oM 82 11,
oD 83 (.un .not 82)])
(.cond 83
(kr [0,1,6,10] [oM 84 6,
oM 85 1,
oM 86 10,
oI 87 6 85 86,
oK 88 6 87,
oD 89 (.sliceAll Y1 1 [(0,6,88)]),
oD 90 (.append Y1 80 84 89),
oM 6 90])
.skip)))))
(kr [0,1,6,10] [oM 62 10,
oB 63 .add 62 (cI 1),
oM 10 63]))))))
(sq (kr [6] [oM 91 6,
oC 92 25 [91],
oM 6 92])
(sq (sq (.reg [oM 93 6,
oC 94 21 [93],
oD 95 (.un .not 94)])
(.cond 95
(sq (kr [] [oD 4 (.nilrow Y1),
oD 5 (.mov cF)])
.ret)
.skip))
(sq (kr [6] [oM 96 6,
oM 4 96,
oD 5 (.mov cT)])
.ret))))))))
def u5_:List RD:=[.tmp 4 true (some Y1),.tmp 5 true none]
theorem Un_:zl_ Tryz.prog Tryz.f8 UR_ u5_=true:=by kernel_rfl
def J6_:List AV->List Obj->Option (Prop × AV)
 | [.imm (.cons (.int .i64) (.cons (.int .i64) (.cons .bool (.cons (.int .u64) (.cons (.sl (.int .u8)) (.cons (.sl (.int .u8)) .nil)))))) a,.imm (.cons (.int .i64) (.cons (.int .i64) (.cons .bool (.cons (.int .u64) (.cons (.sl (.int .u8)) (.cons (.sl (.int .u8)) .nil)))))) b],[]=>some ((okM a/\okM b/\a.length<=60/\b.length<=60/\(∀ o ∈ (a:List OV),qV_ o)/\(∀ o ∈ (b:List OV),qV_ o),.tup [.imm Y1 (wT_ a b),.bool (qz_ a b)]))
 | _,_=>none
theorem Vc_:zf_ Tryz.prog 8 (RoF J6_).sum:=by
 refine zh_ Tryz.func8 Un_ (zb_ (s:=RoF j1_) Ye_ (zb_ (s:=RoF j0_) Yd_ (zb_ (s:=RoF qZ_) Q1_ (zb_ (s:=RoF J5_) Vb_ (zb_ (s:=RoF J7_) Vd_ (zd_ _)))))) fun args objs p v e=>?_
 unfold J6_ at e
 split at e
 ·rename_i a b
  cases e
  refine ⟨rfl,fun hw ho hp=>?_⟩
  change List OV at a
  change List OV at b
  clear hw ho
  obtain ⟨oa,ob,la,lb,ba,bb⟩:=hp
  have aa:=oa.a
  have ab:=ob.a
  repeat'(intro t ht;first|(cases t<;>first|(cases ht;done)|(try simp only[zg_]at ht;try(exfalso;first|contradiction|omega)))|((first|refine za_ ht ?_|refine ht ?_ ?_|refine ht.1 ?_ ?_|refine ht ?_)<;>clear ht))
  all_goals first
   | exact True.intro
   | assumption
   | omega
   | exact ⟨aa,ab⟩
   | (refine ⟨?_,rfl⟩
      have e:qz_ a b=false:=by
       unfold qz_
       first
        | (rw [‹rgM a=false›];rfl)
        | (rw [‹rgM b=false›];simp)
        | (rw [‹qc_ a b=true›];simp)
      unfold wT_
      rw [e];rfl)
   | (intro r h1 h2;clear h1;refine h2 ⟨[0,1,6,7],Nat,(fun i=>i<=a.length/\True),fun i=>[.imm Y1 a,.imm Y1 b,.own 0,.int .i64 i],fun i=>[.row false Y1 ((a.take i).map (mgO b))],fun i=>a.length - i,⟨0,⟨Nat.zero_le _,True.intro⟩,rfl,rfl⟩,?_⟩;clear h2)
  rintro i ⟨hi,-⟩
  have ra:rgM a=true:=by assumption
  have rb:rgM b=true:=by assumption
  have ap:qc_ a b=false:=by assumption
  have sb:=(xl_ rb bb).sp
  have hmi:((a.take i).map (mgO b)).length<=60:=by rw [List.length_map,List.length_take];omega
  repeat'(intro t ht;first|(cases t<;>first|(cases ht;done)|(try simp only[zg_]at ht;try(exfalso;first|contradiction|omega)))|((first|refine za_ ht ?_|refine ht ?_ ?_|refine ht.1 ?_ ?_|refine ht ?_)<;>clear ht))
  all_goals first
   | exact True.intro
   | omega
   | (intro r h1 h2;clear h1;refine h2 ⟨[0,1,6,7,8,9],Nat,(fun k=>k<=b.length/\True),fun k=>[.imm Y1 a,.imm Y1 b,.own 0,.int .i64 i,.ptr 1 0,.int .i64 k],fun k=>[.row false Y1 ((a.take i).map (mgO b)),.box [.int .i64 ((mgO (b.take k) (a.getD i odO))).1,.int .i64 ((mgO (b.take k) (a.getD i odO))).2.1,.bool ((mgO (b.take k) (a.getD i odO))).2.2.1,.int .u64 ((mgO (b.take k) (a.getD i odO))).2.2.2.1,.imm (.int .u8) ((mgO (b.take k) (a.getD i odO))).2.2.2.2.1,.imm (.int .u8) ((mgO (b.take k) (a.getD i odO))).2.2.2.2.2.1]],fun k=>b.length - k,⟨0,⟨Nat.zero_le _,True.intro⟩,rfl,rfl⟩,?_⟩;clear h2)
   | (intro r h1 h2;clear h1;refine h2 ⟨[0,1,6,10],Nat,(fun k=>k<=b.length/\True),fun k=>[.imm Y1 a,.imm Y1 b,.own 0,.int .i64 k],fun k=>[.row false Y1 ((a.take i).map (mgO b)++(b.take k).filter (keep a))],fun k=>b.length - k,⟨0,⟨Nat.zero_le _,True.intro⟩,rfl,(by show _=[Obj.row false Y1 ((a.take i).map (mgO b)++[])];rw [List.append_nil])⟩,?_⟩;clear h2)
  ·rintro k ⟨hk,-⟩
   have hia:a.length<=i:=by omega
   have hfl:((b.take k).filter (keep a)).length<=60:=Nat.le_trans (List.length_filter_le _ _) (by rw [List.length_take];omega)
   have hE:=fun h:b.length<=k=>zan_ hia h
   have hA:=hc_ ra rb ba bb
   have hml:=fun h:b.length<=k=>congrArg List.length (hE h)
   rw [List.length_append] at hml
   repeat'(intro t ht;first|(cases t<;>first|(cases ht;done)|(try simp only[zg_]at ht;try(exfalso;first|contradiction|omega)))|((first|refine za_ ht ?_|refine ht ?_ ?_|refine ht.1 ?_ ?_|refine ht ?_)<;>clear ht))
   all_goals first
    | exact True.intro
    | omega
    | ((try dsimp only);simp only [zj_];omega)
    | (intro r h1 h2;clear h1;refine h2 ⟨[0,1,6,10,11,12],Nat,(fun n=>n<=a.length/\True),fun n=>[.imm Y1 a,.imm Y1 b,.own 0,.int .i64 k,.bool ((a.take n).any fun x=>alO x (b.getD k odO)),.int .i64 n],fun n=>[.row false Y1 ((a.take i).map (mgO b)++(b.take k).filter (keep a))],fun n=>a.length - n,⟨0,⟨Nat.zero_le _,True.intro⟩,rfl,rfl⟩,?_⟩;clear h2)
    | (rw [List.length_append];omega)
    | (rw [hE (by omega)]
       have h1:=hml (by omega)
       exact ⟨bP_ hA,by rw [(ym_ _).length_eq];omega⟩)
    | (rw [hE (by omega)] at ht
       refine ⟨?_,rfl⟩
       have e:qz_ a b=true:=by unfold qz_;rw [ra,rb,ap,ht];rfl
       unfold wT_
       rw [e,hE (by omega)];rfl)
    | (rw [hE (by omega)] at ht
       refine ⟨?_,rfl⟩
       have e:qz_ a b=false:=by unfold qz_;rw [ra,rb,ap,ht];rfl
       unfold wT_
       rw [e];rfl)
   rintro n ⟨hn,-⟩
   have hst:=fun h:n < a.length=>Bv_ (p:=fun x=>alO x (b.getD k odO)) (d:=odO) h
   have hsl:=fun h:a.length<=n=>(congrArg (fun z:List OV=>z.any fun x=>alO x (b.getD k odO)) (List.take_of_length_le h))
   repeat'(intro t ht;first|(cases t<;>first|(cases ht;done)|(try simp only[zg_]at ht;try(exfalso;first|contradiction|omega)))|((first|refine za_ ht ?_|refine ht ?_ ?_|refine ht.1 ?_ ?_|refine ht ?_)<;>clear ht))
   all_goals first
    | exact True.intro
    | omega
    | ((try dsimp only);simp only [zj_];omega)
    | (simp only [List.length_append,List.length_cons,List.length_nil];constructor<;>omega)
    | (refine ⟨n+1,⟨by omega,True.intro⟩,by dsimp only;omega,?_,rfl⟩
       dsimp only
       rw [hst (by omega),ht]
       try rfl)
    | (have h1:(a.any fun x=>alO x (b.getD k odO))=false:=(hsl (by omega)).symm.trans ht
       refine ⟨k+1,⟨by omega,True.intro⟩,by dsimp only;omega,rfl,?_⟩
       dsimp only
       rw [b4_ (by omega) h1,<- List.append_assoc]
       try rfl)
    | (have h1:(a.any fun x=>alO x (b.getD k odO))=true:=(hsl (by omega)).symm.trans ht
       refine ⟨k+1,⟨by omega,True.intro⟩,by dsimp only;omega,rfl,?_⟩
       dsimp only
       rw [b5_ (by omega) h1])
  ·rintro k ⟨hk,-⟩
   have hP:=fun h1 h2 h3=>zca_ (k:=k) ra rb ba bb ap (i:=i) h1 h2 h3
   have hH:=fun h1 h2=>bB_ sb (k:=k) (o:=a.getD i odO) h1 h2
   have hM:=fun h1 h2=>zaq_ (b:=b) (k:=k) (o:=a.getD i odO) h1 h2
   have hS:=fun h=>bF_ (a:=a) (b:=b) (i:=i) h
   have hB:b.length<=k->b.take k=b:=fun h=>List.take_of_length_le h
   repeat'(intro t ht;first|(cases t<;>first|(cases ht;done)|(try simp only[zg_]at ht;try(exfalso;first|contradiction|omega)))|((first|refine za_ ht ?_|refine ht ?_ ?_|refine ht.1 ?_ ?_|refine ht ?_)<;>clear ht))
   all_goals first
    | exact True.intro
    | omega
    | ((try dsimp only);simp only [zj_];omega)
    | exact hP (by omega) (by omega) (w8_ ht)
    | (simp only [List.length_cons,List.length_nil];constructor<;>omega)
    | (refine ⟨k+1,⟨by omega,True.intro⟩,by dsimp only;omega,rfl,?_⟩
       dsimp only
       rw [hM (by omega) (hA_ ht)])
    | (refine ⟨k+1,⟨by omega,True.intro⟩,by dsimp only;omega,rfl,?_⟩
       dsimp only
       rw [(hH (by omega) (w8_ (by assumption))).1]
       try rfl)
    | (refine ⟨i+1,⟨by omega,True.intro⟩,by dsimp only;omega,rfl,?_⟩
       dsimp only
       rw [hB (by omega),<- hS (by omega)]
       try rfl)
 ·cases e
def wW_:IR:=
(sq (kr [0,1] [oD 4 (.mov cF)])
(sq (sq (kr [0,1] [oM 9 0,
oC 10 5 [9],
oD 11 (.un .not 10),
oM 12 11,
oF 12 13 (.mov 1),
oF 12 14 (.call false (.f 5) [13]),
oF 12 15 (.un .not 14),
oP 16 12 cT 15])
(.cond 16
(sq (kr [] [oC 17 6 [],
oM 4 17])
.ret)
.skip))
(sq (kr [0,1] [oM 19 0,
oM 20 1,
oC 21 7 [19,20],
oM 18 21,
oX 22 18 0,
oX 23 18 1,
oM 5 22,
oM 6 23])
(sq (kr [0,1,5,6] [oM 25 0,
oM 26 1,
oC 27 8 [25,26],
oM 24 27,
oX 28 24 0,
oX 29 24 1,
oM 7 28,
oM 8 29])
(sq (kr [5,6,7,8] [oM 30 6,
oM 31 8,
oD 32 (.eqb false 30 31),
oM 33 32,
oT 33 34 (.mov 5),
oT 33 35 (.mov 7),
oT 33 36 (.call false (.f 9) [34,35]),
oP 37 33 36 cF,
oM 38 37,
oT 38 39 (.call false (.f 6) []),
oP 40 38 39 cF,
oM 4 40])
.ret)))))
def wx_:List RD:=[.tmp 4 true none]
theorem wG_:zl_ Tryz.prog Tryz.f3 wW_ wx_=true:=by kernel_rfl
def QW_:List AV->List Obj->Option (Prop × AV)
 | [.imm (.cons (.int .i64) (.cons (.int .i64) (.cons .bool (.cons (.int .u64) (.cons (.sl (.int .u8)) (.cons (.sl (.int .u8)) .nil)))))) a,.imm (.cons (.int .i64) (.cons (.int .i64) (.cons .bool (.cons (.int .u64) (.cons (.sl (.int .u8)) (.cons (.sl (.int .u8)) .nil)))))) b],[]=>some ((True,.bool true))
 | _,_=>none
theorem JI_:zf_ Tryz.prog 3 (RoF QW_).sum:=by
 refine zh_ Tryz.func3 wG_ (zb_ (s:=RoF W3_) uV_ (zb_ (s:=RoF wf_) Vl_ (zb_ (s:=RoF kD_) jC_ (zb_ (s:=RoF J6_) Vc_ (zb_ (s:=RoF K9_) wq_ (zd_ _)))))) fun args objs p v e=>?_
 unfold QW_ at e
 split at e
 ·rename_i a b
  cases e
  refine ⟨rfl,fun hw ho hp=>?_⟩
  change List OV at a
  change List OV at b
  have ba:=VH_ (hw (.imm Y1 a) (by simp))
  have bb:=VH_ (hw (.imm Y1 b) (by simp))
  clear hw ho
  repeat'(intro t ht;first|(cases t<;>first|(cases ht;done)|(try simp only[zg_]at ht;try(exfalso;first|contradiction|omega)))|((first|refine za_ ht ?_|refine ht ?_ ?_|refine ht.1 ?_ ?_|refine ht ?_)<;>clear ht))
  all_goals first
   | exact True.intro
   | exact ⟨rfl,by first | rfl | exact True.intro⟩
   | exact zbC_ ‹xY_ a=true› ‹xY_ b=true› ba bb
   | exact (jR_ ‹xY_ a=true›).1
   | exact (jR_ ‹xY_ b=true›).1
   | (exfalso;exact ht rfl)
   | (exfalso;simp at ht)
 ·cases e
end Go.Eng
